/- A part of the proof that the last text ends: what functions of the program do, told by plain data. -/
import Derived.Test.YtofbbkacihnjdaaDoorHH
set_option linter.unusedVariables false
set_option linter.unusedSimpArgs false
namespace Go.Proofs.YtofbbkacihnjdaaDoor
open Go Go.E Go.Maps
set_option maxRecDepth 100000
set_option maxHeartbeats 16000000
structure Cn where
  a : Int
  b : Int
  c : Int
  d : Int
  e : Int
  deriving Inhabited, DecidableEq
structure Sd where
  h : Int
  l : Int
  n : Cn
  deriving Inhabited, DecidableEq
abbrev Cn.v (x : Cn) : List D := [.i x.a, .i x.b, .i x.c, .i x.d, .i x.e]
abbrev Sd.v (s : Sd) : List D := [.i s.h, .i s.l, .i s.n.a, .i s.n.b, .i s.n.c, .i s.n.d, .i s.n.e]
def Cn.at (x : Cn) (g : Int) : Int := if g = 0 then x.a else if g = 1 then x.b else if g = 2 then x.c else if g = 3 then x.d else x.e
def Cn.up (x : Cn) (g : Int) : Cn := if g = 0 then ⟨x.a + 1, x.b, x.c, x.d, x.e⟩ else if g = 1 then ⟨x.a, x.b + 1, x.c, x.d, x.e⟩ else if g = 2 then ⟨x.a, x.b, x.c + 1, x.d, x.e⟩ else if g = 3 then ⟨x.a, x.b, x.c, x.d + 1, x.e⟩ else if g = 4 then ⟨x.a, x.b, x.c, x.d, x.e + 1⟩ else x
theorem cn_inj {a b : Cn} : (a.a = b.a ∧ a.b = b.b ∧ a.c = b.c ∧ a.d = b.d ∧ a.e = b.e) = (a = b) := by cases a; cases b; simp
theorem sd_inj {a b : Sd} : (a.h = b.h ∧ a.l = b.l ∧ a.n = b.n) = (a = b) := by cases a; cases b; simp
def bgS : Sd := ⟨0, -1, ⟨0, 0, 0, 0, 0⟩⟩
def nxS (s : Sd) (g : Int) : Sd := ⟨s.h + 1, g, s.n.up g⟩
def CnB (x : Cn) : Prop := (0 ≤ x.a ∧ x.a ≤ 12) ∧ (0 ≤ x.b ∧ x.b ≤ 12) ∧ (0 ≤ x.c ∧ x.c ≤ 12) ∧ (0 ≤ x.d ∧ x.d ≤ 12) ∧ 0 ≤ x.e ∧ x.e ≤ 12
def O54 : Nat → Sch := fun id => .done
theorem ho54 : Tryd.f54.body.map (okO O54) = some true := by kernel_rfl
def Cf54 : Nat → List AV → (AV → List AV → Sto → Prop) → Kt → List AV → Sto → Prop := fun f args K Q e s => match f with
  | _ => False
def Ct54 : CT := { f := Cf54, y := noYld, z := fun d => false }
theorem Ct54_ok : Ct54.ok Tryd.prog := ok_of_f (fun f args K Q e s h => by
  have h : Cf54 f args K Q e s := h
  unfold Cf54 at h; split at h
  · exact h.elim) (fun _ _ _ _ _ _ _ _ _ h => h)
theorem c54 : callable Tryd.prog 54 = true := by kernel_rfl
theorem pf54  : PF Tryd.prog 54 [] (fun zz => zz = .ret (.agg bgS.v)) := by
  refine PF_nil (PF_start (O := O54) Ct54_ok hmix ho54 Tryd.func54 c54 rfl Tryd.ntmps54 Tryd.results54 ?_)
  simp (maxSteps := 4000000) +contextual (disch := first | omega | exact qdb_ok (by kernel_rfl) | exact okb_ok (by kernel_rfl)) only [bw1,bw2,bw3,bw5,bw6,bc2,bc3,bc4,bc5,bc6,ps,pv,AV.outs,AV.outF,packD,AV.dl,AV.cells?,AV.menc,AV.one,D.one,Value.oneCell',↓reduceIte,reduceCtorEq,Nat.reduceAdd,Nat.reduceSub,List.reduceReplicate,Nat.reduceLeDiff,Nat.reduceLT,Int.reduceNeg,tfb,bgS]
  try rfl
def ent54 (args : List AV) (K : AV → List AV → Sto → Prop) (e : List AV) (s : Sto) : Prop := ent (α := Unit) (fun aa => []) (fun aa => True) (fun aa => .agg bgS.v) args K e s
theorem ent54_ok {args : List AV} {K : AV → List AV → Sto → Prop} {Q : Kt} {e : List AV} {s : Sto} (h : ent54 args K e s) : pcall Tryd.prog 54 args K Q e s := ent_ok (fun aa h => pf54 ) h
theorem eq54  {KK : AV → List AV → Sto → Prop} {ee : List AV} {ss : Sto} : ent54 [] KK ee ss = (KK (.d (.agg bgS.v)) ee ss) := by
  unfold ent54; rw [ent_iff () (by intro b h; cases b; rfl) rfl]; simp
def O56 : Nat → Sch := fun id => .done
theorem ho56 : Tryd.f56.body.map (okO O56) = some true := by kernel_rfl
def Cf56 : Nat → List AV → (AV → List AV → Sto → Prop) → Kt → List AV → Sto → Prop := fun f args K Q e s => match f with
  | _ => False
def Ct56 : CT := { f := Cf56, y := noYld, z := fun d => false }
theorem Ct56_ok : Ct56.ok Tryd.prog := ok_of_f (fun f args K Q e s h => by
  have h : Cf56 f args K Q e s := h
  unfold Cf56 at h; split at h
  · exact h.elim) (fun _ _ _ _ _ _ _ _ _ h => h)
theorem c56 : callable Tryd.prog 56 = true := by kernel_rfl
theorem pf56 (s : Sd) (g : Int) (h : (-1 ≤ g ∧ g ≤ 4) ∧ (0 ≤ s.h ∧ s.h ≤ 1000) ∧ CnB s.n) : PF Tryd.prog 56 [.agg s.v, .i g] (fun zz => zz = .ret (.agg (nxS s g).v)) := by
  obtain ⟨⟨h1, h2⟩, hh, hn⟩ := h
  unfold CnB at hn
  rcases (show g = -1 ∨ g = 0 ∨ g = 1 ∨ g = 2 ∨ g = 3 ∨ g = 4 by omega) with rfl | rfl | rfl | rfl | rfl | rfl
  all_goals
    refine PF_nil (PF_start (O := O56) Ct56_ok hmix ho56 Tryd.func56 c56 rfl Tryd.ntmps56 Tryd.results56 ?_)
    simp (maxSteps := 4000000) +contextual (disch := first | omega | exact qdb_ok (by kernel_rfl) | exact okb_ok (by kernel_rfl)) only [bw1,bw2,bw3,bw4,bw5,bw6,bw7,bc1,bc2,bc3,bc4,bc5,bc6,binIs,addF,AV.isPtr,ps,pv,AV.outs,AV.outF,packD,AV.dl,AV.cells?,AV.menc,AV.one,D.one,Value.oneCell',↓reduceIte,reduceCtorEq,Nat.reduceAdd,Nat.reduceSub,Nat.reduceMul,List.reduceReplicate,Nat.reduceLeDiff,Nat.reduceLT,Nat.reduceBEq,Nat.reduceEqDiff,Int.reduceNeg,Int.reduceEq,Int.reduceLE,Int.reduceLT,tfb,nxS, Cn.up, Int.toNat_zero, Int.reduceToNat, Int.reduceAdd, Nat.zero_mul]
    try (and_intros <;> first | omega | rfl)
def ent56 (args : List AV) (K : AV → List AV → Sto → Prop) (e : List AV) (s : Sto) : Prop := ent (α := (Sd) × (Int)) (fun aa => [.agg aa.1.v, .i aa.2]) (fun aa => (-1 ≤ aa.2 ∧ aa.2 ≤ 4) ∧ (0 ≤ aa.1.h ∧ aa.1.h ≤ 1000) ∧ CnB aa.1.n) (fun aa => .agg (nxS aa.1 aa.2).v) args K e s
theorem ent56_ok {args : List AV} {K : AV → List AV → Sto → Prop} {Q : Kt} {e : List AV} {s : Sto} (h : ent56 args K e s) : pcall Tryd.prog 56 args K Q e s := ent_ok (fun aa h => pf56 aa.1 aa.2 h) h
theorem eq56 {s : Sd} {g : Int} {KK : AV → List AV → Sto → Prop} {ee : List AV} {ss : Sto} : ent56 [.d (.agg s.v), .d (.i g)] KK ee ss = (((-1 ≤ g ∧ g ≤ 4) ∧ (0 ≤ s.h ∧ s.h ≤ 1000) ∧ CnB s.n) ∧ KK (.d (.agg (nxS s g).v)) ee ss) := by
  unfold ent56; rw [ent_iff (s, g) (by intro b h; simpa [Prod.ext_iff, and_assoc, Int.ofNat_inj, ints_inj, hrs_inj, grs_inj, hr_inj, gr_inj, tt_inj, bcs_inj, cn_inj, sd_inj] using h) rfl]; simp
end Go.Proofs.YtofbbkacihnjdaaDoor
