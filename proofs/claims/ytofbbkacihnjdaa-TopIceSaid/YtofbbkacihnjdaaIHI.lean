/- A part of the proof that the last text ends: what functions of the program do, told by plain data. -/
import Derived.Test.YtofbbkacihnjdaaIHH
set_option linter.unusedVariables false
set_option linter.unusedSimpArgs false
namespace Go.Proofs.Ytofbbkacihnjdaa
open Go Go.E Go.Maps
set_option maxRecDepth 100000
set_option maxHeartbeats 16000000
structure Cn where
  a : Int
  b : Int
  c : Int
  d : Int
  e : Int
  deriving Inhabited, DecidableEq
structure Sd where
  h : Int
  l : Int
  n : Cn
  deriving Inhabited, DecidableEq
abbrev Cn.v (x : Cn) : List D := [.i x.a, .i x.b, .i x.c, .i x.d, .i x.e]
abbrev Sd.v (s : Sd) : List D := [.i s.h, .i s.l, .i s.n.a, .i s.n.b, .i s.n.c, .i s.n.d, .i s.n.e]
def Cn.at (x : Cn) (g : Int) : Int := if g = 0 then x.a else if g = 1 then x.b else if g = 2 then x.c else if g = 3 then x.d else x.e
def Cn.up (x : Cn) (g : Int) : Cn := if g = 0 then ⟨x.a + 1, x.b, x.c, x.d, x.e⟩ else if g = 1 then ⟨x.a, x.b + 1, x.c, x.d, x.e⟩ else if g = 2 then ⟨x.a, x.b, x.c + 1, x.d, x.e⟩ else if g = 3 then ⟨x.a, x.b, x.c, x.d + 1, x.e⟩ else if g = 4 then ⟨x.a, x.b, x.c, x.d, x.e + 1⟩ else x
theorem cn_inj {a b : Cn} : (a.a = b.a ∧ a.b = b.b ∧ a.c = b.c ∧ a.d = b.d ∧ a.e = b.e) = (a = b) := by cases a; cases b; simp
theorem sd_inj {a b : Sd} : (a.h = b.h ∧ a.l = b.l ∧ a.n = b.n) = (a = b) := by cases a; cases b; simp
def bgS : Sd := ⟨0, -1, ⟨0, 0, 0, 0, 0⟩⟩
def nxS (s : Sd) (g : Int) : Sd := ⟨s.h + 1, g, s.n.up g⟩
def CnB (x : Cn) : Prop := (0 ≤ x.a ∧ x.a ≤ 12) ∧ (0 ≤ x.b ∧ x.b ≤ 12) ∧ (0 ≤ x.c ∧ x.c ≤ 12) ∧ (0 ≤ x.d ∧ x.d ≤ 12) ∧ 0 ≤ x.e ∧ x.e ≤ 12
def O40 : Nat → Sch := fun id => .done
theorem ho40 : Try.f40.body.map (okO O40) = some true := by kernel_rfl
def Cf40 : Nat → List AV → (AV → List AV → Sto → Prop) → Kt → List AV → Sto → Prop := fun f args K Q e s => match f with
  | _ => False
def Ct40 : CT := { f := Cf40, y := noYld, z := fun d => false }
theorem ctz40 {d : Nat} : CT.z Ct40 d = (false) := id rfl
theorem Ct40_ok : Ct40.ok Try.prog := ok_of_f (fun f args K Q e s h => by
  have h : Cf40 f args K Q e s := h
  unfold Cf40 at h; split at h
  · exact h.elim) (fun _ _ _ _ _ _ _ _ _ h => h)
theorem c40 : callable Try.prog 40 = true := by kernel_rfl
theorem pf40  : PF Try.prog 40 [] (fun zz => zz = .ret (.agg bgS.v)) := by
  refine PF_nil (PF_start (O := O40) Ct40_ok hmix ho40 Try.func40 c40 rfl Try.ntmps40 Try.results40 ?_)
  simp (maxSteps := 4000000) +contextual (disch := first | omega | exact qdb_ok (by kernel_rfl) | exact okb_ok (by kernel_rfl)) only [bw1,bw2,bw3,bw4,bw5,bw6,bw7,bc0,bc1,bc2,bc3,bc4,bc5,bc6,bc7,bb0,setPs,AV.owns,AV.datF,AV.frz,AV.cpy,ifV,isEqB,nilV,nilX,AV.isNilS,AV.isNoRows,wk,dclo,datOf,binIs,addF,AV.isPtr,idxV,AV.isSl,AV.isSlice,AV.rows,ps,pv,extV,extS,AV.outs,AV.outF,packD,AV.dl,fieldV,fieldS,AV.cells?,AV.upr,AV.menc,AV.one,D.one,Value.oneCell',tagOf,AV.isApp,strV,strS,bolV,bolS,slcV,AV.isSlD,asrtS,AV.dcells,D.cells?,stcV,stcS,leafOk,eqDs,eqD,packA,D.val?,↓reduceIte,reduceCtorEq,Nat.reduceAdd,Nat.reduceSub,Nat.reduceMul,List.reduceReplicate,Nat.reduceLeDiff,Nat.reduceLT,Nat.reduceBEq,Nat.reduceEqDiff,Int.reduceNeg,Int.reduceEq,Int.reduceLE,Int.reduceLT,tfb,D.flat,D.flats,ctz40,bgS]
  try rfl
def ent40 (args : List AV) (K : AV → List AV → Sto → Prop) (e : List AV) (s : Sto) : Prop := ent (α := Unit) (fun aa => []) (fun aa => True) (fun aa => .agg bgS.v) args K e s
theorem ent40_ok {args : List AV} {K : AV → List AV → Sto → Prop} {Q : Kt} {e : List AV} {s : Sto} (h : ent40 args K e s) : pcall Try.prog 40 args K Q e s := ent_ok (fun aa h => pf40 ) h
theorem eq40  {KK : AV → List AV → Sto → Prop} {ee : List AV} {ss : Sto} : ent40 [] KK ee ss = (KK (.d (.agg bgS.v)) ee ss) := by
  unfold ent40; rw [ent_iff () (by intro b h; cases b; rfl) rfl]; simp
def O42 : Nat → Sch := fun id => .done
theorem ho42 : Try.f42.body.map (okO O42) = some true := by kernel_rfl
def Cf42 : Nat → List AV → (AV → List AV → Sto → Prop) → Kt → List AV → Sto → Prop := fun f args K Q e s => match f with
  | _ => False
def Ct42 : CT := { f := Cf42, y := noYld, z := fun d => false }
theorem ctz42 {d : Nat} : CT.z Ct42 d = (false) := id rfl
theorem Ct42_ok : Ct42.ok Try.prog := ok_of_f (fun f args K Q e s h => by
  have h : Cf42 f args K Q e s := h
  unfold Cf42 at h; split at h
  · exact h.elim) (fun _ _ _ _ _ _ _ _ _ h => h)
theorem c42 : callable Try.prog 42 = true := by kernel_rfl
theorem pf42 (s : Sd) (g : Int) (h : (-1 ≤ g ∧ g ≤ 4) ∧ (0 ≤ s.h ∧ s.h ≤ 1000) ∧ CnB s.n) : PF Try.prog 42 [.agg s.v, .i g] (fun zz => zz = .ret (.agg (nxS s g).v)) := by
  obtain ⟨⟨h1, h2⟩, hh, hn⟩ := h
  unfold CnB at hn
  rcases (show g = -1 ∨ g = 0 ∨ g = 1 ∨ g = 2 ∨ g = 3 ∨ g = 4 by omega) with rfl | rfl | rfl | rfl | rfl | rfl
  all_goals
    refine PF_nil (PF_start (O := O42) Ct42_ok hmix ho42 Try.func42 c42 rfl Try.ntmps42 Try.results42 ?_)
    simp (maxSteps := 4000000) +contextual (disch := first | omega | exact qdb_ok (by kernel_rfl) | exact okb_ok (by kernel_rfl)) only [bw1,bw2,bw3,bw4,bw5,bw6,bw7,bc0,bc1,bc2,bc3,bc4,bc5,bc6,bc7,bb0,setPs,AV.owns,AV.datF,AV.frz,AV.cpy,ifV,isEqB,nilV,nilX,AV.isNilS,AV.isNoRows,wk,dclo,datOf,binIs,addF,AV.isPtr,idxV,AV.isSl,AV.isSlice,AV.rows,ps,pv,extV,extS,AV.outs,AV.outF,packD,AV.dl,fieldV,fieldS,AV.cells?,AV.upr,AV.menc,AV.one,D.one,Value.oneCell',tagOf,AV.isApp,strV,strS,bolV,bolS,slcV,AV.isSlD,asrtS,AV.dcells,D.cells?,stcV,stcS,leafOk,eqDs,eqD,packA,D.val?,↓reduceIte,reduceCtorEq,Nat.reduceAdd,Nat.reduceSub,Nat.reduceMul,List.reduceReplicate,Nat.reduceLeDiff,Nat.reduceLT,Nat.reduceBEq,Nat.reduceEqDiff,Int.reduceNeg,Int.reduceEq,Int.reduceLE,Int.reduceLT,tfb,D.flat,D.flats,ctz42,nxS, Cn.up, Int.toNat_zero, Int.reduceToNat, Int.reduceAdd, Nat.zero_mul, Nat.add_zero]
    try (and_intros <;> first | omega | rfl)
def ent42 (args : List AV) (K : AV → List AV → Sto → Prop) (e : List AV) (s : Sto) : Prop := ent (α := (Sd) × (Int)) (fun aa => [.agg aa.1.v, .i aa.2]) (fun aa => (-1 ≤ aa.2 ∧ aa.2 ≤ 4) ∧ (0 ≤ aa.1.h ∧ aa.1.h ≤ 1000) ∧ CnB aa.1.n) (fun aa => .agg (nxS aa.1 aa.2).v) args K e s
theorem ent42_ok {args : List AV} {K : AV → List AV → Sto → Prop} {Q : Kt} {e : List AV} {s : Sto} (h : ent42 args K e s) : pcall Try.prog 42 args K Q e s := ent_ok (fun aa h => pf42 aa.1 aa.2 h) h
theorem eq42 {s : Sd} {g : Int} {KK : AV → List AV → Sto → Prop} {ee : List AV} {ss : Sto} : ent42 [.d (.agg s.v), .d (.i g)] KK ee ss = (((-1 ≤ g ∧ g ≤ 4) ∧ (0 ≤ s.h ∧ s.h ≤ 1000) ∧ CnB s.n) ∧ KK (.d (.agg (nxS s g).v)) ee ss) := by
  unfold ent42; rw [ent_iff (s, g) (by intro b h; simpa [Prod.ext_iff, and_assoc, Int.ofNat_inj, ints_inj, hrs_inj, grs_inj, hr_inj, gr_inj, tt_inj, bcs_inj, cn_inj, sd_inj] using h) rfl]; simp
end Go.Proofs.Ytofbbkacihnjdaa
