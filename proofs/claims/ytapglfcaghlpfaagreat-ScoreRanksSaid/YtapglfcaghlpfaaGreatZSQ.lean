/- A part of the proof that the last text ends: what functions of the program do, told by plain data. -/
import Derived.Test.YtapglfcaghlpfaaGreatZSM
set_option linter.unusedVariables false
set_option linter.unusedSimpArgs false
namespace Go.Proofs.YtapglfcaghlpfaaGreat
open Go Go.E Go.Maps
set_option maxRecDepth 100000
set_option maxHeartbeats 8000000
def O63 : Nat → Sch := fun id => .done
theorem ho63 : Tryz.f63.body.map (okO O63) = some true := by kernel_rfl
def Cf63 : Nat → List AV → (AV → List AV → Sto → Prop) → Kt → List AV → Sto → Prop := fun f args K Q e s => match f with
  | _ => False
def Ct63 : CT := { f := Cf63, y := noYld, z := fun d => false }
theorem ctz63 {d : Nat} : CT.z Ct63 d = (false) := id rfl
theorem Ct63_ok : Ct63.ok Tryz.prog := ok_of_f (fun f args K Q e s h => by
  have h : Cf63 f args K Q e s := h
  unfold Cf63 at h; split at h
  · exact h.elim) (fun _ _ _ _ _ _ _ _ _ h => h)
theorem c63 : callable Tryz.prog 63 = true := by kernel_rfl
theorem pf63 (l : List Int) (j : Nat) (m : Int) (h : j < l.length ∧ l.length ≤ 1000) : PF Tryz.prog 63 [.sl 1 (l.map ic), .i (j : Int), .i m] (fun zz => zz = .ret (.sl 1 ((l.set j m).map ic))) := by
  obtain ⟨h1, h2⟩ := h
  have h1' : (j : Int) < l.length := by omega
  have hs : (l.map ic).set j [D.v (Value.int .i64 m)] = (l.set j m).map ic := by rw [List.map_set]
  refine PF_nil (PF_start (O := O63) Ct63_ok hmix ho63 Tryz.func63 c63 rfl Tryz.ntmps63 Tryz.results63 ?_)
  simp (maxSteps := 4000000) +contextual (disch := first | omega | exact qdb_ok (by kernel_rfl) | exact okb_ok (by kernel_rfl)) only [bw1,bw2,bw3,bw4,bw5,bw6,bc2,bc3,bc4,bc5,bc6,idxV,AV.isSl,AV.rows,ps,pv,AV.outs,AV.outF,packD,AV.upr,AV.menc,D.one,Value.oneCell',tagOf,AV.isApp,AV.dcells,D.cells?,↓reduceIte,reduceCtorEq,Nat.reduceAdd,Nat.reduceSub,Nat.reduceMul,List.reduceReplicate,Nat.reduceLeDiff,tfb,ctz63,h1', hs]
  and_intros <;> first | omega | rfl
def ent63 (args : List AV) (K : AV → List AV → Sto → Prop) (e : List AV) (s : Sto) : Prop := ent (α := (List Int) × (Nat) × (Int)) (fun aa => [.sl 1 (aa.1.map ic), .i (aa.2.1 : Int), .i aa.2.2]) (fun aa => aa.2.1 < aa.1.length ∧ aa.1.length ≤ 1000) (fun aa => .sl 1 ((aa.1.set aa.2.1 aa.2.2).map ic)) args K e s
theorem ent63_ok {args : List AV} {K : AV → List AV → Sto → Prop} {Q : Kt} {e : List AV} {s : Sto} (h : ent63 args K e s) : pcall Tryz.prog 63 args K Q e s := ent_ok (fun aa h => pf63 aa.1 aa.2.1 aa.2.2 h) h
theorem eq63 {l : List Int} {j : Nat} {m : Int} {KK : AV → List AV → Sto → Prop} {ee : List AV} {ss : Sto} : ent63 [.d (.sl 1 (l.map ic)), .d (.i (j : Int)), .d (.i m)] KK ee ss = ((j < l.length ∧ l.length ≤ 1000) ∧ KK (.d (.sl 1 ((l.set j m).map ic))) ee ss) := by
  unfold ent63; rw [ent_iff (l, j, m) (by intro b h; simpa [Prod.ext_iff, and_assoc, Int.ofNat_inj, ints_inj, cals_inj, pcs_inj, skas_inj, scos_inj, ska_inj, rul_inj, sco_inj, cal_inj] using h) rfl]; simp
end Go.Proofs.YtapglfcaghlpfaaGreat
