/- A part of the proof that the last text ends: what functions of the program do, told by plain data. -/
import Derived.Test.YtofbbkacihnjdaaDoorHW
set_option linter.unusedVariables false
set_option linter.unusedSimpArgs false
namespace Go.Proofs.YtofbbkacihnjdaaDoor
open Go Go.E Go.Maps
set_option maxRecDepth 100000
set_option maxHeartbeats 4000000
def spT : Tt := ⟨[⟨1, 960, 1020⟩, ⟨1, 1020, 1080⟩, ⟨1, 1200, 1260⟩, ⟨3, 960, 1020⟩], [⟨2, 0, 1440, 3, 0⟩, ⟨10, 900, 1100, 2, 1⟩, ⟨8, 0, 1440, 4, 0⟩], 10⟩
theorem sp_ck1 : ckR spT [0, 0, -1, 2] = ([2, 1, 1], 4, 0) := by decide +kernel
theorem sp_ck2 : (ckR spT [0, 1, 0, 2]).2 = (1, 6) := by decide +kernel
theorem sp_fr : frR spT = ([0, 0, 0, 2], 0) := by decide +kernel
theorem sp_cp : cpR spT [0, 0, -1, 2] [1, 1, 0, 2] = (-1, 0) := by decide +kernel
theorem sp_hi : hiR spT [2, 1, 1] = ([0, 1, 2], 0) := by decide +kernel
def O30 : Nat → Sch := fun id => .done
theorem ho30 : Tryd.f30.body.map (okO O30) = some true := by kernel_rfl
def Cf30 : Nat → List AV → (AV → List AV → Sto → Prop) → Kt → List AV → Sto → Prop := fun f args K Q e s => match f with
  | _ => False
def Ct30 : CT := { f := Cf30, y := noYld, z := fun d => false }
theorem ctz30 {d : Nat} : CT.z Ct30 d = (false) := id rfl
theorem Ct30_ok : Ct30.ok Tryd.prog := ok_of_f (fun f args K Q e s h => by
  have h : Cf30 f args K Q e s := h
  unfold Cf30 at h; split at h
  · exact h.elim) (fun _ _ _ _ _ _ _ _ _ h => h)
theorem c30 : callable Tryd.prog 30 = true := by kernel_rfl
theorem pf30  : PF Tryd.prog 30 [] (fun zz => zz = .ret (.agg spT.c)) := by
  refine PF_nil (PF_start (O := O30) Ct30_ok hmix ho30 Tryd.func30 c30 rfl Tryd.ntmps30 Tryd.results30 ?_)
  simp (maxSteps := 4000000) +contextual (disch := first | omega | exact qdb_ok (by kernel_rfl) | exact okb_ok (by kernel_rfl)) only [bw1,bw2,bw3,bw5,bw6,bc2,bc3,bc4,bc5,bc6,bc7,ps,pv,AV.outs,AV.outF,packD,AV.dl,AV.cells?,AV.menc,AV.one,D.one,Value.oneCell',AV.dcells,D.cells?,↓reduceIte,reduceCtorEq,Nat.reduceAdd,Nat.reduceSub,Nat.reduceMul,List.reduceReplicate,Nat.reduceLeDiff,Nat.reduceLT,Nat.reduceBEq,Nat.reduceEqDiff,tfb,ctz30]
  exact ⟨rfl, rfl, rfl⟩
end Go.Proofs.YtofbbkacihnjdaaDoor
