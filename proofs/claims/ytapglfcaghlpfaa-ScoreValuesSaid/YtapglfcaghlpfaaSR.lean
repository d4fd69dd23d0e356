/- A part of the proof that the last text ends: what functions of the program do, told by plain data. -/
import Derived.Test.YtapglfcaghlpfaaSB
set_option linter.unusedVariables false
set_option linter.unusedSimpArgs false
namespace Go.Proofs.Ytapglfcaghlpfaa.R0
open Go Go.E Go.Proofs.Ytapglfcaghlpfaa
set_option maxRecDepth 100000
set_option maxHeartbeats 8000000
/-! ### Round of what is not below 0 -/
def O65 : Nat → Sch := fun id => .done
theorem ho65 : Try.f65.body.map (okO O65) = some true := by kernel_rfl
def Cf65 : Nat → List AV → (AV → List AV → Sto → Prop) → Kt → List AV → Sto → Prop := fun f args K Q e s => match f with
  | _ => False
def Ct65 : CT := { f := Cf65, y := noYld, z := fun d => false }
theorem ctz65 {d : Nat} : CT.z Ct65 d = (false) := id rfl
theorem Ct65_ok : Ct65.ok Try.prog := ok_of_f (fun f args K Q e s h => by
  have h : Cf65 f args K Q e s := h
  unfold Cf65 at h; split at h
  · exact h.elim) (fun _ _ _ _ _ _ _ _ _ h => h)
theorem c65 : callable Try.prog 65 = true := by kernel_rfl
theorem pf65 (a b : Int) (h : (0 ≤ a ∧ a ≤ 1000000000) ∧ 1 ≤ b ∧ b ≤ 1000000000) : PF Try.prog 65 [.i a, .i b] (fun zz => zz = .ret (.i ((2 * a + b) / (2 * b)))) := by
  obtain ⟨⟨a1, a2⟩, b1, b2⟩ := h
  have c : ¬ a < 0 := by omega
  have hd : (2 * a + b).tdiv (2 * b) = (2 * a + b) / (2 * b) := Int.tdiv_eq_ediv_of_nonneg (by omega)
  have hb1 : 0 ≤ (2 * a + b) / (2 * b) := Int.ediv_nonneg (by omega) (by omega)
  have hb2 : (2 * a + b) / (2 * b) ≤ 2 * a + b := Int.ediv_le_self _ (by omega)
  have hwr : IntKind.i64.wrap ((2 * a + b) / (2 * b)) = (2 * a + b) / (2 * b) := by
    clear hd
    generalize (2 * a + b) / (2 * b) = q at hb1 hb2 ⊢
    exact wrap_ok (by omega) (by omega)
  refine PF_nil (PF_start (O := O65) Ct65_ok hmix ho65 Try.func65 c65 rfl Try.ntmps65 Try.results65 ?_)
  simp (maxSteps := 4000000) +contextual (disch := first | omega | exact qdb_ok (by kernel_rfl) | exact okb_ok (by kernel_rfl)) only [bw1,bw2,bw3,bw4,bw5,bw6,bw7,bc0,bc1,bc2,bc3,bc4,bc5,bc6,bc7,setPs,AV.owns,AV.datF,AV.frz,AV.cpy,ifV,isEqB,nilV,nilX,AV.isNilS,AV.isNoRows,wk,dclo,datOf,binIs,addF,AV.isPtr,idxV,AV.isSl,AV.isSlice,AV.rows,ps,pv,extV,extS,AV.outs,AV.outF,packD,AV.dl,fieldV,fieldS,AV.cells?,AV.upr,AV.menc,AV.one,D.one,Value.oneCell',tagOf,AV.isApp,strV,strS,bolV,bolS,slcV,AV.isSlD,asrtS,AV.dcells,D.cells?,stcV,stcS,leafOk,eqDs,eqD,packA,D.val?,↓reduceIte,reduceCtorEq,Nat.reduceAdd,Nat.reduceSub,Nat.reduceMul,List.reduceReplicate,Nat.reduceLeDiff,Nat.reduceLT,Nat.reduceBEq,Nat.reduceEqDiff,Int.reduceNeg,Int.reduceEq,Int.reduceLE,Int.reduceLT,tfb,ctz65,c, hd, hwr]
  omega
def ent65 (args : List AV) (K : AV → List AV → Sto → Prop) (e : List AV) (s : Sto) : Prop := ent (α := (Int) × (Int)) (fun aa => [.i aa.1, .i aa.2]) (fun aa => (0 ≤ aa.1 ∧ aa.1 ≤ 1000000000) ∧ 1 ≤ aa.2 ∧ aa.2 ≤ 1000000000) (fun aa => .i ((2 * aa.1 + aa.2) / (2 * aa.2))) args K e s
theorem ent65_ok {args : List AV} {K : AV → List AV → Sto → Prop} {Q : Kt} {e : List AV} {s : Sto} (h : ent65 args K e s) : pcall Try.prog 65 args K Q e s := ent_ok (fun aa h => pf65 aa.1 aa.2 h) h
theorem eq65 {a : Int} {b : Int} {KK : AV → List AV → Sto → Prop} {ee : List AV} {ss : Sto} : ent65 [.d (.i a), .d (.i b)] KK ee ss = (((0 ≤ a ∧ a ≤ 1000000000) ∧ 1 ≤ b ∧ b ≤ 1000000000) ∧ KK (.d (.i ((2 * a + b) / (2 * b)))) ee ss) := by
  unfold ent65; rw [ent_iff (a, b) (by intro b h; simpa [Prod.ext_iff, and_assoc, Int.ofNat_inj, ints_inj, cals_inj, pcs_inj, skas_inj, scos_inj, ska_inj, rul_inj, sco_inj, cal_inj] using h) rfl]; simp
end Go.Proofs.Ytapglfcaghlpfaa.R0
