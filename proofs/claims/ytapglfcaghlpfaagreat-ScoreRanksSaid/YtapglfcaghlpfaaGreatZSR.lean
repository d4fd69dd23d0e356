/- A part of the proof that the last text ends: what functions of the program do, told by plain data. -/
import Derived.Test.YtapglfcaghlpfaaGreatZSB
set_option linter.unusedVariables false
set_option linter.unusedSimpArgs false
namespace Go.Proofs.YtapglfcaghlpfaaGreat.R0
open Go Go.E Go.Proofs.YtapglfcaghlpfaaGreat
set_option maxRecDepth 100000
set_option maxHeartbeats 8000000
def O61 : Nat → Sch := fun id => .done
theorem ho61 : Tryz.f61.body.map (okO O61) = some true := by kernel_rfl
def Cf61 : Nat → List AV → (AV → List AV → Sto → Prop) → Kt → List AV → Sto → Prop := fun f args K Q e s => match f with
  | _ => False
def Ct61 : CT := { f := Cf61, y := noYld, z := fun d => false }
theorem Ct61_ok : Ct61.ok Tryz.prog := ok_of_f (fun f args K Q e s h => by
  have h : Cf61 f args K Q e s := h
  unfold Cf61 at h; split at h
  · exact h.elim) (fun _ _ _ _ _ _ _ _ _ h => h)
theorem c61 : callable Tryz.prog 61 = true := by kernel_rfl
theorem pf61 (a b : Int) (h : (0 ≤ a ∧ a ≤ 1000000000) ∧ 1 ≤ b ∧ b ≤ 1000000000) : PF Tryz.prog 61 [.i a, .i b] (fun zz => zz = .ret (.i ((2 * a + b) / (2 * b)))) := by
  obtain ⟨⟨a1, a2⟩, b1, b2⟩ := h
  have c : ¬ a < 0 := by omega
  have hd : (2 * a + b).tdiv (2 * b) = (2 * a + b) / (2 * b) := Int.tdiv_eq_ediv_of_nonneg (by omega)
  have hb1 : 0 ≤ (2 * a + b) / (2 * b) := Int.ediv_nonneg (by omega) (by omega)
  have hb2 : (2 * a + b) / (2 * b) ≤ 2 * a + b := Int.ediv_le_self _ (by omega)
  have hwr : IntKind.i64.wrap ((2 * a + b) / (2 * b)) = (2 * a + b) / (2 * b) := by
    clear hd
    generalize (2 * a + b) / (2 * b) = q at hb1 hb2 ⊢
    exact wrap_ok (by omega) (by omega)
  refine PF_nil (PF_start (O := O61) Ct61_ok hmix ho61 Tryz.func61 c61 rfl Tryz.ntmps61 Tryz.results61 ?_)
  simp (maxSteps := 4000000) +contextual (disch := first | omega | exact qdb_ok (by kernel_rfl) | exact okb_ok (by kernel_rfl)) only [bw1,bw2,bw3,bw4,bw5,bw6,bw7,bc1,bc2,bc3,bc4,bc5,bc6,binIs,AV.outs,AV.outF,packD,↓reduceIte,Nat.reduceAdd,Nat.reduceSub,List.reduceReplicate,tfb,c, hwr]
  omega
def ent61 (args : List AV) (K : AV → List AV → Sto → Prop) (e : List AV) (s : Sto) : Prop := ent (α := (Int) × (Int)) (fun aa => [.i aa.1, .i aa.2]) (fun aa => (0 ≤ aa.1 ∧ aa.1 ≤ 1000000000) ∧ 1 ≤ aa.2 ∧ aa.2 ≤ 1000000000) (fun aa => .i ((2 * aa.1 + aa.2) / (2 * aa.2))) args K e s
theorem ent61_ok {args : List AV} {K : AV → List AV → Sto → Prop} {Q : Kt} {e : List AV} {s : Sto} (h : ent61 args K e s) : pcall Tryz.prog 61 args K Q e s := ent_ok (fun aa h => pf61 aa.1 aa.2 h) h
theorem eq61 {a : Int} {b : Int} {KK : AV → List AV → Sto → Prop} {ee : List AV} {ss : Sto} : ent61 [.d (.i a), .d (.i b)] KK ee ss = (((0 ≤ a ∧ a ≤ 1000000000) ∧ 1 ≤ b ∧ b ≤ 1000000000) ∧ KK (.d (.i ((2 * a + b) / (2 * b)))) ee ss) := by
  unfold ent61; rw [ent_iff (a, b) (by intro b h; simpa [Prod.ext_iff, and_assoc, Int.ofNat_inj, ints_inj, cals_inj, pcs_inj, skas_inj, scos_inj, ska_inj, rul_inj, sco_inj, cal_inj] using h) rfl]; simp
end Go.Proofs.YtapglfcaghlpfaaGreat.R0
