/- A part of the proof that the last text ends: what functions of the program do, told by plain data. -/
import Derived.Test.YtapglfcaghlpfaaGreatZSV
import Derived.Test.YtapglfcaghlpfaaGreatEc
set_option linter.unusedVariables false
set_option linter.unusedSimpArgs false
namespace Go.Proofs.YtapglfcaghlpfaaGreat.S0
open Go Go.E Go.Maps Go.Proofs.YtapglfcaghlpfaaGreat
set_option maxRecDepth 100000
set_option maxHeartbeats 16000000
def O94 : Nat → Sch := fun id => if id = 17 then .one 0 (.one 1 (.one 2 (.one 3 (.one 4 (.one 5 (.one 6 (.one 7 (.one 8 (.one 9 (.one 10 (.one 11 (.one 12 (.one 13 (.one 14 (.one 15 (.one 16 (.done))))))))))))))))) else .done
theorem O94_17 : O94 17 = .one 0 (.one 1 (.one 2 (.one 3 (.one 4 (.one 5 (.one 6 (.one 7 (.one 8 (.one 9 (.one 10 (.one 11 (.one 12 (.one 13 (.one 14 (.one 15 (.one 16 (.done))))))))))))))))) := rfl
theorem ho94 : Tryz.f94.body.map (okO O94) = some true := by kernel_rfl
def Cf94 : Nat → List AV → (AV → List AV → Sto → Prop) → Kt → List AV → Sto → Prop := fun f args K Q e s => match f with
  | 96 => ent96 args K e s
  | _ => False
def Ct94 : CT := { f := Cf94, y := noYld, z := fun d => false }
theorem Ct94_ok : Ct94.ok Tryz.prog := ok_of_f (fun f args K Q e s h => by
  have h : Cf94 f args K Q e s := h
  unfold Cf94 at h; split at h
  · exact ent96_ok h
  · exact h.elim) (fun _ _ _ _ _ _ _ _ _ h => h)
theorem x94_96 {l : List Od} {a : Nat} {b : Nat} {gg : Nat} {KK : AV → List AV → Sto → Prop} {QQ : Kt} {ii : At KK} {jj : At QQ} {ee : List AV} {ss : Sto} : xC Ct94 96 [.own gg 111 7 (l.map oc), .d (.i (a : Int)), .d (.i (b : Int)), .d (cl67)] KK QQ ii jj ee ss = ((a ≤ b ∧ b ≤ l.length ∧ l.length ≤ 1000) ∧ upOk gg 111 7 (l.map oc) ee ss ∧ ∀ (l' : List Od), (Swp a b l l' ∧ SrtI ky a b l') → KK (.d (.tup [])) (ee.map (AV.ups gg (l'.map oc))) (ss.ups gg (l'.map oc))) := eq96
theorem c94 : callable Tryz.prog 94 = true := by kernel_rfl
theorem pf94 (l : List Od) (a b : Nat) (lim : Int) (h : (a ≤ b ∧ b ≤ l.length ∧ l.length ≤ 1000) ∧ b ≤ a + 12) : PFu Tryz.prog 94 111 7 (l.map oc) [.i (a : Int), .i (b : Int), .i lim, cl67] (fun r x => ∃ (l' : List Od), (Swp a b l l' ∧ SrtI ky a b l') ∧ r = .d (.tup []) ∧ x = (l'.map oc)) := by
  obtain ⟨h0, h1⟩ := h
  have hlt : (b : Int) - a ≤ 12 := by omega
  refine PFu_start (O := O94) Ct94_ok hmix ho94 Tryz.func94 c94 rfl Tryz.ntmps94 Tryz.results94 ?_
  simp (maxSteps := 4000000) +contextual (disch := first | omega | exact qdb_ok (by kernel_rfl) | exact okb_ok (by kernel_rfl)) only [bw1,bw2,bw5,bw6,bc4,bc5,Nat.reduceAdd,Nat.reduceSub,List.reduceReplicate,gU,cl67]
  refine loop_s (O := O94) (tb := 0) Ct94_ok hmix (by kernel_rfl) (σ := Unit) (fun _ => []) (fun _ => True) (fun _ => 0) (fun _ => ()) () trivial ?_ ?_
  · simp (maxSteps := 4000000) +contextual (disch := first | omega | exact qdb_ok (by kernel_rfl) | exact okb_ok (by kernel_rfl)) only [bc0,bc5,bc6,AV.isNilS,AV.isNoRows,wk,reduceCtorEq]
  intro _ _
  simp (maxSteps := 4000000) +contextual (disch := first | omega | exact qdb_ok (by kernel_rfl) | exact okb_ok (by kernel_rfl)) only [bw1,bw2,bw3,bw5,bw6,bw7,bc0,bc1,bc2,bc3,bc4,bc5,bc6,binIs,AV.dl,packA,↓reduceIte,reduceCtorEq,Nat.reduceLT,tfb,upOk,bu0,x94_96,eq_self, hlt]
  exact ⟨h0, fun l' hl => ⟨l', hl, rfl⟩⟩
def ent94 (args : List AV) (K : AV → List AV → Sto → Prop) (e : List AV) (s : Sto) : Prop := entU (α := (List Od) × (Nat) × (Nat) × (Int)) 111 7 (fun aa => (aa.1.map oc)) (fun aa => [.i (aa.2.1 : Int), .i (aa.2.2.1 : Int), .i aa.2.2.2, cl67]) (fun aa => (aa.2.1 ≤ aa.2.2.1 ∧ aa.2.2.1 ≤ aa.1.length ∧ aa.1.length ≤ 1000) ∧ aa.2.2.1 ≤ aa.2.1 + 12) (fun aa r x => ∃ (l' : List Od), (Swp aa.2.1 aa.2.2.1 aa.1 l' ∧ SrtI ky aa.2.1 aa.2.2.1 l') ∧ r = .d (.tup []) ∧ x = (l'.map oc)) args K e s
theorem ent94_ok {args : List AV} {K : AV → List AV → Sto → Prop} {Q : Kt} {e : List AV} {s : Sto} (h : ent94 args K e s) : pcall Tryz.prog 94 args K Q e s := entU_ok (fun aa h => pf94 aa.1 aa.2.1 aa.2.2.1 aa.2.2.2 h) (fun aa r x ⟨_, _, hr, _⟩ => ⟨_, hr⟩) h
theorem eq94 {l : List Od} {a : Nat} {b : Nat} {lim : Int} {gg : Nat} {KK : AV → List AV → Sto → Prop} {ee : List AV} {ss : Sto} : ent94 [.own gg 111 7 (l.map oc), .d (.i (a : Int)), .d (.i (b : Int)), .d (.i lim), .d (cl67)] KK ee ss = (((a ≤ b ∧ b ≤ l.length ∧ l.length ≤ 1000) ∧ b ≤ a + 12) ∧ upOk gg 111 7 (l.map oc) ee ss ∧ ∀ (l' : List Od), (Swp a b l l' ∧ SrtI ky a b l') → KK (.d (.tup [])) (ee.map (AV.ups gg (l'.map oc))) (ss.ups gg (l'.map oc))) := by
  unfold ent94
  exact Eq.trans (entU_iff (g := gg) (l, a, b, lim) (by intro b h1 h2; first | (simpa [Prod.ext_iff, and_assoc, Int.ofNat_inj, ints_inj, cals_inj, pcs_inj, skas_inj, scos_inj, ska_inj, rul_inj, sco_inj, cal_inj, ods_inj, od_inj] using And.intro h1 h2) | (simp [Prod.ext_iff, and_assoc, Int.ofNat_inj, ints_inj, cals_inj, pcs_inj, skas_inj, scos_inj, ska_inj, rul_inj, sco_inj, cal_inj, ods_inj, od_inj] at h1 h2 ⊢; simp_all)) rfl) (propext ⟨fun ⟨h1, h2, h3⟩ => ⟨h1, h2, fun l' hq => h3 _ _ ⟨l', hq, rfl, rfl⟩⟩, fun ⟨h1, h2, h3⟩ => ⟨h1, h2, fun r x ⟨l', hq, e1, e2⟩ => by subst e1; subst e2; exact h3 l' hq⟩⟩)
end Go.Proofs.YtapglfcaghlpfaaGreat.S0
