/- A part of the proof that the last text ends: what functions of the program do, told by plain data. -/
import Derived.Test.YtapglfcaghlpfaaGreatZST
set_option linter.unusedVariables false
set_option linter.unusedSimpArgs false
namespace Go.Proofs.YtapglfcaghlpfaaGreat
open Go Go.E Go.Maps
set_option maxRecDepth 100000
set_option maxHeartbeats 16000000
def O107 : Nat → Sch := fun id => if id = 1 then .one 0 (.one 1 (.one 2 (.one 3 (.one 4 (.one 5 (.one 6 (.one 7 (.one 8 (.one 9 (.one 10 (.done))))))))))) else .done
theorem O107_1 : O107 1 = .one 0 (.one 1 (.one 2 (.one 3 (.one 4 (.one 5 (.one 6 (.one 7 (.one 8 (.one 9 (.one 10 (.done))))))))))) := rfl
theorem ho107 : Tryz.f107.body.map (okO O107) = some true := by kernel_rfl
def Cf107 : Nat → List AV → (AV → List AV → Sto → Prop) → Kt → List AV → Sto → Prop := fun f args K Q e s => match f with
  | 83 => ent83 args K e s
  | _ => False
def Ct107 : CT := { f := Cf107, y := noYld, z := fun d => false }
theorem Ct107_ok : Ct107.ok Tryz.prog := ok_of_f (fun f args K Q e s h => by
  have h : Cf107 f args K Q e s := h
  unfold Cf107 at h; split at h
  · exact ent83_ok h
  · exact h.elim) (fun _ _ _ _ _ _ _ _ _ h => h)
theorem x107_83 {a : Od} {b : Od} {KK : AV → List AV → Sto → Prop} {QQ : Kt} {ii : At KK} {jj : At QQ} {ee : List AV} {ss : Sto} : xC Ct107 83 [.d (.agg (oc a)), .d (.agg (oc b))] KK QQ ii jj ee ss = (KK (.d (.i (cmpI (ky a) (ky b)))) ee ss) := eq83
theorem c107 : callable Tryz.prog 107 = true := by kernel_rfl
def O106 : Nat → Sch := fun id => .done
theorem ho106 : Tryz.f106.body.map (okO O106) = some true := by kernel_rfl
def Cf106 : Nat → List AV → (AV → List AV → Sto → Prop) → Kt → List AV → Sto → Prop := fun f args K Q e s => match f with
  | 107 => inlE Tryz.prog Ct107 O107 107000 107 args K Q e s
  | _ => False
def Ct106 : CT := { f := Cf106, y := noYld, z := fun d => false }
theorem Ct106_ok : Ct106.ok Tryz.prog := ok_of_f (fun f args K Q e s h => by
  have h : Cf106 f args K Q e s := h
  unfold Cf106 at h; split at h
  · exact inlE_ok Ct107_ok hmix ho107 h
  · exact h.elim) (fun _ _ _ _ _ _ _ _ _ h => h)
theorem z106_107 : type_of% (@xinl Tryz.prog Ct106 Ct107 O107 107000 107 _ _ _ _ rfl c107 Tryz.func107 rfl Tryz.ntmps107 Tryz.results107) := @xinl Tryz.prog Ct106 Ct107 O107 107000 107 _ _ _ _ rfl c107 Tryz.func107 rfl Tryz.ntmps107 Tryz.results107
theorem c106 : callable Tryz.prog 106 = true := by kernel_rfl
def O99 : Nat → Sch := fun id => .done
theorem ho99 : Tryz.f99.body.map (okO O99) = some true := by kernel_rfl
def Cf99 : Nat → List AV → (AV → List AV → Sto → Prop) → Kt → List AV → Sto → Prop := fun f args K Q e s => match f with
  | 106 => inlE Tryz.prog Ct106 O106 106000 106 args K Q e s
  | _ => False
def Ct99 : CT := { f := Cf99, y := noYld, z := fun d => false }
theorem Ct99_ok : Ct99.ok Tryz.prog := ok_of_f (fun f args K Q e s h => by
  have h : Cf99 f args K Q e s := h
  unfold Cf99 at h; split at h
  · exact inlE_ok Ct106_ok hmix ho106 h
  · exact h.elim) (fun _ _ _ _ _ _ _ _ _ h => h)
theorem z99_106 : type_of% (@xinl Tryz.prog Ct99 Ct106 O106 106000 106 _ _ _ _ rfl c106 Tryz.func106 rfl Tryz.ntmps106 Tryz.results106) := @xinl Tryz.prog Ct99 Ct106 O106 106000 106 _ _ _ _ rfl c106 Tryz.func106 rfl Tryz.ntmps106 Tryz.results106
theorem c99 : callable Tryz.prog 99 = true := by kernel_rfl
theorem pf99 (l : List Od) (a b : Nat) (h : (a + 12 < b ∧ b < a + 50) ∧ b ≤ l.length ∧ l.length ≤ 1000) : PFu Tryz.prog 99 111 7 (l.map oc) [.i (a : Int), .i (b : Int), cl67] (fun r x => ∃ (v : Nat) (h : Int), ((a ≤ v ∧ v < b) ∧ (h = 0 ∨ h = 1 ∨ h = 2)) ∧ r = .d (.tup [.i (v : Int), .i h]) ∧ x = (l.map oc)) := by
  obtain ⟨⟨h0, h3⟩, h1, h2⟩ := h
  obtain ⟨n, rfl⟩ : ∃ n, b = a + n := ⟨b - a, by omega⟩
  have hn : ((a + n : Nat) : Int) - a = (n : Nat) := by omega
  have hq : (n : Int) / 4 = ((n / 4 : Nat) : Int) := rfl
  have e1 : (a : Int) + ((n / 4 : Nat) : Int) = ((a + n / 4 : Nat) : Int) := rfl
  have e2 : (a : Int) + ((n / 4 : Nat) : Int) * 2 = ((a + n / 4 * 2 : Nat) : Int) := by omega
  have e3 : (a : Int) + ((n / 4 : Nat) : Int) * 3 = ((a + n / 4 * 3 : Nat) : Int) := by omega
  have g8 : (8 : Int) ≤ n := by omega
  have g50 : ¬ (50 : Int) ≤ n := by omega
  have hp1 : a + n / 4 < a + n := by omega
  have hp2 : a + n / 4 * 2 < a + n := by omega
  have hp3 : a + n / 4 * 3 < a + n := by omega
  have hp0 : a ≤ a + n / 4 ∧ a ≤ a + n / 4 * 2 ∧ a ≤ a + n / 4 * 3 := by omega
  generalize n / 4 = q at *
  generalize a + q * 3 = p3 at *
  generalize a + q * 2 = p2 at *
  generalize hp : a + q = p1 at *
  have i1 : (p1 : Int) < l.length := by omega
  have i2 : (p2 : Int) < l.length := by omega
  have i3 : (p3 : Int) < l.length := by omega
  have r1 : (l.map oc).getD p1 [] = oc (l.getD p1 default) := row_at (by omega)
  have r2 : (l.map oc).getD p2 [] = oc (l.getD p2 default) := row_at (by omega)
  have r3 : (l.map oc).getD p3 [] = oc (l.getD p3 default) := row_at (by omega)
  refine PFu_start (O := O99) Ct99_ok hmix ho99 Tryz.func99 c99 rfl Tryz.ntmps99 Tryz.results99 ?_
  simp (maxSteps := 4000000) +contextual (disch := first | omega | exact qdb_ok (by kernel_rfl) | exact okb_ok (by kernel_rfl)) only [bw1,bw2,bw3,bw4,bw5,bw6,bw7,bc1,bc2,bc3,bc4,bc5,bc6,binIs,AV.isPtr,idxV,AV.isSl,AV.rows,ps,pv,extV,extS,AV.dl,AV.cells?,AV.menc,AV.one,D.one,Value.oneCell',packA,↓reduceIte,reduceCtorEq,Nat.reduceAdd,Nat.reduceSub,List.reduceReplicate,Nat.reduceLeDiff,Nat.reduceLT,Nat.reduceBEq,Int.reduceEq,tfb,gU,z99_106,z106_107,O107_1,x107_83,cl67, hn, hq, e1, e2, e3, Int.mul_one, g8, g50, i1, i2, i3, r1, r2, r3, cmp_lt]
  repeat' (first | (refine And.intro (by omega) ?_) | split)
  all_goals first
    | exact ⟨p1, _, ⟨by omega, .inl rfl⟩, rfl⟩
    | exact ⟨p1, _, ⟨by omega, .inr (.inl rfl)⟩, rfl⟩
    | exact ⟨p1, _, ⟨by omega, .inr (.inr rfl)⟩, rfl⟩
    | exact ⟨p2, _, ⟨by omega, .inl rfl⟩, rfl⟩
    | exact ⟨p2, _, ⟨by omega, .inr (.inl rfl)⟩, rfl⟩
    | exact ⟨p2, _, ⟨by omega, .inr (.inr rfl)⟩, rfl⟩
    | exact ⟨p3, _, ⟨by omega, .inl rfl⟩, rfl⟩
    | exact ⟨p3, _, ⟨by omega, .inr (.inl rfl)⟩, rfl⟩
    | exact ⟨p3, _, ⟨by omega, .inr (.inr rfl)⟩, rfl⟩
def ent99 (args : List AV) (K : AV → List AV → Sto → Prop) (e : List AV) (s : Sto) : Prop := entU (α := (List Od) × (Nat) × (Nat)) 111 7 (fun aa => (aa.1.map oc)) (fun aa => [.i (aa.2.1 : Int), .i (aa.2.2 : Int), cl67]) (fun aa => (aa.2.1 + 12 < aa.2.2 ∧ aa.2.2 < aa.2.1 + 50) ∧ aa.2.2 ≤ aa.1.length ∧ aa.1.length ≤ 1000) (fun aa r x => ∃ (v : Nat) (h : Int), ((aa.2.1 ≤ v ∧ v < aa.2.2) ∧ (h = 0 ∨ h = 1 ∨ h = 2)) ∧ r = .d (.tup [.i (v : Int), .i h]) ∧ x = (aa.1.map oc)) args K e s
theorem ent99_ok {args : List AV} {K : AV → List AV → Sto → Prop} {Q : Kt} {e : List AV} {s : Sto} (h : ent99 args K e s) : pcall Tryz.prog 99 args K Q e s := entU_ok (fun aa h => pf99 aa.1 aa.2.1 aa.2.2 h) (fun aa r x ⟨_, _, _, hr, _⟩ => ⟨_, hr⟩) h
theorem eq99 {l : List Od} {a : Nat} {b : Nat} {gg : Nat} {KK : AV → List AV → Sto → Prop} {ee : List AV} {ss : Sto} : ent99 [.own gg 111 7 (l.map oc), .d (.i (a : Int)), .d (.i (b : Int)), .d (cl67)] KK ee ss = (((a + 12 < b ∧ b < a + 50) ∧ b ≤ l.length ∧ l.length ≤ 1000) ∧ upOk gg 111 7 (l.map oc) ee ss ∧ ∀ (v : Nat) (h : Int), ((a ≤ v ∧ v < b) ∧ (h = 0 ∨ h = 1 ∨ h = 2)) → KK (.d (.tup [.i (v : Int), .i h])) (ee.map (AV.ups gg (l.map oc))) (ss.ups gg (l.map oc))) := by
  unfold ent99
  exact Eq.trans (entU_iff (g := gg) (l, a, b) (by intro b h1 h2; first | (simpa [Prod.ext_iff, and_assoc, Int.ofNat_inj, ints_inj, cals_inj, pcs_inj, skas_inj, scos_inj, ska_inj, rul_inj, sco_inj, cal_inj, ods_inj, od_inj] using And.intro h1 h2) | (simp [Prod.ext_iff, and_assoc, Int.ofNat_inj, ints_inj, cals_inj, pcs_inj, skas_inj, scos_inj, ska_inj, rul_inj, sco_inj, cal_inj, ods_inj, od_inj] at h1 h2 ⊢; simp_all)) rfl) (propext ⟨fun ⟨h1, h2, h3⟩ => ⟨h1, h2, fun v h hq => h3 _ _ ⟨v, h, hq, rfl, rfl⟩⟩, fun ⟨h1, h2, h3⟩ => ⟨h1, h2, fun r x ⟨v, h, hq, e1, e2⟩ => by subst e1; subst e2; exact h3 v h hq⟩⟩)
end Go.Proofs.YtapglfcaghlpfaaGreat
