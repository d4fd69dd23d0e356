/- A part of the proof that the last text ends: what functions of the program do, told by plain data. -/
import Derived.Test.YtapglfcaghlpfaaST
set_option linter.unusedVariables false
set_option linter.unusedSimpArgs false
namespace Go.Proofs.Ytapglfcaghlpfaa
open Go Go.E Go.Maps
set_option maxRecDepth 100000
set_option maxHeartbeats 16000000
def O119 : Nat → Sch := fun id => if id = 1 then .one 0 (.one 1 (.one 2 (.one 3 (.one 4 (.one 5 (.one 6 (.one 7 (.one 8 (.one 9 (.one 10 (.done))))))))))) else .done
theorem O119_1 : O119 1 = .one 0 (.one 1 (.one 2 (.one 3 (.one 4 (.one 5 (.one 6 (.one 7 (.one 8 (.one 9 (.one 10 (.done))))))))))) := rfl
theorem ho119 : Try.f119.body.map (okO O119) = some true := by kernel_rfl
def Cf119 : Nat → List AV → (AV → List AV → Sto → Prop) → Kt → List AV → Sto → Prop := fun f args K Q e s => match f with
  | 67 => ent67 args K e s
  | _ => False
def Ct119 : CT := { f := Cf119, y := noYld, z := fun d => false }
theorem ctz119 {d : Nat} : CT.z Ct119 d = (false) := id rfl
theorem Ct119_ok : Ct119.ok Try.prog := ok_of_f (fun f args K Q e s h => by
  have h : Cf119 f args K Q e s := h
  unfold Cf119 at h; split at h
  · exact ent67_ok h
  · exact h.elim) (fun _ _ _ _ _ _ _ _ _ h => h)
theorem x119_67 {a : Od} {b : Od} {KK : AV → List AV → Sto → Prop} {QQ : Kt} {ii : At KK} {jj : At QQ} {ee : List AV} {ss : Sto} : xC Ct119 67 [.d (.agg (oc a)), .d (.agg (oc b))] KK QQ ii jj ee ss = (KK (.d (.i (cmpI (ky a) (ky b)))) ee ss) := eq67
theorem c119 : callable Try.prog 119 = true := by kernel_rfl
def O117 : Nat → Sch := fun id => .done
theorem ho117 : Try.f117.body.map (okO O117) = some true := by kernel_rfl
def Cf117 : Nat → List AV → (AV → List AV → Sto → Prop) → Kt → List AV → Sto → Prop := fun f args K Q e s => match f with
  | 119 => inlE Try.prog Ct119 O119 119000 119 args K Q e s
  | _ => False
def Ct117 : CT := { f := Cf117, y := noYld, z := fun d => false }
theorem ctz117 {d : Nat} : CT.z Ct117 d = (false) := id rfl
theorem Ct117_ok : Ct117.ok Try.prog := ok_of_f (fun f args K Q e s h => by
  have h : Cf117 f args K Q e s := h
  unfold Cf117 at h; split at h
  · exact inlE_ok Ct119_ok hmix ho119 h
  · exact h.elim) (fun _ _ _ _ _ _ _ _ _ h => h)
theorem z117_119 : type_of% (@xinl Try.prog Ct117 Ct119 O119 119000 119 _ _ _ _ rfl c119 Try.func119 rfl Try.ntmps119 Try.results119) := @xinl Try.prog Ct117 Ct119 O119 119000 119 _ _ _ _ rfl c119 Try.func119 rfl Try.ntmps119 Try.results119
theorem c117 : callable Try.prog 117 = true := by kernel_rfl
def O105 : Nat → Sch := fun id => .done
theorem ho105 : Try.f105.body.map (okO O105) = some true := by kernel_rfl
def Cf105 : Nat → List AV → (AV → List AV → Sto → Prop) → Kt → List AV → Sto → Prop := fun f args K Q e s => match f with
  | 117 => inlE Try.prog Ct117 O117 117000 117 args K Q e s
  | _ => False
def Ct105 : CT := { f := Cf105, y := noYld, z := fun d => false }
theorem ctz105 {d : Nat} : CT.z Ct105 d = (false) := id rfl
theorem Ct105_ok : Ct105.ok Try.prog := ok_of_f (fun f args K Q e s h => by
  have h : Cf105 f args K Q e s := h
  unfold Cf105 at h; split at h
  · exact inlE_ok Ct117_ok hmix ho117 h
  · exact h.elim) (fun _ _ _ _ _ _ _ _ _ h => h)
theorem z105_117 : type_of% (@xinl Try.prog Ct105 Ct117 O117 117000 117 _ _ _ _ rfl c117 Try.func117 rfl Try.ntmps117 Try.results117) := @xinl Try.prog Ct105 Ct117 O117 117000 117 _ _ _ _ rfl c117 Try.func117 rfl Try.ntmps117 Try.results117
theorem c105 : callable Try.prog 105 = true := by kernel_rfl
theorem pf105 (l : List Od) (a b : Nat) (h : (a + 12 < b ∧ b < a + 50) ∧ b ≤ l.length ∧ l.length ≤ 1000) : PFu Try.prog 105 101 7 (l.map oc) [.i (a : Int), .i (b : Int), cl67] (fun r x => ∃ (v : Nat) (h : Int), ((a ≤ v ∧ v < b) ∧ (h = 0 ∨ h = 1 ∨ h = 2)) ∧ r = .d (.tup [.i (v : Int), .i h]) ∧ x = (l.map oc)) := by
  obtain ⟨⟨h0, h3⟩, h1, h2⟩ := h
  obtain ⟨n, rfl⟩ : ∃ n, b = a + n := ⟨b - a, by omega⟩
  have hn : ((a + n : Nat) : Int) - a = (n : Nat) := by omega
  have hq : (n : Int) / 4 = ((n / 4 : Nat) : Int) := rfl
  have e1 : (a : Int) + ((n / 4 : Nat) : Int) = ((a + n / 4 : Nat) : Int) := rfl
  have e2 : (a : Int) + ((n / 4 : Nat) : Int) * 2 = ((a + n / 4 * 2 : Nat) : Int) := by omega
  have e3 : (a : Int) + ((n / 4 : Nat) : Int) * 3 = ((a + n / 4 * 3 : Nat) : Int) := by omega
  have g8 : (8 : Int) ≤ n := by omega
  have g50 : ¬ (50 : Int) ≤ n := by omega
  have hp1 : a + n / 4 < a + n := by omega
  have hp2 : a + n / 4 * 2 < a + n := by omega
  have hp3 : a + n / 4 * 3 < a + n := by omega
  have hp0 : a ≤ a + n / 4 ∧ a ≤ a + n / 4 * 2 ∧ a ≤ a + n / 4 * 3 := by omega
  generalize n / 4 = q at *
  generalize a + q * 3 = p3 at *
  generalize a + q * 2 = p2 at *
  generalize hp : a + q = p1 at *
  have i1 : (p1 : Int) < l.length := by omega
  have i2 : (p2 : Int) < l.length := by omega
  have i3 : (p3 : Int) < l.length := by omega
  have r1 : (l.map oc).getD p1 [] = oc (l.getD p1 default) := row_at (by omega)
  have r2 : (l.map oc).getD p2 [] = oc (l.getD p2 default) := row_at (by omega)
  have r3 : (l.map oc).getD p3 [] = oc (l.getD p3 default) := row_at (by omega)
  refine PFu_start (O := O105) Ct105_ok hmix ho105 Try.func105 c105 rfl Try.ntmps105 Try.results105 ?_
  simp (maxSteps := 4000000) +contextual (disch := first | omega | exact qdb_ok (by kernel_rfl) | exact okb_ok (by kernel_rfl)) only [bw1,bw2,bw3,bw4,bw5,bw6,bw7,bc0,bc1,bc2,bc3,bc4,bc5,bc6,bc7,setPs,AV.owns,AV.datF,AV.frz,AV.cpy,ifV,isEqB,nilV,nilX,AV.isNilS,AV.isNoRows,wk,dclo,datOf,binIs,addF,AV.isPtr,idxV,AV.isSl,AV.isSlice,AV.rows,ps,pv,extV,extS,AV.outs,AV.outF,packD,AV.dl,fieldV,fieldS,AV.cells?,AV.upr,AV.menc,AV.one,D.one,Value.oneCell',tagOf,AV.isApp,strV,strS,bolV,bolS,slcV,AV.isSlD,asrtS,AV.dcells,D.cells?,stcV,stcS,leafOk,eqDs,eqD,packA,D.val?,↓reduceIte,reduceCtorEq,Nat.reduceAdd,Nat.reduceSub,Nat.reduceMul,List.reduceReplicate,Nat.reduceLeDiff,Nat.reduceLT,Nat.reduceBEq,Nat.reduceEqDiff,Int.reduceNeg,Int.reduceEq,Int.reduceLE,Int.reduceLT,tfb,upOk,gU,bu0,ctz105,z105_117,ctz117,z117_119,ctz119,O119_1,x119_67,cl67, hn, hq, e1, e2, e3, Int.mul_one, g8, g50, i1, i2, i3, r1, r2, r3, cmp_lt]
  repeat' (first | (refine And.intro (by omega) ?_) | split)
  all_goals first
    | exact ⟨p1, _, ⟨by omega, .inl rfl⟩, rfl⟩
    | exact ⟨p1, _, ⟨by omega, .inr (.inl rfl)⟩, rfl⟩
    | exact ⟨p1, _, ⟨by omega, .inr (.inr rfl)⟩, rfl⟩
    | exact ⟨p2, _, ⟨by omega, .inl rfl⟩, rfl⟩
    | exact ⟨p2, _, ⟨by omega, .inr (.inl rfl)⟩, rfl⟩
    | exact ⟨p2, _, ⟨by omega, .inr (.inr rfl)⟩, rfl⟩
    | exact ⟨p3, _, ⟨by omega, .inl rfl⟩, rfl⟩
    | exact ⟨p3, _, ⟨by omega, .inr (.inl rfl)⟩, rfl⟩
    | exact ⟨p3, _, ⟨by omega, .inr (.inr rfl)⟩, rfl⟩
def ent105 (args : List AV) (K : AV → List AV → Sto → Prop) (e : List AV) (s : Sto) : Prop := entU (α := (List Od) × (Nat) × (Nat)) 101 7 (fun aa => (aa.1.map oc)) (fun aa => [.i (aa.2.1 : Int), .i (aa.2.2 : Int), cl67]) (fun aa => (aa.2.1 + 12 < aa.2.2 ∧ aa.2.2 < aa.2.1 + 50) ∧ aa.2.2 ≤ aa.1.length ∧ aa.1.length ≤ 1000) (fun aa r x => ∃ (v : Nat) (h : Int), ((aa.2.1 ≤ v ∧ v < aa.2.2) ∧ (h = 0 ∨ h = 1 ∨ h = 2)) ∧ r = .d (.tup [.i (v : Int), .i h]) ∧ x = (aa.1.map oc)) args K e s
theorem ent105_ok {args : List AV} {K : AV → List AV → Sto → Prop} {Q : Kt} {e : List AV} {s : Sto} (h : ent105 args K e s) : pcall Try.prog 105 args K Q e s := entU_ok (fun aa h => pf105 aa.1 aa.2.1 aa.2.2 h) (fun aa r x ⟨_, _, _, hr, _⟩ => ⟨_, hr⟩) h
theorem eq105 {l : List Od} {a : Nat} {b : Nat} {gg : Nat} {KK : AV → List AV → Sto → Prop} {ee : List AV} {ss : Sto} : ent105 [.own gg 101 7 (l.map oc), .d (.i (a : Int)), .d (.i (b : Int)), .d (cl67)] KK ee ss = (((a + 12 < b ∧ b < a + 50) ∧ b ≤ l.length ∧ l.length ≤ 1000) ∧ upOk gg 101 7 (l.map oc) ee ss ∧ ∀ (v : Nat) (h : Int), ((a ≤ v ∧ v < b) ∧ (h = 0 ∨ h = 1 ∨ h = 2)) → KK (.d (.tup [.i (v : Int), .i h])) (ee.map (AV.ups gg (l.map oc))) (ss.ups gg (l.map oc))) := by
  unfold ent105
  exact Eq.trans (entU_iff (g := gg) (l, a, b) (by intro b h1 h2; first | (simpa [Prod.ext_iff, and_assoc, Int.ofNat_inj, ints_inj, cals_inj, pcs_inj, skas_inj, scos_inj, ska_inj, rul_inj, sco_inj, cal_inj, ods_inj, od_inj] using And.intro h1 h2) | (simp [Prod.ext_iff, and_assoc, Int.ofNat_inj, ints_inj, cals_inj, pcs_inj, skas_inj, scos_inj, ska_inj, rul_inj, sco_inj, cal_inj, ods_inj, od_inj] at h1 h2 ⊢; simp_all)) rfl) (propext ⟨fun ⟨h1, h2, h3⟩ => ⟨h1, h2, fun v h hq => h3 _ _ ⟨v, h, hq, rfl, rfl⟩⟩, fun ⟨h1, h2, h3⟩ => ⟨h1, h2, fun r x ⟨v, h, hq, e1, e2⟩ => by subst e1; subst e2; exact h3 v h hq⟩⟩)
end Go.Proofs.Ytapglfcaghlpfaa
