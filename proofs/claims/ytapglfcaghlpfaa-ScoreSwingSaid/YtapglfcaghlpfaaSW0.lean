/- A part of the proof that the last text ends: what functions of the program do, told by plain data. -/
import Derived.Test.YtapglfcaghlpfaaSV
import Derived.Test.YtapglfcaghlpfaaEc
set_option linter.unusedVariables false
set_option linter.unusedSimpArgs false
namespace Go.Proofs.Ytapglfcaghlpfaa.S0
open Go Go.E Go.Maps Go.Proofs.Ytapglfcaghlpfaa
set_option maxRecDepth 100000
set_option maxHeartbeats 16000000
def O82 : Nat → Sch := fun id => if id = 17 then .one 0 (.one 1 (.one 2 (.one 3 (.one 4 (.one 5 (.one 6 (.one 7 (.one 8 (.one 9 (.one 10 (.one 11 (.one 12 (.one 13 (.one 14 (.one 15 (.one 16 (.done))))))))))))))))) else .done
theorem O82_17 : O82 17 = .one 0 (.one 1 (.one 2 (.one 3 (.one 4 (.one 5 (.one 6 (.one 7 (.one 8 (.one 9 (.one 10 (.one 11 (.one 12 (.one 13 (.one 14 (.one 15 (.one 16 (.done))))))))))))))))) := rfl
theorem ho82 : Try.f82.body.map (okO O82) = some true := by kernel_rfl
def Cf82 : Nat → List AV → (AV → List AV → Sto → Prop) → Kt → List AV → Sto → Prop := fun f args K Q e s => match f with
  | 102 => ent102 args K e s
  | _ => False
def Ct82 : CT := { f := Cf82, y := noYld, z := fun d => false }
theorem ctz82 {d : Nat} : CT.z Ct82 d = (false) := id rfl
theorem Ct82_ok : Ct82.ok Try.prog := ok_of_f (fun f args K Q e s h => by
  have h : Cf82 f args K Q e s := h
  unfold Cf82 at h; split at h
  · exact ent102_ok h
  · exact h.elim) (fun _ _ _ _ _ _ _ _ _ h => h)
theorem x82_102 {l : List Od} {a : Nat} {b : Nat} {gg : Nat} {KK : AV → List AV → Sto → Prop} {QQ : Kt} {ii : At KK} {jj : At QQ} {ee : List AV} {ss : Sto} : xC Ct82 102 [.own gg 101 7 (l.map oc), .d (.i (a : Int)), .d (.i (b : Int)), .d (cl67)] KK QQ ii jj ee ss = ((a ≤ b ∧ b ≤ l.length ∧ l.length ≤ 1000) ∧ upOk gg 101 7 (l.map oc) ee ss ∧ ∀ (l' : List Od), (Swp a b l l' ∧ SrtI ky a b l') → KK (.d (.tup [])) (ee.map (AV.ups gg (l'.map oc))) (ss.ups gg (l'.map oc))) := eq102
theorem c82 : callable Try.prog 82 = true := by kernel_rfl
theorem pf82 (l : List Od) (a b : Nat) (lim : Int) (h : (a ≤ b ∧ b ≤ l.length ∧ l.length ≤ 1000) ∧ b ≤ a + 12) : PFu Try.prog 82 101 7 (l.map oc) [.i (a : Int), .i (b : Int), .i lim, cl67] (fun r x => ∃ (l' : List Od), (Swp a b l l' ∧ SrtI ky a b l') ∧ r = .d (.tup []) ∧ x = (l'.map oc)) := by
  obtain ⟨h0, h1⟩ := h
  have hlt : (b : Int) - a ≤ 12 := by omega
  refine PFu_start (O := O82) Ct82_ok hmix ho82 Try.func82 c82 rfl Try.ntmps82 Try.results82 ?_
  simp (maxSteps := 4000000) +contextual (disch := first | omega | exact qdb_ok (by kernel_rfl) | exact okb_ok (by kernel_rfl)) only [bw1,bw2,bw3,bw4,bw5,bw6,bw7,bc0,bc1,bc2,bc3,bc4,bc5,bc6,bc7,setPs,AV.owns,AV.datF,AV.frz,AV.cpy,ifV,isEqB,nilV,nilX,AV.isNilS,AV.isNoRows,wk,dclo,datOf,binIs,addF,AV.isPtr,idxV,AV.isSl,AV.isSlice,AV.rows,ps,pv,extV,extS,AV.outs,AV.outF,packD,AV.dl,fieldV,fieldS,AV.cells?,AV.upr,AV.menc,AV.one,D.one,Value.oneCell',tagOf,AV.isApp,strV,strS,bolV,bolS,slcV,AV.isSlD,asrtS,AV.dcells,D.cells?,stcV,stcS,leafOk,eqDs,eqD,packA,D.val?,↓reduceIte,reduceCtorEq,Nat.reduceAdd,Nat.reduceSub,Nat.reduceMul,List.reduceReplicate,Nat.reduceLeDiff,Nat.reduceLT,Nat.reduceBEq,Nat.reduceEqDiff,Int.reduceNeg,Int.reduceEq,Int.reduceLE,Int.reduceLT,tfb,upOk,gU,bu0,ctz82,O82_17,x82_102,cl67]
  refine loop_s (O := O82) (tb := 0) Ct82_ok hmix (by kernel_rfl) (σ := Unit) (fun _ => []) (fun _ => True) (fun _ => 0) (fun _ => ()) () trivial ?_ ?_
  · simp (maxSteps := 4000000) +contextual (disch := first | omega | exact qdb_ok (by kernel_rfl) | exact okb_ok (by kernel_rfl)) only [bw1,bw2,bw3,bw4,bw5,bw6,bw7,bc0,bc1,bc2,bc3,bc4,bc5,bc6,bc7,setPs,AV.owns,AV.datF,AV.frz,AV.cpy,ifV,isEqB,nilV,nilX,AV.isNilS,AV.isNoRows,wk,dclo,datOf,binIs,addF,AV.isPtr,idxV,AV.isSl,AV.isSlice,AV.rows,ps,pv,extV,extS,AV.outs,AV.outF,packD,AV.dl,fieldV,fieldS,AV.cells?,AV.upr,AV.menc,AV.one,D.one,Value.oneCell',tagOf,AV.isApp,strV,strS,bolV,bolS,slcV,AV.isSlD,asrtS,AV.dcells,D.cells?,stcV,stcS,leafOk,eqDs,eqD,packA,D.val?,↓reduceIte,reduceCtorEq,Nat.reduceAdd,Nat.reduceSub,Nat.reduceMul,List.reduceReplicate,Nat.reduceLeDiff,Nat.reduceLT,Nat.reduceBEq,Nat.reduceEqDiff,Int.reduceNeg,Int.reduceEq,Int.reduceLE,Int.reduceLT,tfb,upOk,gU,bu0,ctz82,O82_17,x82_102]
  intro _ _
  simp (maxSteps := 4000000) +contextual (disch := first | omega | exact qdb_ok (by kernel_rfl) | exact okb_ok (by kernel_rfl)) only [bw1,bw2,bw3,bw4,bw5,bw6,bw7,bc0,bc1,bc2,bc3,bc4,bc5,bc6,bc7,setPs,AV.owns,AV.datF,AV.frz,AV.cpy,ifV,isEqB,nilV,nilX,AV.isNilS,AV.isNoRows,wk,dclo,datOf,binIs,addF,AV.isPtr,idxV,AV.isSl,AV.isSlice,AV.rows,ps,pv,extV,extS,AV.outs,AV.outF,packD,AV.dl,fieldV,fieldS,AV.cells?,AV.upr,AV.menc,AV.one,D.one,Value.oneCell',tagOf,AV.isApp,strV,strS,bolV,bolS,slcV,AV.isSlD,asrtS,AV.dcells,D.cells?,stcV,stcS,leafOk,eqDs,eqD,packA,D.val?,↓reduceIte,reduceCtorEq,Nat.reduceAdd,Nat.reduceSub,Nat.reduceMul,List.reduceReplicate,Nat.reduceLeDiff,Nat.reduceLT,Nat.reduceBEq,Nat.reduceEqDiff,Int.reduceNeg,Int.reduceEq,Int.reduceLE,Int.reduceLT,tfb,upOk,gU,bu0,ctz82,O82_17,x82_102,eq_self, hlt]
  exact ⟨h0, fun l' hl => ⟨l', hl, rfl⟩⟩
def ent82 (args : List AV) (K : AV → List AV → Sto → Prop) (e : List AV) (s : Sto) : Prop := entU (α := (List Od) × (Nat) × (Nat) × (Int)) 101 7 (fun aa => (aa.1.map oc)) (fun aa => [.i (aa.2.1 : Int), .i (aa.2.2.1 : Int), .i aa.2.2.2, cl67]) (fun aa => (aa.2.1 ≤ aa.2.2.1 ∧ aa.2.2.1 ≤ aa.1.length ∧ aa.1.length ≤ 1000) ∧ aa.2.2.1 ≤ aa.2.1 + 12) (fun aa r x => ∃ (l' : List Od), (Swp aa.2.1 aa.2.2.1 aa.1 l' ∧ SrtI ky aa.2.1 aa.2.2.1 l') ∧ r = .d (.tup []) ∧ x = (l'.map oc)) args K e s
theorem ent82_ok {args : List AV} {K : AV → List AV → Sto → Prop} {Q : Kt} {e : List AV} {s : Sto} (h : ent82 args K e s) : pcall Try.prog 82 args K Q e s := entU_ok (fun aa h => pf82 aa.1 aa.2.1 aa.2.2.1 aa.2.2.2 h) (fun aa r x ⟨_, _, hr, _⟩ => ⟨_, hr⟩) h
theorem eq82 {l : List Od} {a : Nat} {b : Nat} {lim : Int} {gg : Nat} {KK : AV → List AV → Sto → Prop} {ee : List AV} {ss : Sto} : ent82 [.own gg 101 7 (l.map oc), .d (.i (a : Int)), .d (.i (b : Int)), .d (.i lim), .d (cl67)] KK ee ss = (((a ≤ b ∧ b ≤ l.length ∧ l.length ≤ 1000) ∧ b ≤ a + 12) ∧ upOk gg 101 7 (l.map oc) ee ss ∧ ∀ (l' : List Od), (Swp a b l l' ∧ SrtI ky a b l') → KK (.d (.tup [])) (ee.map (AV.ups gg (l'.map oc))) (ss.ups gg (l'.map oc))) := by
  unfold ent82
  exact Eq.trans (entU_iff (g := gg) (l, a, b, lim) (by intro b h1 h2; first | (simpa [Prod.ext_iff, and_assoc, Int.ofNat_inj, ints_inj, cals_inj, pcs_inj, skas_inj, scos_inj, ska_inj, rul_inj, sco_inj, cal_inj, ods_inj, od_inj] using And.intro h1 h2) | (simp [Prod.ext_iff, and_assoc, Int.ofNat_inj, ints_inj, cals_inj, pcs_inj, skas_inj, scos_inj, ska_inj, rul_inj, sco_inj, cal_inj, ods_inj, od_inj] at h1 h2 ⊢; simp_all)) rfl) (propext ⟨fun ⟨h1, h2, h3⟩ => ⟨h1, h2, fun l' hq => h3 _ _ ⟨l', hq, rfl, rfl⟩⟩, fun ⟨h1, h2, h3⟩ => ⟨h1, h2, fun r x ⟨l', hq, e1, e2⟩ => by subst e1; subst e2; exact h3 l' hq⟩⟩)
end Go.Proofs.Ytapglfcaghlpfaa.S0
