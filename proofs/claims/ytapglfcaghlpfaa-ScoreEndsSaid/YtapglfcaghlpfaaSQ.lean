/- A part of the proof that the last text ends: what functions of the program do, told by plain data. -/
import Derived.Test.YtapglfcaghlpfaaSM
set_option linter.unusedVariables false
set_option linter.unusedSimpArgs false
namespace Go.Proofs.Ytapglfcaghlpfaa
open Go Go.E Go.Maps
set_option maxRecDepth 100000
set_option maxHeartbeats 8000000
/-! ### A list with another mark -/
def O46 : Nat → Sch := fun id => .done
theorem ho46 : Try.f46.body.map (okO O46) = some true := by kernel_rfl
def Cf46 : Nat → List AV → (AV → List AV → Sto → Prop) → Kt → List AV → Sto → Prop := fun f args K Q e s => match f with
  | _ => False
def Ct46 : CT := { f := Cf46, y := noYld, z := fun d => false }
theorem ctz46 {d : Nat} : CT.z Ct46 d = (false) := id rfl
theorem Ct46_ok : Ct46.ok Try.prog := ok_of_f (fun f args K Q e s h => by
  have h : Cf46 f args K Q e s := h
  unfold Cf46 at h; split at h
  · exact h.elim) (fun _ _ _ _ _ _ _ _ _ h => h)
theorem c46 : callable Try.prog 46 = true := by kernel_rfl
theorem pf46 (l : List Int) (j : Nat) (m : Int) (h : j < l.length ∧ l.length ≤ 1000) : PF Try.prog 46 [.sl 1 (l.map ic), .i (j : Int), .i m] (fun zz => zz = .ret (.sl 1 ((l.set j m).map ic))) := by
  obtain ⟨h1, h2⟩ := h
  have h1' : (j : Int) < l.length := by omega
  have hs : (l.map ic).set j [D.v (Value.int .i64 m)] = (l.set j m).map ic := by rw [List.map_set]
  refine PF_nil (PF_start (O := O46) Ct46_ok hmix ho46 Try.func46 c46 rfl Try.ntmps46 Try.results46 ?_)
  simp (maxSteps := 4000000) +contextual (disch := first | omega | exact qdb_ok (by kernel_rfl) | exact okb_ok (by kernel_rfl)) only [bw1,bw2,bw3,bw4,bw5,bw6,bw7,bc0,bc1,bc2,bc3,bc4,bc5,bc6,bc7,setPs,AV.owns,AV.datF,AV.frz,AV.cpy,ifV,isEqB,nilV,nilX,AV.isNilS,AV.isNoRows,wk,dclo,datOf,binIs,addF,AV.isPtr,idxV,AV.isSl,AV.isSlice,AV.rows,ps,pv,extV,extS,AV.outs,AV.outF,packD,AV.dl,fieldV,fieldS,AV.cells?,AV.upr,AV.menc,AV.one,D.one,Value.oneCell',tagOf,AV.isApp,strV,strS,bolV,bolS,slcV,AV.isSlD,asrtS,AV.dcells,D.cells?,stcV,stcS,leafOk,eqDs,eqD,packA,D.val?,↓reduceIte,reduceCtorEq,Nat.reduceAdd,Nat.reduceSub,Nat.reduceMul,List.reduceReplicate,Nat.reduceLeDiff,Nat.reduceLT,Nat.reduceBEq,Nat.reduceEqDiff,Int.reduceNeg,Int.reduceEq,Int.reduceLE,Int.reduceLT,tfb,ctz46,h1', hs]
  and_intros <;> first | omega | rfl
def ent46 (args : List AV) (K : AV → List AV → Sto → Prop) (e : List AV) (s : Sto) : Prop := ent (α := (List Int) × (Nat) × (Int)) (fun aa => [.sl 1 (aa.1.map ic), .i (aa.2.1 : Int), .i aa.2.2]) (fun aa => aa.2.1 < aa.1.length ∧ aa.1.length ≤ 1000) (fun aa => .sl 1 ((aa.1.set aa.2.1 aa.2.2).map ic)) args K e s
theorem ent46_ok {args : List AV} {K : AV → List AV → Sto → Prop} {Q : Kt} {e : List AV} {s : Sto} (h : ent46 args K e s) : pcall Try.prog 46 args K Q e s := ent_ok (fun aa h => pf46 aa.1 aa.2.1 aa.2.2 h) h
theorem eq46 {l : List Int} {j : Nat} {m : Int} {KK : AV → List AV → Sto → Prop} {ee : List AV} {ss : Sto} : ent46 [.d (.sl 1 (l.map ic)), .d (.i (j : Int)), .d (.i m)] KK ee ss = ((j < l.length ∧ l.length ≤ 1000) ∧ KK (.d (.sl 1 ((l.set j m).map ic))) ee ss) := by
  unfold ent46; rw [ent_iff (l, j, m) (by intro b h; simpa [Prod.ext_iff, and_assoc, Int.ofNat_inj, ints_inj, cals_inj, pcs_inj, skas_inj, scos_inj, ska_inj, rul_inj, sco_inj, cal_inj] using h) rfl]; simp
theorem eqo46 {l : List Int} {j : Nat} {m : Int} {g1 el1 : Nat} {KK : AV → List AV → Sto → Prop} {ee : List AV} {ss : Sto} : ent46 [.own g1 el1 1 (l.map ic), .d (.i (j : Int)), .d (.i m)] KK ee ss = ((j < l.length ∧ l.length ≤ 1000) ∧ (.sl 1 ((l.set j m).map ic) : D).flat = true ∧ KK (.d (.sl 1 ((l.set j m).map ic))) ee ss) := by
  unfold ent46; rw [ent_iff (l, j, m) (by intro b h; simpa [Prod.ext_iff, and_assoc, Int.ofNat_inj, ints_inj, cals_inj, pcs_inj, skas_inj, scos_inj, ska_inj, rul_inj, sco_inj, cal_inj] using h) rfl]; simp
end Go.Proofs.Ytapglfcaghlpfaa
