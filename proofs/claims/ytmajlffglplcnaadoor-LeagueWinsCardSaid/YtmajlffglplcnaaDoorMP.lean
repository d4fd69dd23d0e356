/- A part of the proof that the last text ends: what functions of the program do, told by plain data. -/
import Derived.Test.YtmajlffglplcnaaDoorMO
import Derived.Test.YtmajlffglplcnaaDoorEc
set_option linter.unusedVariables false
set_option linter.unusedSimpArgs false
namespace Go.Proofs.YtmajlffglplcnaaDoor
open Go Go.E
set_option maxRecDepth 100000
set_option maxHeartbeats 16000000
structure Row where
  s : Std
  am : Int
  deriving Inhabited, DecidableEq
abbrev oc (x : Row) : List D := rwc x.s x.am
theorem oc_inj {a b : Row} (h : oc a = oc b) : a = b := by
  obtain ⟨⟨a1, a2, a3, a4, a5⟩, a6⟩ := a
  obtain ⟨⟨b1, b2, b3, b4, b5⟩, b6⟩ := b
  simp at h; simp [h]
theorem ocs_inj {a b : List Row} : (a.map oc = b.map oc) = (a = b) := inj_map fun _ _ h => oc_inj h
theorem row_inj {a b : Row} : (a.s.team = b.s.team ∧ a.s.games = b.s.games ∧ a.s.pts = b.s.pts ∧ a.s.gf = b.s.gf ∧ a.s.ga = b.s.ga ∧ a.am = b.am) = (a = b) := by
  obtain ⟨⟨a1, a2, a3, a4, a5⟩, a6⟩ := a
  obtain ⟨⟨b1, b2, b3, b4, b5⟩, b6⟩ := b
  simp [and_assoc]
def cmpI (a b : Int) : Int := if a < b then -1 else if b < a then 1 else 0
def O61 : Nat → Sch := fun id => .done
theorem ho61 : Tryd.f61.body.map (okO O61) = some true := by kernel_rfl
def Cf61 : Nat → List AV → (AV → List AV → Sto → Prop) → Kt → List AV → Sto → Prop := fun f args K Q e s => match f with
  | _ => False
def Ct61 : CT := { f := Cf61, y := noYld, z := fun d => false }
theorem ctz61 {d : Nat} : CT.z Ct61 d = (false) := id rfl
theorem Ct61_ok : Ct61.ok Tryd.prog := ok_of_f (fun f args K Q e s h => by
  have h : Cf61 f args K Q e s := h
  unfold Cf61 at h; split at h
  · exact h.elim) (fun _ _ _ _ _ _ _ _ _ h => h)
theorem c61 : callable Tryd.prog 61 = true := by kernel_rfl
theorem pf61 (x : Int) : PF Tryd.prog 61 [.i x] (fun zz => zz = .ret (.b false)) := by
  have hx : (x != x) = false := by simp
  refine PF_nil (PF_start (O := O61) Ct61_ok hmix ho61 Tryd.func61 c61 rfl Tryd.ntmps61 Tryd.results61 ?_)
  simp (maxSteps := 4000000) +contextual (disch := first | omega | exact qdb_ok (by kernel_rfl) | exact okb_ok (by kernel_rfl)) only [bw1,bw2,bw3,bw4,bw5,bw6,bw7,bc0,bc1,bc2,bc3,bc4,bc5,bc6,bc7,bb0,setPs,AV.owns,AV.datF,AV.frz,AV.cpy,ifV,isEqB,nilV,nilX,AV.isNilS,AV.isNoRows,wk,dclo,datOf,binIs,addF,AV.isPtr,idxV,AV.isSl,AV.isSlice,AV.rows,ps,pv,extV,extS,AV.outs,AV.outF,packD,AV.dl,fieldV,fieldS,AV.cells?,AV.upr,AV.menc,AV.one,D.one,Value.oneCell',tagOf,AV.isApp,strV,strS,bolV,bolS,slcV,AV.isSlD,asrtS,AV.dcells,D.cells?,stcV,stcS,leafOk,eqDs,eqD,packA,D.val?,↓reduceIte,reduceCtorEq,Nat.reduceAdd,Nat.reduceSub,Nat.reduceMul,List.reduceReplicate,Nat.reduceLeDiff,Nat.reduceLT,Nat.reduceBEq,Nat.reduceEqDiff,Int.reduceNeg,Int.reduceEq,Int.reduceLE,Int.reduceLT,tfb,ctz61,hx]
def ent61 (args : List AV) (K : AV → List AV → Sto → Prop) (e : List AV) (s : Sto) : Prop := ent (α := (Int)) (fun aa => [.i aa]) (fun aa => True) (fun aa => .b false) args K e s
theorem ent61_ok {args : List AV} {K : AV → List AV → Sto → Prop} {Q : Kt} {e : List AV} {s : Sto} (h : ent61 args K e s) : pcall Tryd.prog 61 args K Q e s := ent_ok (fun aa h => pf61 aa) h
theorem eq61 {x : Int} {KK : AV → List AV → Sto → Prop} {ee : List AV} {ss : Sto} : ent61 [.d (.i x)] KK ee ss = (KK (.d (.b false)) ee ss) := by
  unfold ent61; rw [ent_iff x (by intro b h; simpa [Prod.ext_iff, and_assoc, Int.ofNat_inj, ints_inj, gams_inj, fars_inj, gam_inj, lea_inj, Int.ofNat_inj, ints_inj, gams_inj, fars_inj, gam_inj, lea_inj, stds_inj, std_inj, Int.ofNat_inj, ints_inj, gams_inj, fars_inj, gam_inj, lea_inj, tv_inj, ocs_inj, row_inj] using h) rfl]; simp
def O36 : Nat → Sch := fun id => .done
theorem ho36 : Tryd.f36.body.map (okO O36) = some true := by kernel_rfl
def Cf36 : Nat → List AV → (AV → List AV → Sto → Prop) → Kt → List AV → Sto → Prop := fun f args K Q e s => match f with
  | 61 => ent61 args K e s
  | _ => False
def Ct36 : CT := { f := Cf36, y := noYld, z := fun d => false }
theorem ctz36 {d : Nat} : CT.z Ct36 d = (false) := id rfl
theorem Ct36_ok : Ct36.ok Tryd.prog := ok_of_f (fun f args K Q e s h => by
  have h : Cf36 f args K Q e s := h
  unfold Cf36 at h; split at h
  · exact ent61_ok h
  · exact h.elim) (fun _ _ _ _ _ _ _ _ _ h => h)
theorem x36_61 {x : Int} {KK : AV → List AV → Sto → Prop} {QQ : Kt} {ii : At KK} {jj : At QQ} {ee : List AV} {ss : Sto} : xC Ct36 61 [.d (.i x)] KK QQ ii jj ee ss = (KK (.d (.b false)) ee ss) := eq61
theorem c36 : callable Tryd.prog 36 = true := by kernel_rfl
theorem pf36 (a b : Int) : PF Tryd.prog 36 [.i a, .i b] (fun zz => zz = .ret (.i (cmpI a b))) := by
  unfold cmpI
  by_cases h1 : a < b
  · rw [if_pos h1]
    refine PF_nil (PF_start (O := O36) Ct36_ok hmix ho36 Tryd.func36 c36 rfl Tryd.ntmps36 Tryd.results36 ?_)
    simp (maxSteps := 4000000) +contextual (disch := first | omega | exact qdb_ok (by kernel_rfl) | exact okb_ok (by kernel_rfl)) only [bw1,bw2,bw3,bw4,bw5,bw6,bw7,bc0,bc1,bc2,bc3,bc4,bc5,bc6,bc7,bb0,setPs,AV.owns,AV.datF,AV.frz,AV.cpy,ifV,isEqB,nilV,nilX,AV.isNilS,AV.isNoRows,wk,dclo,datOf,binIs,addF,AV.isPtr,idxV,AV.isSl,AV.isSlice,AV.rows,ps,pv,extV,extS,AV.outs,AV.outF,packD,AV.dl,fieldV,fieldS,AV.cells?,AV.upr,AV.menc,AV.one,D.one,Value.oneCell',tagOf,AV.isApp,strV,strS,bolV,bolS,slcV,AV.isSlD,asrtS,AV.dcells,D.cells?,stcV,stcS,leafOk,eqDs,eqD,packA,D.val?,↓reduceIte,reduceCtorEq,Nat.reduceAdd,Nat.reduceSub,Nat.reduceMul,List.reduceReplicate,Nat.reduceLeDiff,Nat.reduceLT,Nat.reduceBEq,Nat.reduceEqDiff,Int.reduceNeg,Int.reduceEq,Int.reduceLE,Int.reduceLT,tfb,ctz36,x36_61,h1]
  rw [if_neg h1]
  by_cases h2 : b < a
  · rw [if_pos h2]
    refine PF_nil (PF_start (O := O36) Ct36_ok hmix ho36 Tryd.func36 c36 rfl Tryd.ntmps36 Tryd.results36 ?_)
    simp (maxSteps := 4000000) +contextual (disch := first | omega | exact qdb_ok (by kernel_rfl) | exact okb_ok (by kernel_rfl)) only [bw1,bw2,bw3,bw4,bw5,bw6,bw7,bc0,bc1,bc2,bc3,bc4,bc5,bc6,bc7,bb0,setPs,AV.owns,AV.datF,AV.frz,AV.cpy,ifV,isEqB,nilV,nilX,AV.isNilS,AV.isNoRows,wk,dclo,datOf,binIs,addF,AV.isPtr,idxV,AV.isSl,AV.isSlice,AV.rows,ps,pv,extV,extS,AV.outs,AV.outF,packD,AV.dl,fieldV,fieldS,AV.cells?,AV.upr,AV.menc,AV.one,D.one,Value.oneCell',tagOf,AV.isApp,strV,strS,bolV,bolS,slcV,AV.isSlD,asrtS,AV.dcells,D.cells?,stcV,stcS,leafOk,eqDs,eqD,packA,D.val?,↓reduceIte,reduceCtorEq,Nat.reduceAdd,Nat.reduceSub,Nat.reduceMul,List.reduceReplicate,Nat.reduceLeDiff,Nat.reduceLT,Nat.reduceBEq,Nat.reduceEqDiff,Int.reduceNeg,Int.reduceEq,Int.reduceLE,Int.reduceLT,tfb,ctz36,x36_61,h1, h2]
  rw [if_neg h2]
  refine PF_nil (PF_start (O := O36) Ct36_ok hmix ho36 Tryd.func36 c36 rfl Tryd.ntmps36 Tryd.results36 ?_)
  simp (maxSteps := 4000000) +contextual (disch := first | omega | exact qdb_ok (by kernel_rfl) | exact okb_ok (by kernel_rfl)) only [bw1,bw2,bw3,bw4,bw5,bw6,bw7,bc0,bc1,bc2,bc3,bc4,bc5,bc6,bc7,bb0,setPs,AV.owns,AV.datF,AV.frz,AV.cpy,ifV,isEqB,nilV,nilX,AV.isNilS,AV.isNoRows,wk,dclo,datOf,binIs,addF,AV.isPtr,idxV,AV.isSl,AV.isSlice,AV.rows,ps,pv,extV,extS,AV.outs,AV.outF,packD,AV.dl,fieldV,fieldS,AV.cells?,AV.upr,AV.menc,AV.one,D.one,Value.oneCell',tagOf,AV.isApp,strV,strS,bolV,bolS,slcV,AV.isSlD,asrtS,AV.dcells,D.cells?,stcV,stcS,leafOk,eqDs,eqD,packA,D.val?,↓reduceIte,reduceCtorEq,Nat.reduceAdd,Nat.reduceSub,Nat.reduceMul,List.reduceReplicate,Nat.reduceLeDiff,Nat.reduceLT,Nat.reduceBEq,Nat.reduceEqDiff,Int.reduceNeg,Int.reduceEq,Int.reduceLE,Int.reduceLT,tfb,ctz36,x36_61,h1, h2]
def kf (i : Nat) (x : Row) : Int := match i with | 0 => x.s.pts | 1 => x.am | 2 => x.s.gf - x.s.ga | 3 => x.s.gf | _ => -x.s.team
def RowOk (x : Row) : Prop := StB x.s 64 ∧ (0 ≤ x.am ∧ x.am ≤ 192) ∧ 0 ≤ x.s.team ∧ x.s.team ≤ 5
def ent36 (args : List AV) (K : AV → List AV → Sto → Prop) (e : List AV) (s : Sto) : Prop := ent (α := (Int) × (Int)) (fun aa => [.i aa.1, .i aa.2]) (fun aa => True) (fun aa => .i (cmpI aa.1 aa.2)) args K e s
theorem ent36_ok {args : List AV} {K : AV → List AV → Sto → Prop} {Q : Kt} {e : List AV} {s : Sto} (h : ent36 args K e s) : pcall Tryd.prog 36 args K Q e s := ent_ok (fun aa h => pf36 aa.1 aa.2) h
theorem eq36 {a : Int} {b : Int} {KK : AV → List AV → Sto → Prop} {ee : List AV} {ss : Sto} : ent36 [.d (.i a), .d (.i b)] KK ee ss = (KK (.d (.i (cmpI a b))) ee ss) := by
  unfold ent36; rw [ent_iff (a, b) (by intro b h; simpa [Prod.ext_iff, and_assoc, Int.ofNat_inj, ints_inj, gams_inj, fars_inj, gam_inj, lea_inj, Int.ofNat_inj, ints_inj, gams_inj, fars_inj, gam_inj, lea_inj, stds_inj, std_inj, Int.ofNat_inj, ints_inj, gams_inj, fars_inj, gam_inj, lea_inj, tv_inj, ocs_inj, row_inj] using h) rfl]; simp
def O38 : Nat → Sch := fun id => .done
theorem ho38 : Tryd.f38.body.map (okO O38) = some true := by kernel_rfl
def Cf38 : Nat → List AV → (AV → List AV → Sto → Prop) → Kt → List AV → Sto → Prop := fun f args K Q e s => match f with
  | _ => False
def Ct38 : CT := { f := Cf38, y := noYld, z := fun d => false }
theorem ctz38 {d : Nat} : CT.z Ct38 d = (false) := id rfl
theorem Ct38_ok : Ct38.ok Tryd.prog := ok_of_f (fun f args K Q e s h => by
  have h : Cf38 f args K Q e s := h
  unfold Cf38 at h; split at h
  · exact h.elim) (fun _ _ _ _ _ _ _ _ _ h => h)
theorem c38 : callable Tryd.prog 38 = true := by kernel_rfl
theorem pf38 (x : Row) : PF Tryd.prog 38 [.agg (oc x)] (fun zz => zz = .ret (.i (kf 0 x))) := by
  refine PF_nil (PF_start (O := O38) Ct38_ok hmix ho38 Tryd.func38 c38 rfl Tryd.ntmps38 Tryd.results38 ?_)
  simp (maxSteps := 4000000) +contextual (disch := first | omega | exact qdb_ok (by kernel_rfl) | exact okb_ok (by kernel_rfl)) only [bw1,bw2,bw3,bw4,bw5,bw6,bw7,bc0,bc1,bc2,bc3,bc4,bc5,bc6,bc7,bb0,setPs,AV.owns,AV.datF,AV.frz,AV.cpy,ifV,isEqB,nilV,nilX,AV.isNilS,AV.isNoRows,wk,dclo,datOf,binIs,addF,AV.isPtr,idxV,AV.isSl,AV.isSlice,AV.rows,ps,pv,extV,extS,AV.outs,AV.outF,packD,AV.dl,fieldV,fieldS,AV.cells?,AV.upr,AV.menc,AV.one,D.one,Value.oneCell',tagOf,AV.isApp,strV,strS,bolV,bolS,slcV,AV.isSlD,asrtS,AV.dcells,D.cells?,stcV,stcS,leafOk,eqDs,eqD,packA,D.val?,↓reduceIte,reduceCtorEq,Nat.reduceAdd,Nat.reduceSub,Nat.reduceMul,List.reduceReplicate,Nat.reduceLeDiff,Nat.reduceLT,Nat.reduceBEq,Nat.reduceEqDiff,Int.reduceNeg,Int.reduceEq,Int.reduceLE,Int.reduceLT,tfb,ctz38]
  rfl
def ent38 (args : List AV) (K : AV → List AV → Sto → Prop) (e : List AV) (s : Sto) : Prop := ent (α := (Row)) (fun aa => [.agg (oc aa)]) (fun aa => True) (fun aa => .i (kf 0 aa)) args K e s
theorem ent38_ok {args : List AV} {K : AV → List AV → Sto → Prop} {Q : Kt} {e : List AV} {s : Sto} (h : ent38 args K e s) : pcall Tryd.prog 38 args K Q e s := ent_ok (fun aa h => pf38 aa) h
theorem eq38 {x : Row} {KK : AV → List AV → Sto → Prop} {ee : List AV} {ss : Sto} : ent38 [.d (.agg (oc x))] KK ee ss = (KK (.d (.i (kf 0 x))) ee ss) := by
  unfold ent38; rw [ent_iff x (by intro b h; simpa [Prod.ext_iff, and_assoc, Int.ofNat_inj, ints_inj, gams_inj, fars_inj, gam_inj, lea_inj, Int.ofNat_inj, ints_inj, gams_inj, fars_inj, gam_inj, lea_inj, stds_inj, std_inj, Int.ofNat_inj, ints_inj, gams_inj, fars_inj, gam_inj, lea_inj, tv_inj, ocs_inj, row_inj] using h) rfl]; simp
def O39 : Nat → Sch := fun id => .done
theorem ho39 : Tryd.f39.body.map (okO O39) = some true := by kernel_rfl
def Cf39 : Nat → List AV → (AV → List AV → Sto → Prop) → Kt → List AV → Sto → Prop := fun f args K Q e s => match f with
  | _ => False
def Ct39 : CT := { f := Cf39, y := noYld, z := fun d => false }
theorem ctz39 {d : Nat} : CT.z Ct39 d = (false) := id rfl
theorem Ct39_ok : Ct39.ok Tryd.prog := ok_of_f (fun f args K Q e s h => by
  have h : Cf39 f args K Q e s := h
  unfold Cf39 at h; split at h
  · exact h.elim) (fun _ _ _ _ _ _ _ _ _ h => h)
theorem c39 : callable Tryd.prog 39 = true := by kernel_rfl
theorem pf39 (x : Row) : PF Tryd.prog 39 [.agg (oc x)] (fun zz => zz = .ret (.i (kf 1 x))) := by
  refine PF_nil (PF_start (O := O39) Ct39_ok hmix ho39 Tryd.func39 c39 rfl Tryd.ntmps39 Tryd.results39 ?_)
  simp (maxSteps := 4000000) +contextual (disch := first | omega | exact qdb_ok (by kernel_rfl) | exact okb_ok (by kernel_rfl)) only [bw1,bw2,bw3,bw4,bw5,bw6,bw7,bc0,bc1,bc2,bc3,bc4,bc5,bc6,bc7,bb0,setPs,AV.owns,AV.datF,AV.frz,AV.cpy,ifV,isEqB,nilV,nilX,AV.isNilS,AV.isNoRows,wk,dclo,datOf,binIs,addF,AV.isPtr,idxV,AV.isSl,AV.isSlice,AV.rows,ps,pv,extV,extS,AV.outs,AV.outF,packD,AV.dl,fieldV,fieldS,AV.cells?,AV.upr,AV.menc,AV.one,D.one,Value.oneCell',tagOf,AV.isApp,strV,strS,bolV,bolS,slcV,AV.isSlD,asrtS,AV.dcells,D.cells?,stcV,stcS,leafOk,eqDs,eqD,packA,D.val?,↓reduceIte,reduceCtorEq,Nat.reduceAdd,Nat.reduceSub,Nat.reduceMul,List.reduceReplicate,Nat.reduceLeDiff,Nat.reduceLT,Nat.reduceBEq,Nat.reduceEqDiff,Int.reduceNeg,Int.reduceEq,Int.reduceLE,Int.reduceLT,tfb,ctz39]
  rfl
def ent39 (args : List AV) (K : AV → List AV → Sto → Prop) (e : List AV) (s : Sto) : Prop := ent (α := (Row)) (fun aa => [.agg (oc aa)]) (fun aa => True) (fun aa => .i (kf 1 aa)) args K e s
theorem ent39_ok {args : List AV} {K : AV → List AV → Sto → Prop} {Q : Kt} {e : List AV} {s : Sto} (h : ent39 args K e s) : pcall Tryd.prog 39 args K Q e s := ent_ok (fun aa h => pf39 aa) h
theorem eq39 {x : Row} {KK : AV → List AV → Sto → Prop} {ee : List AV} {ss : Sto} : ent39 [.d (.agg (oc x))] KK ee ss = (KK (.d (.i (kf 1 x))) ee ss) := by
  unfold ent39; rw [ent_iff x (by intro b h; simpa [Prod.ext_iff, and_assoc, Int.ofNat_inj, ints_inj, gams_inj, fars_inj, gam_inj, lea_inj, Int.ofNat_inj, ints_inj, gams_inj, fars_inj, gam_inj, lea_inj, stds_inj, std_inj, Int.ofNat_inj, ints_inj, gams_inj, fars_inj, gam_inj, lea_inj, tv_inj, ocs_inj, row_inj] using h) rfl]; simp
def O40 : Nat → Sch := fun id => .done
theorem ho40 : Tryd.f40.body.map (okO O40) = some true := by kernel_rfl
def Cf40 : Nat → List AV → (AV → List AV → Sto → Prop) → Kt → List AV → Sto → Prop := fun f args K Q e s => match f with
  | _ => False
def Ct40 : CT := { f := Cf40, y := noYld, z := fun d => false }
theorem ctz40 {d : Nat} : CT.z Ct40 d = (false) := id rfl
theorem Ct40_ok : Ct40.ok Tryd.prog := ok_of_f (fun f args K Q e s h => by
  have h : Cf40 f args K Q e s := h
  unfold Cf40 at h; split at h
  · exact h.elim) (fun _ _ _ _ _ _ _ _ _ h => h)
theorem c40 : callable Tryd.prog 40 = true := by kernel_rfl
theorem pf40 (x : Row) (h : RowOk x) : PF Tryd.prog 40 [.agg (oc x)] (fun zz => zz = .ret (.i (kf 2 x))) := by
  have hb := h.1
  unfold StB at hb
  refine PF_nil (PF_start (O := O40) Ct40_ok hmix ho40 Tryd.func40 c40 rfl Tryd.ntmps40 Tryd.results40 ?_)
  simp (maxSteps := 4000000) +contextual (disch := first | omega | exact qdb_ok (by kernel_rfl) | exact okb_ok (by kernel_rfl)) only [bw1,bw2,bw3,bw4,bw5,bw6,bw7,bc0,bc1,bc2,bc3,bc4,bc5,bc6,bc7,bb0,setPs,AV.owns,AV.datF,AV.frz,AV.cpy,ifV,isEqB,nilV,nilX,AV.isNilS,AV.isNoRows,wk,dclo,datOf,binIs,addF,AV.isPtr,idxV,AV.isSl,AV.isSlice,AV.rows,ps,pv,extV,extS,AV.outs,AV.outF,packD,AV.dl,fieldV,fieldS,AV.cells?,AV.upr,AV.menc,AV.one,D.one,Value.oneCell',tagOf,AV.isApp,strV,strS,bolV,bolS,slcV,AV.isSlD,asrtS,AV.dcells,D.cells?,stcV,stcS,leafOk,eqDs,eqD,packA,D.val?,↓reduceIte,reduceCtorEq,Nat.reduceAdd,Nat.reduceSub,Nat.reduceMul,List.reduceReplicate,Nat.reduceLeDiff,Nat.reduceLT,Nat.reduceBEq,Nat.reduceEqDiff,Int.reduceNeg,Int.reduceEq,Int.reduceLE,Int.reduceLT,tfb,ctz40]
  rfl
def ent40 (args : List AV) (K : AV → List AV → Sto → Prop) (e : List AV) (s : Sto) : Prop := ent (α := (Row)) (fun aa => [.agg (oc aa)]) (fun aa => RowOk aa) (fun aa => .i (kf 2 aa)) args K e s
theorem ent40_ok {args : List AV} {K : AV → List AV → Sto → Prop} {Q : Kt} {e : List AV} {s : Sto} (h : ent40 args K e s) : pcall Tryd.prog 40 args K Q e s := ent_ok (fun aa h => pf40 aa h) h
theorem eq40 {x : Row} {KK : AV → List AV → Sto → Prop} {ee : List AV} {ss : Sto} : ent40 [.d (.agg (oc x))] KK ee ss = ((RowOk x) ∧ KK (.d (.i (kf 2 x))) ee ss) := by
  unfold ent40; rw [ent_iff x (by intro b h; simpa [Prod.ext_iff, and_assoc, Int.ofNat_inj, ints_inj, gams_inj, fars_inj, gam_inj, lea_inj, Int.ofNat_inj, ints_inj, gams_inj, fars_inj, gam_inj, lea_inj, stds_inj, std_inj, Int.ofNat_inj, ints_inj, gams_inj, fars_inj, gam_inj, lea_inj, tv_inj, ocs_inj, row_inj] using h) rfl]; simp
def O41 : Nat → Sch := fun id => .done
theorem ho41 : Tryd.f41.body.map (okO O41) = some true := by kernel_rfl
def Cf41 : Nat → List AV → (AV → List AV → Sto → Prop) → Kt → List AV → Sto → Prop := fun f args K Q e s => match f with
  | _ => False
def Ct41 : CT := { f := Cf41, y := noYld, z := fun d => false }
theorem ctz41 {d : Nat} : CT.z Ct41 d = (false) := id rfl
theorem Ct41_ok : Ct41.ok Tryd.prog := ok_of_f (fun f args K Q e s h => by
  have h : Cf41 f args K Q e s := h
  unfold Cf41 at h; split at h
  · exact h.elim) (fun _ _ _ _ _ _ _ _ _ h => h)
theorem c41 : callable Tryd.prog 41 = true := by kernel_rfl
theorem pf41 (x : Row) : PF Tryd.prog 41 [.agg (oc x)] (fun zz => zz = .ret (.i (kf 3 x))) := by
  refine PF_nil (PF_start (O := O41) Ct41_ok hmix ho41 Tryd.func41 c41 rfl Tryd.ntmps41 Tryd.results41 ?_)
  simp (maxSteps := 4000000) +contextual (disch := first | omega | exact qdb_ok (by kernel_rfl) | exact okb_ok (by kernel_rfl)) only [bw1,bw2,bw3,bw4,bw5,bw6,bw7,bc0,bc1,bc2,bc3,bc4,bc5,bc6,bc7,bb0,setPs,AV.owns,AV.datF,AV.frz,AV.cpy,ifV,isEqB,nilV,nilX,AV.isNilS,AV.isNoRows,wk,dclo,datOf,binIs,addF,AV.isPtr,idxV,AV.isSl,AV.isSlice,AV.rows,ps,pv,extV,extS,AV.outs,AV.outF,packD,AV.dl,fieldV,fieldS,AV.cells?,AV.upr,AV.menc,AV.one,D.one,Value.oneCell',tagOf,AV.isApp,strV,strS,bolV,bolS,slcV,AV.isSlD,asrtS,AV.dcells,D.cells?,stcV,stcS,leafOk,eqDs,eqD,packA,D.val?,↓reduceIte,reduceCtorEq,Nat.reduceAdd,Nat.reduceSub,Nat.reduceMul,List.reduceReplicate,Nat.reduceLeDiff,Nat.reduceLT,Nat.reduceBEq,Nat.reduceEqDiff,Int.reduceNeg,Int.reduceEq,Int.reduceLE,Int.reduceLT,tfb,ctz41]
  rfl
def ent41 (args : List AV) (K : AV → List AV → Sto → Prop) (e : List AV) (s : Sto) : Prop := ent (α := (Row)) (fun aa => [.agg (oc aa)]) (fun aa => True) (fun aa => .i (kf 3 aa)) args K e s
theorem ent41_ok {args : List AV} {K : AV → List AV → Sto → Prop} {Q : Kt} {e : List AV} {s : Sto} (h : ent41 args K e s) : pcall Tryd.prog 41 args K Q e s := ent_ok (fun aa h => pf41 aa) h
theorem eq41 {x : Row} {KK : AV → List AV → Sto → Prop} {ee : List AV} {ss : Sto} : ent41 [.d (.agg (oc x))] KK ee ss = (KK (.d (.i (kf 3 x))) ee ss) := by
  unfold ent41; rw [ent_iff x (by intro b h; simpa [Prod.ext_iff, and_assoc, Int.ofNat_inj, ints_inj, gams_inj, fars_inj, gam_inj, lea_inj, Int.ofNat_inj, ints_inj, gams_inj, fars_inj, gam_inj, lea_inj, stds_inj, std_inj, Int.ofNat_inj, ints_inj, gams_inj, fars_inj, gam_inj, lea_inj, tv_inj, ocs_inj, row_inj] using h) rfl]; simp
def O42 : Nat → Sch := fun id => .done
theorem ho42 : Tryd.f42.body.map (okO O42) = some true := by kernel_rfl
def Cf42 : Nat → List AV → (AV → List AV → Sto → Prop) → Kt → List AV → Sto → Prop := fun f args K Q e s => match f with
  | _ => False
def Ct42 : CT := { f := Cf42, y := noYld, z := fun d => false }
theorem ctz42 {d : Nat} : CT.z Ct42 d = (false) := id rfl
theorem Ct42_ok : Ct42.ok Tryd.prog := ok_of_f (fun f args K Q e s h => by
  have h : Cf42 f args K Q e s := h
  unfold Cf42 at h; split at h
  · exact h.elim) (fun _ _ _ _ _ _ _ _ _ h => h)
theorem c42 : callable Tryd.prog 42 = true := by kernel_rfl
theorem pf42 (x : Row) (h : RowOk x) : PF Tryd.prog 42 [.agg (oc x)] (fun zz => zz = .ret (.i (kf 4 x))) := by
  have hb := h.2.2
  refine PF_nil (PF_start (O := O42) Ct42_ok hmix ho42 Tryd.func42 c42 rfl Tryd.ntmps42 Tryd.results42 ?_)
  simp (maxSteps := 4000000) +contextual (disch := first | omega | exact qdb_ok (by kernel_rfl) | exact okb_ok (by kernel_rfl)) only [bw1,bw2,bw3,bw4,bw5,bw6,bw7,bc0,bc1,bc2,bc3,bc4,bc5,bc6,bc7,bb0,setPs,AV.owns,AV.datF,AV.frz,AV.cpy,ifV,isEqB,nilV,nilX,AV.isNilS,AV.isNoRows,wk,dclo,datOf,binIs,addF,AV.isPtr,idxV,AV.isSl,AV.isSlice,AV.rows,ps,pv,extV,extS,AV.outs,AV.outF,packD,AV.dl,fieldV,fieldS,AV.cells?,AV.upr,AV.menc,AV.one,D.one,Value.oneCell',tagOf,AV.isApp,strV,strS,bolV,bolS,slcV,AV.isSlD,asrtS,AV.dcells,D.cells?,stcV,stcS,leafOk,eqDs,eqD,packA,D.val?,↓reduceIte,reduceCtorEq,Nat.reduceAdd,Nat.reduceSub,Nat.reduceMul,List.reduceReplicate,Nat.reduceLeDiff,Nat.reduceLT,Nat.reduceBEq,Nat.reduceEqDiff,Int.reduceNeg,Int.reduceEq,Int.reduceLE,Int.reduceLT,tfb,ctz42]
  show 0 - x.s.team = -x.s.team
  omega
abbrev cw (i : Nat) : D := .v (.func (.func (i + 38)) #[] #[])
abbrev cl35 (i : Nat) : D := .clo (.func 35) [] [.ptr [cw i] 0]
def ent42 (args : List AV) (K : AV → List AV → Sto → Prop) (e : List AV) (s : Sto) : Prop := ent (α := (Row)) (fun aa => [.agg (oc aa)]) (fun aa => RowOk aa) (fun aa => .i (kf 4 aa)) args K e s
theorem ent42_ok {args : List AV} {K : AV → List AV → Sto → Prop} {Q : Kt} {e : List AV} {s : Sto} (h : ent42 args K e s) : pcall Tryd.prog 42 args K Q e s := ent_ok (fun aa h => pf42 aa h) h
theorem eq42 {x : Row} {KK : AV → List AV → Sto → Prop} {ee : List AV} {ss : Sto} : ent42 [.d (.agg (oc x))] KK ee ss = ((RowOk x) ∧ KK (.d (.i (kf 4 x))) ee ss) := by
  unfold ent42; rw [ent_iff x (by intro b h; simpa [Prod.ext_iff, and_assoc, Int.ofNat_inj, ints_inj, gams_inj, fars_inj, gam_inj, lea_inj, Int.ofNat_inj, ints_inj, gams_inj, fars_inj, gam_inj, lea_inj, stds_inj, std_inj, Int.ofNat_inj, ints_inj, gams_inj, fars_inj, gam_inj, lea_inj, tv_inj, ocs_inj, row_inj] using h) rfl]; simp
def O35 : Nat → Sch := fun id => if id = 1 then .one 0 (.one 1 (.alt (.one 2 (.one 3 (.one 4 (.one 5 (.one 6 (.one 7 (.done))))))) (.alt (.one 3 (.alt (.one 2 (.one 4 (.one 5 (.one 6 (.one 7 (.done)))))) (.one 4 (.one 2 (.one 5 (.one 6 (.one 7 (.done)))))))) (.one 4 (.alt (.one 2 (.one 3 (.one 5 (.one 6 (.one 7 (.done)))))) (.one 3 (.one 2 (.one 5 (.one 6 (.one 7 (.done))))))))))) else .done
theorem O35_1 : O35 1 = .one 0 (.one 1 (.alt (.one 2 (.one 3 (.one 4 (.one 5 (.one 6 (.one 7 (.done))))))) (.alt (.one 3 (.alt (.one 2 (.one 4 (.one 5 (.one 6 (.one 7 (.done)))))) (.one 4 (.one 2 (.one 5 (.one 6 (.one 7 (.done)))))))) (.one 4 (.alt (.one 2 (.one 3 (.one 5 (.one 6 (.one 7 (.done)))))) (.one 3 (.one 2 (.one 5 (.one 6 (.one 7 (.done))))))))))) := rfl
theorem ho35 : Tryd.f35.body.map (okO O35) = some true := by kernel_rfl
def Cf35 : Nat → List AV → (AV → List AV → Sto → Prop) → Kt → List AV → Sto → Prop := fun f args K Q e s => match f with
  | 36 => ent36 args K e s
  | 38 => ent38 args K e s
  | 39 => ent39 args K e s
  | 40 => ent40 args K e s
  | 41 => ent41 args K e s
  | 42 => ent42 args K e s
  | _ => False
def Ct35 : CT := { f := Cf35, y := noYld, z := fun d => false }
theorem ctz35 {d : Nat} : CT.z Ct35 d = (false) := id rfl
theorem Ct35_ok : Ct35.ok Tryd.prog := ok_of_f (fun f args K Q e s h => by
  have h : Cf35 f args K Q e s := h
  unfold Cf35 at h; split at h
  · exact ent36_ok h
  · exact ent38_ok h
  · exact ent39_ok h
  · exact ent40_ok h
  · exact ent41_ok h
  · exact ent42_ok h
  · exact h.elim) (fun _ _ _ _ _ _ _ _ _ h => h)
theorem x35_36 {a : Int} {b : Int} {KK : AV → List AV → Sto → Prop} {QQ : Kt} {ii : At KK} {jj : At QQ} {ee : List AV} {ss : Sto} : xC Ct35 36 [.d (.i a), .d (.i b)] KK QQ ii jj ee ss = (KK (.d (.i (cmpI a b))) ee ss) := eq36
theorem x35_38 {x : Row} {KK : AV → List AV → Sto → Prop} {QQ : Kt} {ii : At KK} {jj : At QQ} {ee : List AV} {ss : Sto} : xC Ct35 38 [.d (.agg (oc x))] KK QQ ii jj ee ss = (KK (.d (.i (kf 0 x))) ee ss) := eq38
theorem x35_39 {x : Row} {KK : AV → List AV → Sto → Prop} {QQ : Kt} {ii : At KK} {jj : At QQ} {ee : List AV} {ss : Sto} : xC Ct35 39 [.d (.agg (oc x))] KK QQ ii jj ee ss = (KK (.d (.i (kf 1 x))) ee ss) := eq39
theorem x35_40 {x : Row} {KK : AV → List AV → Sto → Prop} {QQ : Kt} {ii : At KK} {jj : At QQ} {ee : List AV} {ss : Sto} : xC Ct35 40 [.d (.agg (oc x))] KK QQ ii jj ee ss = ((RowOk x) ∧ KK (.d (.i (kf 2 x))) ee ss) := eq40
theorem x35_41 {x : Row} {KK : AV → List AV → Sto → Prop} {QQ : Kt} {ii : At KK} {jj : At QQ} {ee : List AV} {ss : Sto} : xC Ct35 41 [.d (.agg (oc x))] KK QQ ii jj ee ss = (KK (.d (.i (kf 3 x))) ee ss) := eq41
theorem x35_42 {x : Row} {KK : AV → List AV → Sto → Prop} {QQ : Kt} {ii : At KK} {jj : At QQ} {ee : List AV} {ss : Sto} : xC Ct35 42 [.d (.agg (oc x))] KK QQ ii jj ee ss = ((RowOk x) ∧ KK (.d (.i (kf 4 x))) ee ss) := eq42
theorem c35 : callable Tryd.prog 35 = true := by kernel_rfl
theorem pf35 (x y : Row) (i : Nat) (h : (RowOk x ∧ RowOk y) ∧ i < 5) : PF Tryd.prog 35 [.agg (oc x), .agg (oc y), .ptr [cw i] 0] (fun zz => zz = .ret (.i (cmpI (kf i y) (kf i x)))) := by
  obtain ⟨⟨hx, hy⟩, hi⟩ := h
  rcases (show i = 0 ∨ i = 1 ∨ i = 2 ∨ i = 3 ∨ i = 4 by omega) with rfl | rfl | rfl | rfl | rfl
  all_goals
    refine PF_nil (PF_start (O := O35) Ct35_ok hmix ho35 Tryd.func35 c35 rfl Tryd.ntmps35 Tryd.results35 ?_)
    simp (maxSteps := 4000000) +contextual (disch := first | omega | exact qdb_ok (by kernel_rfl) | exact okb_ok (by kernel_rfl)) only [bw1,bw2,bw3,bw4,bw5,bw6,bw7,bc0,bc1,bc2,bc3,bc4,bc5,bc6,bc7,bb0,setPs,AV.owns,AV.datF,AV.frz,AV.cpy,ifV,isEqB,nilV,nilX,AV.isNilS,AV.isNoRows,wk,dclo,datOf,binIs,addF,AV.isPtr,idxV,AV.isSl,AV.isSlice,AV.rows,ps,pv,extV,extS,AV.outs,AV.outF,packD,AV.dl,fieldV,fieldS,AV.cells?,AV.upr,AV.menc,AV.one,D.one,Value.oneCell',tagOf,AV.isApp,strV,strS,bolV,bolS,slcV,AV.isSlD,asrtS,AV.dcells,D.cells?,stcV,stcS,leafOk,eqDs,eqD,packA,D.val?,↓reduceIte,reduceCtorEq,Nat.reduceAdd,Nat.reduceSub,Nat.reduceMul,List.reduceReplicate,Nat.reduceLeDiff,Nat.reduceLT,Nat.reduceBEq,Nat.reduceEqDiff,Int.reduceNeg,Int.reduceEq,Int.reduceLE,Int.reduceLT,tfb,ctz35,O35_1,x35_36,x35_38,x35_39,x35_40,x35_41,x35_42,hx, hy]
def ent35 (args : List AV) (K : AV → List AV → Sto → Prop) (e : List AV) (s : Sto) : Prop := ent (α := (Row) × (Row) × (Nat)) (fun aa => [.agg (oc aa.1), .agg (oc aa.2.1), .ptr [cw aa.2.2] 0]) (fun aa => (RowOk aa.1 ∧ RowOk aa.2.1) ∧ aa.2.2 < 5) (fun aa => .i (cmpI (kf aa.2.2 aa.2.1) (kf aa.2.2 aa.1))) args K e s
theorem ent35_ok {args : List AV} {K : AV → List AV → Sto → Prop} {Q : Kt} {e : List AV} {s : Sto} (h : ent35 args K e s) : pcall Tryd.prog 35 args K Q e s := ent_ok (fun aa h => pf35 aa.1 aa.2.1 aa.2.2 h) h
theorem eq35 {x : Row} {y : Row} {i : Nat} {KK : AV → List AV → Sto → Prop} {ee : List AV} {ss : Sto} : ent35 [.d (.agg (oc x)), .d (.agg (oc y)), .d (.ptr [cw i] 0)] KK ee ss = (((RowOk x ∧ RowOk y) ∧ i < 5) ∧ KK (.d (.i (cmpI (kf i y) (kf i x)))) ee ss) := by
  unfold ent35; rw [ent_iff (x, y, i) (by intro b h; simpa [Prod.ext_iff, and_assoc, Int.ofNat_inj, ints_inj, gams_inj, fars_inj, gam_inj, lea_inj, Int.ofNat_inj, ints_inj, gams_inj, fars_inj, gam_inj, lea_inj, stds_inj, std_inj, Int.ofNat_inj, ints_inj, gams_inj, fars_inj, gam_inj, lea_inj, tv_inj, ocs_inj, row_inj] using h) rfl]; simp
def O34 : Nat → Sch := fun id => .done
theorem ho34 : Tryd.f34.body.map (okO O34) = some true := by kernel_rfl
def Cf34 : Nat → List AV → (AV → List AV → Sto → Prop) → Kt → List AV → Sto → Prop := fun f args K Q e s => match f with
  | _ => False
def Ct34 : CT := { f := Cf34, y := noYld, z := fun d => false }
theorem ctz34 {d : Nat} : CT.z Ct34 d = (false) := id rfl
theorem Ct34_ok : Ct34.ok Tryd.prog := ok_of_f (fun f args K Q e s h => by
  have h : Cf34 f args K Q e s := h
  unfold Cf34 at h; split at h
  · exact h.elim) (fun _ _ _ _ _ _ _ _ _ h => h)
theorem c34 : callable Tryd.prog 34 = true := by kernel_rfl
theorem pf34 (i : Nat) : PF Tryd.prog 34 [cw i] (fun zz => zz = .ret (cl35 i)) := by
  refine PF_nil (PF_start (O := O34) Ct34_ok hmix ho34 Tryd.func34 c34 rfl Tryd.ntmps34 Tryd.results34 ?_)
  simp (maxSteps := 4000000) +contextual (disch := first | omega | exact qdb_ok (by kernel_rfl) | exact okb_ok (by kernel_rfl)) only [bw1,bw2,bw3,bw4,bw5,bw6,bw7,bc0,bc1,bc2,bc3,bc4,bc5,bc6,bc7,bb0,setPs,AV.owns,AV.datF,AV.frz,AV.cpy,ifV,isEqB,nilV,nilX,AV.isNilS,AV.isNoRows,wk,dclo,datOf,binIs,addF,AV.isPtr,idxV,AV.isSl,AV.isSlice,AV.rows,ps,pv,extV,extS,AV.outs,AV.outF,packD,AV.dl,fieldV,fieldS,AV.cells?,AV.upr,AV.menc,AV.one,D.one,Value.oneCell',tagOf,AV.isApp,strV,strS,bolV,bolS,slcV,AV.isSlD,asrtS,AV.dcells,D.cells?,stcV,stcS,leafOk,eqDs,eqD,packA,D.val?,↓reduceIte,reduceCtorEq,Nat.reduceAdd,Nat.reduceSub,Nat.reduceMul,List.reduceReplicate,Nat.reduceLeDiff,Nat.reduceLT,Nat.reduceBEq,Nat.reduceEqDiff,Int.reduceNeg,Int.reduceEq,Int.reduceLE,Int.reduceLT,tfb,ctz34]
  exact rfl
def byD : List (List D) := (List.range 5).map fun i => [cl35 i]
theorem byD_len : byD.length = 5 := by simp [byD]
theorem byD_get {i : Nat} (h : i < 5) : byD.getD i [] = [cl35 i] := by
  unfold byD; rw [List.getD_eq_getElem?_getD, List.getElem?_map, List.getElem?_range h]; rfl
def cmN (x y : Row) : Nat → Nat → Int
  | 0, _ => 0
  | k + 1, i => if cmpI (kf i y) (kf i x) = 0 then cmN x y k (i + 1) else cmpI (kf i y) (kf i x)
def cmpR (x y : Row) : Int := cmN x y 5 0
def ent34 (args : List AV) (K : AV → List AV → Sto → Prop) (e : List AV) (s : Sto) : Prop := ent (α := (Nat)) (fun aa => [cw aa]) (fun aa => True) (fun aa => cl35 aa) args K e s
theorem ent34_ok {args : List AV} {K : AV → List AV → Sto → Prop} {Q : Kt} {e : List AV} {s : Sto} (h : ent34 args K e s) : pcall Tryd.prog 34 args K Q e s := ent_ok (fun aa h => pf34 aa) h
theorem eq34 {i : Nat} {KK : AV → List AV → Sto → Prop} {ee : List AV} {ss : Sto} : ent34 [.d (cw i)] KK ee ss = (KK (.d (cl35 i)) ee ss) := by
  unfold ent34; rw [ent_iff i (by intro b h; simpa [Prod.ext_iff, and_assoc, Int.ofNat_inj, ints_inj, gams_inj, fars_inj, gam_inj, lea_inj, Int.ofNat_inj, ints_inj, gams_inj, fars_inj, gam_inj, lea_inj, stds_inj, std_inj, Int.ofNat_inj, ints_inj, gams_inj, fars_inj, gam_inj, lea_inj, tv_inj, ocs_inj, row_inj] using h) rfl]; simp
def O63 : Nat → Sch := fun id => .done
theorem ho63 : Tryd.f63.body.map (okO O63) = some true := by kernel_rfl
def Cf63 : Nat → List AV → (AV → List AV → Sto → Prop) → Kt → List AV → Sto → Prop := fun f args K Q e s => match f with
  | 35 => ent35 args K e s
  | _ => False
def Ct63 : CT := { f := Cf63, y := noYld, z := fun d => false }
theorem ctz63 {d : Nat} : CT.z Ct63 d = (false) := id rfl
theorem Ct63_ok : Ct63.ok Tryd.prog := ok_of_f (fun f args K Q e s h => by
  have h : Cf63 f args K Q e s := h
  unfold Cf63 at h; split at h
  · exact ent35_ok h
  · exact h.elim) (fun _ _ _ _ _ _ _ _ _ h => h)
theorem x63_35 {x : Row} {y : Row} {i : Nat} {KK : AV → List AV → Sto → Prop} {QQ : Kt} {ii : At KK} {jj : At QQ} {ee : List AV} {ss : Sto} : xC Ct63 35 [.d (.agg (oc x)), .d (.agg (oc y)), .d (.ptr [cw i] 0)] KK QQ ii jj ee ss = (((RowOk x ∧ RowOk y) ∧ i < 5) ∧ KK (.d (.i (cmpI (kf i y) (kf i x)))) ee ss) := eq35
theorem c63 : callable Tryd.prog 63 = true := by kernel_rfl
theorem pf63 (x y : Row) (h : RowOk x ∧ RowOk y) : PF Tryd.prog 63 [.agg (oc x), .agg (oc y), .ptr [.sl 1 byD] 0] (fun zz => zz = .ret (.i (cmpR x y))) := by
  obtain ⟨hx, hy⟩ := h
  have hbl : (byD.length : Int) = 5 := by rw [byD_len]; rfl
  obtain ⟨W, hW⟩ : ∃ W, W = cmpR x y := ⟨_, rfl⟩
  rw [← hW]
  unfold cmpR at hW
  refine PF_nil (PF_start (O := O63) Ct63_ok hmix ho63 Tryd.func63 c63 rfl Tryd.ntmps63 Tryd.results63 ?_)
  simp (maxSteps := 4000000) +contextual (disch := first | omega | exact qdb_ok (by kernel_rfl) | exact okb_ok (by kernel_rfl)) only [bw1,bw2,bw3,bw4,bw5,bw6,bw7,bc0,bc1,bc2,bc3,bc4,bc5,bc6,bc7,bb0,setPs,AV.owns,AV.datF,AV.frz,AV.cpy,ifV,isEqB,nilV,nilX,AV.isNilS,AV.isNoRows,wk,dclo,datOf,binIs,addF,AV.isPtr,idxV,AV.isSl,AV.isSlice,AV.rows,ps,pv,extV,extS,AV.outs,AV.outF,packD,AV.dl,fieldV,fieldS,AV.cells?,AV.upr,AV.menc,AV.one,D.one,Value.oneCell',tagOf,AV.isApp,strV,strS,bolV,bolS,slcV,AV.isSlD,asrtS,AV.dcells,D.cells?,stcV,stcS,leafOk,eqDs,eqD,packA,D.val?,↓reduceIte,reduceCtorEq,Nat.reduceAdd,Nat.reduceSub,Nat.reduceMul,List.reduceReplicate,Nat.reduceLeDiff,Nat.reduceLT,Nat.reduceBEq,Nat.reduceEqDiff,Int.reduceNeg,Int.reduceEq,Int.reduceLE,Int.reduceLT,tfb,ctz63,x63_35]
  refine loop_xu (O := O63) (tb := 0) Ct63_ok hmix (by kernel_rfl) (σ := Nat) (fun k => [(7, .any), (8, .any), (11, .i k)]) (fun _ => []) (fun k => k ≤ 5 ∧ cmN x y (5 - k) k = W) (fun k => 5 - k) 0 ⟨Nat.zero_le _, hW.symm⟩ ?_ ?_
  · simp (maxSteps := 4000000) +contextual (disch := first | omega | exact qdb_ok (by kernel_rfl) | exact okb_ok (by kernel_rfl)) only [bw1,bw2,bw3,bw4,bw5,bw6,bw7,bc0,bc1,bc2,bc3,bc4,bc5,bc6,bc7,bb0,setPs,AV.owns,AV.datF,AV.frz,AV.cpy,ifV,isEqB,nilV,nilX,AV.isNilS,AV.isNoRows,wk,dclo,datOf,binIs,addF,AV.isPtr,idxV,AV.isSl,AV.isSlice,AV.rows,ps,pv,extV,extS,AV.outs,AV.outF,packD,AV.dl,fieldV,fieldS,AV.cells?,AV.upr,AV.menc,AV.one,D.one,Value.oneCell',tagOf,AV.isApp,strV,strS,bolV,bolS,slcV,AV.isSlD,asrtS,AV.dcells,D.cells?,stcV,stcS,leafOk,eqDs,eqD,packA,D.val?,↓reduceIte,reduceCtorEq,Nat.reduceAdd,Nat.reduceSub,Nat.reduceMul,List.reduceReplicate,Nat.reduceLeDiff,Nat.reduceLT,Nat.reduceBEq,Nat.reduceEqDiff,Int.reduceNeg,Int.reduceEq,Int.reduceLE,Int.reduceLT,tfb,ctz63,x63_35,eq_self]
    try rfl
  rintro k ⟨hk, hw⟩
  by_cases hlt : k < 5
  case neg =>
    have hlt' : ¬ (k : Int) < 5 := by omega
    have hk5 : k = 5 := by omega
    rw [hk5, Nat.sub_self, cmN] at hw
    simp (maxSteps := 4000000) +contextual (disch := first | omega | exact qdb_ok (by kernel_rfl) | exact okb_ok (by kernel_rfl)) only [bw1,bw2,bw3,bw4,bw5,bw6,bw7,bc0,bc1,bc2,bc3,bc4,bc5,bc6,bc7,bb0,setPs,AV.owns,AV.datF,AV.frz,AV.cpy,ifV,isEqB,nilV,nilX,AV.isNilS,AV.isNoRows,wk,dclo,datOf,binIs,addF,AV.isPtr,idxV,AV.isSl,AV.isSlice,AV.rows,ps,pv,extV,extS,AV.outs,AV.outF,packD,AV.dl,fieldV,fieldS,AV.cells?,AV.upr,AV.menc,AV.one,D.one,Value.oneCell',tagOf,AV.isApp,strV,strS,bolV,bolS,slcV,AV.isSlD,asrtS,AV.dcells,D.cells?,stcV,stcS,leafOk,eqDs,eqD,packA,D.val?,↓reduceIte,reduceCtorEq,Nat.reduceAdd,Nat.reduceSub,Nat.reduceMul,List.reduceReplicate,Nat.reduceLeDiff,Nat.reduceLT,Nat.reduceBEq,Nat.reduceEqDiff,Int.reduceNeg,Int.reduceEq,Int.reduceLE,Int.reduceLT,tfb,ctz63,x63_35,eq_self, hbl, hlt', ← hw]
  have hlt' : (k : Int) < 5 := by omega
  have hbg := byD_get hlt
  rw [show 5 - k = (5 - (k + 1)) + 1 by omega, cmN] at hw
  by_cases c : cmpI (kf k y) (kf k x) = 0
  · have cb : (cmpI (kf k y) (kf k x) != 0) = false := by simpa using c
    rw [if_pos c] at hw
    simp (maxSteps := 4000000) +contextual (disch := first | omega | exact qdb_ok (by kernel_rfl) | exact okb_ok (by kernel_rfl)) only [bw1,bw2,bw3,bw4,bw5,bw6,bw7,bc0,bc1,bc2,bc3,bc4,bc5,bc6,bc7,bb0,setPs,AV.owns,AV.datF,AV.frz,AV.cpy,ifV,isEqB,nilV,nilX,AV.isNilS,AV.isNoRows,wk,dclo,datOf,binIs,addF,AV.isPtr,idxV,AV.isSl,AV.isSlice,AV.rows,ps,pv,extV,extS,AV.outs,AV.outF,packD,AV.dl,fieldV,fieldS,AV.cells?,AV.upr,AV.menc,AV.one,D.one,Value.oneCell',tagOf,AV.isApp,strV,strS,bolV,bolS,slcV,AV.isSlD,asrtS,AV.dcells,D.cells?,stcV,stcS,leafOk,eqDs,eqD,packA,D.val?,↓reduceIte,reduceCtorEq,Nat.reduceAdd,Nat.reduceSub,Nat.reduceMul,List.reduceReplicate,Nat.reduceLeDiff,Nat.reduceLT,Nat.reduceBEq,Nat.reduceEqDiff,Int.reduceNeg,Int.reduceEq,Int.reduceLE,Int.reduceLT,tfb,ctz63,x63_35,eq_self, hbl, hlt', hbg, hx, hy, hlt, cb]
    repeat (refine And.intro (by omega) ?_)
    exact ⟨k + 1, ⟨⟨by omega, hw⟩, by omega⟩, rfl⟩
  · have cb : (cmpI (kf k y) (kf k x) != 0) = true := by simpa using c
    rw [if_neg c] at hw
    have cbW : (W != 0) = true := by rw [← hw]; exact cb
    simp (maxSteps := 4000000) +contextual (disch := first | omega | exact qdb_ok (by kernel_rfl) | exact okb_ok (by kernel_rfl)) only [bw1,bw2,bw3,bw4,bw5,bw6,bw7,bc0,bc1,bc2,bc3,bc4,bc5,bc6,bc7,bb0,setPs,AV.owns,AV.datF,AV.frz,AV.cpy,ifV,isEqB,nilV,nilX,AV.isNilS,AV.isNoRows,wk,dclo,datOf,binIs,addF,AV.isPtr,idxV,AV.isSl,AV.isSlice,AV.rows,ps,pv,extV,extS,AV.outs,AV.outF,packD,AV.dl,fieldV,fieldS,AV.cells?,AV.upr,AV.menc,AV.one,D.one,Value.oneCell',tagOf,AV.isApp,strV,strS,bolV,bolS,slcV,AV.isSlD,asrtS,AV.dcells,D.cells?,stcV,stcS,leafOk,eqDs,eqD,packA,D.val?,↓reduceIte,reduceCtorEq,Nat.reduceAdd,Nat.reduceSub,Nat.reduceMul,List.reduceReplicate,Nat.reduceLeDiff,Nat.reduceLT,Nat.reduceBEq,Nat.reduceEqDiff,Int.reduceNeg,Int.reduceEq,Int.reduceLE,Int.reduceLT,tfb,ctz63,x63_35,eq_self, hbl, hlt', hbg, hx, hy, hlt, cbW, hw]
    try omega
def ent63 (args : List AV) (K : AV → List AV → Sto → Prop) (e : List AV) (s : Sto) : Prop := ent (α := (Row) × (Row)) (fun aa => [.agg (oc aa.1), .agg (oc aa.2), .ptr [.sl 1 byD] 0]) (fun aa => RowOk aa.1 ∧ RowOk aa.2) (fun aa => .i (cmpR aa.1 aa.2)) args K e s
theorem ent63_ok {args : List AV} {K : AV → List AV → Sto → Prop} {Q : Kt} {e : List AV} {s : Sto} (h : ent63 args K e s) : pcall Tryd.prog 63 args K Q e s := ent_ok (fun aa h => pf63 aa.1 aa.2 h) h
theorem eq63 {x : Row} {y : Row} {KK : AV → List AV → Sto → Prop} {ee : List AV} {ss : Sto} : ent63 [.d (.agg (oc x)), .d (.agg (oc y)), .d (.ptr [.sl 1 byD] 0)] KK ee ss = ((RowOk x ∧ RowOk y) ∧ KK (.d (.i (cmpR x y))) ee ss) := by
  unfold ent63; rw [ent_iff (x, y) (by intro b h; simpa [Prod.ext_iff, and_assoc, Int.ofNat_inj, ints_inj, gams_inj, fars_inj, gam_inj, lea_inj, Int.ofNat_inj, ints_inj, gams_inj, fars_inj, gam_inj, lea_inj, stds_inj, std_inj, Int.ofNat_inj, ints_inj, gams_inj, fars_inj, gam_inj, lea_inj, tv_inj, ocs_inj, row_inj] using h) rfl]; simp
end Go.Proofs.YtmajlffglplcnaaDoor
