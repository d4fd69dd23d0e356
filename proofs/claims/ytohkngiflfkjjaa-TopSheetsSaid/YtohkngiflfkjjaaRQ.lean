/- A part of the proof that the last text ends: what functions of the program do, told by plain data. -/
import Derived.Test.YtohkngiflfkjjaaRP
set_option linter.unusedVariables false
set_option linter.unusedSimpArgs false
namespace Go.Proofs.Ytohkngiflfkjjaa
open Go Go.E Go.Maps
set_option maxRecDepth 100000
set_option maxHeartbeats 16000000
/-! ### The program: all events -/
theorem pcall_any {P : Program} {f : Nat} {args : List AV} {K : AV → List AV → Sto → Prop} {Q : Kt} {e : List AV} {s : Sto} (h : pcall P f args K Q e s) : pcall P f args (fun r e1 s1 => r = .any ∧ ∃ r', K r' e1 s1) Q e s :=
  ⟨h.1, fun W0 L0 L w a vs hr ha => (h.2 W0 L0 L w a vs hr ha).mono fun en w2 hen => by
    cases en with
    | returned v =>
      obtain ⟨L2, e1, s1, r, h1, _, h3⟩ := hen
      exact ⟨L2, e1, s1, .any, h1, trivial, rfl, r, h3⟩
    | panicked c => exact hen
    | outgrown => exact hen⟩
def putB (PM : PMem) (M1 M2 : PSet) : Sto → Sto
  | [] => []
  | (g, c) :: r => (g, if g = 100016 then BK else if g = 3000100011 then bxs 4000100011 fki Mem.c PM else if g = 2000100012 then ents fkp fvb M1 else if g = 2000100013 then ents fkp fvb M2 else c) :: putB PM M1 M2 r
theorem mer_put {s1 : Sto} {PM : PMem} {M1 M2 : PSet} (h : IsB s1 PM M1 M2) : ∀ {s : Sto}, (∀ y ∈ s, y.1 ≠ 4000100011) → mer TB s1 s = putB PM M1 M2 s
  | [], _ => rfl
  | (g, c) :: r, hs => by
    unfold mer putB
    rw [mer_put h (s := r) fun y hy => hs y (List.mem_cons_of_mem _ hy)]
    have hg := hs (g, c) List.mem_cons_self
    simp only at hg
    by_cases e1 : g = 100016
    · subst e1; rw [if_pos (show TB.contains 100016 = true by decide), h.b]; simp
    by_cases e2 : g = 3000100011
    · subst e2; rw [if_pos (show TB.contains 3000100011 = true by decide), h.g]; simp
    by_cases e3 : g = 2000100012
    · subst e3; rw [if_pos (show TB.contains 2000100012 = true by decide), h.m1]; simp
    by_cases e4 : g = 2000100013
    · subst e4; rw [if_pos (show TB.contains 2000100013 = true by decide), h.m2]; simp
    rw [if_neg, if_neg e1, if_neg e2, if_neg e3, if_neg e4]
    simp [TB, e1, e2, e3, e4, hg]
def spq (k : Int) (args : List AV) (K : AV → List AV → Sto → Prop) (Q : Kt) (e : List AV) (s : Sto) : Prop :=
  ∃ (i : Nat) (st : St) (x : Ev) (PM : PMem) (M1 M2 : PSet), args = [.ref 100016 0, .d (.agg x.c)] ∧ (i ≤ 256 ∧ InvR i st ∧ Rl PM M1 M2 st ∧ evOk x = true ∧ x.kind = k ∧ x.sheet.length ≤ 100000) ∧ (AV.stays TB EB e ∧ othL TB EB s) ∧ IsB s PM M1 M2 ∧ (∀ y ∈ s, y.1 ≠ 4000100011) ∧
    ((doR st x).2 = 0 → ∀ PM' M1' M2', Rl PM' M1' M2' (doR st x).1 → K .any e (putB PM' M1' M2' s)) ∧ ((doR st x).2 ≠ 0 → ∀ PM' M1' M2', Q (.panic (misV (doR st x).2)) e (putB PM' M1' M2' s))
theorem spq_ok {f : Nat} {k : Int} (hd : ∀ {i : Nat} {st : St} {x : Ev} {PM : PMem} {M1 M2 : PSet}, i ≤ 256 → InvR i st → Rl PM M1 M2 st → evOk x = true → x.kind = k → x.sheet.length ≤ 100000 → Deed f st x PM M1 M2) {args : List AV} {K : AV → List AV → Sto → Prop} {Q : Kt} {e : List AV} {s : Sto} (h : spq k args K Q e s) : pcall Try.prog f args K Q e s := by
  obtain ⟨i, st, x, PM, M1, M2, rfl, ⟨a1, a2, a3, a4, a5, a6⟩, ⟨b1, b2⟩, hB, hs, hK, hQ⟩ := h
  refine pcall_frame (R := fun r s1 => r = .any ∧ (doR st x).2 = 0 ∧ ∃ PM' M1' M2', Rl PM' M1' M2' (doR st x).1 ∧ IsB s1 PM' M1' M2' ∧ s1.get 4000100011 = none) (RQ := fun c s1 => c = misV (doR st x).2 ∧ (doR st x).2 ≠ 0 ∧ (∃ PM' M1' M2', IsB s1 PM' M1' M2') ∧ s1.get 4000100011 = none) (frameB rfl hB b1 b2) ⟨(hd a1 a2 a3 a4 a5 a6).1, fun W0 L0 L w a vs hr ha => ((pcall_any (hd a1 a2 a3 a4 a5 a6)).2 W0 L0 L w a vs hr ha).mono fun en w2 hen => ?_⟩ (fun r s1 hr => ?_) (fun c s1 hc => ?_)
  · cases en with
    | returned v =>
      obtain ⟨L2, e1, s1, r, h1, h2, rfl, r', h3, h4⟩ := hen
      exact ⟨L2, e1, s1, .any, h1, trivial, h3, rfl, h4⟩
    | panicked c =>
      obtain ⟨L2, e1, s1, h1, h3, h4⟩ := hen
      exact ⟨L2, e1, s1, h1, h3, h4⟩
    | outgrown => exact hen
  · obtain ⟨rfl, h0, PM', M1', M2', h1, h2, h3⟩ := hr
    exact ⟨⟨rfl, h2.onlys h3⟩, by rw [mer_put h2 hs]; exact hK h0 _ _ _ h1⟩
  · obtain ⟨rfl, h0, ⟨PM', M1', M2', h2⟩, h3⟩ := hc
    exact ⟨h2.onlys h3, by rw [mer_put h2 hs]; exact hQ h0 _ _ _⟩
def sp60 := spq 0
def sp61 := spq 1
def sp63 := spq 2
def sp65 := spq 3
def sp66 := spq 4
def sp67 := spq 5
def sp68 := spq 6
theorem sp60_ok {args : List AV} {K : AV → List AV → Sto → Prop} {Q : Kt} {e : List AV} {s : Sto} (h : sp60 args K Q e s) : pcall Try.prog 60 args K Q e s := spq_ok (fun a b c d e _ => deed60 a b c d e) h
theorem sp61_ok {args : List AV} {K : AV → List AV → Sto → Prop} {Q : Kt} {e : List AV} {s : Sto} (h : sp61 args K Q e s) : pcall Try.prog 61 args K Q e s := spq_ok (fun a b c d e _ => deed61 a b c d e) h
theorem sp63_ok {args : List AV} {K : AV → List AV → Sto → Prop} {Q : Kt} {e : List AV} {s : Sto} (h : sp63 args K Q e s) : pcall Try.prog 63 args K Q e s := spq_ok (fun a b c d e _ => deed63 a b c d e) h
theorem sp65_ok {args : List AV} {K : AV → List AV → Sto → Prop} {Q : Kt} {e : List AV} {s : Sto} (h : sp65 args K Q e s) : pcall Try.prog 65 args K Q e s := spq_ok (fun a b c d e _ => deed65 a b c d e) h
theorem sp66_ok {args : List AV} {K : AV → List AV → Sto → Prop} {Q : Kt} {e : List AV} {s : Sto} (h : sp66 args K Q e s) : pcall Try.prog 66 args K Q e s := spq_ok (fun a b c d e _ => deed66 a b c d e) h
theorem sp67_ok {args : List AV} {K : AV → List AV → Sto → Prop} {Q : Kt} {e : List AV} {s : Sto} (h : sp67 args K Q e s) : pcall Try.prog 67 args K Q e s := spq_ok (fun a b c d e _ => deed67 a b c d e) h
theorem sp68_ok {args : List AV} {K : AV → List AV → Sto → Prop} {Q : Kt} {e : List AV} {s : Sto} (h : sp68 args K Q e s) : pcall Try.prog 68 args K Q e s := spq_ok (fun a b c d e f => deed68 a b c d e f) h
theorem ps0 : placeOf Try.prog 86 0 = some (0, 1) := by kernel_rfl
theorem ps1 : placeOf Try.prog 86 1 = some (1, 1) := by kernel_rfl
theorem ps2 : placeOf Try.prog 86 2 = some (2, 1) := by kernel_rfl
theorem ps3 : placeOf Try.prog 86 3 = some (3, 1) := by kernel_rfl
theorem ps4 : placeOf Try.prog 86 4 = some (4, 1) := by kernel_rfl
theorem ps5 : placeOf Try.prog 86 5 = some (5, 1) := by kernel_rfl
theorem ps6 : placeOf Try.prog 86 6 = some (6, 1) := by kernel_rfl
theorem ixs86 : ixs Try.prog 86 = none := by kernel_rfl
theorem ixa86 : ixa Try.prog 86 = some (7, 1) := by kernel_rfl
def O43 : Nat → Sch := fun id => .done
theorem ho43 : Try.f43.body.map (okO O43) = some true := by kernel_rfl
def Cf43 : Nat → List AV → (AV → List AV → Sto → Prop) → Kt → List AV → Sto → Prop := fun f args K Q e s => match f with
  | _ => False
def Ct43 : CT := { f := Cf43, y := noYld, z := fun d => false }
theorem ctz43 {d : Nat} : CT.z Ct43 d = (false) := id rfl
theorem Ct43_ok : Ct43.ok Try.prog := ok_of_f (fun f args K Q e s h => by
  have h : Cf43 f args K Q e s := h
  unfold Cf43 at h; split at h
  · exact h.elim) (fun _ _ _ _ _ _ _ _ _ h => h)
theorem c43 : callable Try.prog 43 = true := by kernel_rfl
def O42 : Nat → Sch := fun id => if id = 5 then .one 0 (.alt (.one 1 (.one 2 (.one 3 (.done)))) (.one 2 (.one 1 (.one 3 (.done))))) else .done
theorem O42_5 : O42 5 = .one 0 (.alt (.one 1 (.one 2 (.one 3 (.done)))) (.one 2 (.one 1 (.one 3 (.done))))) := rfl
def Cf42 : Nat → List AV → (AV → List AV → Sto → Prop) → Kt → List AV → Sto → Prop := fun f args K Q e s => match f with
  | _ => False
def Ct42 : CT := { f := Cf42, y := noYld, z := fun d => false }
theorem ctz42 {d : Nat} : CT.z Ct42 d = (false) := id rfl
theorem Ct42_ok : Ct42.ok Try.prog := ok_of_f (fun f args K Q e s h => by
  have h : Cf42 f args K Q e s := h
  unfold Cf42 at h; split at h
  · exact h.elim) (fun _ _ _ _ _ _ _ _ _ h => h)
theorem c42 : callable Try.prog 42 = true := by kernel_rfl
def O27 : Nat → Sch := fun id => if id = 9 then .one 0 (.one 1 (.one 2 (.one 3 (.one 4 (.one 5 (.one 6 (.one 7 (.one 8 (.one 9 (.one 10 (.one 11 (.one 12 (.one 13 (.done)))))))))))))) else if id = 10 then .one 0 (.one 1 (.one 2 (.one 3 (.one 4 (.one 5 (.one 6 (.done))))))) else .done
theorem O27_9 : O27 9 = .one 0 (.one 1 (.one 2 (.one 3 (.one 4 (.one 5 (.one 6 (.one 7 (.one 8 (.one 9 (.one 10 (.one 11 (.one 12 (.one 13 (.done)))))))))))))) := rfl
theorem O27_10 : O27 10 = .one 0 (.one 1 (.one 2 (.one 3 (.one 4 (.one 5 (.one 6 (.done))))))) := rfl
theorem ho27 : Try.f27.body.map (okO O27) = some true := by kernel_rfl
def Cf27 : Nat → List AV → (AV → List AV → Sto → Prop) → Kt → List AV → Sto → Prop := fun f args K Q e s => match f with
  | 43 => inlE Try.prog Ct43 O43 43000 43 args K Q e s
  | 44 => inlE Try.prog Ct44 O44 44000 44 args K Q e s
  | 45 => ent45 args K e s
  | 60 => sp60 args K Q e s
  | 61 => sp61 args K Q e s
  | 63 => sp63 args K Q e s
  | 65 => sp65 args K Q e s
  | 66 => sp66 args K Q e s
  | 67 => sp67 args K Q e s
  | 68 => sp68 args K Q e s
  | _ => False
def Ct27 : CT := { f := Cf27, y := noYld, z := fun d => false }
theorem ctz27 {d : Nat} : CT.z Ct27 d = (false) := id rfl
theorem Ct27_ok : Ct27.ok Try.prog := ok_of_f (fun f args K Q e s h => by
  have h : Cf27 f args K Q e s := h
  unfold Cf27 at h; split at h
  · exact inlE_ok Ct43_ok hmix ho43 h
  · exact inlE_ok Ct44_ok hmix ho44 h
  · exact ent45_ok h
  · exact sp60_ok h
  · exact sp61_ok h
  · exact sp63_ok h
  · exact sp65_ok h
  · exact sp66_ok h
  · exact sp67_ok h
  · exact sp68_ok h
  · exact h.elim) (fun _ _ _ _ _ _ _ _ _ h => h)
theorem x27_45 {x : Ev} {KK : AV → List AV → Sto → Prop} {QQ : Kt} {ii : At KK} {jj : At QQ} {ee : List AV} {ss : Sto} : xC Ct27 45 [.d (.agg x.c)] KK QQ ii jj ee ss = ((x.sheet.length ≤ 100000) ∧ KK (.d (.b (evOk x))) ee ss) := eq45
theorem z27_44 : type_of% (@xinl Try.prog Ct27 Ct44 O44 44000 44 _ _ _ _ rfl c44 Try.func44 rfl Try.ntmps44 Try.results44) := @xinl Try.prog Ct27 Ct44 O44 44000 44 _ _ _ _ rfl c44 Try.func44 rfl Try.ntmps44 Try.results44
theorem z27_43 : type_of% (@xinl Try.prog Ct27 Ct43 O43 43000 43 _ _ _ _ rfl c43 Try.func43 rfl Try.ntmps43 Try.results43) := @xinl Try.prog Ct27 Ct43 O43 43000 43 _ _ _ _ rfl c43 Try.func43 rfl Try.ntmps43 Try.results43
theorem c27 : callable Try.prog 27 = true := by kernel_rfl
def R27 (l : List Ev) (r : AV) (s : Sto) : Prop := if (runR l).2.2 = 0 then r = .tup [.ref 100016 0, .d (.i ((runR l).2.1 : Int)), .d (.i 0)] ∧ (∃ PM M1 M2, Rl PM M1 M2 (runR l).1 ∧ IsB s PM M1 M2) ∧ s.get 4000100011 = none else r = .d (.tup [.v (.pointer none), .i ((runR l).2.1 : Int), .i (runR l).2.2])
theorem R27_no {l : List Ev} {st : St} {i : Nat} {e : Int} {ss : Sto} (h : (st, i, e) = runR l) (he : e ≠ 0) : R27 l (.d (.tup [.v (.pointer none), .i (i : Int), .i e])) ss := by
  unfold R27; rw [← h, if_neg he]
theorem play27 {l : List Ev} (h : ShsOk l) : PFs Try.prog 27 [.sl 5 (l.map Ev.c)] (R27 l) := by
  by_cases c0 : 256 < l.length
  · have c0' : (256 : Int) < l.length := by omega
    have hr : runR l = (⟨[], []⟩, 0, 3) := by unfold runR; rw [if_pos c0]
    refine PFs_startX (O := O27) (Od := O42) (tb0 := 100000) (tb := 42000) (T := ⟨42, 18, 5, _, _, _, [], [false, false, true, true, true]⟩) Ct27_ok hmix ho27 Try.func27 c27 rfl Try.ntmps27 Try.results27 Ct42_ok (fun _ _ _ _ _ _ _ _ _ h => h) Try.func42 c42 rfl Try.ntmps42 (by rw [Try.results42]) rfl rfl rfl (fun _ _ => rfl) (by kernel_rfl) ?_
    simp (maxSteps := 4000000) +contextual (disch := first | omega | exact qdb_ok (by kernel_rfl) | exact okb_ok (by kernel_rfl)) only [bw1,bw2,bw3,bw4,bw5,bw6,bw7,bc0,bc1,bc2,bc3,bc4,bc5,bc6,bc7,bb0,setPs,AV.owns,AV.datF,AV.frz,AV.cpy,ifV,isEqB,nilV,nilX,AV.isNilS,AV.isNoRows,wk,dclo,datOf,binIs,addF,AV.isPtr,idxV,AV.isSl,AV.isSlice,AV.rows,ps,pv,extV,extS,AV.outs,AV.outF,packD,AV.dl,fieldV,fieldS,AV.cells?,AV.upr,AV.menc,AV.one,D.one,Value.oneCell',tagOf,AV.isApp,strV,strS,bolV,bolS,slcV,AV.isSlD,asrtS,AV.dcells,D.cells?,stcV,stcS,leafOk,eqDs,eqD,packA,D.val?,↓reduceIte,reduceCtorEq,Nat.reduceAdd,Nat.reduceSub,Nat.reduceMul,List.reduceReplicate,Nat.reduceLeDiff,Nat.reduceLT,Nat.reduceBEq,Nat.reduceEqDiff,Int.reduceNeg,Int.reduceEq,Int.reduceLE,Int.reduceLT,tfb,ps0,ps1,ps2,ps3,ps4,ps5,ps6,ixs86,ixa86,List.set_cons_zero,List.set_cons_succ,boxAt,key3',key99',mencs_bxs,mencs_ents,kill_bxs,kill_ents,ds_n,ds_r,ds_p,ds_g,ds_y,qd_Ds,ctz42,O42_5,ctz27,O27_9,O27_10,x27_45,z27_44,ctz44,z27_43,ctz43,c0', R27, hr]
  have c0' : ¬ (256 : Int) < l.length := by omega
  obtain ⟨h1, h2⟩ := h
  have hw0 : runN l l.length 0 ⟨[], []⟩ = runR l := by unfold runR; rw [if_neg c0]
  refine PFs_startX (O := O27) (Od := O42) (tb0 := 100000) (tb := 42000) (T := ⟨42, 18, 5, _, _, _, [], [false, false, true, true, true]⟩) Ct27_ok hmix ho27 Try.func27 c27 rfl Try.ntmps27 Try.results27 Ct42_ok (fun _ _ _ _ _ _ _ _ _ h => h) Try.func42 c42 rfl Try.ntmps42 (by rw [Try.results42]) rfl rfl rfl (fun _ _ => rfl) (by kernel_rfl) ?_
  simp (maxSteps := 4000000) +contextual (disch := first | omega | exact qdb_ok (by kernel_rfl) | exact okb_ok (by kernel_rfl)) only [bw1,bw2,bw3,bw4,bw5,bw6,bw7,bc0,bc1,bc2,bc3,bc4,bc5,bc6,bc7,bb0,setPs,AV.owns,AV.datF,AV.frz,AV.cpy,ifV,isEqB,nilV,nilX,AV.isNilS,AV.isNoRows,wk,dclo,datOf,binIs,addF,AV.isPtr,idxV,AV.isSl,AV.isSlice,AV.rows,ps,pv,extV,extS,AV.outs,AV.outF,packD,AV.dl,fieldV,fieldS,AV.cells?,AV.upr,AV.menc,AV.one,D.one,Value.oneCell',tagOf,AV.isApp,strV,strS,bolV,bolS,slcV,AV.isSlD,asrtS,AV.dcells,D.cells?,stcV,stcS,leafOk,eqDs,eqD,packA,D.val?,↓reduceIte,reduceCtorEq,Nat.reduceAdd,Nat.reduceSub,Nat.reduceMul,List.reduceReplicate,Nat.reduceLeDiff,Nat.reduceLT,Nat.reduceBEq,Nat.reduceEqDiff,Int.reduceNeg,Int.reduceEq,Int.reduceLE,Int.reduceLT,tfb,ps0,ps1,ps2,ps3,ps4,ps5,ps6,ixs86,ixa86,List.set_cons_zero,List.set_cons_succ,boxAt,key3',key99',mencs_bxs,mencs_ents,kill_bxs,kill_ents,ds_n,ds_r,ds_p,ds_g,ds_y,qd_Ds,ctz42,O42_5,ctz27,O27_9,O27_10,x27_45,z27_44,ctz44,z27_43,ctz43,c0']
  refine loop_xu (O := O27) (tb := 100000) Ct27_ok hmix (by kernel_rfl) (σ := Nat × St × PMem × PSet × PSet) (fun y => [(3, .i y.1)]) (fun y => [(3000100011, bxs 4000100011 fki Mem.c y.2.2.1), (2000100012, ents fkp fvb y.2.2.2.1), (2000100013, ents fkp fvb y.2.2.2.2)]) (fun y => y.1 ≤ l.length ∧ InvR y.1 y.2.1 ∧ Rl y.2.2.1 y.2.2.2.1 y.2.2.2.2 y.2.1 ∧ runN l (l.length - y.1) y.1 y.2.1 = runR l) (fun y => l.length - y.1) (0, ⟨[], []⟩, [], [], []) ⟨by simp, InvR.zero, Rl.zero, hw0⟩ ?_ ?_
  · simp (maxSteps := 4000000) +contextual (disch := first | omega | exact qdb_ok (by kernel_rfl) | exact okb_ok (by kernel_rfl)) only [bw1,bw2,bw3,bw4,bw5,bw6,bw7,bc0,bc1,bc2,bc3,bc4,bc5,bc6,bc7,bb0,setPs,AV.owns,AV.datF,AV.frz,AV.cpy,ifV,isEqB,nilV,nilX,AV.isNilS,AV.isNoRows,wk,dclo,datOf,binIs,addF,AV.isPtr,idxV,AV.isSl,AV.isSlice,AV.rows,ps,pv,extV,extS,AV.outs,AV.outF,packD,AV.dl,fieldV,fieldS,AV.cells?,AV.upr,AV.menc,AV.one,D.one,Value.oneCell',tagOf,AV.isApp,strV,strS,bolV,bolS,slcV,AV.isSlD,asrtS,AV.dcells,D.cells?,stcV,stcS,leafOk,eqDs,eqD,packA,D.val?,↓reduceIte,reduceCtorEq,Nat.reduceAdd,Nat.reduceSub,Nat.reduceMul,List.reduceReplicate,Nat.reduceLeDiff,Nat.reduceLT,Nat.reduceBEq,Nat.reduceEqDiff,Int.reduceNeg,Int.reduceEq,Int.reduceLE,Int.reduceLT,tfb,ps0,ps1,ps2,ps3,ps4,ps5,ps6,ixs86,ixa86,List.set_cons_zero,List.set_cons_succ,boxAt,key3',key99',mencs_bxs,mencs_ents,kill_bxs,kill_ents,ds_n,ds_r,ds_p,ds_g,ds_y,qd_Ds,ctz42,O42_5,ctz27,O27_9,O27_10,x27_45,z27_44,ctz44,z27_43,ctz43,eq_self]
    exact ⟨wk_ents _, wk_ents _, trivial⟩
  rintro ⟨i, s, PM, M1, M2⟩ ⟨hi, hI, hR, hw⟩
  simp only at hi hI hR hw
  by_cases hlt : i < l.length
  · have hlt' : (i : Int) < l.length := by omega
    have hx := h2 (l.getD i default) (by rw [at_lt hlt]; exact List.getElem_mem _)
    rw [show l.length - i = (l.length - (i + 1)) + 1 by omega, runN] at hw
    by_cases c1 : evOk (l.getD i default) = true
    case neg =>
      rw [if_neg c1] at hw
      simp (maxSteps := 4000000) +contextual (disch := first | omega | exact qdb_ok (by kernel_rfl) | exact okb_ok (by kernel_rfl)) only [bw1,bw2,bw3,bw4,bw5,bw6,bw7,bc0,bc1,bc2,bc3,bc4,bc5,bc6,bc7,bb0,setPs,AV.owns,AV.datF,AV.frz,AV.cpy,ifV,isEqB,nilV,nilX,AV.isNilS,AV.isNoRows,wk,dclo,datOf,binIs,addF,AV.isPtr,idxV,AV.isSl,AV.isSlice,AV.rows,ps,pv,extV,extS,AV.outs,AV.outF,packD,AV.dl,fieldV,fieldS,AV.cells?,AV.upr,AV.menc,AV.one,D.one,Value.oneCell',tagOf,AV.isApp,strV,strS,bolV,bolS,slcV,AV.isSlD,asrtS,AV.dcells,D.cells?,stcV,stcS,leafOk,eqDs,eqD,packA,D.val?,↓reduceIte,reduceCtorEq,Nat.reduceAdd,Nat.reduceSub,Nat.reduceMul,List.reduceReplicate,Nat.reduceLeDiff,Nat.reduceLT,Nat.reduceBEq,Nat.reduceEqDiff,Int.reduceNeg,Int.reduceEq,Int.reduceLE,Int.reduceLT,tfb,ps0,ps1,ps2,ps3,ps4,ps5,ps6,ixs86,ixa86,List.set_cons_zero,List.set_cons_succ,boxAt,key3',key99',mencs_bxs,mencs_ents,kill_bxs,kill_ents,ds_n,ds_r,ds_p,ds_g,ds_y,qd_Ds,ctz42,O42_5,ctz27,O27_9,O27_10,x27_45,z27_44,ctz44,z27_43,ctz43,eq_self, hlt', c1]
      exact ⟨by omega, hx, R27_no hw (by decide)⟩
    rw [if_pos c1] at hw
    by_cases z : 0 < i
    case' pos =>
      have z' : ((i : Int) == 0) = false := by simp; omega
      have e1 : (i : Int) - 1 = ((i - 1 : Nat) : Int) := by omega
      by_cases c2 : (l.getD i default).day < (l.getD (i - 1) default).day
      case pos =>
        rw [if_pos ⟨z, c2⟩] at hw
        have c2' : ¬ (l.getD (i - 1) default).day ≤ (l.getD i default).day := by omega
        simp (maxSteps := 4000000) +contextual (disch := first | omega | exact qdb_ok (by kernel_rfl) | exact okb_ok (by kernel_rfl)) only [bw1,bw2,bw3,bw4,bw5,bw6,bw7,bc0,bc1,bc2,bc3,bc4,bc5,bc6,bc7,bb0,setPs,AV.owns,AV.datF,AV.frz,AV.cpy,ifV,isEqB,nilV,nilX,AV.isNilS,AV.isNoRows,wk,dclo,datOf,binIs,addF,AV.isPtr,idxV,AV.isSl,AV.isSlice,AV.rows,ps,pv,extV,extS,AV.outs,AV.outF,packD,AV.dl,fieldV,fieldS,AV.cells?,AV.upr,AV.menc,AV.one,D.one,Value.oneCell',tagOf,AV.isApp,strV,strS,bolV,bolS,slcV,AV.isSlD,asrtS,AV.dcells,D.cells?,stcV,stcS,leafOk,eqDs,eqD,packA,D.val?,↓reduceIte,reduceCtorEq,Nat.reduceAdd,Nat.reduceSub,Nat.reduceMul,List.reduceReplicate,Nat.reduceLeDiff,Nat.reduceLT,Nat.reduceBEq,Nat.reduceEqDiff,Int.reduceNeg,Int.reduceEq,Int.reduceLE,Int.reduceLT,tfb,ps0,ps1,ps2,ps3,ps4,ps5,ps6,ixs86,ixa86,List.set_cons_zero,List.set_cons_succ,boxAt,key3',key99',mencs_bxs,mencs_ents,kill_bxs,kill_ents,ds_n,ds_r,ds_p,ds_g,ds_y,qd_Ds,ctz42,O42_5,ctz27,O27_9,O27_10,x27_45,z27_44,ctz44,z27_43,ctz43,eq_self, hlt', c1, z', e1, c2']
        exact ⟨by omega, hx, ⟨by omega, by omega⟩, R27_no hw (by decide)⟩
      rw [if_neg (fun h => c2 h.2)] at hw
      have c2' : (l.getD (i - 1) default).day ≤ (l.getD i default).day := by omega
    case' neg =>
      have z' : ((i : Int) == 0) = true := by simp; omega
      have e1 := z'
      have c2' := z'
      rw [if_neg (fun h => z h.1)] at hw
    all_goals
      have hkr : 0 ≤ (l.getD i default).kind ∧ (l.getD i default).kind ≤ 6 := by
        unfold evOk at c1
        simp only [Bool.and_eq_true] at c1
        exact inB_iff.1 c1.1.2
      have hks : (l.getD i default).kind = 0 ∨ (l.getD i default).kind = 1 ∨ (l.getD i default).kind = 2 ∨ (l.getD i default).kind = 3 ∨ (l.getD i default).kind = 4 ∨ (l.getD i default).kind = 5 ∨ (l.getD i default).kind = 6 := by omega
      rcases hks with hk | hk | hk | hk | hk | hk | hk
      · skip
        have htn : (l.getD i default).kind.toNat = 0 := by omega
        have hxc : ∀ {args : List AV} {KK : AV → List AV → Sto → Prop} {QQ : Kt} {ii : At KK} {jj : At QQ} {ee : List AV} {ss : Sto}, xC Ct27 60 args KK QQ ii jj ee ss = spq 0 args KK QQ ee ss := id rfl
        simp (maxSteps := 4000000) +contextual (disch := first | omega | exact qdb_ok (by kernel_rfl) | exact okb_ok (by kernel_rfl)) only [bw1,bw2,bw3,bw4,bw5,bw6,bw7,bc0,bc1,bc2,bc3,bc4,bc5,bc6,bc7,bb0,setPs,AV.owns,AV.datF,AV.frz,AV.cpy,ifV,isEqB,nilV,nilX,AV.isNilS,AV.isNoRows,wk,dclo,datOf,binIs,addF,AV.isPtr,idxV,AV.isSl,AV.isSlice,AV.rows,ps,pv,extV,extS,AV.outs,AV.outF,packD,AV.dl,fieldV,fieldS,AV.cells?,AV.upr,AV.menc,AV.one,D.one,Value.oneCell',tagOf,AV.isApp,strV,strS,bolV,bolS,slcV,AV.isSlD,asrtS,AV.dcells,D.cells?,stcV,stcS,leafOk,eqDs,eqD,packA,D.val?,↓reduceIte,reduceCtorEq,Nat.reduceAdd,Nat.reduceSub,Nat.reduceMul,List.reduceReplicate,Nat.reduceLeDiff,Nat.reduceLT,Nat.reduceBEq,Nat.reduceEqDiff,Int.reduceNeg,Int.reduceEq,Int.reduceLE,Int.reduceLT,tfb,ps0,ps1,ps2,ps3,ps4,ps5,ps6,ixs86,ixa86,List.set_cons_zero,List.set_cons_succ,boxAt,key3',key99',mencs_bxs,mencs_ents,kill_bxs,kill_ents,ds_n,ds_r,ds_p,ds_g,ds_y,qd_Ds,ctz42,O42_5,ctz27,O27_9,O27_10,x27_45,z27_44,ctz44,z27_43,ctz43,eq_self, hlt', c1, z', e1, c2', htn, hxc]
        refine ⟨by omega, hx, ?_⟩
        first | refine ⟨⟨by omega, by omega⟩, ⟨by omega, by omega⟩, ?_⟩ | refine ⟨⟨by omega, by omega⟩, ?_⟩
        refine ⟨i, s, l.getD i default, PM, M1, M2, rfl, ⟨by omega, hI, hR, c1, hk, hx⟩, ⟨by simp [AV.stays, AV.stay], by simp [AV.stays, AV.stay, othL]⟩, ⟨rfl, rfl, rfl, rfl⟩, by simp, fun hz PM' M1' M2' hR' => ?_, fun hz PM' M1' M2' => ?_⟩
        · rw [if_pos hz] at hw
          have hI2 := doR_inv hI c1 hx hz
          simp (maxSteps := 4000000) +contextual (disch := first | omega | exact qdb_ok (by kernel_rfl) | exact okb_ok (by kernel_rfl)) only [bw1,bw2,bw3,bw4,bw5,bw6,bw7,bc0,bc1,bc2,bc3,bc4,bc5,bc6,bc7,bb0,setPs,AV.owns,AV.datF,AV.frz,AV.cpy,ifV,isEqB,nilV,nilX,AV.isNilS,AV.isNoRows,wk,dclo,datOf,binIs,addF,AV.isPtr,idxV,AV.isSl,AV.isSlice,AV.rows,ps,pv,extV,extS,AV.outs,AV.outF,packD,AV.dl,fieldV,fieldS,AV.cells?,AV.upr,AV.menc,AV.one,D.one,Value.oneCell',tagOf,AV.isApp,strV,strS,bolV,bolS,slcV,AV.isSlD,asrtS,AV.dcells,D.cells?,stcV,stcS,leafOk,eqDs,eqD,packA,D.val?,↓reduceIte,reduceCtorEq,Nat.reduceAdd,Nat.reduceSub,Nat.reduceMul,List.reduceReplicate,Nat.reduceLeDiff,Nat.reduceLT,Nat.reduceBEq,Nat.reduceEqDiff,Int.reduceNeg,Int.reduceEq,Int.reduceLE,Int.reduceLT,tfb,ps0,ps1,ps2,ps3,ps4,ps5,ps6,ixs86,ixa86,List.set_cons_zero,List.set_cons_succ,boxAt,key3',key99',mencs_bxs,mencs_ents,kill_bxs,kill_ents,ds_n,ds_r,ds_p,ds_g,ds_y,qd_Ds,ctz42,O42_5,ctz27,O27_9,O27_10,x27_45,z27_44,ctz44,z27_43,ctz43,eq_self, putB]
          exact ⟨(i + 1, (doR s (l.getD i default)).1, PM', M1', M2'), ⟨⟨by omega, hI2, hR', hw⟩, by omega⟩, rfl, wk_ents _, wk_ents _, wk_ents _⟩
        · rw [if_neg hz] at hw
          simp (maxSteps := 4000000) +contextual (disch := first | omega | exact qdb_ok (by kernel_rfl) | exact okb_ok (by kernel_rfl)) only [bw1,bw2,bw3,bw4,bw5,bw6,bw7,bc0,bc1,bc2,bc3,bc4,bc5,bc6,bc7,bb0,setPs,AV.owns,AV.datF,AV.frz,AV.cpy,ifV,isEqB,nilV,nilX,AV.isNilS,AV.isNoRows,wk,dclo,datOf,binIs,addF,AV.isPtr,idxV,AV.isSl,AV.isSlice,AV.rows,ps,pv,extV,extS,AV.outs,AV.outF,packD,AV.dl,fieldV,fieldS,AV.cells?,AV.upr,AV.menc,AV.one,D.one,Value.oneCell',tagOf,AV.isApp,strV,strS,bolV,bolS,slcV,AV.isSlD,asrtS,AV.dcells,D.cells?,stcV,stcS,leafOk,eqDs,eqD,packA,D.val?,↓reduceIte,reduceCtorEq,Nat.reduceAdd,Nat.reduceSub,Nat.reduceMul,List.reduceReplicate,Nat.reduceLeDiff,Nat.reduceLT,Nat.reduceBEq,Nat.reduceEqDiff,Int.reduceNeg,Int.reduceEq,Int.reduceLE,Int.reduceLT,tfb,ps0,ps1,ps2,ps3,ps4,ps5,ps6,ixs86,ixa86,List.set_cons_zero,List.set_cons_succ,boxAt,key3',key99',mencs_bxs,mencs_ents,kill_bxs,kill_ents,ds_n,ds_r,ds_p,ds_g,ds_y,qd_Ds,ctz42,O42_5,ctz27,O27_9,O27_10,x27_45,z27_44,ctz44,z27_43,ctz43,eq_self, putB, misV]
          exact R27_no hw hz
      · skip
        have htn : (l.getD i default).kind.toNat = 1 := by omega
        have hxc : ∀ {args : List AV} {KK : AV → List AV → Sto → Prop} {QQ : Kt} {ii : At KK} {jj : At QQ} {ee : List AV} {ss : Sto}, xC Ct27 61 args KK QQ ii jj ee ss = spq 1 args KK QQ ee ss := id rfl
        simp (maxSteps := 4000000) +contextual (disch := first | omega | exact qdb_ok (by kernel_rfl) | exact okb_ok (by kernel_rfl)) only [bw1,bw2,bw3,bw4,bw5,bw6,bw7,bc0,bc1,bc2,bc3,bc4,bc5,bc6,bc7,bb0,setPs,AV.owns,AV.datF,AV.frz,AV.cpy,ifV,isEqB,nilV,nilX,AV.isNilS,AV.isNoRows,wk,dclo,datOf,binIs,addF,AV.isPtr,idxV,AV.isSl,AV.isSlice,AV.rows,ps,pv,extV,extS,AV.outs,AV.outF,packD,AV.dl,fieldV,fieldS,AV.cells?,AV.upr,AV.menc,AV.one,D.one,Value.oneCell',tagOf,AV.isApp,strV,strS,bolV,bolS,slcV,AV.isSlD,asrtS,AV.dcells,D.cells?,stcV,stcS,leafOk,eqDs,eqD,packA,D.val?,↓reduceIte,reduceCtorEq,Nat.reduceAdd,Nat.reduceSub,Nat.reduceMul,List.reduceReplicate,Nat.reduceLeDiff,Nat.reduceLT,Nat.reduceBEq,Nat.reduceEqDiff,Int.reduceNeg,Int.reduceEq,Int.reduceLE,Int.reduceLT,tfb,ps0,ps1,ps2,ps3,ps4,ps5,ps6,ixs86,ixa86,List.set_cons_zero,List.set_cons_succ,boxAt,key3',key99',mencs_bxs,mencs_ents,kill_bxs,kill_ents,ds_n,ds_r,ds_p,ds_g,ds_y,qd_Ds,ctz42,O42_5,ctz27,O27_9,O27_10,x27_45,z27_44,ctz44,z27_43,ctz43,eq_self, hlt', c1, z', e1, c2', htn, hxc]
        refine ⟨by omega, hx, ?_⟩
        first | refine ⟨⟨by omega, by omega⟩, ⟨by omega, by omega⟩, ?_⟩ | refine ⟨⟨by omega, by omega⟩, ?_⟩
        refine ⟨i, s, l.getD i default, PM, M1, M2, rfl, ⟨by omega, hI, hR, c1, hk, hx⟩, ⟨by simp [AV.stays, AV.stay], by simp [AV.stays, AV.stay, othL]⟩, ⟨rfl, rfl, rfl, rfl⟩, by simp, fun hz PM' M1' M2' hR' => ?_, fun hz PM' M1' M2' => ?_⟩
        · rw [if_pos hz] at hw
          have hI2 := doR_inv hI c1 hx hz
          simp (maxSteps := 4000000) +contextual (disch := first | omega | exact qdb_ok (by kernel_rfl) | exact okb_ok (by kernel_rfl)) only [bw1,bw2,bw3,bw4,bw5,bw6,bw7,bc0,bc1,bc2,bc3,bc4,bc5,bc6,bc7,bb0,setPs,AV.owns,AV.datF,AV.frz,AV.cpy,ifV,isEqB,nilV,nilX,AV.isNilS,AV.isNoRows,wk,dclo,datOf,binIs,addF,AV.isPtr,idxV,AV.isSl,AV.isSlice,AV.rows,ps,pv,extV,extS,AV.outs,AV.outF,packD,AV.dl,fieldV,fieldS,AV.cells?,AV.upr,AV.menc,AV.one,D.one,Value.oneCell',tagOf,AV.isApp,strV,strS,bolV,bolS,slcV,AV.isSlD,asrtS,AV.dcells,D.cells?,stcV,stcS,leafOk,eqDs,eqD,packA,D.val?,↓reduceIte,reduceCtorEq,Nat.reduceAdd,Nat.reduceSub,Nat.reduceMul,List.reduceReplicate,Nat.reduceLeDiff,Nat.reduceLT,Nat.reduceBEq,Nat.reduceEqDiff,Int.reduceNeg,Int.reduceEq,Int.reduceLE,Int.reduceLT,tfb,ps0,ps1,ps2,ps3,ps4,ps5,ps6,ixs86,ixa86,List.set_cons_zero,List.set_cons_succ,boxAt,key3',key99',mencs_bxs,mencs_ents,kill_bxs,kill_ents,ds_n,ds_r,ds_p,ds_g,ds_y,qd_Ds,ctz42,O42_5,ctz27,O27_9,O27_10,x27_45,z27_44,ctz44,z27_43,ctz43,eq_self, putB]
          exact ⟨(i + 1, (doR s (l.getD i default)).1, PM', M1', M2'), ⟨⟨by omega, hI2, hR', hw⟩, by omega⟩, rfl, wk_ents _, wk_ents _, wk_ents _⟩
        · rw [if_neg hz] at hw
          simp (maxSteps := 4000000) +contextual (disch := first | omega | exact qdb_ok (by kernel_rfl) | exact okb_ok (by kernel_rfl)) only [bw1,bw2,bw3,bw4,bw5,bw6,bw7,bc0,bc1,bc2,bc3,bc4,bc5,bc6,bc7,bb0,setPs,AV.owns,AV.datF,AV.frz,AV.cpy,ifV,isEqB,nilV,nilX,AV.isNilS,AV.isNoRows,wk,dclo,datOf,binIs,addF,AV.isPtr,idxV,AV.isSl,AV.isSlice,AV.rows,ps,pv,extV,extS,AV.outs,AV.outF,packD,AV.dl,fieldV,fieldS,AV.cells?,AV.upr,AV.menc,AV.one,D.one,Value.oneCell',tagOf,AV.isApp,strV,strS,bolV,bolS,slcV,AV.isSlD,asrtS,AV.dcells,D.cells?,stcV,stcS,leafOk,eqDs,eqD,packA,D.val?,↓reduceIte,reduceCtorEq,Nat.reduceAdd,Nat.reduceSub,Nat.reduceMul,List.reduceReplicate,Nat.reduceLeDiff,Nat.reduceLT,Nat.reduceBEq,Nat.reduceEqDiff,Int.reduceNeg,Int.reduceEq,Int.reduceLE,Int.reduceLT,tfb,ps0,ps1,ps2,ps3,ps4,ps5,ps6,ixs86,ixa86,List.set_cons_zero,List.set_cons_succ,boxAt,key3',key99',mencs_bxs,mencs_ents,kill_bxs,kill_ents,ds_n,ds_r,ds_p,ds_g,ds_y,qd_Ds,ctz42,O42_5,ctz27,O27_9,O27_10,x27_45,z27_44,ctz44,z27_43,ctz43,eq_self, putB, misV]
          exact R27_no hw hz
      · skip
        have htn : (l.getD i default).kind.toNat = 2 := by omega
        have hxc : ∀ {args : List AV} {KK : AV → List AV → Sto → Prop} {QQ : Kt} {ii : At KK} {jj : At QQ} {ee : List AV} {ss : Sto}, xC Ct27 63 args KK QQ ii jj ee ss = spq 2 args KK QQ ee ss := id rfl
        simp (maxSteps := 4000000) +contextual (disch := first | omega | exact qdb_ok (by kernel_rfl) | exact okb_ok (by kernel_rfl)) only [bw1,bw2,bw3,bw4,bw5,bw6,bw7,bc0,bc1,bc2,bc3,bc4,bc5,bc6,bc7,bb0,setPs,AV.owns,AV.datF,AV.frz,AV.cpy,ifV,isEqB,nilV,nilX,AV.isNilS,AV.isNoRows,wk,dclo,datOf,binIs,addF,AV.isPtr,idxV,AV.isSl,AV.isSlice,AV.rows,ps,pv,extV,extS,AV.outs,AV.outF,packD,AV.dl,fieldV,fieldS,AV.cells?,AV.upr,AV.menc,AV.one,D.one,Value.oneCell',tagOf,AV.isApp,strV,strS,bolV,bolS,slcV,AV.isSlD,asrtS,AV.dcells,D.cells?,stcV,stcS,leafOk,eqDs,eqD,packA,D.val?,↓reduceIte,reduceCtorEq,Nat.reduceAdd,Nat.reduceSub,Nat.reduceMul,List.reduceReplicate,Nat.reduceLeDiff,Nat.reduceLT,Nat.reduceBEq,Nat.reduceEqDiff,Int.reduceNeg,Int.reduceEq,Int.reduceLE,Int.reduceLT,tfb,ps0,ps1,ps2,ps3,ps4,ps5,ps6,ixs86,ixa86,List.set_cons_zero,List.set_cons_succ,boxAt,key3',key99',mencs_bxs,mencs_ents,kill_bxs,kill_ents,ds_n,ds_r,ds_p,ds_g,ds_y,qd_Ds,ctz42,O42_5,ctz27,O27_9,O27_10,x27_45,z27_44,ctz44,z27_43,ctz43,eq_self, hlt', c1, z', e1, c2', htn, hxc]
        refine ⟨by omega, hx, ?_⟩
        first | refine ⟨⟨by omega, by omega⟩, ⟨by omega, by omega⟩, ?_⟩ | refine ⟨⟨by omega, by omega⟩, ?_⟩
        refine ⟨i, s, l.getD i default, PM, M1, M2, rfl, ⟨by omega, hI, hR, c1, hk, hx⟩, ⟨by simp [AV.stays, AV.stay], by simp [AV.stays, AV.stay, othL]⟩, ⟨rfl, rfl, rfl, rfl⟩, by simp, fun hz PM' M1' M2' hR' => ?_, fun hz PM' M1' M2' => ?_⟩
        · rw [if_pos hz] at hw
          have hI2 := doR_inv hI c1 hx hz
          simp (maxSteps := 4000000) +contextual (disch := first | omega | exact qdb_ok (by kernel_rfl) | exact okb_ok (by kernel_rfl)) only [bw1,bw2,bw3,bw4,bw5,bw6,bw7,bc0,bc1,bc2,bc3,bc4,bc5,bc6,bc7,bb0,setPs,AV.owns,AV.datF,AV.frz,AV.cpy,ifV,isEqB,nilV,nilX,AV.isNilS,AV.isNoRows,wk,dclo,datOf,binIs,addF,AV.isPtr,idxV,AV.isSl,AV.isSlice,AV.rows,ps,pv,extV,extS,AV.outs,AV.outF,packD,AV.dl,fieldV,fieldS,AV.cells?,AV.upr,AV.menc,AV.one,D.one,Value.oneCell',tagOf,AV.isApp,strV,strS,bolV,bolS,slcV,AV.isSlD,asrtS,AV.dcells,D.cells?,stcV,stcS,leafOk,eqDs,eqD,packA,D.val?,↓reduceIte,reduceCtorEq,Nat.reduceAdd,Nat.reduceSub,Nat.reduceMul,List.reduceReplicate,Nat.reduceLeDiff,Nat.reduceLT,Nat.reduceBEq,Nat.reduceEqDiff,Int.reduceNeg,Int.reduceEq,Int.reduceLE,Int.reduceLT,tfb,ps0,ps1,ps2,ps3,ps4,ps5,ps6,ixs86,ixa86,List.set_cons_zero,List.set_cons_succ,boxAt,key3',key99',mencs_bxs,mencs_ents,kill_bxs,kill_ents,ds_n,ds_r,ds_p,ds_g,ds_y,qd_Ds,ctz42,O42_5,ctz27,O27_9,O27_10,x27_45,z27_44,ctz44,z27_43,ctz43,eq_self, putB]
          exact ⟨(i + 1, (doR s (l.getD i default)).1, PM', M1', M2'), ⟨⟨by omega, hI2, hR', hw⟩, by omega⟩, rfl, wk_ents _, wk_ents _, wk_ents _⟩
        · rw [if_neg hz] at hw
          simp (maxSteps := 4000000) +contextual (disch := first | omega | exact qdb_ok (by kernel_rfl) | exact okb_ok (by kernel_rfl)) only [bw1,bw2,bw3,bw4,bw5,bw6,bw7,bc0,bc1,bc2,bc3,bc4,bc5,bc6,bc7,bb0,setPs,AV.owns,AV.datF,AV.frz,AV.cpy,ifV,isEqB,nilV,nilX,AV.isNilS,AV.isNoRows,wk,dclo,datOf,binIs,addF,AV.isPtr,idxV,AV.isSl,AV.isSlice,AV.rows,ps,pv,extV,extS,AV.outs,AV.outF,packD,AV.dl,fieldV,fieldS,AV.cells?,AV.upr,AV.menc,AV.one,D.one,Value.oneCell',tagOf,AV.isApp,strV,strS,bolV,bolS,slcV,AV.isSlD,asrtS,AV.dcells,D.cells?,stcV,stcS,leafOk,eqDs,eqD,packA,D.val?,↓reduceIte,reduceCtorEq,Nat.reduceAdd,Nat.reduceSub,Nat.reduceMul,List.reduceReplicate,Nat.reduceLeDiff,Nat.reduceLT,Nat.reduceBEq,Nat.reduceEqDiff,Int.reduceNeg,Int.reduceEq,Int.reduceLE,Int.reduceLT,tfb,ps0,ps1,ps2,ps3,ps4,ps5,ps6,ixs86,ixa86,List.set_cons_zero,List.set_cons_succ,boxAt,key3',key99',mencs_bxs,mencs_ents,kill_bxs,kill_ents,ds_n,ds_r,ds_p,ds_g,ds_y,qd_Ds,ctz42,O42_5,ctz27,O27_9,O27_10,x27_45,z27_44,ctz44,z27_43,ctz43,eq_self, putB, misV]
          exact R27_no hw hz
      · skip
        have htn : (l.getD i default).kind.toNat = 3 := by omega
        have hxc : ∀ {args : List AV} {KK : AV → List AV → Sto → Prop} {QQ : Kt} {ii : At KK} {jj : At QQ} {ee : List AV} {ss : Sto}, xC Ct27 65 args KK QQ ii jj ee ss = spq 3 args KK QQ ee ss := id rfl
        simp (maxSteps := 4000000) +contextual (disch := first | omega | exact qdb_ok (by kernel_rfl) | exact okb_ok (by kernel_rfl)) only [bw1,bw2,bw3,bw4,bw5,bw6,bw7,bc0,bc1,bc2,bc3,bc4,bc5,bc6,bc7,bb0,setPs,AV.owns,AV.datF,AV.frz,AV.cpy,ifV,isEqB,nilV,nilX,AV.isNilS,AV.isNoRows,wk,dclo,datOf,binIs,addF,AV.isPtr,idxV,AV.isSl,AV.isSlice,AV.rows,ps,pv,extV,extS,AV.outs,AV.outF,packD,AV.dl,fieldV,fieldS,AV.cells?,AV.upr,AV.menc,AV.one,D.one,Value.oneCell',tagOf,AV.isApp,strV,strS,bolV,bolS,slcV,AV.isSlD,asrtS,AV.dcells,D.cells?,stcV,stcS,leafOk,eqDs,eqD,packA,D.val?,↓reduceIte,reduceCtorEq,Nat.reduceAdd,Nat.reduceSub,Nat.reduceMul,List.reduceReplicate,Nat.reduceLeDiff,Nat.reduceLT,Nat.reduceBEq,Nat.reduceEqDiff,Int.reduceNeg,Int.reduceEq,Int.reduceLE,Int.reduceLT,tfb,ps0,ps1,ps2,ps3,ps4,ps5,ps6,ixs86,ixa86,List.set_cons_zero,List.set_cons_succ,boxAt,key3',key99',mencs_bxs,mencs_ents,kill_bxs,kill_ents,ds_n,ds_r,ds_p,ds_g,ds_y,qd_Ds,ctz42,O42_5,ctz27,O27_9,O27_10,x27_45,z27_44,ctz44,z27_43,ctz43,eq_self, hlt', c1, z', e1, c2', htn, hxc]
        refine ⟨by omega, hx, ?_⟩
        first | refine ⟨⟨by omega, by omega⟩, ⟨by omega, by omega⟩, ?_⟩ | refine ⟨⟨by omega, by omega⟩, ?_⟩
        refine ⟨i, s, l.getD i default, PM, M1, M2, rfl, ⟨by omega, hI, hR, c1, hk, hx⟩, ⟨by simp [AV.stays, AV.stay], by simp [AV.stays, AV.stay, othL]⟩, ⟨rfl, rfl, rfl, rfl⟩, by simp, fun hz PM' M1' M2' hR' => ?_, fun hz PM' M1' M2' => ?_⟩
        · rw [if_pos hz] at hw
          have hI2 := doR_inv hI c1 hx hz
          simp (maxSteps := 4000000) +contextual (disch := first | omega | exact qdb_ok (by kernel_rfl) | exact okb_ok (by kernel_rfl)) only [bw1,bw2,bw3,bw4,bw5,bw6,bw7,bc0,bc1,bc2,bc3,bc4,bc5,bc6,bc7,bb0,setPs,AV.owns,AV.datF,AV.frz,AV.cpy,ifV,isEqB,nilV,nilX,AV.isNilS,AV.isNoRows,wk,dclo,datOf,binIs,addF,AV.isPtr,idxV,AV.isSl,AV.isSlice,AV.rows,ps,pv,extV,extS,AV.outs,AV.outF,packD,AV.dl,fieldV,fieldS,AV.cells?,AV.upr,AV.menc,AV.one,D.one,Value.oneCell',tagOf,AV.isApp,strV,strS,bolV,bolS,slcV,AV.isSlD,asrtS,AV.dcells,D.cells?,stcV,stcS,leafOk,eqDs,eqD,packA,D.val?,↓reduceIte,reduceCtorEq,Nat.reduceAdd,Nat.reduceSub,Nat.reduceMul,List.reduceReplicate,Nat.reduceLeDiff,Nat.reduceLT,Nat.reduceBEq,Nat.reduceEqDiff,Int.reduceNeg,Int.reduceEq,Int.reduceLE,Int.reduceLT,tfb,ps0,ps1,ps2,ps3,ps4,ps5,ps6,ixs86,ixa86,List.set_cons_zero,List.set_cons_succ,boxAt,key3',key99',mencs_bxs,mencs_ents,kill_bxs,kill_ents,ds_n,ds_r,ds_p,ds_g,ds_y,qd_Ds,ctz42,O42_5,ctz27,O27_9,O27_10,x27_45,z27_44,ctz44,z27_43,ctz43,eq_self, putB]
          exact ⟨(i + 1, (doR s (l.getD i default)).1, PM', M1', M2'), ⟨⟨by omega, hI2, hR', hw⟩, by omega⟩, rfl, wk_ents _, wk_ents _, wk_ents _⟩
        · rw [if_neg hz] at hw
          simp (maxSteps := 4000000) +contextual (disch := first | omega | exact qdb_ok (by kernel_rfl) | exact okb_ok (by kernel_rfl)) only [bw1,bw2,bw3,bw4,bw5,bw6,bw7,bc0,bc1,bc2,bc3,bc4,bc5,bc6,bc7,bb0,setPs,AV.owns,AV.datF,AV.frz,AV.cpy,ifV,isEqB,nilV,nilX,AV.isNilS,AV.isNoRows,wk,dclo,datOf,binIs,addF,AV.isPtr,idxV,AV.isSl,AV.isSlice,AV.rows,ps,pv,extV,extS,AV.outs,AV.outF,packD,AV.dl,fieldV,fieldS,AV.cells?,AV.upr,AV.menc,AV.one,D.one,Value.oneCell',tagOf,AV.isApp,strV,strS,bolV,bolS,slcV,AV.isSlD,asrtS,AV.dcells,D.cells?,stcV,stcS,leafOk,eqDs,eqD,packA,D.val?,↓reduceIte,reduceCtorEq,Nat.reduceAdd,Nat.reduceSub,Nat.reduceMul,List.reduceReplicate,Nat.reduceLeDiff,Nat.reduceLT,Nat.reduceBEq,Nat.reduceEqDiff,Int.reduceNeg,Int.reduceEq,Int.reduceLE,Int.reduceLT,tfb,ps0,ps1,ps2,ps3,ps4,ps5,ps6,ixs86,ixa86,List.set_cons_zero,List.set_cons_succ,boxAt,key3',key99',mencs_bxs,mencs_ents,kill_bxs,kill_ents,ds_n,ds_r,ds_p,ds_g,ds_y,qd_Ds,ctz42,O42_5,ctz27,O27_9,O27_10,x27_45,z27_44,ctz44,z27_43,ctz43,eq_self, putB, misV]
          exact R27_no hw hz
      · skip
        have htn : (l.getD i default).kind.toNat = 4 := by omega
        have hxc : ∀ {args : List AV} {KK : AV → List AV → Sto → Prop} {QQ : Kt} {ii : At KK} {jj : At QQ} {ee : List AV} {ss : Sto}, xC Ct27 66 args KK QQ ii jj ee ss = spq 4 args KK QQ ee ss := id rfl
        simp (maxSteps := 4000000) +contextual (disch := first | omega | exact qdb_ok (by kernel_rfl) | exact okb_ok (by kernel_rfl)) only [bw1,bw2,bw3,bw4,bw5,bw6,bw7,bc0,bc1,bc2,bc3,bc4,bc5,bc6,bc7,bb0,setPs,AV.owns,AV.datF,AV.frz,AV.cpy,ifV,isEqB,nilV,nilX,AV.isNilS,AV.isNoRows,wk,dclo,datOf,binIs,addF,AV.isPtr,idxV,AV.isSl,AV.isSlice,AV.rows,ps,pv,extV,extS,AV.outs,AV.outF,packD,AV.dl,fieldV,fieldS,AV.cells?,AV.upr,AV.menc,AV.one,D.one,Value.oneCell',tagOf,AV.isApp,strV,strS,bolV,bolS,slcV,AV.isSlD,asrtS,AV.dcells,D.cells?,stcV,stcS,leafOk,eqDs,eqD,packA,D.val?,↓reduceIte,reduceCtorEq,Nat.reduceAdd,Nat.reduceSub,Nat.reduceMul,List.reduceReplicate,Nat.reduceLeDiff,Nat.reduceLT,Nat.reduceBEq,Nat.reduceEqDiff,Int.reduceNeg,Int.reduceEq,Int.reduceLE,Int.reduceLT,tfb,ps0,ps1,ps2,ps3,ps4,ps5,ps6,ixs86,ixa86,List.set_cons_zero,List.set_cons_succ,boxAt,key3',key99',mencs_bxs,mencs_ents,kill_bxs,kill_ents,ds_n,ds_r,ds_p,ds_g,ds_y,qd_Ds,ctz42,O42_5,ctz27,O27_9,O27_10,x27_45,z27_44,ctz44,z27_43,ctz43,eq_self, hlt', c1, z', e1, c2', htn, hxc]
        refine ⟨by omega, hx, ?_⟩
        first | refine ⟨⟨by omega, by omega⟩, ⟨by omega, by omega⟩, ?_⟩ | refine ⟨⟨by omega, by omega⟩, ?_⟩
        refine ⟨i, s, l.getD i default, PM, M1, M2, rfl, ⟨by omega, hI, hR, c1, hk, hx⟩, ⟨by simp [AV.stays, AV.stay], by simp [AV.stays, AV.stay, othL]⟩, ⟨rfl, rfl, rfl, rfl⟩, by simp, fun hz PM' M1' M2' hR' => ?_, fun hz PM' M1' M2' => ?_⟩
        · rw [if_pos hz] at hw
          have hI2 := doR_inv hI c1 hx hz
          simp (maxSteps := 4000000) +contextual (disch := first | omega | exact qdb_ok (by kernel_rfl) | exact okb_ok (by kernel_rfl)) only [bw1,bw2,bw3,bw4,bw5,bw6,bw7,bc0,bc1,bc2,bc3,bc4,bc5,bc6,bc7,bb0,setPs,AV.owns,AV.datF,AV.frz,AV.cpy,ifV,isEqB,nilV,nilX,AV.isNilS,AV.isNoRows,wk,dclo,datOf,binIs,addF,AV.isPtr,idxV,AV.isSl,AV.isSlice,AV.rows,ps,pv,extV,extS,AV.outs,AV.outF,packD,AV.dl,fieldV,fieldS,AV.cells?,AV.upr,AV.menc,AV.one,D.one,Value.oneCell',tagOf,AV.isApp,strV,strS,bolV,bolS,slcV,AV.isSlD,asrtS,AV.dcells,D.cells?,stcV,stcS,leafOk,eqDs,eqD,packA,D.val?,↓reduceIte,reduceCtorEq,Nat.reduceAdd,Nat.reduceSub,Nat.reduceMul,List.reduceReplicate,Nat.reduceLeDiff,Nat.reduceLT,Nat.reduceBEq,Nat.reduceEqDiff,Int.reduceNeg,Int.reduceEq,Int.reduceLE,Int.reduceLT,tfb,ps0,ps1,ps2,ps3,ps4,ps5,ps6,ixs86,ixa86,List.set_cons_zero,List.set_cons_succ,boxAt,key3',key99',mencs_bxs,mencs_ents,kill_bxs,kill_ents,ds_n,ds_r,ds_p,ds_g,ds_y,qd_Ds,ctz42,O42_5,ctz27,O27_9,O27_10,x27_45,z27_44,ctz44,z27_43,ctz43,eq_self, putB]
          exact ⟨(i + 1, (doR s (l.getD i default)).1, PM', M1', M2'), ⟨⟨by omega, hI2, hR', hw⟩, by omega⟩, rfl, wk_ents _, wk_ents _, wk_ents _⟩
        · rw [if_neg hz] at hw
          simp (maxSteps := 4000000) +contextual (disch := first | omega | exact qdb_ok (by kernel_rfl) | exact okb_ok (by kernel_rfl)) only [bw1,bw2,bw3,bw4,bw5,bw6,bw7,bc0,bc1,bc2,bc3,bc4,bc5,bc6,bc7,bb0,setPs,AV.owns,AV.datF,AV.frz,AV.cpy,ifV,isEqB,nilV,nilX,AV.isNilS,AV.isNoRows,wk,dclo,datOf,binIs,addF,AV.isPtr,idxV,AV.isSl,AV.isSlice,AV.rows,ps,pv,extV,extS,AV.outs,AV.outF,packD,AV.dl,fieldV,fieldS,AV.cells?,AV.upr,AV.menc,AV.one,D.one,Value.oneCell',tagOf,AV.isApp,strV,strS,bolV,bolS,slcV,AV.isSlD,asrtS,AV.dcells,D.cells?,stcV,stcS,leafOk,eqDs,eqD,packA,D.val?,↓reduceIte,reduceCtorEq,Nat.reduceAdd,Nat.reduceSub,Nat.reduceMul,List.reduceReplicate,Nat.reduceLeDiff,Nat.reduceLT,Nat.reduceBEq,Nat.reduceEqDiff,Int.reduceNeg,Int.reduceEq,Int.reduceLE,Int.reduceLT,tfb,ps0,ps1,ps2,ps3,ps4,ps5,ps6,ixs86,ixa86,List.set_cons_zero,List.set_cons_succ,boxAt,key3',key99',mencs_bxs,mencs_ents,kill_bxs,kill_ents,ds_n,ds_r,ds_p,ds_g,ds_y,qd_Ds,ctz42,O42_5,ctz27,O27_9,O27_10,x27_45,z27_44,ctz44,z27_43,ctz43,eq_self, putB, misV]
          exact R27_no hw hz
      · skip
        have htn : (l.getD i default).kind.toNat = 5 := by omega
        have hxc : ∀ {args : List AV} {KK : AV → List AV → Sto → Prop} {QQ : Kt} {ii : At KK} {jj : At QQ} {ee : List AV} {ss : Sto}, xC Ct27 67 args KK QQ ii jj ee ss = spq 5 args KK QQ ee ss := id rfl
        simp (maxSteps := 4000000) +contextual (disch := first | omega | exact qdb_ok (by kernel_rfl) | exact okb_ok (by kernel_rfl)) only [bw1,bw2,bw3,bw4,bw5,bw6,bw7,bc0,bc1,bc2,bc3,bc4,bc5,bc6,bc7,bb0,setPs,AV.owns,AV.datF,AV.frz,AV.cpy,ifV,isEqB,nilV,nilX,AV.isNilS,AV.isNoRows,wk,dclo,datOf,binIs,addF,AV.isPtr,idxV,AV.isSl,AV.isSlice,AV.rows,ps,pv,extV,extS,AV.outs,AV.outF,packD,AV.dl,fieldV,fieldS,AV.cells?,AV.upr,AV.menc,AV.one,D.one,Value.oneCell',tagOf,AV.isApp,strV,strS,bolV,bolS,slcV,AV.isSlD,asrtS,AV.dcells,D.cells?,stcV,stcS,leafOk,eqDs,eqD,packA,D.val?,↓reduceIte,reduceCtorEq,Nat.reduceAdd,Nat.reduceSub,Nat.reduceMul,List.reduceReplicate,Nat.reduceLeDiff,Nat.reduceLT,Nat.reduceBEq,Nat.reduceEqDiff,Int.reduceNeg,Int.reduceEq,Int.reduceLE,Int.reduceLT,tfb,ps0,ps1,ps2,ps3,ps4,ps5,ps6,ixs86,ixa86,List.set_cons_zero,List.set_cons_succ,boxAt,key3',key99',mencs_bxs,mencs_ents,kill_bxs,kill_ents,ds_n,ds_r,ds_p,ds_g,ds_y,qd_Ds,ctz42,O42_5,ctz27,O27_9,O27_10,x27_45,z27_44,ctz44,z27_43,ctz43,eq_self, hlt', c1, z', e1, c2', htn, hxc]
        refine ⟨by omega, hx, ?_⟩
        first | refine ⟨⟨by omega, by omega⟩, ⟨by omega, by omega⟩, ?_⟩ | refine ⟨⟨by omega, by omega⟩, ?_⟩
        refine ⟨i, s, l.getD i default, PM, M1, M2, rfl, ⟨by omega, hI, hR, c1, hk, hx⟩, ⟨by simp [AV.stays, AV.stay], by simp [AV.stays, AV.stay, othL]⟩, ⟨rfl, rfl, rfl, rfl⟩, by simp, fun hz PM' M1' M2' hR' => ?_, fun hz PM' M1' M2' => ?_⟩
        · rw [if_pos hz] at hw
          have hI2 := doR_inv hI c1 hx hz
          simp (maxSteps := 4000000) +contextual (disch := first | omega | exact qdb_ok (by kernel_rfl) | exact okb_ok (by kernel_rfl)) only [bw1,bw2,bw3,bw4,bw5,bw6,bw7,bc0,bc1,bc2,bc3,bc4,bc5,bc6,bc7,bb0,setPs,AV.owns,AV.datF,AV.frz,AV.cpy,ifV,isEqB,nilV,nilX,AV.isNilS,AV.isNoRows,wk,dclo,datOf,binIs,addF,AV.isPtr,idxV,AV.isSl,AV.isSlice,AV.rows,ps,pv,extV,extS,AV.outs,AV.outF,packD,AV.dl,fieldV,fieldS,AV.cells?,AV.upr,AV.menc,AV.one,D.one,Value.oneCell',tagOf,AV.isApp,strV,strS,bolV,bolS,slcV,AV.isSlD,asrtS,AV.dcells,D.cells?,stcV,stcS,leafOk,eqDs,eqD,packA,D.val?,↓reduceIte,reduceCtorEq,Nat.reduceAdd,Nat.reduceSub,Nat.reduceMul,List.reduceReplicate,Nat.reduceLeDiff,Nat.reduceLT,Nat.reduceBEq,Nat.reduceEqDiff,Int.reduceNeg,Int.reduceEq,Int.reduceLE,Int.reduceLT,tfb,ps0,ps1,ps2,ps3,ps4,ps5,ps6,ixs86,ixa86,List.set_cons_zero,List.set_cons_succ,boxAt,key3',key99',mencs_bxs,mencs_ents,kill_bxs,kill_ents,ds_n,ds_r,ds_p,ds_g,ds_y,qd_Ds,ctz42,O42_5,ctz27,O27_9,O27_10,x27_45,z27_44,ctz44,z27_43,ctz43,eq_self, putB]
          exact ⟨(i + 1, (doR s (l.getD i default)).1, PM', M1', M2'), ⟨⟨by omega, hI2, hR', hw⟩, by omega⟩, rfl, wk_ents _, wk_ents _, wk_ents _⟩
        · rw [if_neg hz] at hw
          simp (maxSteps := 4000000) +contextual (disch := first | omega | exact qdb_ok (by kernel_rfl) | exact okb_ok (by kernel_rfl)) only [bw1,bw2,bw3,bw4,bw5,bw6,bw7,bc0,bc1,bc2,bc3,bc4,bc5,bc6,bc7,bb0,setPs,AV.owns,AV.datF,AV.frz,AV.cpy,ifV,isEqB,nilV,nilX,AV.isNilS,AV.isNoRows,wk,dclo,datOf,binIs,addF,AV.isPtr,idxV,AV.isSl,AV.isSlice,AV.rows,ps,pv,extV,extS,AV.outs,AV.outF,packD,AV.dl,fieldV,fieldS,AV.cells?,AV.upr,AV.menc,AV.one,D.one,Value.oneCell',tagOf,AV.isApp,strV,strS,bolV,bolS,slcV,AV.isSlD,asrtS,AV.dcells,D.cells?,stcV,stcS,leafOk,eqDs,eqD,packA,D.val?,↓reduceIte,reduceCtorEq,Nat.reduceAdd,Nat.reduceSub,Nat.reduceMul,List.reduceReplicate,Nat.reduceLeDiff,Nat.reduceLT,Nat.reduceBEq,Nat.reduceEqDiff,Int.reduceNeg,Int.reduceEq,Int.reduceLE,Int.reduceLT,tfb,ps0,ps1,ps2,ps3,ps4,ps5,ps6,ixs86,ixa86,List.set_cons_zero,List.set_cons_succ,boxAt,key3',key99',mencs_bxs,mencs_ents,kill_bxs,kill_ents,ds_n,ds_r,ds_p,ds_g,ds_y,qd_Ds,ctz42,O42_5,ctz27,O27_9,O27_10,x27_45,z27_44,ctz44,z27_43,ctz43,eq_self, putB, misV]
          exact R27_no hw hz
      · skip
        have htn : (l.getD i default).kind.toNat = 6 := by omega
        have hxc : ∀ {args : List AV} {KK : AV → List AV → Sto → Prop} {QQ : Kt} {ii : At KK} {jj : At QQ} {ee : List AV} {ss : Sto}, xC Ct27 68 args KK QQ ii jj ee ss = spq 6 args KK QQ ee ss := id rfl
        simp (maxSteps := 4000000) +contextual (disch := first | omega | exact qdb_ok (by kernel_rfl) | exact okb_ok (by kernel_rfl)) only [bw1,bw2,bw3,bw4,bw5,bw6,bw7,bc0,bc1,bc2,bc3,bc4,bc5,bc6,bc7,bb0,setPs,AV.owns,AV.datF,AV.frz,AV.cpy,ifV,isEqB,nilV,nilX,AV.isNilS,AV.isNoRows,wk,dclo,datOf,binIs,addF,AV.isPtr,idxV,AV.isSl,AV.isSlice,AV.rows,ps,pv,extV,extS,AV.outs,AV.outF,packD,AV.dl,fieldV,fieldS,AV.cells?,AV.upr,AV.menc,AV.one,D.one,Value.oneCell',tagOf,AV.isApp,strV,strS,bolV,bolS,slcV,AV.isSlD,asrtS,AV.dcells,D.cells?,stcV,stcS,leafOk,eqDs,eqD,packA,D.val?,↓reduceIte,reduceCtorEq,Nat.reduceAdd,Nat.reduceSub,Nat.reduceMul,List.reduceReplicate,Nat.reduceLeDiff,Nat.reduceLT,Nat.reduceBEq,Nat.reduceEqDiff,Int.reduceNeg,Int.reduceEq,Int.reduceLE,Int.reduceLT,tfb,ps0,ps1,ps2,ps3,ps4,ps5,ps6,ixs86,ixa86,List.set_cons_zero,List.set_cons_succ,boxAt,key3',key99',mencs_bxs,mencs_ents,kill_bxs,kill_ents,ds_n,ds_r,ds_p,ds_g,ds_y,qd_Ds,ctz42,O42_5,ctz27,O27_9,O27_10,x27_45,z27_44,ctz44,z27_43,ctz43,eq_self, hlt', c1, z', e1, c2', htn, hxc]
        refine ⟨by omega, hx, ?_⟩
        first | refine ⟨⟨by omega, by omega⟩, ⟨by omega, by omega⟩, ?_⟩ | refine ⟨⟨by omega, by omega⟩, ?_⟩
        refine ⟨i, s, l.getD i default, PM, M1, M2, rfl, ⟨by omega, hI, hR, c1, hk, hx⟩, ⟨by simp [AV.stays, AV.stay], by simp [AV.stays, AV.stay, othL]⟩, ⟨rfl, rfl, rfl, rfl⟩, by simp, fun hz PM' M1' M2' hR' => ?_, fun hz PM' M1' M2' => ?_⟩
        · rw [if_pos hz] at hw
          have hI2 := doR_inv hI c1 hx hz
          simp (maxSteps := 4000000) +contextual (disch := first | omega | exact qdb_ok (by kernel_rfl) | exact okb_ok (by kernel_rfl)) only [bw1,bw2,bw3,bw4,bw5,bw6,bw7,bc0,bc1,bc2,bc3,bc4,bc5,bc6,bc7,bb0,setPs,AV.owns,AV.datF,AV.frz,AV.cpy,ifV,isEqB,nilV,nilX,AV.isNilS,AV.isNoRows,wk,dclo,datOf,binIs,addF,AV.isPtr,idxV,AV.isSl,AV.isSlice,AV.rows,ps,pv,extV,extS,AV.outs,AV.outF,packD,AV.dl,fieldV,fieldS,AV.cells?,AV.upr,AV.menc,AV.one,D.one,Value.oneCell',tagOf,AV.isApp,strV,strS,bolV,bolS,slcV,AV.isSlD,asrtS,AV.dcells,D.cells?,stcV,stcS,leafOk,eqDs,eqD,packA,D.val?,↓reduceIte,reduceCtorEq,Nat.reduceAdd,Nat.reduceSub,Nat.reduceMul,List.reduceReplicate,Nat.reduceLeDiff,Nat.reduceLT,Nat.reduceBEq,Nat.reduceEqDiff,Int.reduceNeg,Int.reduceEq,Int.reduceLE,Int.reduceLT,tfb,ps0,ps1,ps2,ps3,ps4,ps5,ps6,ixs86,ixa86,List.set_cons_zero,List.set_cons_succ,boxAt,key3',key99',mencs_bxs,mencs_ents,kill_bxs,kill_ents,ds_n,ds_r,ds_p,ds_g,ds_y,qd_Ds,ctz42,O42_5,ctz27,O27_9,O27_10,x27_45,z27_44,ctz44,z27_43,ctz43,eq_self, putB]
          exact ⟨(i + 1, (doR s (l.getD i default)).1, PM', M1', M2'), ⟨⟨by omega, hI2, hR', hw⟩, by omega⟩, rfl, wk_ents _, wk_ents _, wk_ents _⟩
        · rw [if_neg hz] at hw
          simp (maxSteps := 4000000) +contextual (disch := first | omega | exact qdb_ok (by kernel_rfl) | exact okb_ok (by kernel_rfl)) only [bw1,bw2,bw3,bw4,bw5,bw6,bw7,bc0,bc1,bc2,bc3,bc4,bc5,bc6,bc7,bb0,setPs,AV.owns,AV.datF,AV.frz,AV.cpy,ifV,isEqB,nilV,nilX,AV.isNilS,AV.isNoRows,wk,dclo,datOf,binIs,addF,AV.isPtr,idxV,AV.isSl,AV.isSlice,AV.rows,ps,pv,extV,extS,AV.outs,AV.outF,packD,AV.dl,fieldV,fieldS,AV.cells?,AV.upr,AV.menc,AV.one,D.one,Value.oneCell',tagOf,AV.isApp,strV,strS,bolV,bolS,slcV,AV.isSlD,asrtS,AV.dcells,D.cells?,stcV,stcS,leafOk,eqDs,eqD,packA,D.val?,↓reduceIte,reduceCtorEq,Nat.reduceAdd,Nat.reduceSub,Nat.reduceMul,List.reduceReplicate,Nat.reduceLeDiff,Nat.reduceLT,Nat.reduceBEq,Nat.reduceEqDiff,Int.reduceNeg,Int.reduceEq,Int.reduceLE,Int.reduceLT,tfb,ps0,ps1,ps2,ps3,ps4,ps5,ps6,ixs86,ixa86,List.set_cons_zero,List.set_cons_succ,boxAt,key3',key99',mencs_bxs,mencs_ents,kill_bxs,kill_ents,ds_n,ds_r,ds_p,ds_g,ds_y,qd_Ds,ctz42,O42_5,ctz27,O27_9,O27_10,x27_45,z27_44,ctz44,z27_43,ctz43,eq_self, putB, misV]
          exact R27_no hw hz
  have hlt' : ¬ (i : Int) < l.length := by omega
  obtain rfl : i = l.length := by omega
  rw [Nat.sub_self, runN] at hw
  simp (maxSteps := 4000000) +contextual (disch := first | omega | exact qdb_ok (by kernel_rfl) | exact okb_ok (by kernel_rfl)) only [bw1,bw2,bw3,bw4,bw5,bw6,bw7,bc0,bc1,bc2,bc3,bc4,bc5,bc6,bc7,bb0,setPs,AV.owns,AV.datF,AV.frz,AV.cpy,ifV,isEqB,nilV,nilX,AV.isNilS,AV.isNoRows,wk,dclo,datOf,binIs,addF,AV.isPtr,idxV,AV.isSl,AV.isSlice,AV.rows,ps,pv,extV,extS,AV.outs,AV.outF,packD,AV.dl,fieldV,fieldS,AV.cells?,AV.upr,AV.menc,AV.one,D.one,Value.oneCell',tagOf,AV.isApp,strV,strS,bolV,bolS,slcV,AV.isSlD,asrtS,AV.dcells,D.cells?,stcV,stcS,leafOk,eqDs,eqD,packA,D.val?,↓reduceIte,reduceCtorEq,Nat.reduceAdd,Nat.reduceSub,Nat.reduceMul,List.reduceReplicate,Nat.reduceLeDiff,Nat.reduceLT,Nat.reduceBEq,Nat.reduceEqDiff,Int.reduceNeg,Int.reduceEq,Int.reduceLE,Int.reduceLT,tfb,ps0,ps1,ps2,ps3,ps4,ps5,ps6,ixs86,ixa86,List.set_cons_zero,List.set_cons_succ,boxAt,key3',key99',mencs_bxs,mencs_ents,kill_bxs,kill_ents,ds_n,ds_r,ds_p,ds_g,ds_y,qd_Ds,ctz42,O42_5,ctz27,O27_9,O27_10,x27_45,z27_44,ctz44,z27_43,ctz43,eq_self, Int.lt_irrefl]
  unfold R27
  rw [← hw, if_pos rfl]
  exact ⟨rfl, ⟨PM, M1, M2, hR, rfl, rfl, rfl, rfl⟩, rfl⟩
end Go.Proofs.Ytohkngiflfkjjaa
