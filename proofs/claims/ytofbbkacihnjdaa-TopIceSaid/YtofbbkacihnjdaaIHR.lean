/- A part of the proof that the last text ends: what functions of the program do, told by plain data. -/
import Derived.Test.YtofbbkacihnjdaaIHQ
import Derived.Test.YtofbbkacihnjdaaEc
set_option linter.unusedVariables false
set_option linter.unusedSimpArgs false
namespace Go.Proofs.Ytofbbkacihnjdaa
open Go Go.E Go.Maps
set_option maxRecDepth 100000
set_option maxHeartbeats 16000000
def fsN (t : Tt) (f : Sd → Option (List Int)) (s : Sd) : Nat → Option (List Int)
  | 0 => none
  | r + 1 => match fsN t f s r with
    | some p => some p
    | none => if chB t s r = true then (f (nxS s (r : Int))).map fun p => (r : Int) :: p else none
def fnd (t : Tt) (is : Cn → Bool) : Nat → Sd → Option (List Int)
  | 0, s => if is s.n = true then some [] else none
  | n + 1, s => match fsN t (fnd t is n) s t.groups.length with
    | some p => some p
    | none => (fnd t is n (nxS s (-1))).map fun p => (-1 : Int) :: p
theorem fsN_yes {t : Tt} {f : Sd → Option (List Int)} {s : Sd} {r : Nat} (h : fsN t f s r = none) (hc : chB t s r = true) : fsN t f s (r + 1) = (f (nxS s (r : Int))).map fun p => (r : Int) :: p := by
  unfold fsN; rw [h]; simp only [if_pos hc]
theorem fsN_no {t : Tt} {f : Sd → Option (List Int)} {s : Sd} {r : Nat} (h : fsN t f s r = none) (hc : ¬ chB t s r = true) : fsN t f s (r + 1) = none := by
  unfold fsN; rw [h]; simp only [if_neg hc]
theorem fsN_up {t : Tt} {f : Sd → Option (List Int)} {s : Sd} {r : Nat} {p : List Int} (h : fsN t f s r = some p) : ∀ m, r ≤ m → fsN t f s m = some p
  | 0, hm => by rw [show r = 0 by omega] at h; exact h
  | m + 1, hm => by
    rcases Nat.lt_or_eq_of_le hm with h1 | h1
    · unfold fsN; rw [fsN_up h m (by omega)]
    · rw [← h1]; exact h
theorem fnd_len {t : Tt} {is : Cn → Bool} : ∀ n s p, fnd t is n s = some p → p.length = n
  | 0, s, p, h => by
    unfold fnd at h
    split at h
    · cases h; rfl
    · cases h
  | n + 1, s, p, h => by
    have key : ∀ r p, fsN t (fnd t is n) s r = some p → p.length = n + 1 := by
      intro r
      induction r with
      | zero => intro p h; cases h
      | succ r ih =>
        intro p h
        unfold fsN at h
        split at h
        · rename_i q hq; cases h; exact ih _ hq
        · split at h
          · obtain ⟨q, hq, rfl⟩ := Option.map_eq_some_iff.1 h
            rw [List.length_cons, fnd_len n _ q hq]
          · cases h
    unfold fnd at h
    split at h
    · rename_i q hq; cases h; exact key _ _ hq
    · obtain ⟨q, hq, rfl⟩ := Option.map_eq_some_iff.1 h
      rw [List.length_cons, fnd_len n _ q hq]
def O17 : Nat → Sch := fun id => .done
theorem ho17 : Try.f17.body.map (okO O17) = some true := by kernel_rfl
def Cf17 : Nat → List AV → (AV → List AV → Sto → Prop) → Kt → List AV → Sto → Prop := fun f args K Q e s => match f with
  | 15 => ent15 (AV.outs s args) K (mk _) e s
  | _ => False
def Ct17 : CT := { f := Cf17, y := noYld, z := fun d => false }
theorem ctz17 {d : Nat} : CT.z Ct17 d = (false) := id rfl
theorem Ct17_ok : Ct17.ok Try.prog := ok_of_f (fun f args K Q e s h => by
  have h : Cf17 f args K Q e s := h
  unfold Cf17 at h; split at h
  · exact ent15_ok h
  · exact h.elim) (fun _ _ _ _ _ _ _ _ _ h => h)
theorem x17_15 {args : List AV} {KK : AV → List AV → Sto → Prop} {QQ : Kt} {ii : At KK} {jj : At QQ} {ee : List AV} {ss : Sto} : xC Ct17 15 args KK QQ ii jj ee ss = ent15 (AV.outs ss args) KK (mk _) ee ss := id rfl
theorem c17 : callable Try.prog 17 = true := by kernel_rfl
theorem pf17 (c : Cn) (t : Tt) (b : Cn) (h : ttOk t = true ∧ CnB c ∧ CnB b) : PF Try.prog 17 [.agg c.v, .ptr [.ptr t.c 0] 0, .ptr b.v 0] (fun zz => zz = .ret (.b (decide (cmpC t c b = 0)))) := by
  obtain ⟨h1, h2, h3⟩ := h
  by_cases c0 : cmpC t c b = 0
  · have c0b : (cmpC t c b == 0) = true := by simpa using c0
    rw [decide_eq_true c0]
    refine PF_nil (PF_start (O := O17) Ct17_ok hmix ho17 Try.func17 c17 rfl Try.ntmps17 Try.results17 ?_)
    simp (maxSteps := 4000000) +contextual (disch := first | omega | exact qdb_ok (by kernel_rfl) | exact okb_ok (by kernel_rfl)) only [bw1,bw2,bw3,bw4,bw5,bw6,bw7,bc0,bc1,bc2,bc3,bc4,bc5,bc6,bc7,bb0,setPs,AV.owns,AV.datF,AV.frz,AV.cpy,ifV,isEqB,nilV,nilX,AV.isNilS,AV.isNoRows,wk,dclo,datOf,binIs,addF,AV.isPtr,idxV,AV.isSl,AV.isSlice,AV.rows,ps,pv,extV,extS,AV.outs,AV.outF,packD,AV.dl,fieldV,fieldS,AV.cells?,AV.upr,AV.menc,AV.one,D.one,Value.oneCell',tagOf,AV.isApp,strV,strS,bolV,bolS,slcV,AV.isSlD,asrtS,AV.dcells,D.cells?,stcV,stcS,leafOk,eqDs,eqD,packA,D.val?,↓reduceIte,reduceCtorEq,Nat.reduceAdd,Nat.reduceSub,Nat.reduceMul,List.reduceReplicate,Nat.reduceLeDiff,Nat.reduceLT,Nat.reduceBEq,Nat.reduceEqDiff,Int.reduceNeg,Int.reduceEq,Int.reduceLE,Int.reduceLT,tfb,D.flat,D.flats,ctz17,x17_15,eq15,h1, h2, h3, c0b]
    try rfl
  · have c0b : (cmpC t c b == 0) = false := by simpa using c0
    rw [decide_eq_false c0]
    refine PF_nil (PF_start (O := O17) Ct17_ok hmix ho17 Try.func17 c17 rfl Try.ntmps17 Try.results17 ?_)
    simp (maxSteps := 4000000) +contextual (disch := first | omega | exact qdb_ok (by kernel_rfl) | exact okb_ok (by kernel_rfl)) only [bw1,bw2,bw3,bw4,bw5,bw6,bw7,bc0,bc1,bc2,bc3,bc4,bc5,bc6,bc7,bb0,setPs,AV.owns,AV.datF,AV.frz,AV.cpy,ifV,isEqB,nilV,nilX,AV.isNilS,AV.isNoRows,wk,dclo,datOf,binIs,addF,AV.isPtr,idxV,AV.isSl,AV.isSlice,AV.rows,ps,pv,extV,extS,AV.outs,AV.outF,packD,AV.dl,fieldV,fieldS,AV.cells?,AV.upr,AV.menc,AV.one,D.one,Value.oneCell',tagOf,AV.isApp,strV,strS,bolV,bolS,slcV,AV.isSlD,asrtS,AV.dcells,D.cells?,stcV,stcS,leafOk,eqDs,eqD,packA,D.val?,↓reduceIte,reduceCtorEq,Nat.reduceAdd,Nat.reduceSub,Nat.reduceMul,List.reduceReplicate,Nat.reduceLeDiff,Nat.reduceLT,Nat.reduceBEq,Nat.reduceEqDiff,Int.reduceNeg,Int.reduceEq,Int.reduceLE,Int.reduceLT,tfb,D.flat,D.flats,ctz17,x17_15,eq15,h1, h2, h3, c0b]
    try rfl
def ent17 (o : Option (List D)) (K : AV → List AV → Sto → Prop) (i : At K) (e : List AV) (s : Sto) : Prop := entS (α := (Cn) × (Tt) × (Cn)) (fun aa => [.agg aa.1.v, .ptr [.ptr aa.2.1.c 0] 0, .ptr aa.2.2.v 0]) (fun aa => ttOk aa.2.1 = true ∧ CnB aa.1 ∧ CnB aa.2.2) (fun aa => .b (decide (cmpC aa.2.1 aa.1 aa.2.2 = 0))) o K i e s
theorem ent17_ok {args : List AV} {K : AV → List AV → Sto → Prop} {Q : Kt} {e : List AV} {s : Sto} (h : ent17 (AV.outs s args) K (mk _) e s) : pcall Try.prog 17 args K Q e s := entS_ok (fun aa h => pf17 aa.1 aa.2.1 aa.2.2 h) h
theorem eq17 {c : Cn} {t : Tt} {b : Cn} {KK : AV → List AV → Sto → Prop} {ii : At KK} {ee : List AV} {ss : Sto} : ent17 (some [.agg c.v, .ptr [.ptr t.c 0] 0, .ptr b.v 0]) KK ii ee ss = ((ttOk t = true ∧ CnB c ∧ CnB b) ∧ (.b (decide (cmpC t c b = 0)) : D).flat = true ∧ KK (.d (.b (decide (cmpC t c b = 0)))) ee ss) := by
  unfold ent17; rw [entS_iff (c, t, b) (by intro b h; simpa [Prod.ext_iff, and_assoc, Int.ofNat_inj, ints_inj, hrs_inj, grs_inj, hr_inj, gr_inj, tt_inj, bcs_inj, cn_inj, sd_inj] using h)] <;> simp
end Go.Proofs.Ytofbbkacihnjdaa
