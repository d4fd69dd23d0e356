/- A part of the proof that the last text ends: what functions of the program do, told by plain data. -/
import Derived.Test.YtapglfcaghlpfaaSA
set_option linter.unusedVariables false
set_option linter.unusedSimpArgs false
namespace Go.Proofs.Ytapglfcaghlpfaa
open Go Go.E
set_option maxRecDepth 100000
set_option maxHeartbeats 8000000
def cmpI (a b : Int) : Int := if a < b then -1 else if b < a then 1 else 0
def better (a b : Sco) : Bool := decide (b.total < a.total) || (decide (a.total = b.total) && decide (b.elements < a.elements))
def O87 : Nat → Sch := fun id => .done
theorem ho87 : Try.f87.body.map (okO O87) = some true := by kernel_rfl
def Cf87 : Nat → List AV → (AV → List AV → Sto → Prop) → Kt → List AV → Sto → Prop := fun f args K Q e s => match f with
  | _ => False
def Ct87 : CT := { f := Cf87, y := noYld, z := fun d => false }
theorem ctz87 {d : Nat} : CT.z Ct87 d = (false) := id rfl
theorem Ct87_ok : Ct87.ok Try.prog := ok_of_f (fun f args K Q e s h => by
  have h : Cf87 f args K Q e s := h
  unfold Cf87 at h; split at h
  · exact h.elim) (fun _ _ _ _ _ _ _ _ _ h => h)
theorem c87 : callable Try.prog 87 = true := by kernel_rfl
theorem pf87 (n : Int) : PF Try.prog 87 [.i n] (fun zz => zz = .ret (.b false)) := by
  refine PF_nil (PF_start (O := O87) Ct87_ok hmix ho87 Try.func87 c87 rfl Try.ntmps87 Try.results87 ?_)
  simp (maxSteps := 4000000) +contextual (disch := first | omega | exact qdb_ok (by kernel_rfl) | exact okb_ok (by kernel_rfl)) only [bw1,bw2,bw3,bw4,bw5,bw6,bw7,bc0,bc1,bc2,bc3,bc4,bc5,bc6,bc7,setPs,AV.owns,AV.datF,AV.frz,AV.cpy,ifV,isEqB,nilV,nilX,AV.isNilS,AV.isNoRows,wk,dclo,datOf,binIs,addF,AV.isPtr,idxV,AV.isSl,AV.isSlice,AV.rows,ps,pv,extV,extS,AV.outs,AV.outF,packD,AV.dl,fieldV,fieldS,AV.cells?,AV.upr,AV.menc,AV.one,D.one,Value.oneCell',tagOf,AV.isApp,strV,strS,bolV,bolS,slcV,AV.isSlD,asrtS,AV.dcells,D.cells?,stcV,stcS,leafOk,eqDs,eqD,packA,D.val?,↓reduceIte,reduceCtorEq,Nat.reduceAdd,Nat.reduceSub,Nat.reduceMul,List.reduceReplicate,Nat.reduceLeDiff,Nat.reduceLT,Nat.reduceBEq,Nat.reduceEqDiff,Int.reduceNeg,Int.reduceEq,Int.reduceLE,Int.reduceLT,tfb,D.flat,D.flats,ctz87]
  simp
def ent87 (args : List AV) (K : AV → List AV → Sto → Prop) (e : List AV) (s : Sto) : Prop := ent (α := (Int)) (fun aa => [.i aa]) (fun aa => True) (fun aa => .b false) args K e s
theorem ent87_ok {args : List AV} {K : AV → List AV → Sto → Prop} {Q : Kt} {e : List AV} {s : Sto} (h : ent87 args K e s) : pcall Try.prog 87 args K Q e s := ent_ok (fun aa h => pf87 aa) h
theorem eq87 {n : Int} {KK : AV → List AV → Sto → Prop} {ee : List AV} {ss : Sto} : ent87 [.d (.i n)] KK ee ss = (KK (.d (.b false)) ee ss) := by
  unfold ent87; rw [ent_iff n (by intro b h; simpa [Prod.ext_iff, and_assoc, Int.ofNat_inj, ints_inj, cals_inj, pcs_inj, skas_inj, scos_inj, ska_inj, rul_inj, sco_inj, cal_inj] using h) rfl]; simp
def O72 : Nat → Sch := fun id => .done
theorem ho72 : Try.f72.body.map (okO O72) = some true := by kernel_rfl
def Cf72 : Nat → List AV → (AV → List AV → Sto → Prop) → Kt → List AV → Sto → Prop := fun f args K Q e s => match f with
  | 87 => ent87 args K e s
  | _ => False
def Ct72 : CT := { f := Cf72, y := noYld, z := fun d => false }
theorem ctz72 {d : Nat} : CT.z Ct72 d = (false) := id rfl
theorem Ct72_ok : Ct72.ok Try.prog := ok_of_f (fun f args K Q e s h => by
  have h : Cf72 f args K Q e s := h
  unfold Cf72 at h; split at h
  · exact ent87_ok h
  · exact h.elim) (fun _ _ _ _ _ _ _ _ _ h => h)
theorem x72_87 {n : Int} {KK : AV → List AV → Sto → Prop} {QQ : Kt} {ii : At KK} {jj : At QQ} {ee : List AV} {ss : Sto} : xC Ct72 87 [.d (.i n)] KK QQ ii jj ee ss = (KK (.d (.b false)) ee ss) := eq87
theorem c72 : callable Try.prog 72 = true := by kernel_rfl
theorem pf72 (a b : Int) : PF Try.prog 72 [.i a, .i b] (fun zz => zz = .ret (.i (cmpI a b))) := by
  refine PF_nil (PF_start (O := O72) Ct72_ok hmix ho72 Try.func72 c72 rfl Try.ntmps72 Try.results72 ?_)
  unfold cmpI
  by_cases c1 : a < b
  · simp (maxSteps := 4000000) +contextual (disch := first | omega | exact qdb_ok (by kernel_rfl) | exact okb_ok (by kernel_rfl)) only [bw1,bw2,bw3,bw4,bw5,bw6,bw7,bc0,bc1,bc2,bc3,bc4,bc5,bc6,bc7,setPs,AV.owns,AV.datF,AV.frz,AV.cpy,ifV,isEqB,nilV,nilX,AV.isNilS,AV.isNoRows,wk,dclo,datOf,binIs,addF,AV.isPtr,idxV,AV.isSl,AV.isSlice,AV.rows,ps,pv,extV,extS,AV.outs,AV.outF,packD,AV.dl,fieldV,fieldS,AV.cells?,AV.upr,AV.menc,AV.one,D.one,Value.oneCell',tagOf,AV.isApp,strV,strS,bolV,bolS,slcV,AV.isSlD,asrtS,AV.dcells,D.cells?,stcV,stcS,leafOk,eqDs,eqD,packA,D.val?,↓reduceIte,reduceCtorEq,Nat.reduceAdd,Nat.reduceSub,Nat.reduceMul,List.reduceReplicate,Nat.reduceLeDiff,Nat.reduceLT,Nat.reduceBEq,Nat.reduceEqDiff,Int.reduceNeg,Int.reduceEq,Int.reduceLE,Int.reduceLT,tfb,D.flat,D.flats,ctz72,x72_87,c1]
  by_cases c2 : b < a
  · simp (maxSteps := 4000000) +contextual (disch := first | omega | exact qdb_ok (by kernel_rfl) | exact okb_ok (by kernel_rfl)) only [bw1,bw2,bw3,bw4,bw5,bw6,bw7,bc0,bc1,bc2,bc3,bc4,bc5,bc6,bc7,setPs,AV.owns,AV.datF,AV.frz,AV.cpy,ifV,isEqB,nilV,nilX,AV.isNilS,AV.isNoRows,wk,dclo,datOf,binIs,addF,AV.isPtr,idxV,AV.isSl,AV.isSlice,AV.rows,ps,pv,extV,extS,AV.outs,AV.outF,packD,AV.dl,fieldV,fieldS,AV.cells?,AV.upr,AV.menc,AV.one,D.one,Value.oneCell',tagOf,AV.isApp,strV,strS,bolV,bolS,slcV,AV.isSlD,asrtS,AV.dcells,D.cells?,stcV,stcS,leafOk,eqDs,eqD,packA,D.val?,↓reduceIte,reduceCtorEq,Nat.reduceAdd,Nat.reduceSub,Nat.reduceMul,List.reduceReplicate,Nat.reduceLeDiff,Nat.reduceLT,Nat.reduceBEq,Nat.reduceEqDiff,Int.reduceNeg,Int.reduceEq,Int.reduceLE,Int.reduceLT,tfb,D.flat,D.flats,ctz72,x72_87,c1, c2]
  · simp (maxSteps := 4000000) +contextual (disch := first | omega | exact qdb_ok (by kernel_rfl) | exact okb_ok (by kernel_rfl)) only [bw1,bw2,bw3,bw4,bw5,bw6,bw7,bc0,bc1,bc2,bc3,bc4,bc5,bc6,bc7,setPs,AV.owns,AV.datF,AV.frz,AV.cpy,ifV,isEqB,nilV,nilX,AV.isNilS,AV.isNoRows,wk,dclo,datOf,binIs,addF,AV.isPtr,idxV,AV.isSl,AV.isSlice,AV.rows,ps,pv,extV,extS,AV.outs,AV.outF,packD,AV.dl,fieldV,fieldS,AV.cells?,AV.upr,AV.menc,AV.one,D.one,Value.oneCell',tagOf,AV.isApp,strV,strS,bolV,bolS,slcV,AV.isSlD,asrtS,AV.dcells,D.cells?,stcV,stcS,leafOk,eqDs,eqD,packA,D.val?,↓reduceIte,reduceCtorEq,Nat.reduceAdd,Nat.reduceSub,Nat.reduceMul,List.reduceReplicate,Nat.reduceLeDiff,Nat.reduceLT,Nat.reduceBEq,Nat.reduceEqDiff,Int.reduceNeg,Int.reduceEq,Int.reduceLE,Int.reduceLT,tfb,D.flat,D.flats,ctz72,x72_87,c1, c2]
def orN (l : List Int) : Nat → Nat → Int
  | 0, _ => 0
  | k + 1, i => if l.getD i default = 0 then orN l k (i + 1) else l.getD i default
def ent72 (args : List AV) (K : AV → List AV → Sto → Prop) (e : List AV) (s : Sto) : Prop := ent (α := (Int) × (Int)) (fun aa => [.i aa.1, .i aa.2]) (fun aa => True) (fun aa => .i (cmpI aa.1 aa.2)) args K e s
theorem ent72_ok {args : List AV} {K : AV → List AV → Sto → Prop} {Q : Kt} {e : List AV} {s : Sto} (h : ent72 args K e s) : pcall Try.prog 72 args K Q e s := ent_ok (fun aa h => pf72 aa.1 aa.2) h
theorem eq72 {a : Int} {b : Int} {KK : AV → List AV → Sto → Prop} {ee : List AV} {ss : Sto} : ent72 [.d (.i a), .d (.i b)] KK ee ss = (KK (.d (.i (cmpI a b))) ee ss) := by
  unfold ent72; rw [ent_iff (a, b) (by intro b h; simpa [Prod.ext_iff, and_assoc, Int.ofNat_inj, ints_inj, cals_inj, pcs_inj, skas_inj, scos_inj, ska_inj, rul_inj, sco_inj, cal_inj] using h) rfl]; simp
def O71 : Nat → Sch := fun id => .done
theorem ho71 : Try.f71.body.map (okO O71) = some true := by kernel_rfl
def Cf71 : Nat → List AV → (AV → List AV → Sto → Prop) → Kt → List AV → Sto → Prop := fun f args K Q e s => match f with
  | _ => False
def Ct71 : CT := { f := Cf71, y := noYld, z := fun d => false }
theorem ctz71 {d : Nat} : CT.z Ct71 d = (false) := id rfl
theorem Ct71_ok : Ct71.ok Try.prog := ok_of_f (fun f args K Q e s h => by
  have h : Cf71 f args K Q e s := h
  unfold Cf71 at h; split at h
  · exact h.elim) (fun _ _ _ _ _ _ _ _ _ h => h)
theorem c71 : callable Try.prog 71 = true := by kernel_rfl
theorem pf71 (l : List Int) (h : l.length ≤ 1000) : PF Try.prog 71 [.sl 1 (l.map ic)] (fun zz => zz = .ret (.i (orN l l.length 0))) := by
  refine PF_nil (PF_start (O := O71) Ct71_ok hmix ho71 Try.func71 c71 rfl Try.ntmps71 Try.results71 ?_)
  simp (maxSteps := 4000000) +contextual (disch := first | omega | exact qdb_ok (by kernel_rfl) | exact okb_ok (by kernel_rfl)) only [bw1,bw2,bw3,bw4,bw5,bw6,bw7,bc0,bc1,bc2,bc3,bc4,bc5,bc6,bc7,setPs,AV.owns,AV.datF,AV.frz,AV.cpy,ifV,isEqB,nilV,nilX,AV.isNilS,AV.isNoRows,wk,dclo,datOf,binIs,addF,AV.isPtr,idxV,AV.isSl,AV.isSlice,AV.rows,ps,pv,extV,extS,AV.outs,AV.outF,packD,AV.dl,fieldV,fieldS,AV.cells?,AV.upr,AV.menc,AV.one,D.one,Value.oneCell',tagOf,AV.isApp,strV,strS,bolV,bolS,slcV,AV.isSlD,asrtS,AV.dcells,D.cells?,stcV,stcS,leafOk,eqDs,eqD,packA,D.val?,↓reduceIte,reduceCtorEq,Nat.reduceAdd,Nat.reduceSub,Nat.reduceMul,List.reduceReplicate,Nat.reduceLeDiff,Nat.reduceLT,Nat.reduceBEq,Nat.reduceEqDiff,Int.reduceNeg,Int.reduceEq,Int.reduceLE,Int.reduceLT,tfb,D.flat,D.flats,ctz71]
  refine loop_s (O := O71) (tb := 0) Ct71_ok hmix (by kernel_rfl) (σ := Nat) (fun i => [(5, .any), (8, .i i)]) (fun i => i ≤ l.length ∧ orN l (l.length - i) i = orN l l.length 0) (fun i => l.length - i) (fun i => i + 1) 0 ⟨by omega, rfl⟩ ?_ ?_
  · simp (maxSteps := 4000000) +contextual (disch := first | omega | exact qdb_ok (by kernel_rfl) | exact okb_ok (by kernel_rfl)) only [bw1,bw2,bw3,bw4,bw5,bw6,bw7,bc0,bc1,bc2,bc3,bc4,bc5,bc6,bc7,setPs,AV.owns,AV.datF,AV.frz,AV.cpy,ifV,isEqB,nilV,nilX,AV.isNilS,AV.isNoRows,wk,dclo,datOf,binIs,addF,AV.isPtr,idxV,AV.isSl,AV.isSlice,AV.rows,ps,pv,extV,extS,AV.outs,AV.outF,packD,AV.dl,fieldV,fieldS,AV.cells?,AV.upr,AV.menc,AV.one,D.one,Value.oneCell',tagOf,AV.isApp,strV,strS,bolV,bolS,slcV,AV.isSlD,asrtS,AV.dcells,D.cells?,stcV,stcS,leafOk,eqDs,eqD,packA,D.val?,↓reduceIte,reduceCtorEq,Nat.reduceAdd,Nat.reduceSub,Nat.reduceMul,List.reduceReplicate,Nat.reduceLeDiff,Nat.reduceLT,Nat.reduceBEq,Nat.reduceEqDiff,Int.reduceNeg,Int.reduceEq,Int.reduceLE,Int.reduceLT,tfb,D.flat,D.flats,ctz71]
  rintro i ⟨hi, hw⟩
  by_cases hlt : i < l.length
  · have hlt' : (i : Int) < l.length := by omega
    rw [show l.length - i = (l.length - (i + 1)) + 1 by omega, orN] at hw
    by_cases c : l.getD i default = 0
    · rw [if_pos c] at hw
      simp (maxSteps := 4000000) +contextual (disch := first | omega | exact qdb_ok (by kernel_rfl) | exact okb_ok (by kernel_rfl)) only [bw1,bw2,bw3,bw4,bw5,bw6,bw7,bc0,bc1,bc2,bc3,bc4,bc5,bc6,bc7,setPs,AV.owns,AV.datF,AV.frz,AV.cpy,ifV,isEqB,nilV,nilX,AV.isNilS,AV.isNoRows,wk,dclo,datOf,binIs,addF,AV.isPtr,idxV,AV.isSl,AV.isSlice,AV.rows,ps,pv,extV,extS,AV.outs,AV.outF,packD,AV.dl,fieldV,fieldS,AV.cells?,AV.upr,AV.menc,AV.one,D.one,Value.oneCell',tagOf,AV.isApp,strV,strS,bolV,bolS,slcV,AV.isSlD,asrtS,AV.dcells,D.cells?,stcV,stcS,leafOk,eqDs,eqD,packA,D.val?,↓reduceIte,reduceCtorEq,Nat.reduceAdd,Nat.reduceSub,Nat.reduceMul,List.reduceReplicate,Nat.reduceLeDiff,Nat.reduceLT,Nat.reduceBEq,Nat.reduceEqDiff,Int.reduceNeg,Int.reduceEq,Int.reduceLE,Int.reduceLT,tfb,D.flat,D.flats,ctz71,eq_self, hlt', c]
      and_intros <;> first | omega | exact hw
    · rw [if_neg c] at hw
      simp (maxSteps := 4000000) +contextual (disch := first | omega | exact qdb_ok (by kernel_rfl) | exact okb_ok (by kernel_rfl)) only [bw1,bw2,bw3,bw4,bw5,bw6,bw7,bc0,bc1,bc2,bc3,bc4,bc5,bc6,bc7,setPs,AV.owns,AV.datF,AV.frz,AV.cpy,ifV,isEqB,nilV,nilX,AV.isNilS,AV.isNoRows,wk,dclo,datOf,binIs,addF,AV.isPtr,idxV,AV.isSl,AV.isSlice,AV.rows,ps,pv,extV,extS,AV.outs,AV.outF,packD,AV.dl,fieldV,fieldS,AV.cells?,AV.upr,AV.menc,AV.one,D.one,Value.oneCell',tagOf,AV.isApp,strV,strS,bolV,bolS,slcV,AV.isSlD,asrtS,AV.dcells,D.cells?,stcV,stcS,leafOk,eqDs,eqD,packA,D.val?,↓reduceIte,reduceCtorEq,Nat.reduceAdd,Nat.reduceSub,Nat.reduceMul,List.reduceReplicate,Nat.reduceLeDiff,Nat.reduceLT,Nat.reduceBEq,Nat.reduceEqDiff,Int.reduceNeg,Int.reduceEq,Int.reduceLE,Int.reduceLT,tfb,D.flat,D.flats,ctz71,eq_self, hlt', c, hw]
      try omega
  · have hlt' : ¬ (i : Int) < l.length := by omega
    rw [show l.length - i = 0 by omega, orN] at hw
    simp (maxSteps := 4000000) +contextual (disch := first | omega | exact qdb_ok (by kernel_rfl) | exact okb_ok (by kernel_rfl)) only [bw1,bw2,bw3,bw4,bw5,bw6,bw7,bc0,bc1,bc2,bc3,bc4,bc5,bc6,bc7,setPs,AV.owns,AV.datF,AV.frz,AV.cpy,ifV,isEqB,nilV,nilX,AV.isNilS,AV.isNoRows,wk,dclo,datOf,binIs,addF,AV.isPtr,idxV,AV.isSl,AV.isSlice,AV.rows,ps,pv,extV,extS,AV.outs,AV.outF,packD,AV.dl,fieldV,fieldS,AV.cells?,AV.upr,AV.menc,AV.one,D.one,Value.oneCell',tagOf,AV.isApp,strV,strS,bolV,bolS,slcV,AV.isSlD,asrtS,AV.dcells,D.cells?,stcV,stcS,leafOk,eqDs,eqD,packA,D.val?,↓reduceIte,reduceCtorEq,Nat.reduceAdd,Nat.reduceSub,Nat.reduceMul,List.reduceReplicate,Nat.reduceLeDiff,Nat.reduceLT,Nat.reduceBEq,Nat.reduceEqDiff,Int.reduceNeg,Int.reduceEq,Int.reduceLE,Int.reduceLT,tfb,D.flat,D.flats,ctz71,eq_self, hlt', ← hw]
def two (x y : Int) : List Int := [x, y]
theorem two_rows {x y : Int} : [[D.i x], [D.i y]] = List.map ic (two x y) := rfl
theorem two_set {u v x y : Int} : ((List.map ic (two u v)).set 0 [D.v (Value.int .i64 x)]).set 1 [D.v (Value.int .i64 y)] = List.map ic (two x y) := rfl
theorem two_len {x y : Int} : (two x y).length = 2 := rfl
theorem or_two {x y : Int} : orN (two x y) (two x y).length 0 = if x = 0 then y else x := by
  show (if x = 0 then (if y = 0 then 0 else y) else x) = _
  split
  · split
    · rename_i h; exact h.symm
    · rfl
  · rfl
theorem cmp_better {a b : Sco} : decide (0 < orN (two (cmpI a.total b.total) (cmpI a.elements b.elements)) (two (cmpI a.total b.total) (cmpI a.elements b.elements)).length 0) = better a b := by
  rw [or_two]
  unfold better cmpI
  rw [Bool.eq_iff_iff]
  simp only [decide_eq_true_eq, Bool.or_eq_true, Bool.and_eq_true]
  repeat' split
  all_goals omega
def ent71 (args : List AV) (K : AV → List AV → Sto → Prop) (e : List AV) (s : Sto) : Prop := ent (α := (List Int)) (fun aa => [.sl 1 (aa.map ic)]) (fun aa => aa.length ≤ 1000) (fun aa => .i (orN aa aa.length 0)) args K e s
theorem ent71_ok {args : List AV} {K : AV → List AV → Sto → Prop} {Q : Kt} {e : List AV} {s : Sto} (h : ent71 args K e s) : pcall Try.prog 71 args K Q e s := ent_ok (fun aa h => pf71 aa h) h
theorem eq71 {l : List Int} {KK : AV → List AV → Sto → Prop} {ee : List AV} {ss : Sto} : ent71 [.d (.sl 1 (l.map ic))] KK ee ss = ((l.length ≤ 1000) ∧ KK (.d (.i (orN l l.length 0))) ee ss) := by
  unfold ent71; rw [ent_iff l (by intro b h; simpa [Prod.ext_iff, and_assoc, Int.ofNat_inj, ints_inj, cals_inj, pcs_inj, skas_inj, scos_inj, ska_inj, rul_inj, sco_inj, cal_inj] using h) rfl]; simp
theorem eqo71 {l : List Int} {g1 el1 : Nat} {KK : AV → List AV → Sto → Prop} {ee : List AV} {ss : Sto} : ent71 [.own g1 el1 1 (l.map ic)] KK ee ss = ((l.length ≤ 1000) ∧ (.i (orN l l.length 0) : D).flat = true ∧ KK (.d (.i (orN l l.length 0))) ee ss) := by
  unfold ent71; rw [ent_iff l (by intro b h; simpa [Prod.ext_iff, and_assoc, Int.ofNat_inj, ints_inj, cals_inj, pcs_inj, skas_inj, scos_inj, ska_inj, rul_inj, sco_inj, cal_inj] using h) rfl]; simp
def O49 : Nat → Sch := fun id => if id = 1 then .one 0 (.one 1 (.one 2 (.one 3 (.one 5 (.one 7 (.alt (.one 4 (.one 6 (.one 8 (.one 9 (.one 10 (.one 11 (.one 12 (.one 13 (.done))))))))) (.alt (.one 6 (.alt (.one 4 (.one 8 (.one 9 (.one 10 (.one 11 (.one 12 (.one 13 (.done)))))))) (.one 8 (.one 4 (.one 9 (.one 10 (.one 11 (.one 12 (.one 13 (.done)))))))))) (.one 8 (.alt (.one 4 (.one 6 (.one 9 (.one 10 (.one 11 (.one 12 (.one 13 (.done)))))))) (.one 6 (.one 4 (.one 9 (.one 10 (.one 11 (.one 12 (.one 13 (.done))))))))))))))))) else .done
theorem O49_1 : O49 1 = .one 0 (.one 1 (.one 2 (.one 3 (.one 5 (.one 7 (.alt (.one 4 (.one 6 (.one 8 (.one 9 (.one 10 (.one 11 (.one 12 (.one 13 (.done))))))))) (.alt (.one 6 (.alt (.one 4 (.one 8 (.one 9 (.one 10 (.one 11 (.one 12 (.one 13 (.done)))))))) (.one 8 (.one 4 (.one 9 (.one 10 (.one 11 (.one 12 (.one 13 (.done)))))))))) (.one 8 (.alt (.one 4 (.one 6 (.one 9 (.one 10 (.one 11 (.one 12 (.one 13 (.done)))))))) (.one 6 (.one 4 (.one 9 (.one 10 (.one 11 (.one 12 (.one 13 (.done))))))))))))))))) := rfl
theorem ho49 : Try.f49.body.map (okO O49) = some true := by kernel_rfl
def Cf49 : Nat → List AV → (AV → List AV → Sto → Prop) → Kt → List AV → Sto → Prop := fun f args K Q e s => match f with
  | 71 => ent71 args K e s
  | 72 => ent72 args K e s
  | _ => False
def Ct49 : CT := { f := Cf49, y := noYld, z := fun d => false }
theorem ctz49 {d : Nat} : CT.z Ct49 d = (false) := id rfl
theorem Ct49_ok : Ct49.ok Try.prog := ok_of_f (fun f args K Q e s h => by
  have h : Cf49 f args K Q e s := h
  unfold Cf49 at h; split at h
  · exact ent71_ok h
  · exact ent72_ok h
  · exact h.elim) (fun _ _ _ _ _ _ _ _ _ h => h)
theorem x49_71 {l : List Int} {KK : AV → List AV → Sto → Prop} {QQ : Kt} {ii : At KK} {jj : At QQ} {ee : List AV} {ss : Sto} : xC Ct49 71 [.d (.sl 1 (l.map ic))] KK QQ ii jj ee ss = ((l.length ≤ 1000) ∧ KK (.d (.i (orN l l.length 0))) ee ss) := eq71
theorem x49_71_m1 {l : List Int} {g1 el1 : Nat} {KK : AV → List AV → Sto → Prop} {QQ : Kt} {ii : At KK} {jj : At QQ} {ee : List AV} {ss : Sto} : xC Ct49 71 [.own g1 el1 1 (l.map ic)] KK QQ ii jj ee ss = ((l.length ≤ 1000) ∧ (.i (orN l l.length 0) : D).flat = true ∧ KK (.d (.i (orN l l.length 0))) ee ss) := eqo71
theorem x49_72 {a : Int} {b : Int} {KK : AV → List AV → Sto → Prop} {QQ : Kt} {ii : At KK} {jj : At QQ} {ee : List AV} {ss : Sto} : xC Ct49 72 [.d (.i a), .d (.i b)] KK QQ ii jj ee ss = (KK (.d (.i (cmpI a b))) ee ss) := eq72
theorem c49 : callable Try.prog 49 = true := by kernel_rfl
theorem pf49 (a b : Sco) : PF Try.prog 49 [.agg a.c, .agg b.c] (fun zz => zz = .ret (.b (better a b))) := by
  have hb := cmp_better (a := a) (b := b)
  refine PF_nil (PF_start (O := O49) Ct49_ok hmix ho49 Try.func49 c49 rfl Try.ntmps49 Try.results49 ?_)
  simp (maxSteps := 4000000) +contextual (disch := first | omega | exact qdb_ok (by kernel_rfl) | exact okb_ok (by kernel_rfl)) only [bw1,bw2,bw3,bw4,bw5,bw6,bw7,bc0,bc1,bc2,bc3,bc4,bc5,bc6,bc7,setPs,AV.owns,AV.datF,AV.frz,AV.cpy,ifV,isEqB,nilV,nilX,AV.isNilS,AV.isNoRows,wk,dclo,datOf,binIs,addF,AV.isPtr,idxV,AV.isSl,AV.isSlice,AV.rows,ps,pv,extV,extS,AV.outs,AV.outF,packD,AV.dl,fieldV,fieldS,AV.cells?,AV.upr,AV.menc,AV.one,D.one,Value.oneCell',tagOf,AV.isApp,strV,strS,bolV,bolS,slcV,AV.isSlD,asrtS,AV.dcells,D.cells?,stcV,stcS,leafOk,eqDs,eqD,packA,D.val?,↓reduceIte,reduceCtorEq,Nat.reduceAdd,Nat.reduceSub,Nat.reduceMul,List.reduceReplicate,Nat.reduceLeDiff,Nat.reduceLT,Nat.reduceBEq,Nat.reduceEqDiff,Int.reduceNeg,Int.reduceEq,Int.reduceLE,Int.reduceLT,tfb,D.flat,D.flats,ctz49,O49_1,x49_71,x49_71_m1,x49_72,two_rows, two_set, two_len]
  rw [two_len] at hb
  exact hb
def ent49 (args : List AV) (K : AV → List AV → Sto → Prop) (e : List AV) (s : Sto) : Prop := ent (α := (Sco) × (Sco)) (fun aa => [.agg aa.1.c, .agg aa.2.c]) (fun aa => True) (fun aa => .b (better aa.1 aa.2)) args K e s
theorem ent49_ok {args : List AV} {K : AV → List AV → Sto → Prop} {Q : Kt} {e : List AV} {s : Sto} (h : ent49 args K e s) : pcall Try.prog 49 args K Q e s := ent_ok (fun aa h => pf49 aa.1 aa.2) h
theorem eq49 {a : Sco} {b : Sco} {KK : AV → List AV → Sto → Prop} {ee : List AV} {ss : Sto} : ent49 [.d (.agg a.c), .d (.agg b.c)] KK ee ss = (KK (.d (.b (better a b))) ee ss) := by
  unfold ent49; rw [ent_iff (a, b) (by intro b h; simpa [Prod.ext_iff, and_assoc, Int.ofNat_inj, ints_inj, cals_inj, pcs_inj, skas_inj, scos_inj, ska_inj, rul_inj, sco_inj, cal_inj] using h) rfl]; simp
def O59 : Nat → Sch := fun id => .done
theorem ho59 : Try.f59.body.map (okO O59) = some true := by kernel_rfl
def Cf59 : Nat → List AV → (AV → List AV → Sto → Prop) → Kt → List AV → Sto → Prop := fun f args K Q e s => match f with
  | _ => False
def Ct59 : CT := { f := Cf59, y := noYld, z := fun d => false }
theorem ctz59 {d : Nat} : CT.z Ct59 d = (false) := id rfl
theorem Ct59_ok : Ct59.ok Try.prog := ok_of_f (fun f args K Q e s h => by
  have h : Cf59 f args K Q e s := h
  unfold Cf59 at h; split at h
  · exact h.elim) (fun _ _ _ _ _ _ _ _ _ h => h)
theorem c59 : callable Try.prog 59 = true := by kernel_rfl
theorem pf59 (n : Int) : PF Try.prog 59 [.i n] (fun zz => zz = .ret (.i n)) := by
  refine PF_nil (PF_start (O := O59) Ct59_ok hmix ho59 Try.func59 c59 rfl Try.ntmps59 Try.results59 ?_)
  simp (maxSteps := 4000000) +contextual (disch := first | omega | exact qdb_ok (by kernel_rfl) | exact okb_ok (by kernel_rfl)) only [bw1,bw2,bw3,bw4,bw5,bw6,bw7,bc0,bc1,bc2,bc3,bc4,bc5,bc6,bc7,setPs,AV.owns,AV.datF,AV.frz,AV.cpy,ifV,isEqB,nilV,nilX,AV.isNilS,AV.isNoRows,wk,dclo,datOf,binIs,addF,AV.isPtr,idxV,AV.isSl,AV.isSlice,AV.rows,ps,pv,extV,extS,AV.outs,AV.outF,packD,AV.dl,fieldV,fieldS,AV.cells?,AV.upr,AV.menc,AV.one,D.one,Value.oneCell',tagOf,AV.isApp,strV,strS,bolV,bolS,slcV,AV.isSlD,asrtS,AV.dcells,D.cells?,stcV,stcS,leafOk,eqDs,eqD,packA,D.val?,↓reduceIte,reduceCtorEq,Nat.reduceAdd,Nat.reduceSub,Nat.reduceMul,List.reduceReplicate,Nat.reduceLeDiff,Nat.reduceLT,Nat.reduceBEq,Nat.reduceEqDiff,Int.reduceNeg,Int.reduceEq,Int.reduceLE,Int.reduceLT,tfb,D.flat,D.flats,ctz59]
def rnd (a b : Int) : Int := if a < 0 then -((2 * -a + b) / (2 * b)) else (2 * a + b) / (2 * b)
def ent59 (args : List AV) (K : AV → List AV → Sto → Prop) (e : List AV) (s : Sto) : Prop := ent (α := (Int)) (fun aa => [.i aa]) (fun aa => True) (fun aa => .i aa) args K e s
theorem ent59_ok {args : List AV} {K : AV → List AV → Sto → Prop} {Q : Kt} {e : List AV} {s : Sto} (h : ent59 args K e s) : pcall Try.prog 59 args K Q e s := ent_ok (fun aa h => pf59 aa) h
theorem eq59 {n : Int} {KK : AV → List AV → Sto → Prop} {ee : List AV} {ss : Sto} : ent59 [.d (.i n)] KK ee ss = (KK (.d (.i n)) ee ss) := by
  unfold ent59; rw [ent_iff n (by intro b h; simpa [Prod.ext_iff, and_assoc, Int.ofNat_inj, ints_inj, cals_inj, pcs_inj, skas_inj, scos_inj, ska_inj, rul_inj, sco_inj, cal_inj] using h) rfl]; simp
def O57 : Nat → Sch := fun id => .done
theorem ho57 : Try.f57.body.map (okO O57) = some true := by kernel_rfl
def Cf57 : Nat → List AV → (AV → List AV → Sto → Prop) → Kt → List AV → Sto → Prop := fun f args K Q e s => match f with
  | _ => False
def Ct57 : CT := { f := Cf57, y := noYld, z := fun d => false }
theorem ctz57 {d : Nat} : CT.z Ct57 d = (false) := id rfl
theorem Ct57_ok : Ct57.ok Try.prog := ok_of_f (fun f args K Q e s h => by
  have h : Cf57 f args K Q e s := h
  unfold Cf57 at h; split at h
  · exact h.elim) (fun _ _ _ _ _ _ _ _ _ h => h)
theorem c57 : callable Try.prog 57 = true := by kernel_rfl
theorem pf57 (a b : Int) (h : (-1000000000 ≤ a ∧ a ≤ 1000000000) ∧ 1 ≤ b ∧ b ≤ 1000000000) : PF Try.prog 57 [.i a, .i b] (fun zz => zz = .ret (.i (rnd a b))) := by
  obtain ⟨⟨a1, a2⟩, b1, b2⟩ := h
  refine PF_nil (PF_start (O := O57) Ct57_ok hmix ho57 Try.func57 c57 rfl Try.ntmps57 Try.results57 ?_)
  by_cases c : a < 0
  · have hm : max a (0 - a) = -a := by omega
    have hm2 : max a (-a) = -a := by omega
    have hd : (2 * -a + b).tdiv (2 * b) = (2 * -a + b) / (2 * b) := Int.tdiv_eq_ediv_of_nonneg (by omega)
    have hb1 : 0 ≤ (2 * -a + b) / (2 * b) := Int.ediv_nonneg (by omega) (by omega)
    have hb2 : (2 * -a + b) / (2 * b) ≤ 2 * -a + b := Int.ediv_le_self _ (by omega)
    have hw : rnd a b = -((2 * -a + b) / (2 * b)) := by unfold rnd; rw [if_pos c]
    rw [hw]
    simp (maxSteps := 4000000) +contextual (disch := first | omega | exact qdb_ok (by kernel_rfl) | exact okb_ok (by kernel_rfl)) only [bw1,bw2,bw3,bw4,bw5,bw6,bw7,bc0,bc1,bc2,bc3,bc4,bc5,bc6,bc7,setPs,AV.owns,AV.datF,AV.frz,AV.cpy,ifV,isEqB,nilV,nilX,AV.isNilS,AV.isNoRows,wk,dclo,datOf,binIs,addF,AV.isPtr,idxV,AV.isSl,AV.isSlice,AV.rows,ps,pv,extV,extS,AV.outs,AV.outF,packD,AV.dl,fieldV,fieldS,AV.cells?,AV.upr,AV.menc,AV.one,D.one,Value.oneCell',tagOf,AV.isApp,strV,strS,bolV,bolS,slcV,AV.isSlD,asrtS,AV.dcells,D.cells?,stcV,stcS,leafOk,eqDs,eqD,packA,D.val?,↓reduceIte,reduceCtorEq,Nat.reduceAdd,Nat.reduceSub,Nat.reduceMul,List.reduceReplicate,Nat.reduceLeDiff,Nat.reduceLT,Nat.reduceBEq,Nat.reduceEqDiff,Int.reduceNeg,Int.reduceEq,Int.reduceLE,Int.reduceLT,tfb,D.flat,D.flats,ctz57,c, hm, hm2, hd]
    exact ⟨by omega, Int.zero_sub _⟩
  · have hm : max a (0 - a) = a := by omega
    have hm2 : max a (-a) = a := by omega
    have hd : (2 * a + b).tdiv (2 * b) = (2 * a + b) / (2 * b) := Int.tdiv_eq_ediv_of_nonneg (by omega)
    have hb1 : 0 ≤ (2 * a + b) / (2 * b) := Int.ediv_nonneg (by omega) (by omega)
    have hb2 : (2 * a + b) / (2 * b) ≤ 2 * a + b := Int.ediv_le_self _ (by omega)
    have hw : rnd a b = (2 * a + b) / (2 * b) := by unfold rnd; rw [if_neg c]
    rw [hw]
    have hwr : IntKind.i64.wrap ((2 * a + b) / (2 * b)) = (2 * a + b) / (2 * b) := by
      clear hd hw
      generalize (2 * a + b) / (2 * b) = q at hb1 hb2 ⊢
      exact wrap_ok (by omega) (by omega)
    simp (maxSteps := 4000000) +contextual (disch := first | omega | exact qdb_ok (by kernel_rfl) | exact okb_ok (by kernel_rfl)) only [bw1,bw2,bw3,bw4,bw5,bw6,bw7,bc0,bc1,bc2,bc3,bc4,bc5,bc6,bc7,setPs,AV.owns,AV.datF,AV.frz,AV.cpy,ifV,isEqB,nilV,nilX,AV.isNilS,AV.isNoRows,wk,dclo,datOf,binIs,addF,AV.isPtr,idxV,AV.isSl,AV.isSlice,AV.rows,ps,pv,extV,extS,AV.outs,AV.outF,packD,AV.dl,fieldV,fieldS,AV.cells?,AV.upr,AV.menc,AV.one,D.one,Value.oneCell',tagOf,AV.isApp,strV,strS,bolV,bolS,slcV,AV.isSlD,asrtS,AV.dcells,D.cells?,stcV,stcS,leafOk,eqDs,eqD,packA,D.val?,↓reduceIte,reduceCtorEq,Nat.reduceAdd,Nat.reduceSub,Nat.reduceMul,List.reduceReplicate,Nat.reduceLeDiff,Nat.reduceLT,Nat.reduceBEq,Nat.reduceEqDiff,Int.reduceNeg,Int.reduceEq,Int.reduceLE,Int.reduceLT,tfb,D.flat,D.flats,ctz57,c, hm, hm2, hd, hwr]
    omega
def offN : Nat → Int
  | 0 => 0
  | i + 1 => offN i + min 3 ((i : Int) / 2 + 1)
theorem offN_b : ∀ i, 0 ≤ offN i ∧ offN i ≤ 3 * i
  | 0 => by simp [offN]
  | i + 1 => by
    have := offN_b i
    have h2 : 0 ≤ (i : Int) / 2 := Int.ediv_nonneg (by omega) (by omega)
    unfold offN; omega
def off (falls : Nat) (sec : Int) : Int := 100 * ((sec + 4) / 5 + offN falls)
def ent57 (args : List AV) (K : AV → List AV → Sto → Prop) (e : List AV) (s : Sto) : Prop := ent (α := (Int) × (Int)) (fun aa => [.i aa.1, .i aa.2]) (fun aa => (-1000000000 ≤ aa.1 ∧ aa.1 ≤ 1000000000) ∧ 1 ≤ aa.2 ∧ aa.2 ≤ 1000000000) (fun aa => .i (rnd aa.1 aa.2)) args K e s
theorem ent57_ok {args : List AV} {K : AV → List AV → Sto → Prop} {Q : Kt} {e : List AV} {s : Sto} (h : ent57 args K e s) : pcall Try.prog 57 args K Q e s := ent_ok (fun aa h => pf57 aa.1 aa.2 h) h
theorem eq57 {a : Int} {b : Int} {KK : AV → List AV → Sto → Prop} {ee : List AV} {ss : Sto} : ent57 [.d (.i a), .d (.i b)] KK ee ss = (((-1000000000 ≤ a ∧ a ≤ 1000000000) ∧ 1 ≤ b ∧ b ≤ 1000000000) ∧ KK (.d (.i (rnd a b))) ee ss) := by
  unfold ent57; rw [ent_iff (a, b) (by intro b h; simpa [Prod.ext_iff, and_assoc, Int.ofNat_inj, ints_inj, cals_inj, pcs_inj, skas_inj, scos_inj, ska_inj, rul_inj, sco_inj, cal_inj] using h) rfl]; simp
def O63 : Nat → Sch := fun id => .done
theorem ho63 : Try.f63.body.map (okO O63) = some true := by kernel_rfl
def Cf63 : Nat → List AV → (AV → List AV → Sto → Prop) → Kt → List AV → Sto → Prop := fun f args K Q e s => match f with
  | _ => False
def Ct63 : CT := { f := Cf63, y := noYld, z := fun d => false }
theorem ctz63 {d : Nat} : CT.z Ct63 d = (false) := id rfl
theorem Ct63_ok : Ct63.ok Try.prog := ok_of_f (fun f args K Q e s h => by
  have h : Cf63 f args K Q e s := h
  unfold Cf63 at h; split at h
  · exact h.elim) (fun _ _ _ _ _ _ _ _ _ h => h)
theorem c63 : callable Try.prog 63 = true := by kernel_rfl
theorem pf63 (falls : Nat) (sec : Int) (h : falls ≤ 1000 ∧ 0 ≤ sec ∧ sec ≤ 100000) : PF Try.prog 63 [.i (falls : Int), .i sec] (fun zz => zz = .ret (.i (off falls sec))) := by
  obtain ⟨h1, h2, h3⟩ := h
  have hb := offN_b
  have hst : ∀ i, offN (i + 1) = offN i + min 3 ((i : Int) / 2 + 1) := fun i => rfl
  have h0 : offN 0 = 0 := rfl
  have hs0 : 0 ≤ (sec + 4) / 5 := Int.ediv_nonneg (by omega) (by omega)
  have hs1 : (sec + 4) / 5 ≤ sec + 4 := Int.ediv_le_self _ (by omega)
  unfold off
  generalize offN = B at hb hst h0 ⊢
  refine PF_nil (PF_start (O := O63) Ct63_ok hmix ho63 Try.func63 c63 rfl Try.ntmps63 Try.results63 ?_)
  simp (maxSteps := 4000000) +contextual (disch := first | omega | exact qdb_ok (by kernel_rfl) | exact okb_ok (by kernel_rfl)) only [bw1,bw2,bw3,bw4,bw5,bw6,bw7,bc0,bc1,bc2,bc3,bc4,bc5,bc6,bc7,setPs,AV.owns,AV.datF,AV.frz,AV.cpy,ifV,isEqB,nilV,nilX,AV.isNilS,AV.isNoRows,wk,dclo,datOf,binIs,addF,AV.isPtr,idxV,AV.isSl,AV.isSlice,AV.rows,ps,pv,extV,extS,AV.outs,AV.outF,packD,AV.dl,fieldV,fieldS,AV.cells?,AV.upr,AV.menc,AV.one,D.one,Value.oneCell',tagOf,AV.isApp,strV,strS,bolV,bolS,slcV,AV.isSlD,asrtS,AV.dcells,D.cells?,stcV,stcS,leafOk,eqDs,eqD,packA,D.val?,↓reduceIte,reduceCtorEq,Nat.reduceAdd,Nat.reduceSub,Nat.reduceMul,List.reduceReplicate,Nat.reduceLeDiff,Nat.reduceLT,Nat.reduceBEq,Nat.reduceEqDiff,Int.reduceNeg,Int.reduceEq,Int.reduceLE,Int.reduceLT,tfb,D.flat,D.flats,ctz63]
  refine loop_s (O := O63) (tb := 0) Ct63_ok hmix (by kernel_rfl) (σ := Nat) (fun i => [(5, .i ((sec + 4) / 5 + B i)), (6, .any), (11, .i i)]) (fun i => i ≤ falls) (fun i => falls - i) (fun i => i + 1) 0 (by omega) ?_ ?_
  · simp (maxSteps := 4000000) +contextual (disch := first | omega | exact qdb_ok (by kernel_rfl) | exact okb_ok (by kernel_rfl)) only [bw1,bw2,bw3,bw4,bw5,bw6,bw7,bc0,bc1,bc2,bc3,bc4,bc5,bc6,bc7,setPs,AV.owns,AV.datF,AV.frz,AV.cpy,ifV,isEqB,nilV,nilX,AV.isNilS,AV.isNoRows,wk,dclo,datOf,binIs,addF,AV.isPtr,idxV,AV.isSl,AV.isSlice,AV.rows,ps,pv,extV,extS,AV.outs,AV.outF,packD,AV.dl,fieldV,fieldS,AV.cells?,AV.upr,AV.menc,AV.one,D.one,Value.oneCell',tagOf,AV.isApp,strV,strS,bolV,bolS,slcV,AV.isSlD,asrtS,AV.dcells,D.cells?,stcV,stcS,leafOk,eqDs,eqD,packA,D.val?,↓reduceIte,reduceCtorEq,Nat.reduceAdd,Nat.reduceSub,Nat.reduceMul,List.reduceReplicate,Nat.reduceLeDiff,Nat.reduceLT,Nat.reduceBEq,Nat.reduceEqDiff,Int.reduceNeg,Int.reduceEq,Int.reduceLE,Int.reduceLT,tfb,D.flat,D.flats,ctz63,h0]
    rw [Int.add_zero]
  intro i hi
  have hbi := hb i
  by_cases hlt : i < falls
  · have hlt' : (i : Int) < falls := by omega
    have hsi := hst i
    have h5 : 0 ≤ (i : Int) / 2 := Int.ediv_nonneg (by omega) (by omega)
    have h6 : (i : Int) / 2 ≤ i := Int.ediv_le_self _ (by omega)
    simp (maxSteps := 4000000) +contextual (disch := first | omega | exact qdb_ok (by kernel_rfl) | exact okb_ok (by kernel_rfl)) only [bw1,bw2,bw3,bw4,bw5,bw6,bw7,bc0,bc1,bc2,bc3,bc4,bc5,bc6,bc7,setPs,AV.owns,AV.datF,AV.frz,AV.cpy,ifV,isEqB,nilV,nilX,AV.isNilS,AV.isNoRows,wk,dclo,datOf,binIs,addF,AV.isPtr,idxV,AV.isSl,AV.isSlice,AV.rows,ps,pv,extV,extS,AV.outs,AV.outF,packD,AV.dl,fieldV,fieldS,AV.cells?,AV.upr,AV.menc,AV.one,D.one,Value.oneCell',tagOf,AV.isApp,strV,strS,bolV,bolS,slcV,AV.isSlD,asrtS,AV.dcells,D.cells?,stcV,stcS,leafOk,eqDs,eqD,packA,D.val?,↓reduceIte,reduceCtorEq,Nat.reduceAdd,Nat.reduceSub,Nat.reduceMul,List.reduceReplicate,Nat.reduceLeDiff,Nat.reduceLT,Nat.reduceBEq,Nat.reduceEqDiff,Int.reduceNeg,Int.reduceEq,Int.reduceLE,Int.reduceLT,tfb,D.flat,D.flats,ctz63,eq_self, hlt', hsi]
    refine ⟨⟨by omega, by omega⟩, ?_⟩
    rw [Int.add_assoc]
  have hlt' : ¬ (i : Int) < falls := by omega
  obtain rfl : i = falls := by omega
  simp (maxSteps := 4000000) +contextual (disch := first | omega | exact qdb_ok (by kernel_rfl) | exact okb_ok (by kernel_rfl)) only [bw1,bw2,bw3,bw4,bw5,bw6,bw7,bc0,bc1,bc2,bc3,bc4,bc5,bc6,bc7,setPs,AV.owns,AV.datF,AV.frz,AV.cpy,ifV,isEqB,nilV,nilX,AV.isNilS,AV.isNoRows,wk,dclo,datOf,binIs,addF,AV.isPtr,idxV,AV.isSl,AV.isSlice,AV.rows,ps,pv,extV,extS,AV.outs,AV.outF,packD,AV.dl,fieldV,fieldS,AV.cells?,AV.upr,AV.menc,AV.one,D.one,Value.oneCell',tagOf,AV.isApp,strV,strS,bolV,bolS,slcV,AV.isSlD,asrtS,AV.dcells,D.cells?,stcV,stcS,leafOk,eqDs,eqD,packA,D.val?,↓reduceIte,reduceCtorEq,Nat.reduceAdd,Nat.reduceSub,Nat.reduceMul,List.reduceReplicate,Nat.reduceLeDiff,Nat.reduceLT,Nat.reduceBEq,Nat.reduceEqDiff,Int.reduceNeg,Int.reduceEq,Int.reduceLE,Int.reduceLT,tfb,D.flat,D.flats,ctz63,eq_self, hlt', Int.lt_irrefl]
def ent63 (args : List AV) (K : AV → List AV → Sto → Prop) (e : List AV) (s : Sto) : Prop := ent (α := (Nat) × (Int)) (fun aa => [.i (aa.1 : Int), .i aa.2]) (fun aa => aa.1 ≤ 1000 ∧ 0 ≤ aa.2 ∧ aa.2 ≤ 100000) (fun aa => .i (off aa.1 aa.2)) args K e s
theorem ent63_ok {args : List AV} {K : AV → List AV → Sto → Prop} {Q : Kt} {e : List AV} {s : Sto} (h : ent63 args K e s) : pcall Try.prog 63 args K Q e s := ent_ok (fun aa h => pf63 aa.1 aa.2 h) h
theorem eq63 {falls : Nat} {sec : Int} {KK : AV → List AV → Sto → Prop} {ee : List AV} {ss : Sto} : ent63 [.d (.i (falls : Int)), .d (.i sec)] KK ee ss = ((falls ≤ 1000 ∧ 0 ≤ sec ∧ sec ≤ 100000) ∧ KK (.d (.i (off falls sec))) ee ss) := by
  unfold ent63; rw [ent_iff (falls, sec) (by intro b h; simpa [Prod.ext_iff, and_assoc, Int.ofNat_inj, ints_inj, cals_inj, pcs_inj, skas_inj, scos_inj, ska_inj, rul_inj, sco_inj, cal_inj] using h) rfl]; simp
end Go.Proofs.Ytapglfcaghlpfaa
