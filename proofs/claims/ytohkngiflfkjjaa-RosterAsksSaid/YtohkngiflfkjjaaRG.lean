/- A part of the proof that the last text ends: what functions of the program do, told by plain data. -/
import Derived.Test.YtohkngiflfkjjaaRF
set_option linter.unusedVariables false
set_option linter.unusedSimpArgs false
namespace Go.Proofs.Ytohkngiflfkjjaa
open Go Go.E
set_option maxRecDepth 100000
set_option maxHeartbeats 16000000
/-! ### The document: a match -/
def gF {α : Type} (f : α → α) (l : List α) (k : Nat) : List α := (l.take k).map f ++ l.drop k
section
variable {α : Type} [Inhabited α] {f : α → α} {l : List α} {k : Nat}
omit [Inhabited α] in
theorem gF_zero : gF f l 0 = l := rfl
omit [Inhabited α] in
theorem gF_len : (gF f l k).length = l.length := by simp [gF]; omega
omit [Inhabited α] in
theorem gF_all : gF f l l.length = l.map f := by simp [gF]
theorem gF_at (h : k < l.length) : (gF f l k).getD k default = l.getD k default := by
  have : ((l.take k).map f).length = k := by simp; omega
  unfold gF
  rw [List.getD_eq_getElem?_getD, List.getElem?_append_right (by omega), this, Nat.sub_self, List.getElem?_drop, Nat.add_zero, List.getD_eq_getElem?_getD]
theorem gF_set (h : k < l.length) : (gF f l k).set k (f (l.getD k default)) = gF f l (k + 1) := by
  have h1 : ((l.take k).map f).length = k := by simp; omega
  unfold gF
  rw [List.set_append_right _ _ (by omega), h1, Nat.sub_self, List.drop_eq_getElem_cons h, List.set_cons_zero, List.take_succ_eq_append_getElem h, List.map_append, List.append_assoc, at_lt h]
  rfl
theorem gF_same (h : k < l.length) (hf : f (l.getD k default) = l.getD k default) : gF f l (k + 1) = gF f l k := by
  rw [← gF_set h, hf, ← gF_at (f := f) h, at_lt (by rw [gF_len]; exact h), List.set_getElem_self]
end
def MemsOk (l : List Mem) : Prop := l.length ≤ 1000 ∧ ∀ m ∈ l, (0 ≤ m.ban ∧ m.ban ≤ 100000) ∧ 0 ≤ m.stage ∧ m.stage ≤ 6
def sameE (d n : Int) (y : Ev) : Bool := decide (y.kind = 6) && decide (y.day = d) && decide (y.n = n)
def chkN (l : List Mem) (evs : List Ev) (n d : Int) (sh : List Int) : Nat → Nat → Int
  | 0, _ => 0
  | k + 1, i => if fnd l (sh.getD i default) < 0 then 4 else if ¬ (l.getD (fnd l (sh.getD i default)).toNat default).club = n then 4
    else if why evs (l.getD (fnd l (sh.getD i default)).toNat default) d = [] then chkN l evs n d sh k (i + 1) else 11
def gam (n : Int) (m : Mem) : Mem := if m.club = n then { m with ban := max 0 (m.ban - 1) } else m
def matchR (s : St) (x : Ev) : List Mem × Int :=
  if s.evs.any (sameE x.day x.n) = true then ([], 5) else if 0 < chkN s.mem s.evs x.n x.day x.sheet x.sheet.length 0 then ([], chkN s.mem s.evs x.n x.day x.sheet x.sheet.length 0) else (s.mem.map (gam x.n), 0)
def O78 : Nat → Sch := fun id => if id = 4 then .one 0 (.one 1 (.one 2 (.one 3 (.one 4 (.one 5 (.one 6 (.one 7 (.one 8 (.one 9 (.one 10 (.one 11 (.one 12 (.one 13 (.one 14 (.one 15 (.one 16 (.one 17 (.one 18 (.one 19 (.one 20 (.one 21 (.one 22 (.one 23 (.one 24 (.one 25 (.one 26 (.one 27 (.one 28 (.done))))))))))))))))))))))))))))) else if id = 9 then .one 0 (.one 1 (.one 2 (.one 3 (.one 4 (.one 5 (.one 6 (.one 7 (.one 8 (.done))))))))) else if id = 10 then .one 0 (.one 1 (.one 2 (.one 3 (.one 4 (.one 5 (.one 6 (.one 7 (.one 8 (.one 9 (.one 10 (.one 11 (.one 12 (.done))))))))))))) else if id = 12 then .one 0 (.one 1 (.one 2 (.one 3 (.one 4 (.one 5 (.one 6 (.one 7 (.one 8 (.one 9 (.one 10 (.done))))))))))) else if id = 18 then .one 0 (.one 1 (.one 2 (.one 3 (.one 4 (.one 5 (.one 6 (.one 7 (.done)))))))) else .done
theorem O78_4 : O78 4 = .one 0 (.one 1 (.one 2 (.one 3 (.one 4 (.one 5 (.one 6 (.one 7 (.one 8 (.one 9 (.one 10 (.one 11 (.one 12 (.one 13 (.one 14 (.one 15 (.one 16 (.one 17 (.one 18 (.one 19 (.one 20 (.one 21 (.one 22 (.one 23 (.one 24 (.one 25 (.one 26 (.one 27 (.one 28 (.done))))))))))))))))))))))))))))) := rfl
theorem O78_9 : O78 9 = .one 0 (.one 1 (.one 2 (.one 3 (.one 4 (.one 5 (.one 6 (.one 7 (.one 8 (.done))))))))) := rfl
theorem O78_10 : O78 10 = .one 0 (.one 1 (.one 2 (.one 3 (.one 4 (.one 5 (.one 6 (.one 7 (.one 8 (.one 9 (.one 10 (.one 11 (.one 12 (.done))))))))))))) := rfl
theorem O78_12 : O78 12 = .one 0 (.one 1 (.one 2 (.one 3 (.one 4 (.one 5 (.one 6 (.one 7 (.one 8 (.one 9 (.one 10 (.done))))))))))) := rfl
theorem O78_18 : O78 18 = .one 0 (.one 1 (.one 2 (.one 3 (.one 4 (.one 5 (.one 6 (.one 7 (.done)))))))) := rfl
theorem ho78 : Try.f78.body.map (okO O78) = some true := by kernel_rfl
def Cf78 : Nat → List AV → (AV → List AV → Sto → Prop) → Kt → List AV → Sto → Prop := fun f args K Q e s => match f with
  | 38 => ent38 args K e s
  | 40 => ent40 args K e s
  | _ => False
def Ct78 : CT := { f := Cf78, y := noYld, z := fun d => false }
theorem ctz78 {d : Nat} : CT.z Ct78 d = (false) := id rfl
theorem Ct78_ok : Ct78.ok Try.prog := ok_of_f (fun f args K Q e s h => by
  have h : Cf78 f args K Q e s := h
  unfold Cf78 at h; split at h
  · exact ent38_ok h
  · exact ent40_ok h
  · exact h.elim) (fun _ _ _ _ _ _ _ _ _ h => h)
theorem x78_38 {l : List Mem} {p : Int} {KK : AV → List AV → Sto → Prop} {QQ : Kt} {ii : At KK} {jj : At QQ} {ee : List AV} {ss : Sto} : xC Ct78 38 [.d (.sl 5 (l.map Mem.c)), .d (.i p)] KK QQ ii jj ee ss = ((l.length ≤ 100000) ∧ KK (.d (.i (fnd l p))) ee ss) := eq38
theorem x78_38_m1 {l : List Mem} {p : Int} {g1 el1 : Nat} {KK : AV → List AV → Sto → Prop} {QQ : Kt} {ii : At KK} {jj : At QQ} {ee : List AV} {ss : Sto} : xC Ct78 38 [.own g1 el1 5 (l.map Mem.c), .d (.i p)] KK QQ ii jj ee ss = ((l.length ≤ 100000) ∧ (.i (fnd l p) : D).flat = true ∧ KK (.d (.i (fnd l p))) ee ss) := eqo38
theorem x78_40 {s : St} {m : Mem} {d : Int} {KK : AV → List AV → Sto → Prop} {QQ : Kt} {ii : At KK} {jj : At QQ} {ee : List AV} {ss : Sto} : xC Ct78 40 [.d (.agg s.c), .d (.agg m.c), .d (.i d)] KK QQ ii jj ee ss = ((EvsOk s.evs) ∧ KK (.d (.sl 1 ((why s.evs m d).map ic))) ee ss) := eq40
theorem c78 : callable Try.prog 78 = true := by kernel_rfl
theorem pf78 (s : St) (x : Ev) (h : MemsOk s.mem ∧ EvsOk s.evs ∧ x.sheet.length ≤ 100000) : PF Try.prog 78 [.agg s.c, .agg x.c] (fun zz => zz = .ret (.tup [.sl 5 ((matchR s x).1.map Mem.c), .i (matchR s x).2])) := by
  obtain ⟨hm, he, hx⟩ := h
  obtain ⟨l, evs⟩ := s
  obtain ⟨day, kind, person, n, sh⟩ := x
  simp only at hm he hx
  unfold matchR
  simp only
  have hl1 := hm.1
  have hl5 : l.length ≤ 100000 := by omega
  have he1 := he.1
  refine PF_nil (PF_start (O := O78) Ct78_ok hmix ho78 Try.func78 c78 rfl Try.ntmps78 Try.results78 ?_)
  simp (maxSteps := 4000000) +contextual (disch := first | omega | exact qdb_ok (by kernel_rfl) | exact okb_ok (by kernel_rfl)) only [bw1,bw2,bw3,bw4,bw5,bw6,bw7,bc0,bc1,bc2,bc3,bc4,bc5,bc6,bc7,bb0,setPs,AV.owns,AV.datF,AV.frz,AV.cpy,ifV,isEqB,nilV,nilX,AV.isNilS,AV.isNoRows,wk,dclo,datOf,binIs,addF,AV.isPtr,idxV,AV.isSl,AV.isSlice,AV.rows,ps,pv,extV,extS,AV.outs,AV.outF,packD,AV.dl,fieldV,fieldS,AV.cells?,AV.upr,AV.menc,AV.one,D.one,Value.oneCell',tagOf,AV.isApp,strV,strS,bolV,bolS,slcV,AV.isSlD,asrtS,AV.dcells,D.cells?,stcV,stcS,leafOk,eqDs,eqD,packA,D.val?,↓reduceIte,reduceCtorEq,Nat.reduceAdd,Nat.reduceSub,Nat.reduceMul,List.reduceReplicate,Nat.reduceLeDiff,Nat.reduceLT,Nat.reduceBEq,Nat.reduceEqDiff,Int.reduceNeg,Int.reduceEq,Int.reduceLE,Int.reduceLT,tfb,ctz78,O78_4,O78_9,O78_10,O78_12,O78_18,x78_38,x78_38_m1,x78_40]
  refine loop_u (O := O78) (tb := 0) Ct78_ok hmix (by kernel_rfl) (σ := Nat) (fun k => [(6, .i k)]) (fun k => [(3, [.d (.sl 5 (l.map Mem.c)), .d (.sl 5 (evs.map Ev.c))]), (4, [.d (.i day), .d (.i kind), .d (.i person), .d (.i n), .d (.sl 1 (sh.map ic))])]) (fun k => k ≤ evs.length ∧ ∀ j, j < k → sameE day n (evs.getD j default) = false) (fun k => evs.length - k) (fun k => k + 1) 0 ⟨by omega, fun j h => by omega⟩ ?_ ?_
  · simp (maxSteps := 4000000) +contextual (disch := first | omega | exact qdb_ok (by kernel_rfl) | exact okb_ok (by kernel_rfl)) only [bw1,bw2,bw3,bw4,bw5,bw6,bw7,bc0,bc1,bc2,bc3,bc4,bc5,bc6,bc7,bb0,setPs,AV.owns,AV.datF,AV.frz,AV.cpy,ifV,isEqB,nilV,nilX,AV.isNilS,AV.isNoRows,wk,dclo,datOf,binIs,addF,AV.isPtr,idxV,AV.isSl,AV.isSlice,AV.rows,ps,pv,extV,extS,AV.outs,AV.outF,packD,AV.dl,fieldV,fieldS,AV.cells?,AV.upr,AV.menc,AV.one,D.one,Value.oneCell',tagOf,AV.isApp,strV,strS,bolV,bolS,slcV,AV.isSlD,asrtS,AV.dcells,D.cells?,stcV,stcS,leafOk,eqDs,eqD,packA,D.val?,↓reduceIte,reduceCtorEq,Nat.reduceAdd,Nat.reduceSub,Nat.reduceMul,List.reduceReplicate,Nat.reduceLeDiff,Nat.reduceLT,Nat.reduceBEq,Nat.reduceEqDiff,Int.reduceNeg,Int.reduceEq,Int.reduceLE,Int.reduceLT,tfb,ctz78,O78_4,O78_9,O78_10,O78_12,O78_18,x78_38,x78_38_m1,x78_40]
  rintro k ⟨hk, hw⟩
  by_cases hlt : k < evs.length
  · have hlt' : (k : Int) < evs.length := by omega
    by_cases c1 : (evs.getD k default).kind = 6
    case neg =>
      have hno : sameE day n (evs.getD k default) = false := by unfold sameE; rw [decide_eq_false c1]; rfl
      simp (maxSteps := 4000000) +contextual (disch := first | omega | exact qdb_ok (by kernel_rfl) | exact okb_ok (by kernel_rfl)) only [bw1,bw2,bw3,bw4,bw5,bw6,bw7,bc0,bc1,bc2,bc3,bc4,bc5,bc6,bc7,bb0,setPs,AV.owns,AV.datF,AV.frz,AV.cpy,ifV,isEqB,nilV,nilX,AV.isNilS,AV.isNoRows,wk,dclo,datOf,binIs,addF,AV.isPtr,idxV,AV.isSl,AV.isSlice,AV.rows,ps,pv,extV,extS,AV.outs,AV.outF,packD,AV.dl,fieldV,fieldS,AV.cells?,AV.upr,AV.menc,AV.one,D.one,Value.oneCell',tagOf,AV.isApp,strV,strS,bolV,bolS,slcV,AV.isSlD,asrtS,AV.dcells,D.cells?,stcV,stcS,leafOk,eqDs,eqD,packA,D.val?,↓reduceIte,reduceCtorEq,Nat.reduceAdd,Nat.reduceSub,Nat.reduceMul,List.reduceReplicate,Nat.reduceLeDiff,Nat.reduceLT,Nat.reduceBEq,Nat.reduceEqDiff,Int.reduceNeg,Int.reduceEq,Int.reduceLE,Int.reduceLT,tfb,ctz78,O78_4,O78_9,O78_10,O78_12,O78_18,x78_38,x78_38_m1,x78_40,eq_self, hlt', c1]
      and_intros <;> first | omega | exact upto_succ hw hno
    by_cases c2 : (evs.getD k default).day = day
    case neg =>
      have hno : sameE day n (evs.getD k default) = false := by unfold sameE; rw [decide_eq_false c2]; simp
      simp (maxSteps := 4000000) +contextual (disch := first | omega | exact qdb_ok (by kernel_rfl) | exact okb_ok (by kernel_rfl)) only [bw1,bw2,bw3,bw4,bw5,bw6,bw7,bc0,bc1,bc2,bc3,bc4,bc5,bc6,bc7,bb0,setPs,AV.owns,AV.datF,AV.frz,AV.cpy,ifV,isEqB,nilV,nilX,AV.isNilS,AV.isNoRows,wk,dclo,datOf,binIs,addF,AV.isPtr,idxV,AV.isSl,AV.isSlice,AV.rows,ps,pv,extV,extS,AV.outs,AV.outF,packD,AV.dl,fieldV,fieldS,AV.cells?,AV.upr,AV.menc,AV.one,D.one,Value.oneCell',tagOf,AV.isApp,strV,strS,bolV,bolS,slcV,AV.isSlD,asrtS,AV.dcells,D.cells?,stcV,stcS,leafOk,eqDs,eqD,packA,D.val?,↓reduceIte,reduceCtorEq,Nat.reduceAdd,Nat.reduceSub,Nat.reduceMul,List.reduceReplicate,Nat.reduceLeDiff,Nat.reduceLT,Nat.reduceBEq,Nat.reduceEqDiff,Int.reduceNeg,Int.reduceEq,Int.reduceLE,Int.reduceLT,tfb,ctz78,O78_4,O78_9,O78_10,O78_12,O78_18,x78_38,x78_38_m1,x78_40,eq_self, hlt', c1, c2]
      and_intros <;> first | omega | exact upto_succ hw hno
    by_cases c3 : (evs.getD k default).n = n
    case neg =>
      have hno : sameE day n (evs.getD k default) = false := by unfold sameE; rw [decide_eq_false c3]; simp
      simp (maxSteps := 4000000) +contextual (disch := first | omega | exact qdb_ok (by kernel_rfl) | exact okb_ok (by kernel_rfl)) only [bw1,bw2,bw3,bw4,bw5,bw6,bw7,bc0,bc1,bc2,bc3,bc4,bc5,bc6,bc7,bb0,setPs,AV.owns,AV.datF,AV.frz,AV.cpy,ifV,isEqB,nilV,nilX,AV.isNilS,AV.isNoRows,wk,dclo,datOf,binIs,addF,AV.isPtr,idxV,AV.isSl,AV.isSlice,AV.rows,ps,pv,extV,extS,AV.outs,AV.outF,packD,AV.dl,fieldV,fieldS,AV.cells?,AV.upr,AV.menc,AV.one,D.one,Value.oneCell',tagOf,AV.isApp,strV,strS,bolV,bolS,slcV,AV.isSlD,asrtS,AV.dcells,D.cells?,stcV,stcS,leafOk,eqDs,eqD,packA,D.val?,↓reduceIte,reduceCtorEq,Nat.reduceAdd,Nat.reduceSub,Nat.reduceMul,List.reduceReplicate,Nat.reduceLeDiff,Nat.reduceLT,Nat.reduceBEq,Nat.reduceEqDiff,Int.reduceNeg,Int.reduceEq,Int.reduceLE,Int.reduceLT,tfb,ctz78,O78_4,O78_9,O78_10,O78_12,O78_18,x78_38,x78_38_m1,x78_40,eq_self, hlt', c1, c2, c3]
      and_intros <;> first | omega | exact upto_succ hw hno
    have hyes : evs.any (sameE day n) = true := any_yes hlt (by unfold sameE; rw [decide_eq_true c1, decide_eq_true c2, decide_eq_true c3]; rfl)
    rw [if_pos hyes]
    simp (maxSteps := 4000000) +contextual (disch := first | omega | exact qdb_ok (by kernel_rfl) | exact okb_ok (by kernel_rfl)) only [bw1,bw2,bw3,bw4,bw5,bw6,bw7,bc0,bc1,bc2,bc3,bc4,bc5,bc6,bc7,bb0,setPs,AV.owns,AV.datF,AV.frz,AV.cpy,ifV,isEqB,nilV,nilX,AV.isNilS,AV.isNoRows,wk,dclo,datOf,binIs,addF,AV.isPtr,idxV,AV.isSl,AV.isSlice,AV.rows,ps,pv,extV,extS,AV.outs,AV.outF,packD,AV.dl,fieldV,fieldS,AV.cells?,AV.upr,AV.menc,AV.one,D.one,Value.oneCell',tagOf,AV.isApp,strV,strS,bolV,bolS,slcV,AV.isSlD,asrtS,AV.dcells,D.cells?,stcV,stcS,leafOk,eqDs,eqD,packA,D.val?,↓reduceIte,reduceCtorEq,Nat.reduceAdd,Nat.reduceSub,Nat.reduceMul,List.reduceReplicate,Nat.reduceLeDiff,Nat.reduceLT,Nat.reduceBEq,Nat.reduceEqDiff,Int.reduceNeg,Int.reduceEq,Int.reduceLE,Int.reduceLT,tfb,ctz78,O78_4,O78_9,O78_10,O78_12,O78_18,x78_38,x78_38_m1,x78_40,eq_self, hlt', c1, c2, c3]
    try omega
  have hlt' : ¬ (k : Int) < evs.length := by omega
  have hn : ¬ evs.any (sameE day n) = true := by rw [any_no fun j hj => hw j (by omega)]; decide
  rw [if_neg hn]
  obtain ⟨kv, hkv⟩ : ∃ kv : Int, kv = k := ⟨_, rfl⟩
  clear hw
  simp (maxSteps := 4000000) +contextual (disch := first | omega | exact qdb_ok (by kernel_rfl) | exact okb_ok (by kernel_rfl)) only [bw1,bw2,bw3,bw4,bw5,bw6,bw7,bc0,bc1,bc2,bc3,bc4,bc5,bc6,bc7,bb0,setPs,AV.owns,AV.datF,AV.frz,AV.cpy,ifV,isEqB,nilV,nilX,AV.isNilS,AV.isNoRows,wk,dclo,datOf,binIs,addF,AV.isPtr,idxV,AV.isSl,AV.isSlice,AV.rows,ps,pv,extV,extS,AV.outs,AV.outF,packD,AV.dl,fieldV,fieldS,AV.cells?,AV.upr,AV.menc,AV.one,D.one,Value.oneCell',tagOf,AV.isApp,strV,strS,bolV,bolS,slcV,AV.isSlD,asrtS,AV.dcells,D.cells?,stcV,stcS,leafOk,eqDs,eqD,packA,D.val?,↓reduceIte,reduceCtorEq,Nat.reduceAdd,Nat.reduceSub,Nat.reduceMul,List.reduceReplicate,Nat.reduceLeDiff,Nat.reduceLT,Nat.reduceBEq,Nat.reduceEqDiff,Int.reduceNeg,Int.reduceEq,Int.reduceLE,Int.reduceLT,tfb,ctz78,O78_4,O78_9,O78_10,O78_12,O78_18,x78_38,x78_38_m1,x78_40,eq_self, hlt']
  refine loop_u (O := O78) (tb := 0) Ct78_ok hmix (by kernel_rfl) (σ := Nat) (fun i => [(8, .any), (7, .i i)]) (fun i => [(3, [.d (.sl 5 (l.map Mem.c)), .d (.sl 5 (evs.map Ev.c))]), (4, [.d (.i day), .d (.i kind), .d (.i person), .d (.i n), .d (.sl 1 (sh.map ic))])]) (fun i => i ≤ sh.length ∧ chkN l evs n day sh (sh.length - i) i = chkN l evs n day sh sh.length 0) (fun i => sh.length - i) (fun i => i + 1) 0 ⟨by omega, rfl⟩ ?_ ?_
  · simp (maxSteps := 4000000) +contextual (disch := first | omega | exact qdb_ok (by kernel_rfl) | exact okb_ok (by kernel_rfl)) only [bw1,bw2,bw3,bw4,bw5,bw6,bw7,bc0,bc1,bc2,bc3,bc4,bc5,bc6,bc7,bb0,setPs,AV.owns,AV.datF,AV.frz,AV.cpy,ifV,isEqB,nilV,nilX,AV.isNilS,AV.isNoRows,wk,dclo,datOf,binIs,addF,AV.isPtr,idxV,AV.isSl,AV.isSlice,AV.rows,ps,pv,extV,extS,AV.outs,AV.outF,packD,AV.dl,fieldV,fieldS,AV.cells?,AV.upr,AV.menc,AV.one,D.one,Value.oneCell',tagOf,AV.isApp,strV,strS,bolV,bolS,slcV,AV.isSlD,asrtS,AV.dcells,D.cells?,stcV,stcS,leafOk,eqDs,eqD,packA,D.val?,↓reduceIte,reduceCtorEq,Nat.reduceAdd,Nat.reduceSub,Nat.reduceMul,List.reduceReplicate,Nat.reduceLeDiff,Nat.reduceLT,Nat.reduceBEq,Nat.reduceEqDiff,Int.reduceNeg,Int.reduceEq,Int.reduceLE,Int.reduceLT,tfb,ctz78,O78_4,O78_9,O78_10,O78_12,O78_18,x78_38,x78_38_m1,x78_40]
  rintro i ⟨hi, hw⟩
  by_cases hli : i < sh.length
  · have hli' : (i : Int) < sh.length := by omega
    rw [show sh.length - i = (sh.length - (i + 1)) + 1 by omega, chkN] at hw
    rcases fnd_cases l (sh.getD i default) with ⟨h1, _⟩ | ⟨j, hj, h1, _⟩
    · rw [h1] at hw
      rw [if_pos (by omega)] at hw
      rw [← hw]
      simp (maxSteps := 4000000) +contextual (disch := first | omega | exact qdb_ok (by kernel_rfl) | exact okb_ok (by kernel_rfl)) only [bw1,bw2,bw3,bw4,bw5,bw6,bw7,bc0,bc1,bc2,bc3,bc4,bc5,bc6,bc7,bb0,setPs,AV.owns,AV.datF,AV.frz,AV.cpy,ifV,isEqB,nilV,nilX,AV.isNilS,AV.isNoRows,wk,dclo,datOf,binIs,addF,AV.isPtr,idxV,AV.isSl,AV.isSlice,AV.rows,ps,pv,extV,extS,AV.outs,AV.outF,packD,AV.dl,fieldV,fieldS,AV.cells?,AV.upr,AV.menc,AV.one,D.one,Value.oneCell',tagOf,AV.isApp,strV,strS,bolV,bolS,slcV,AV.isSlD,asrtS,AV.dcells,D.cells?,stcV,stcS,leafOk,eqDs,eqD,packA,D.val?,↓reduceIte,reduceCtorEq,Nat.reduceAdd,Nat.reduceSub,Nat.reduceMul,List.reduceReplicate,Nat.reduceLeDiff,Nat.reduceLT,Nat.reduceBEq,Nat.reduceEqDiff,Int.reduceNeg,Int.reduceEq,Int.reduceLE,Int.reduceLT,tfb,ctz78,O78_4,O78_9,O78_10,O78_12,O78_18,x78_38,x78_38_m1,x78_40,eq_self, hli', hl5, h1]
      try omega
    rw [h1, if_neg (by omega), Int.toNat_natCast] at hw
    have hj' : (j : Int) < l.length := by omega
    have hjn : ¬ (j : Int) < 0 := by omega
    by_cases c2 : (l.getD j default).club = n
    case neg =>
      have c2b : ((l.getD j default).club != n) = true := by simpa using c2
      rw [if_pos c2] at hw
      rw [← hw]
      simp (maxSteps := 4000000) +contextual (disch := first | omega | exact qdb_ok (by kernel_rfl) | exact okb_ok (by kernel_rfl)) only [bw1,bw2,bw3,bw4,bw5,bw6,bw7,bc0,bc1,bc2,bc3,bc4,bc5,bc6,bc7,bb0,setPs,AV.owns,AV.datF,AV.frz,AV.cpy,ifV,isEqB,nilV,nilX,AV.isNilS,AV.isNoRows,wk,dclo,datOf,binIs,addF,AV.isPtr,idxV,AV.isSl,AV.isSlice,AV.rows,ps,pv,extV,extS,AV.outs,AV.outF,packD,AV.dl,fieldV,fieldS,AV.cells?,AV.upr,AV.menc,AV.one,D.one,Value.oneCell',tagOf,AV.isApp,strV,strS,bolV,bolS,slcV,AV.isSlD,asrtS,AV.dcells,D.cells?,stcV,stcS,leafOk,eqDs,eqD,packA,D.val?,↓reduceIte,reduceCtorEq,Nat.reduceAdd,Nat.reduceSub,Nat.reduceMul,List.reduceReplicate,Nat.reduceLeDiff,Nat.reduceLT,Nat.reduceBEq,Nat.reduceEqDiff,Int.reduceNeg,Int.reduceEq,Int.reduceLE,Int.reduceLT,tfb,ctz78,O78_4,O78_9,O78_10,O78_12,O78_18,x78_38,x78_38_m1,x78_40,eq_self, hli', hl5, h1, hj', hjn, c2, c2b]
      try omega
    rw [if_neg (by simpa using c2)] at hw
    have c2b : ((l.getD j default).club != n) = false := by simpa using c2
    have hx40 : ∀ {KK : AV → List AV → Sto → Prop} {QQ : Kt} {ii : At KK} {jj : At QQ} {ee : List AV} {ss : Sto}, xC Ct78 40 [.d (.agg [.sl 5 (l.map Mem.c), .sl 5 (evs.map Ev.c)]), .d (.agg (l.getD j default).c), .d (.i day)] KK QQ ii jj ee ss = KK (.d (.sl 1 ((why evs (l.getD j default) day).map ic))) ee ss := by
      intro KK QQ ii jj ee ss
      have := x78_40 (s := ⟨l, evs⟩) (m := l.getD j default) (d := day) (KK := KK) (QQ := QQ) (ii := ii) (jj := jj) (ee := ee) (ss := ss)
      exact this.trans (propext ⟨fun h => h.2, fun k => ⟨he, k⟩⟩)
    by_cases c3 : why evs (l.getD j default) day = []
    · rw [if_pos c3] at hw
      simp (maxSteps := 4000000) +contextual (disch := first | omega | exact qdb_ok (by kernel_rfl) | exact okb_ok (by kernel_rfl)) only [bw1,bw2,bw3,bw4,bw5,bw6,bw7,bc0,bc1,bc2,bc3,bc4,bc5,bc6,bc7,bb0,setPs,AV.owns,AV.datF,AV.frz,AV.cpy,ifV,isEqB,nilV,nilX,AV.isNilS,AV.isNoRows,wk,dclo,datOf,binIs,addF,AV.isPtr,idxV,AV.isSl,AV.isSlice,AV.rows,ps,pv,extV,extS,AV.outs,AV.outF,packD,AV.dl,fieldV,fieldS,AV.cells?,AV.upr,AV.menc,AV.one,D.one,Value.oneCell',tagOf,AV.isApp,strV,strS,bolV,bolS,slcV,AV.isSlD,asrtS,AV.dcells,D.cells?,stcV,stcS,leafOk,eqDs,eqD,packA,D.val?,↓reduceIte,reduceCtorEq,Nat.reduceAdd,Nat.reduceSub,Nat.reduceMul,List.reduceReplicate,Nat.reduceLeDiff,Nat.reduceLT,Nat.reduceBEq,Nat.reduceEqDiff,Int.reduceNeg,Int.reduceEq,Int.reduceLE,Int.reduceLT,tfb,ctz78,O78_4,O78_9,O78_10,O78_12,O78_18,x78_38,x78_38_m1,x78_40,eq_self, hli', hl5, h1, hj', hjn, c2b, hx40, c3, Int.lt_irrefl, List.length_nil, List.map_nil]
      and_intros <;> first | omega | exact hw
    · rw [if_neg c3] at hw
      rw [← hw]
      have c3' : (0 : Int) < (why evs (l.getD j default) day).length := by
        cases hwy : why evs (l.getD j default) day with
        | nil => exact absurd hwy c3
        | cons a b => simp only [List.length_cons]; omega
      simp (maxSteps := 4000000) +contextual (disch := first | omega | exact qdb_ok (by kernel_rfl) | exact okb_ok (by kernel_rfl)) only [bw1,bw2,bw3,bw4,bw5,bw6,bw7,bc0,bc1,bc2,bc3,bc4,bc5,bc6,bc7,bb0,setPs,AV.owns,AV.datF,AV.frz,AV.cpy,ifV,isEqB,nilV,nilX,AV.isNilS,AV.isNoRows,wk,dclo,datOf,binIs,addF,AV.isPtr,idxV,AV.isSl,AV.isSlice,AV.rows,ps,pv,extV,extS,AV.outs,AV.outF,packD,AV.dl,fieldV,fieldS,AV.cells?,AV.upr,AV.menc,AV.one,D.one,Value.oneCell',tagOf,AV.isApp,strV,strS,bolV,bolS,slcV,AV.isSlD,asrtS,AV.dcells,D.cells?,stcV,stcS,leafOk,eqDs,eqD,packA,D.val?,↓reduceIte,reduceCtorEq,Nat.reduceAdd,Nat.reduceSub,Nat.reduceMul,List.reduceReplicate,Nat.reduceLeDiff,Nat.reduceLT,Nat.reduceBEq,Nat.reduceEqDiff,Int.reduceNeg,Int.reduceEq,Int.reduceLE,Int.reduceLT,tfb,ctz78,O78_4,O78_9,O78_10,O78_12,O78_18,x78_38,x78_38_m1,x78_40,eq_self, hli', hl5, h1, hj', hjn, c2b, hx40, c3']
      try omega
  have hli' : ¬ (i : Int) < sh.length := by omega
  rw [show sh.length - i = 0 by omega, chkN] at hw
  rw [← hw]
  simp (maxSteps := 4000000) +contextual (disch := first | omega | exact qdb_ok (by kernel_rfl) | exact okb_ok (by kernel_rfl)) only [bw1,bw2,bw3,bw4,bw5,bw6,bw7,bc0,bc1,bc2,bc3,bc4,bc5,bc6,bc7,bb0,setPs,AV.owns,AV.datF,AV.frz,AV.cpy,ifV,isEqB,nilV,nilX,AV.isNilS,AV.isNoRows,wk,dclo,datOf,binIs,addF,AV.isPtr,idxV,AV.isSl,AV.isSlice,AV.rows,ps,pv,extV,extS,AV.outs,AV.outF,packD,AV.dl,fieldV,fieldS,AV.cells?,AV.upr,AV.menc,AV.one,D.one,Value.oneCell',tagOf,AV.isApp,strV,strS,bolV,bolS,slcV,AV.isSlD,asrtS,AV.dcells,D.cells?,stcV,stcS,leafOk,eqDs,eqD,packA,D.val?,↓reduceIte,reduceCtorEq,Nat.reduceAdd,Nat.reduceSub,Nat.reduceMul,List.reduceReplicate,Nat.reduceLeDiff,Nat.reduceLT,Nat.reduceBEq,Nat.reduceEqDiff,Int.reduceNeg,Int.reduceEq,Int.reduceLE,Int.reduceLT,tfb,ctz78,O78_4,O78_9,O78_10,O78_12,O78_18,x78_38,x78_38_m1,x78_40,eq_self, hli', Int.lt_irrefl]
  refine ⟨by omega, by omega, ?_⟩
  have hfl := fun k => gF_len (f := gam n) (l := l) (k := k)
  refine loop_u (O := O78) (tb := 0) Ct78_ok hmix (by kernel_rfl) (σ := Nat) (fun k => [(9, .own 87 43 5 ((gF (gam n) l k).map Mem.c)), (89, .any), (10, .i k)]) (fun k => [(3, [.d (.sl 5 (l.map Mem.c)), .d (.sl 5 (evs.map Ev.c))]), (4, [.d (.i day), .d (.i kind), .d (.i person), .d (.i n), .d (.sl 1 (sh.map ic))])]) (fun k => k ≤ l.length) (fun k => l.length - k) (fun k => k + 1) 0 (by omega) ?_ ?_
  · simp (maxSteps := 4000000) +contextual (disch := first | omega | exact qdb_ok (by kernel_rfl) | exact okb_ok (by kernel_rfl)) only [bw1,bw2,bw3,bw4,bw5,bw6,bw7,bc0,bc1,bc2,bc3,bc4,bc5,bc6,bc7,bb0,setPs,AV.owns,AV.datF,AV.frz,AV.cpy,ifV,isEqB,nilV,nilX,AV.isNilS,AV.isNoRows,wk,dclo,datOf,binIs,addF,AV.isPtr,idxV,AV.isSl,AV.isSlice,AV.rows,ps,pv,extV,extS,AV.outs,AV.outF,packD,AV.dl,fieldV,fieldS,AV.cells?,AV.upr,AV.menc,AV.one,D.one,Value.oneCell',tagOf,AV.isApp,strV,strS,bolV,bolS,slcV,AV.isSlD,asrtS,AV.dcells,D.cells?,stcV,stcS,leafOk,eqDs,eqD,packA,D.val?,↓reduceIte,reduceCtorEq,Nat.reduceAdd,Nat.reduceSub,Nat.reduceMul,List.reduceReplicate,Nat.reduceLeDiff,Nat.reduceLT,Nat.reduceBEq,Nat.reduceEqDiff,Int.reduceNeg,Int.reduceEq,Int.reduceLE,Int.reduceLT,tfb,ctz78,O78_4,O78_9,O78_10,O78_12,O78_18,x78_38,x78_38_m1,x78_40,eq_self, gF_zero]
  intro k hk
  have hlk := hfl k
  by_cases hlt : k < l.length
  · have hlt' : (k : Int) < l.length := by omega
    have r1 : ((gF (gam n) l k).map Mem.c).getD k [] = Mem.c (l.getD k default) := by rw [row_at (by omega), gF_at hlt]
    have hb := (hm.2 (l.getD k default) (by rw [at_lt hlt]; exact List.getElem_mem _)).1
    by_cases c : (l.getD k default).club = n
    · have hst : ((gF (gam n) l k).map Mem.c).set k ((Mem.c (l.getD k default)).set 2 (.i (max 0 ((l.getD k default).ban - 1)))) = (gF (gam n) l (k + 1)).map Mem.c := by
        rw [← gF_set hlt, List.map_set]
        congr 1
        unfold gam
        rw [if_pos c]
        rfl
      have cb : ((l.getD k default).club == n) = true := by simpa using c
      simp (maxSteps := 4000000) +contextual (disch := first | omega | exact qdb_ok (by kernel_rfl) | exact okb_ok (by kernel_rfl)) only [bw1,bw2,bw3,bw4,bw5,bw6,bw7,bc0,bc1,bc2,bc3,bc4,bc5,bc6,bc7,bb0,setPs,AV.owns,AV.datF,AV.frz,AV.cpy,ifV,isEqB,nilV,nilX,AV.isNilS,AV.isNoRows,wk,dclo,datOf,binIs,addF,AV.isPtr,idxV,AV.isSl,AV.isSlice,AV.rows,ps,pv,extV,extS,AV.outs,AV.outF,packD,AV.dl,fieldV,fieldS,AV.cells?,AV.upr,AV.menc,AV.one,D.one,Value.oneCell',tagOf,AV.isApp,strV,strS,bolV,bolS,slcV,AV.isSlD,asrtS,AV.dcells,D.cells?,stcV,stcS,leafOk,eqDs,eqD,packA,D.val?,↓reduceIte,reduceCtorEq,Nat.reduceAdd,Nat.reduceSub,Nat.reduceMul,List.reduceReplicate,Nat.reduceLeDiff,Nat.reduceLT,Nat.reduceBEq,Nat.reduceEqDiff,Int.reduceNeg,Int.reduceEq,Int.reduceLE,Int.reduceLT,tfb,ctz78,O78_4,O78_9,O78_10,O78_12,O78_18,x78_38,x78_38_m1,x78_40,eq_self, hlt', hlk, r1, cb, hb, List.length_map]
      exact ⟨by omega, by omega, by omega, ⟨by omega, by omega⟩, hst⟩
    · have hs : gF (gam n) l (k + 1) = gF (gam n) l k := gF_same hlt (by unfold gam; rw [if_neg c])
      have cb : ((l.getD k default).club == n) = false := by simpa using c
      simp (maxSteps := 4000000) +contextual (disch := first | omega | exact qdb_ok (by kernel_rfl) | exact okb_ok (by kernel_rfl)) only [bw1,bw2,bw3,bw4,bw5,bw6,bw7,bc0,bc1,bc2,bc3,bc4,bc5,bc6,bc7,bb0,setPs,AV.owns,AV.datF,AV.frz,AV.cpy,ifV,isEqB,nilV,nilX,AV.isNilS,AV.isNoRows,wk,dclo,datOf,binIs,addF,AV.isPtr,idxV,AV.isSl,AV.isSlice,AV.rows,ps,pv,extV,extS,AV.outs,AV.outF,packD,AV.dl,fieldV,fieldS,AV.cells?,AV.upr,AV.menc,AV.one,D.one,Value.oneCell',tagOf,AV.isApp,strV,strS,bolV,bolS,slcV,AV.isSlD,asrtS,AV.dcells,D.cells?,stcV,stcS,leafOk,eqDs,eqD,packA,D.val?,↓reduceIte,reduceCtorEq,Nat.reduceAdd,Nat.reduceSub,Nat.reduceMul,List.reduceReplicate,Nat.reduceLeDiff,Nat.reduceLT,Nat.reduceBEq,Nat.reduceEqDiff,Int.reduceNeg,Int.reduceEq,Int.reduceLE,Int.reduceLT,tfb,ctz78,O78_4,O78_9,O78_10,O78_12,O78_18,x78_38,x78_38_m1,x78_40,eq_self, hlt', hlk, r1, cb, hs, List.length_map]
      and_intros <;> omega
  have hlt' : ¬ (k : Int) < l.length := by omega
  obtain rfl : k = l.length := by omega
  simp (maxSteps := 4000000) +contextual (disch := first | omega | exact qdb_ok (by kernel_rfl) | exact okb_ok (by kernel_rfl)) only [bw1,bw2,bw3,bw4,bw5,bw6,bw7,bc0,bc1,bc2,bc3,bc4,bc5,bc6,bc7,bb0,setPs,AV.owns,AV.datF,AV.frz,AV.cpy,ifV,isEqB,nilV,nilX,AV.isNilS,AV.isNoRows,wk,dclo,datOf,binIs,addF,AV.isPtr,idxV,AV.isSl,AV.isSlice,AV.rows,ps,pv,extV,extS,AV.outs,AV.outF,packD,AV.dl,fieldV,fieldS,AV.cells?,AV.upr,AV.menc,AV.one,D.one,Value.oneCell',tagOf,AV.isApp,strV,strS,bolV,bolS,slcV,AV.isSlD,asrtS,AV.dcells,D.cells?,stcV,stcS,leafOk,eqDs,eqD,packA,D.val?,↓reduceIte,reduceCtorEq,Nat.reduceAdd,Nat.reduceSub,Nat.reduceMul,List.reduceReplicate,Nat.reduceLeDiff,Nat.reduceLT,Nat.reduceBEq,Nat.reduceEqDiff,Int.reduceNeg,Int.reduceEq,Int.reduceLE,Int.reduceLT,tfb,ctz78,O78_4,O78_9,O78_10,O78_12,O78_18,x78_38,x78_38_m1,x78_40,eq_self, hlt', Int.lt_irrefl, gF_all, hlk, List.length_map]
def ent78 (args : List AV) (K : AV → List AV → Sto → Prop) (e : List AV) (s : Sto) : Prop := ent (α := (St) × (Ev)) (fun aa => [.agg aa.1.c, .agg aa.2.c]) (fun aa => MemsOk aa.1.mem ∧ EvsOk aa.1.evs ∧ aa.2.sheet.length ≤ 100000) (fun aa => .tup [.sl 5 ((matchR aa.1 aa.2).1.map Mem.c), .i (matchR aa.1 aa.2).2]) args K e s
theorem ent78_ok {args : List AV} {K : AV → List AV → Sto → Prop} {Q : Kt} {e : List AV} {s : Sto} (h : ent78 args K e s) : pcall Try.prog 78 args K Q e s := ent_ok (fun aa h => pf78 aa.1 aa.2 h) h
theorem eq78 {s : St} {x : Ev} {KK : AV → List AV → Sto → Prop} {ee : List AV} {ss : Sto} : ent78 [.d (.agg s.c), .d (.agg x.c)] KK ee ss = ((MemsOk s.mem ∧ EvsOk s.evs ∧ x.sheet.length ≤ 100000) ∧ KK (.d (.tup [.sl 5 ((matchR s x).1.map Mem.c), .i (matchR s x).2])) ee ss) := by
  unfold ent78; rw [ent_iff (s, x) (by intro b h; simpa [Prod.ext_iff, and_assoc, Int.ofNat_inj, ints_inj, evs_inj, mems_inj, ev_inj, mem_inj, st_inj] using h) rfl]; simp
end Go.Proofs.Ytohkngiflfkjjaa
