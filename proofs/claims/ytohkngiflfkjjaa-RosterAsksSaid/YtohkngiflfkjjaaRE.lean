/- A part of the proof that the last text ends: what functions of the program do, told by plain data. -/
import Derived.Test.YtohkngiflfkjjaaRD
set_option linter.unusedVariables false
set_option linter.unusedSimpArgs false
namespace Go.Proofs.Ytohkngiflfkjjaa
open Go Go.E
set_option maxRecDepth 100000
set_option maxHeartbeats 16000000
/-! ### The document: one member more, a match -/
theorem take_succ {α : Type} [Inhabited α] {l : List α} {k : Nat} (h : k < l.length) : l.take (k + 1) = l.take k ++ [l.getD k default] := by
  rw [List.take_succ_eq_append_getElem h, at_lt h]
def insM (l : List Mem) (m : Mem) : List Mem := l.takeWhile (fun y => decide (y.person < m.person)) ++ m :: l.dropWhile (fun y => decide (y.person < m.person))
theorem insM_at {l : List Mem} {m : Mem} {i : Nat} (hi : i ≤ l.length) (h1 : ∀ j, j < i → (l.getD j default).person < m.person) (h2 : i = l.length ∨ ¬ (l.getD i default).person < m.person) : insM l m = l.take i ++ m :: l.drop i := by
  have key : ∀ (l : List Mem) (i : Nat), i ≤ l.length → (∀ j, j < i → (l.getD j default).person < m.person) → (i = l.length ∨ ¬ (l.getD i default).person < m.person) → l.takeWhile (fun y => decide (y.person < m.person)) = l.take i ∧ l.dropWhile (fun y => decide (y.person < m.person)) = l.drop i := by
    intro l
    induction l with
    | nil => intro i hi _ _; simp at hi; subst hi; simp
    | cons a l ih =>
      intro i hi h1 h2
      cases i with
      | zero =>
        rcases h2 with h2 | h2
        · simp at h2
        · have h3 : ¬ a.person < m.person := h2
          simp [List.takeWhile_cons, List.dropWhile_cons, h3]
      | succ i =>
        have h3 : a.person < m.person := h1 0 (by omega)
        obtain ⟨k1, k2⟩ := ih i (by simpa using hi) (fun j hj => h1 (j + 1) (by omega)) (h2.imp (fun h => by simpa using h) fun h => h)
        simp [List.takeWhile_cons, List.dropWhile_cons, h3, k1, k2]
  obtain ⟨k1, k2⟩ := key l i hi h1 h2
  unfold insM
  rw [k1, k2]
/-- What the second loop has made. -/
def insN (l : List Mem) (m : Mem) (i k : Nat) : List Mem := l.take i ++ m :: (l.drop i).take (k - i)
theorem insN_succ {l : List Mem} {m : Mem} {i k : Nat} (h : i ≤ k) (hk : k < l.length) : insN l m i (k + 1) = insN l m i k ++ [l.getD k default] := by
  unfold insN
  rw [show k + 1 - i = (k - i) + 1 by omega, take_succ (by simp; omega), List.append_assoc, List.cons_append]
  congr 3
  rw [List.getD_eq_getElem?_getD, List.getD_eq_getElem?_getD, List.getElem?_drop, show i + (k - i) = k by omega]
theorem insN_start {l : List Mem} {m : Mem} {i : Nat} : insN l m i i = l.take i ++ [m] := by unfold insN; rw [Nat.sub_self, List.take_zero]
theorem insN_end {l : List Mem} {m : Mem} {i : Nat} : insN l m i l.length = l.take i ++ m :: l.drop i := by unfold insN; rw [show (l.drop i).take (l.length - i) = l.drop i from List.take_of_length_le (by simp)]
theorem insN_len {l : List Mem} {m : Mem} {i k : Nat} (h : i ≤ k) (hk : k ≤ l.length) : (insN l m i k).length = k + 1 := by unfold insN; simp; omega
def O83 : Nat → Sch := fun id => if id = 3 then .one 0 (.one 1 (.one 2 (.one 3 (.one 4 (.one 5 (.one 6 (.one 7 (.one 8 (.one 9 (.one 10 (.one 11 (.one 12 (.one 13 (.done)))))))))))))) else .done
theorem O83_3 : O83 3 = .one 0 (.one 1 (.one 2 (.one 3 (.one 4 (.one 5 (.one 6 (.one 7 (.one 8 (.one 9 (.one 10 (.one 11 (.one 12 (.one 13 (.done)))))))))))))) := rfl
theorem ho83 : Try.f83.body.map (okO O83) = some true := by kernel_rfl
def Cf83 : Nat → List AV → (AV → List AV → Sto → Prop) → Kt → List AV → Sto → Prop := fun f args K Q e s => match f with
  | _ => False
def Ct83 : CT := { f := Cf83, y := noYld, z := fun d => false }
theorem ctz83 {d : Nat} : CT.z Ct83 d = (false) := id rfl
theorem Ct83_ok : Ct83.ok Try.prog := ok_of_f (fun f args K Q e s h => by
  have h : Cf83 f args K Q e s := h
  unfold Cf83 at h; split at h
  · exact h.elim) (fun _ _ _ _ _ _ _ _ _ h => h)
theorem c83 : callable Try.prog 83 = true := by kernel_rfl
theorem pf83 (l : List Mem) (m : Mem) (h : l.length ≤ 1000) : PF Try.prog 83 [.sl 5 (l.map Mem.c), .agg m.c] (fun zz => zz = .ret (.sl 5 ((insM l m).map Mem.c))) := by
  have k0 : l.take 0 = [] := rfl
  have k1 := fun k (h : k < l.length) => take_succ (l := l) (k := k) h
  have kl := fun k (h : k ≤ l.length) => List.length_take_of_le h
  refine PF_nil (PF_start (O := O83) Ct83_ok hmix ho83 Try.func83 c83 rfl Try.ntmps83 Try.results83 ?_)
  simp (maxSteps := 4000000) +contextual (disch := first | omega | exact qdb_ok (by kernel_rfl) | exact okb_ok (by kernel_rfl)) only [bw1,bw2,bw3,bw4,bw5,bw6,bw7,bc0,bc1,bc2,bc3,bc4,bc5,bc6,bc7,bb0,setPs,AV.owns,AV.datF,AV.frz,AV.cpy,ifV,isEqB,nilV,nilX,AV.isNilS,AV.isNoRows,wk,dclo,datOf,binIs,addF,AV.isPtr,idxV,AV.isSl,AV.isSlice,AV.rows,ps,pv,extV,extS,AV.outs,AV.outF,packD,AV.dl,fieldV,fieldS,AV.cells?,AV.upr,AV.menc,AV.one,D.one,Value.oneCell',tagOf,AV.isApp,strV,strS,bolV,bolS,slcV,AV.isSlD,asrtS,AV.dcells,D.cells?,stcV,stcS,leafOk,eqDs,eqD,packA,D.val?,↓reduceIte,reduceCtorEq,Nat.reduceAdd,Nat.reduceSub,Nat.reduceMul,List.reduceReplicate,Nat.reduceLeDiff,Nat.reduceLT,Nat.reduceBEq,Nat.reduceEqDiff,Int.reduceNeg,Int.reduceEq,Int.reduceLE,Int.reduceLT,tfb,ctz83,O83_3]
  refine seed (m1 := mk _) (m2 := mk _) 5 30 43 5 (by decide) rfl rfl (by simp [Sto.mens, AV.mens, AV.men]) rfl ?_
  refine loop_u (O := O83) (tb := 0) Ct83_ok hmix (by kernel_rfl) (σ := Nat) (fun k => [(5, .own 30 43 5 ((l.take k).map Mem.c)), (6, .i k)]) (fun k => [(4, [.d (.i m.person), .d (.i m.club), .d (.i m.ban), .d (.i m.stage), .d (.i m.since)])]) (fun k => k ≤ l.length ∧ ∀ j, j < k → (l.getD j default).person < m.person) (fun k => l.length - k) (fun k => k + 1) 0 ⟨by omega, fun j h => by omega⟩ ?_ ?_
  · simp (maxSteps := 4000000) +contextual (disch := first | omega | exact qdb_ok (by kernel_rfl) | exact okb_ok (by kernel_rfl)) only [bw1,bw2,bw3,bw4,bw5,bw6,bw7,bc0,bc1,bc2,bc3,bc4,bc5,bc6,bc7,bb0,setPs,AV.owns,AV.datF,AV.frz,AV.cpy,ifV,isEqB,nilV,nilX,AV.isNilS,AV.isNoRows,wk,dclo,datOf,binIs,addF,AV.isPtr,idxV,AV.isSl,AV.isSlice,AV.rows,ps,pv,extV,extS,AV.outs,AV.outF,packD,AV.dl,fieldV,fieldS,AV.cells?,AV.upr,AV.menc,AV.one,D.one,Value.oneCell',tagOf,AV.isApp,strV,strS,bolV,bolS,slcV,AV.isSlD,asrtS,AV.dcells,D.cells?,stcV,stcS,leafOk,eqDs,eqD,packA,D.val?,↓reduceIte,reduceCtorEq,Nat.reduceAdd,Nat.reduceSub,Nat.reduceMul,List.reduceReplicate,Nat.reduceLeDiff,Nat.reduceLT,Nat.reduceBEq,Nat.reduceEqDiff,Int.reduceNeg,Int.reduceEq,Int.reduceLE,Int.reduceLT,tfb,ctz83,O83_3,eq_self, k0]
  rintro k ⟨hk, hw⟩
  have hlen := kl k hk
  by_cases hc : k < l.length ∧ (l.getD k default).person < m.person
  · obtain ⟨hlt, hp⟩ := hc
    have hlt' : (k : Int) < l.length := by omega
    have hs := k1 k hlt
    simp (maxSteps := 4000000) +contextual (disch := first | omega | exact qdb_ok (by kernel_rfl) | exact okb_ok (by kernel_rfl)) only [bw1,bw2,bw3,bw4,bw5,bw6,bw7,bc0,bc1,bc2,bc3,bc4,bc5,bc6,bc7,bb0,setPs,AV.owns,AV.datF,AV.frz,AV.cpy,ifV,isEqB,nilV,nilX,AV.isNilS,AV.isNoRows,wk,dclo,datOf,binIs,addF,AV.isPtr,idxV,AV.isSl,AV.isSlice,AV.rows,ps,pv,extV,extS,AV.outs,AV.outF,packD,AV.dl,fieldV,fieldS,AV.cells?,AV.upr,AV.menc,AV.one,D.one,Value.oneCell',tagOf,AV.isApp,strV,strS,bolV,bolS,slcV,AV.isSlD,asrtS,AV.dcells,D.cells?,stcV,stcS,leafOk,eqDs,eqD,packA,D.val?,↓reduceIte,reduceCtorEq,Nat.reduceAdd,Nat.reduceSub,Nat.reduceMul,List.reduceReplicate,Nat.reduceLeDiff,Nat.reduceLT,Nat.reduceBEq,Nat.reduceEqDiff,Int.reduceNeg,Int.reduceEq,Int.reduceLE,Int.reduceLT,tfb,ctz83,O83_3,eq_self, hlt', hp, hlen, List.length_map]
    and_intros <;> first | omega | exact upto_succ hw hp | (rw [hs, List.map_append]; rfl)
  have hst : k = l.length ∨ ¬ (l.getD k default).person < m.person := by
    by_cases hlt : k < l.length
    · exact .inr fun hp => hc ⟨hlt, hp⟩
    · exact .inl (by omega)
  have hres : insM l m = insN l m k l.length := by rw [insM_at hk hw hst, insN_end]
  have n0 : insN l m k k = l.take k ++ [m] := insN_start
  have n1 := fun j (h : k ≤ j) (h2 : j < l.length) => insN_succ (l := l) (m := m) (i := k) (k := j) h h2
  have nl := fun j (h : k ≤ j) (h2 : j ≤ l.length) => insN_len (l := l) (m := m) (i := k) (k := j) h h2
  rw [hres]
  have n0' : (insN l m k k).map Mem.c = (l.take k).map Mem.c ++ [Mem.c m] := by rw [n0, List.map_append]; rfl
  by_cases hlt0 : k < l.length
  case' pos =>
    have hlt0' : (k : Int) < l.length := by omega
    have hp : ¬ (l.getD k default).person < m.person := fun hp => hc ⟨hlt0, hp⟩
    simp (maxSteps := 4000000) +contextual (disch := first | omega | exact qdb_ok (by kernel_rfl) | exact okb_ok (by kernel_rfl)) only [bw1,bw2,bw3,bw4,bw5,bw6,bw7,bc0,bc1,bc2,bc3,bc4,bc5,bc6,bc7,bb0,setPs,AV.owns,AV.datF,AV.frz,AV.cpy,ifV,isEqB,nilV,nilX,AV.isNilS,AV.isNoRows,wk,dclo,datOf,binIs,addF,AV.isPtr,idxV,AV.isSl,AV.isSlice,AV.rows,ps,pv,extV,extS,AV.outs,AV.outF,packD,AV.dl,fieldV,fieldS,AV.cells?,AV.upr,AV.menc,AV.one,D.one,Value.oneCell',tagOf,AV.isApp,strV,strS,bolV,bolS,slcV,AV.isSlD,asrtS,AV.dcells,D.cells?,stcV,stcS,leafOk,eqDs,eqD,packA,D.val?,↓reduceIte,reduceCtorEq,Nat.reduceAdd,Nat.reduceSub,Nat.reduceMul,List.reduceReplicate,Nat.reduceLeDiff,Nat.reduceLT,Nat.reduceBEq,Nat.reduceEqDiff,Int.reduceNeg,Int.reduceEq,Int.reduceLE,Int.reduceLT,tfb,ctz83,O83_3,eq_self, hlt0', hp, hlen, List.length_map]
    refine ⟨by omega, by omega, by omega, ?_⟩
  case' neg =>
    have hlt0' : ¬ (k : Int) < l.length := by omega
    simp (maxSteps := 4000000) +contextual (disch := first | omega | exact qdb_ok (by kernel_rfl) | exact okb_ok (by kernel_rfl)) only [bw1,bw2,bw3,bw4,bw5,bw6,bw7,bc0,bc1,bc2,bc3,bc4,bc5,bc6,bc7,bb0,setPs,AV.owns,AV.datF,AV.frz,AV.cpy,ifV,isEqB,nilV,nilX,AV.isNilS,AV.isNoRows,wk,dclo,datOf,binIs,addF,AV.isPtr,idxV,AV.isSl,AV.isSlice,AV.rows,ps,pv,extV,extS,AV.outs,AV.outF,packD,AV.dl,fieldV,fieldS,AV.cells?,AV.upr,AV.menc,AV.one,D.one,Value.oneCell',tagOf,AV.isApp,strV,strS,bolV,bolS,slcV,AV.isSlD,asrtS,AV.dcells,D.cells?,stcV,stcS,leafOk,eqDs,eqD,packA,D.val?,↓reduceIte,reduceCtorEq,Nat.reduceAdd,Nat.reduceSub,Nat.reduceMul,List.reduceReplicate,Nat.reduceLeDiff,Nat.reduceLT,Nat.reduceBEq,Nat.reduceEqDiff,Int.reduceNeg,Int.reduceEq,Int.reduceLE,Int.reduceLT,tfb,ctz83,O83_3,eq_self, hlt0', hlen, List.length_map]
    refine ⟨by omega, by omega, ?_⟩
  all_goals
    refine loop_u (O := O83) (tb := 0) Ct83_ok hmix (by kernel_rfl) (σ := Nat) (fun j => [(5, .own 30 43 5 ((insN l m k j).map Mem.c)), (33, .any), (6, .i j)]) (fun j => [(4, [.d (.i m.person), .d (.i m.club), .d (.i m.ban), .d (.i m.stage), .d (.i m.since)])]) (fun j => k ≤ j ∧ j ≤ l.length) (fun j => l.length - j) (fun j => j + 1) k ⟨by omega, by omega⟩ ?_ ?_
    · simp (maxSteps := 4000000) +contextual (disch := first | omega | exact qdb_ok (by kernel_rfl) | exact okb_ok (by kernel_rfl)) only [bw1,bw2,bw3,bw4,bw5,bw6,bw7,bc0,bc1,bc2,bc3,bc4,bc5,bc6,bc7,bb0,setPs,AV.owns,AV.datF,AV.frz,AV.cpy,ifV,isEqB,nilV,nilX,AV.isNilS,AV.isNoRows,wk,dclo,datOf,binIs,addF,AV.isPtr,idxV,AV.isSl,AV.isSlice,AV.rows,ps,pv,extV,extS,AV.outs,AV.outF,packD,AV.dl,fieldV,fieldS,AV.cells?,AV.upr,AV.menc,AV.one,D.one,Value.oneCell',tagOf,AV.isApp,strV,strS,bolV,bolS,slcV,AV.isSlD,asrtS,AV.dcells,D.cells?,stcV,stcS,leafOk,eqDs,eqD,packA,D.val?,↓reduceIte,reduceCtorEq,Nat.reduceAdd,Nat.reduceSub,Nat.reduceMul,List.reduceReplicate,Nat.reduceLeDiff,Nat.reduceLT,Nat.reduceBEq,Nat.reduceEqDiff,Int.reduceNeg,Int.reduceEq,Int.reduceLE,Int.reduceLT,tfb,ctz83,O83_3,eq_self, n0']
    rintro j ⟨hj1, hj2⟩
    have hjl := nl j hj1 hj2
    by_cases hlt : j < l.length
    · have hlt' : (j : Int) < l.length := by omega
      have hs := n1 j hj1 hlt
      simp (maxSteps := 4000000) +contextual (disch := first | omega | exact qdb_ok (by kernel_rfl) | exact okb_ok (by kernel_rfl)) only [bw1,bw2,bw3,bw4,bw5,bw6,bw7,bc0,bc1,bc2,bc3,bc4,bc5,bc6,bc7,bb0,setPs,AV.owns,AV.datF,AV.frz,AV.cpy,ifV,isEqB,nilV,nilX,AV.isNilS,AV.isNoRows,wk,dclo,datOf,binIs,addF,AV.isPtr,idxV,AV.isSl,AV.isSlice,AV.rows,ps,pv,extV,extS,AV.outs,AV.outF,packD,AV.dl,fieldV,fieldS,AV.cells?,AV.upr,AV.menc,AV.one,D.one,Value.oneCell',tagOf,AV.isApp,strV,strS,bolV,bolS,slcV,AV.isSlD,asrtS,AV.dcells,D.cells?,stcV,stcS,leafOk,eqDs,eqD,packA,D.val?,↓reduceIte,reduceCtorEq,Nat.reduceAdd,Nat.reduceSub,Nat.reduceMul,List.reduceReplicate,Nat.reduceLeDiff,Nat.reduceLT,Nat.reduceBEq,Nat.reduceEqDiff,Int.reduceNeg,Int.reduceEq,Int.reduceLE,Int.reduceLT,tfb,ctz83,O83_3,eq_self, hlt', hjl, List.length_map]
      and_intros <;> first | omega | (rw [hs, List.map_append]; rfl)
    · have hlt' : ¬ (j : Int) < l.length := by omega
      obtain rfl : j = l.length := by omega
      simp (maxSteps := 4000000) +contextual (disch := first | omega | exact qdb_ok (by kernel_rfl) | exact okb_ok (by kernel_rfl)) only [bw1,bw2,bw3,bw4,bw5,bw6,bw7,bc0,bc1,bc2,bc3,bc4,bc5,bc6,bc7,bb0,setPs,AV.owns,AV.datF,AV.frz,AV.cpy,ifV,isEqB,nilV,nilX,AV.isNilS,AV.isNoRows,wk,dclo,datOf,binIs,addF,AV.isPtr,idxV,AV.isSl,AV.isSlice,AV.rows,ps,pv,extV,extS,AV.outs,AV.outF,packD,AV.dl,fieldV,fieldS,AV.cells?,AV.upr,AV.menc,AV.one,D.one,Value.oneCell',tagOf,AV.isApp,strV,strS,bolV,bolS,slcV,AV.isSlD,asrtS,AV.dcells,D.cells?,stcV,stcS,leafOk,eqDs,eqD,packA,D.val?,↓reduceIte,reduceCtorEq,Nat.reduceAdd,Nat.reduceSub,Nat.reduceMul,List.reduceReplicate,Nat.reduceLeDiff,Nat.reduceLT,Nat.reduceBEq,Nat.reduceEqDiff,Int.reduceNeg,Int.reduceEq,Int.reduceLE,Int.reduceLT,tfb,ctz83,O83_3,eq_self, hlt', Int.lt_irrefl]
def ent83 (args : List AV) (K : AV → List AV → Sto → Prop) (e : List AV) (s : Sto) : Prop := ent (α := (List Mem) × (Mem)) (fun aa => [.sl 5 (aa.1.map Mem.c), .agg aa.2.c]) (fun aa => aa.1.length ≤ 1000) (fun aa => .sl 5 ((insM aa.1 aa.2).map Mem.c)) args K e s
theorem ent83_ok {args : List AV} {K : AV → List AV → Sto → Prop} {Q : Kt} {e : List AV} {s : Sto} (h : ent83 args K e s) : pcall Try.prog 83 args K Q e s := ent_ok (fun aa h => pf83 aa.1 aa.2 h) h
theorem eq83 {l : List Mem} {m : Mem} {KK : AV → List AV → Sto → Prop} {ee : List AV} {ss : Sto} : ent83 [.d (.sl 5 (l.map Mem.c)), .d (.agg m.c)] KK ee ss = ((l.length ≤ 1000) ∧ KK (.d (.sl 5 ((insM l m).map Mem.c))) ee ss) := by
  unfold ent83; rw [ent_iff (l, m) (by intro b h; simpa [Prod.ext_iff, and_assoc, Int.ofNat_inj, ints_inj, evs_inj, mems_inj, ev_inj, mem_inj, st_inj] using h) rfl]; simp
theorem eqo83 {l : List Mem} {m : Mem} {g1 el1 : Nat} {KK : AV → List AV → Sto → Prop} {ee : List AV} {ss : Sto} : ent83 [.own g1 el1 5 (l.map Mem.c), .d (.agg m.c)] KK ee ss = ((l.length ≤ 1000) ∧ (.sl 5 ((insM l m).map Mem.c) : D).flat = true ∧ KK (.d (.sl 5 ((insM l m).map Mem.c))) ee ss) := by
  unfold ent83; rw [ent_iff (l, m) (by intro b h; simpa [Prod.ext_iff, and_assoc, Int.ofNat_inj, ints_inj, evs_inj, mems_inj, ev_inj, mem_inj, st_inj] using h) rfl]; simp
end Go.Proofs.Ytohkngiflfkjjaa
