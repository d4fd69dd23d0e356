/- A part of the proof that the last text ends: what functions of the program do, told by plain data. -/
import Derived.Test.YtmajlffglplcnaaDoorMJ
import Derived.Test.YtmajlffglplcnaaDoorEc
set_option linter.unusedVariables false
set_option linter.unusedSimpArgs false
namespace Go.Proofs.YtmajlffglplcnaaDoor
open Go Go.E
set_option maxRecDepth 100000
set_option maxHeartbeats 16000000
def outsL : Nat → List Int → List (List Int)
  | 0, b => [b]
  | k + 1, b => (List.range 4).flatMap fun (i : Nat) => outsL k (b ++ [(i : Int)])
def outP (k : Nat) (b : List Int) (i : Nat) : List (List Int) := (List.range i).flatMap fun (j : Nat) => outsL k (b ++ [(j : Int)])
theorem outP_succ {k : Nat} {b : List Int} {i : Nat} : outP k b (i + 1) = outP k b i ++ outsL k (b ++ [(i : Int)]) := by
  unfold outP; rw [List.range_succ, List.flatMap_append]; simp
theorem outP_all {k : Nat} {b : List Int} : outP k b 4 = outsL (k + 1) b := rfl
theorem outsL_len : ∀ (k : Nat) (b : List Int), (outsL k b).length = 4 ^ k
  | 0, _ => rfl
  | k + 1, b => by
    rw [← outP_all]
    have : ∀ i, (outP k b i).length = i * 4 ^ k := fun i => by
      induction i with
      | zero => simp [outP]
      | succ i ih => rw [outP_succ, List.length_append, ih, outsL_len k]; rw [Nat.add_mul, Nat.one_mul]
    rw [this, Nat.pow_succ, Nat.mul_comm]
theorem outP_len {k : Nat} {b : List Int} (i : Nat) : (outP k b i).length = i * 4 ^ k := by
  induction i with
  | zero => simp [outP]
  | succ i ih => rw [outP_succ, List.length_append, ih, outsL_len k]; rw [Nat.add_mul, Nat.one_mul]
def args49 (k : Nat) (b : List Int) (rows : List (List Int)) : List AV := [.i ((b.length : Int) + k), .d (.sl 1 (b.map ic)), .own 777 43 1 (rows.map pc)]
def Does49 (k : Nat) (b : List Int) (rows : List (List Int)) : Prop :=
  pcall Tryd.prog 49 (args49 k b rows) (fun r e1 s1 => e1 = [] ∧ r = .own 777 43 1 ((rows ++ outsL k b).map pc) ∧ s1 = [(0, [])]) (fun x e1 _ => e1 = [] ∧ match x with | .panic _ => False | _ => False) [] [(0, [])]
def Pre49 (k : Nat) (b : List Int) (rows : List (List Int)) : Prop := b.length + k ≤ 64 ∧ rows.length + 4 ^ k ≤ 100000
def rec49 (k : Nat) (args : List AV) (K : AV → List AV → Sto → Prop) (e : List AV) (s : Sto) : Prop :=
  ∃ b rows, Pre49 k b rows ∧ args = args49 k b rows ∧ K (.own 777 43 1 ((rows ++ outsL k b).map pc)) (e.map (AV.kill 777)) (s.kill 777)
theorem rec49_ok {k : Nat} (h : ∀ b rows, Pre49 k b rows → Does49 k b rows) {args : List AV} {K : AV → List AV → Sto → Prop} {Q : Kt} {e : List AV} {s : Sto} (hr : rec49 k args K e s) : pcall Tryd.prog 49 args K Q e s := by
  obtain ⟨b, rows, hp, rfl, hK⟩ := hr
  exact pcall_give (G := 777) (by decide) (R := fun r => r = .own 777 43 1 ((rows ++ outsL k b).map pc)) rfl (h b rows hp) (fun r hr => by subst hr; exact ⟨rfl, hK⟩)
def O49 : Nat → Sch := fun id => .done
theorem ho49 : Tryd.f49.body.map (okO O49) = some true := by kernel_rfl
theorem c49 : callable Tryd.prog 49 = true := by kernel_rfl
def Cf49 (k : Nat) : Nat → List AV → (AV → List AV → Sto → Prop) → Kt → List AV → Sto → Prop := fun f args K Q e s => match f with
  | 49 => rec49 k args K e s
  | _ => False
def Ct49 (k : Nat) : CT := { f := Cf49 k, y := noYld, z := fun d => d == 26 }
theorem ctz49 {k d : Nat} : CT.z (Ct49 k) d = (d == 26) := id rfl
theorem Ct49_ok {k : Nat} (h : ∀ b rows, Pre49 k b rows → Does49 k b rows) : (Ct49 k).ok Tryd.prog := ok_of_f (fun f args K Q e s h' => by
  have h' : Cf49 k f args K Q e s := h'
  unfold Cf49 at h'; split at h'
  · exact rec49_ok h h'
  · exact h'.elim) (fun _ _ _ _ _ _ _ _ _ h => h)
theorem xC49 {k : Nat} {args : List AV} {KK : AV → List AV → Sto → Prop} {QQ : Kt} {ii : At KK} {jj : At QQ} {ee : List AV} {ss : Sto} : xC (Ct49 k) 49 args KK QQ ii jj ee ss = rec49 k args KK ee ss := id rfl
def Ct49z : CT := { f := fun _ _ _ _ _ _ => False, y := noYld, z := fun d => d == 26 }
theorem ctz49z {d : Nat} : CT.z Ct49z d = (d == 26) := id rfl
theorem Ct49z_ok : Ct49z.ok Tryd.prog := ok_of_f (fun _ _ _ _ _ _ h => h.elim) (fun _ _ _ _ _ _ _ _ _ h => h)
theorem does49 : ∀ (k : Nat) (b : List Int) (rows : List (List Int)), Pre49 k b rows → Does49 k b rows
  | 0, b, rows, ⟨hp, hr⟩ => by
    unfold Does49 args49
    have hz : (b.length : Int) + (0 : Nat) = b.length := by omega
    rw [hz]
    refine pcall_start (O := O49) (tb := 49000) Ct49z_ok hmix ho49 Tryd.func49 c49 rfl Tryd.ntmps49 Tryd.results49 ?_
    have hp1 : 4 ^ 0 = 1 := rfl
    simp (maxSteps := 4000000) +contextual (disch := first | omega | exact qdb_ok (by kernel_rfl) | exact okb_ok (by kernel_rfl)) only [bw1,bw2,bw3,bw4,bw5,bw6,bw7,bc0,bc1,bc2,bc3,bc4,bc5,bc6,bc7,bb0,setPs,AV.owns,AV.datF,AV.frz,AV.cpy,ifV,isEqB,nilV,nilX,AV.isNilS,AV.isNoRows,wk,dclo,datOf,binIs,addF,AV.isPtr,idxV,AV.isSl,AV.isSlice,AV.rows,ps,pv,extV,extS,AV.outs,AV.outF,packD,AV.dl,fieldV,fieldS,AV.cells?,AV.upr,AV.menc,AV.one,D.one,Value.oneCell',tagOf,AV.isApp,strV,strS,bolV,bolS,slcV,AV.isSlD,asrtS,AV.dcells,D.cells?,stcV,stcS,leafOk,eqDs,eqD,packA,D.val?,↓reduceIte,reduceCtorEq,Nat.reduceAdd,Nat.reduceSub,Nat.reduceMul,List.reduceReplicate,Nat.reduceLeDiff,Nat.reduceLT,Nat.reduceBEq,Nat.reduceEqDiff,Int.reduceNeg,Int.reduceEq,Int.reduceLE,Int.reduceLT,tfb,ctz49,xC49,ctz49z,eq_self]
    exact ⟨by omega, by omega, by rw [List.map_append]; rfl⟩
  | k + 1, b, rows, ⟨hp, hr⟩ => by
    unfold Does49 args49
    refine pcall_start (O := O49) (tb := 49000) (Ct49_ok (k := k) (does49 k)) hmix ho49 Tryd.func49 c49 rfl Tryd.ntmps49 Tryd.results49 ?_
    obtain ⟨n, hn⟩ : ∃ n : Int, n = (b.length : Int) + ((k + 1 : Nat) : Int) := ⟨_, rfl⟩
    rw [← hn]
    have hne : ((b.length : Int) == n) = false := by simp; omega
    simp (maxSteps := 4000000) +contextual (disch := first | omega | exact qdb_ok (by kernel_rfl) | exact okb_ok (by kernel_rfl)) only [bw1,bw2,bw3,bw4,bw5,bw6,bw7,bc0,bc1,bc2,bc3,bc4,bc5,bc6,bc7,bb0,setPs,AV.owns,AV.datF,AV.frz,AV.cpy,ifV,isEqB,nilV,nilX,AV.isNilS,AV.isNoRows,wk,dclo,datOf,binIs,addF,AV.isPtr,idxV,AV.isSl,AV.isSlice,AV.rows,ps,pv,extV,extS,AV.outs,AV.outF,packD,AV.dl,fieldV,fieldS,AV.cells?,AV.upr,AV.menc,AV.one,D.one,Value.oneCell',tagOf,AV.isApp,strV,strS,bolV,bolS,slcV,AV.isSlD,asrtS,AV.dcells,D.cells?,stcV,stcS,leafOk,eqDs,eqD,packA,D.val?,↓reduceIte,reduceCtorEq,Nat.reduceAdd,Nat.reduceSub,Nat.reduceMul,List.reduceReplicate,Nat.reduceLeDiff,Nat.reduceLT,Nat.reduceBEq,Nat.reduceEqDiff,Int.reduceNeg,Int.reduceEq,Int.reduceLE,Int.reduceLT,tfb,ctz49,xC49,ctz49z,eq_self, hne]
    have hpk : 4 ^ (k + 1) = 4 * 4 ^ k := by rw [Nat.pow_succ, Nat.mul_comm]
    have hk1 : 1 ≤ 4 ^ k := Nat.one_le_pow _ _ (by decide)
    refine loop_xu (O := O49) (tb := 49000) (Ct49_ok (k := k) (does49 k)) hmix (by kernel_rfl) (σ := Nat) (fun i => [(2, .own 777 43 1 ((rows ++ outP k b i).map pc)), (7, .i i)]) (fun _ => []) (fun i => i ≤ 4) (fun i => 4 - i) 0 (by omega) ?_ ?_
    · have hz : rows ++ outP k b 0 = rows := by simp [outP]
      simp (maxSteps := 4000000) +contextual (disch := first | omega | exact qdb_ok (by kernel_rfl) | exact okb_ok (by kernel_rfl)) only [bw1,bw2,bw3,bw4,bw5,bw6,bw7,bc0,bc1,bc2,bc3,bc4,bc5,bc6,bc7,bb0,setPs,AV.owns,AV.datF,AV.frz,AV.cpy,ifV,isEqB,nilV,nilX,AV.isNilS,AV.isNoRows,wk,dclo,datOf,binIs,addF,AV.isPtr,idxV,AV.isSl,AV.isSlice,AV.rows,ps,pv,extV,extS,AV.outs,AV.outF,packD,AV.dl,fieldV,fieldS,AV.cells?,AV.upr,AV.menc,AV.one,D.one,Value.oneCell',tagOf,AV.isApp,strV,strS,bolV,bolS,slcV,AV.isSlD,asrtS,AV.dcells,D.cells?,stcV,stcS,leafOk,eqDs,eqD,packA,D.val?,↓reduceIte,reduceCtorEq,Nat.reduceAdd,Nat.reduceSub,Nat.reduceMul,List.reduceReplicate,Nat.reduceLeDiff,Nat.reduceLT,Nat.reduceBEq,Nat.reduceEqDiff,Int.reduceNeg,Int.reduceEq,Int.reduceLE,Int.reduceLT,tfb,ctz49,xC49,ctz49z,eq_self, hz]
      try rfl
    rintro i hi
    by_cases hlt : i < 4
    case neg =>
      have hlt' : ¬ (i : Int) < 4 := by omega
      have hi4 : i = 4 := by omega
      simp (maxSteps := 4000000) +contextual (disch := first | omega | exact qdb_ok (by kernel_rfl) | exact okb_ok (by kernel_rfl)) only [bw1,bw2,bw3,bw4,bw5,bw6,bw7,bc0,bc1,bc2,bc3,bc4,bc5,bc6,bc7,bb0,setPs,AV.owns,AV.datF,AV.frz,AV.cpy,ifV,isEqB,nilV,nilX,AV.isNilS,AV.isNoRows,wk,dclo,datOf,binIs,addF,AV.isPtr,idxV,AV.isSl,AV.isSlice,AV.rows,ps,pv,extV,extS,AV.outs,AV.outF,packD,AV.dl,fieldV,fieldS,AV.cells?,AV.upr,AV.menc,AV.one,D.one,Value.oneCell',tagOf,AV.isApp,strV,strS,bolV,bolS,slcV,AV.isSlD,asrtS,AV.dcells,D.cells?,stcV,stcS,leafOk,eqDs,eqD,packA,D.val?,↓reduceIte,reduceCtorEq,Nat.reduceAdd,Nat.reduceSub,Nat.reduceMul,List.reduceReplicate,Nat.reduceLeDiff,Nat.reduceLT,Nat.reduceBEq,Nat.reduceEqDiff,Int.reduceNeg,Int.reduceEq,Int.reduceLE,Int.reduceLT,tfb,ctz49,xC49,ctz49z,eq_self, hlt']
      rw [hi4, outP_all]
    have hlt' : (i : Int) < 4 := by omega
    simp (maxSteps := 4000000) +contextual (disch := first | omega | exact qdb_ok (by kernel_rfl) | exact okb_ok (by kernel_rfl)) only [bw1,bw2,bw3,bw4,bw5,bw6,bw7,bc0,bc1,bc2,bc3,bc4,bc5,bc6,bc7,bb0,setPs,AV.owns,AV.datF,AV.frz,AV.cpy,ifV,isEqB,nilV,nilX,AV.isNilS,AV.isNoRows,wk,dclo,datOf,binIs,addF,AV.isPtr,idxV,AV.isSl,AV.isSlice,AV.rows,ps,pv,extV,extS,AV.outs,AV.outF,packD,AV.dl,fieldV,fieldS,AV.cells?,AV.upr,AV.menc,AV.one,D.one,Value.oneCell',tagOf,AV.isApp,strV,strS,bolV,bolS,slcV,AV.isSlD,asrtS,AV.dcells,D.cells?,stcV,stcS,leafOk,eqDs,eqD,packA,D.val?,↓reduceIte,reduceCtorEq,Nat.reduceAdd,Nat.reduceSub,Nat.reduceMul,List.reduceReplicate,Nat.reduceLeDiff,Nat.reduceLT,Nat.reduceBEq,Nat.reduceEqDiff,Int.reduceNeg,Int.reduceEq,Int.reduceLE,Int.reduceLT,tfb,ctz49,xC49,ctz49z,eq_self, hlt']
    refine ⟨by omega, by omega, ⟨by omega, by omega⟩, b ++ [(i : Int)], rows ++ outP k b i, ⟨?_, ?_⟩, ?_, ?_⟩
    · rw [List.length_append]; simp; omega
    · rw [List.length_append, outP_len]
      have : i * 4 ^ k ≤ 3 * 4 ^ k := Nat.mul_le_mul_right _ (by omega)
      omega
    · unfold args49
      rw [hn, List.length_append, List.map_append]
      simp
      omega
    have hs := outP_succ (k := k) (b := b) (i := i)
    simp (maxSteps := 4000000) +contextual (disch := first | omega | exact qdb_ok (by kernel_rfl) | exact okb_ok (by kernel_rfl)) only [bw1,bw2,bw3,bw4,bw5,bw6,bw7,bc0,bc1,bc2,bc3,bc4,bc5,bc6,bc7,bb0,setPs,AV.owns,AV.datF,AV.frz,AV.cpy,ifV,isEqB,nilV,nilX,AV.isNilS,AV.isNoRows,wk,dclo,datOf,binIs,addF,AV.isPtr,idxV,AV.isSl,AV.isSlice,AV.rows,ps,pv,extV,extS,AV.outs,AV.outF,packD,AV.dl,fieldV,fieldS,AV.cells?,AV.upr,AV.menc,AV.one,D.one,Value.oneCell',tagOf,AV.isApp,strV,strS,bolV,bolS,slcV,AV.isSlD,asrtS,AV.dcells,D.cells?,stcV,stcS,leafOk,eqDs,eqD,packA,D.val?,↓reduceIte,reduceCtorEq,Nat.reduceAdd,Nat.reduceSub,Nat.reduceMul,List.reduceReplicate,Nat.reduceLeDiff,Nat.reduceLT,Nat.reduceBEq,Nat.reduceEqDiff,Int.reduceNeg,Int.reduceEq,Int.reduceLE,Int.reduceLT,tfb,ctz49,xC49,ctz49z,eq_self]
    exact ⟨i + 1, ⟨by omega, by omega⟩, by rw [hs, List.append_assoc], rfl⟩
def sp49 (args : List AV) (K : AV → List AV → Sto → Prop) (e : List AV) (s : Sto) : Prop :=
  ∃ n : Nat, n ≤ 8 ∧ args = [.i n, .d (.v (.slice none 0 0)), .d (.v (.slice none 0 0))] ∧ K (.own 777 43 1 ((outsL n []).map pc)) ((e.map (AV.kill 777)).map (AV.kill 777)) ((s.kill 777).kill 777)
theorem sp49_ok {args : List AV} {K : AV → List AV → Sto → Prop} {Q : Kt} {e : List AV} {s : Sto} (h : sp49 args K e s) : pcall Tryd.prog 49 args K Q e s := by
  obtain ⟨n, hn, rfl, hK⟩ := h
  refine pcall_weak (args' := [.i n, .d (.sl 1 []), .d (.v (.slice none 0 0))]) (fun L w vs h => ?_) ?_
  · obtain ⟨u1, t1, rfl, k1, u2, t2, rfl, k2, k3⟩ := h
    exact ⟨u1, _, rfl, k1, u2, _, rfl, nil_sl k2, k3⟩
  refine pcall_seed (a1 := [.i n, .d (.sl 1 [])]) (a2 := []) (g := 777) (el := 43) (sz := 1) (by decide) rfl rfl ?_
  refine rec49_ok (k := n) (does49 n) ⟨[], [], ⟨by simp; omega, ?_⟩, by simp [args49], by simpa using hK⟩
  have : 4 ^ n ≤ 4 ^ 8 := Nat.pow_le_pow_right (by decide) hn
  simp
  omega
end Go.Proofs.YtmajlffglplcnaaDoor
