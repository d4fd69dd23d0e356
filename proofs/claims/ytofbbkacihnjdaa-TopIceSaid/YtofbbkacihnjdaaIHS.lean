/- A part of the proof that the last text ends: what functions of the program do, told by plain data. -/
import Derived.Test.YtofbbkacihnjdaaIHC
import Derived.Test.YtofbbkacihnjdaaEc
set_option linter.unusedVariables false
set_option linter.unusedSimpArgs false
namespace Go.Proofs.Ytofbbkacihnjdaa
open Go Go.E Go.Maps
set_option maxRecDepth 100000
set_option maxHeartbeats 16000000
def insR (S : List Int) (x : Int) : Nat → List Int
  | 0 => x :: S
  | j + 1 => if x < S.getD j default then insR S x j else S.take (j + 1) ++ x :: S.drop (j + 1)
def isortN (l : List Int) : Nat → List Int
  | 0 => []
  | k + 1 => insR (isortN l k) (l.getD k default) k
def isort (l : List Int) : List Int := isortN l l.length
theorem insR_perm {S : List Int} {x : Int} : ∀ j, (insR S x j).Perm (x :: S)
  | 0 => .refl _
  | j + 1 => by
    unfold insR
    split
    · exact insR_perm j
    · exact List.perm_middle.trans (by rw [List.take_append_drop])
theorem insR_len {S : List Int} {x : Int} {j : Nat} : (insR S x j).length = S.length + 1 := by rw [(insR_perm j).length_eq]; rfl
theorem isortN_len {l : List Int} : ∀ k, (isortN l k).length = k
  | 0 => rfl
  | k + 1 => by unfold isortN; rw [insR_len, isortN_len k]
theorem isort_len {l : List Int} : (isort l).length = l.length := isortN_len _
def dat (S : List Int) (x : Int) (T : List Int) (j : Nat) : List Int := S.take j ++ x :: (S.drop j ++ T)
theorem dat_len {S T : List Int} {x : Int} {j : Nat} (h : j ≤ S.length) : (dat S x T j).length = S.length + 1 + T.length := by simp [dat]; omega
theorem dat_at {S T : List Int} {x : Int} {j : Nat} (h : j ≤ S.length) : (dat S x T j).getD j default = x := by
  have : (S.take j).length = j := by rw [List.length_take]; omega
  simp [dat, List.getD, List.getElem?_append, this]
theorem dat_prev {S T : List Int} {x : Int} {j : Nat} (h : j + 1 ≤ S.length) : (dat S x T (j + 1)).getD j default = S.getD j default := by
  have : (S.take (j + 1)).length = j + 1 := by rw [List.length_take]; omega
  rw [at_lt (show j < S.length by omega)]
  simp [dat, List.getD, List.getElem?_append, this, List.getElem?_take, List.getElem?_eq_getElem (show j < S.length by omega)]
theorem dat_swap {S T : List Int} {x : Int} {j : Nat} (h : j + 1 ≤ S.length) : ((dat S x T (j + 1)).set (j + 1) (S.getD j default)).set j x = dat S x T j := by
  have h1 : (S.take (j + 1)).length = j + 1 := by rw [List.length_take]; omega
  have h2 : (S.take j).length = j := by rw [List.length_take]; omega
  unfold dat
  rw [List.set_append_right _ _ (by omega), h1, Nat.sub_self, List.set_cons_zero, List.take_succ_eq_append_getElem (by omega), at_lt (by omega), List.append_assoc, List.set_append_right _ _ (by omega), h2, Nat.sub_self]
  rw [List.drop_eq_getElem_cons (show j < S.length by omega)]
  rfl
theorem dat_top {S T : List Int} {x : Int} {i : Nat} (h : S.length = i) : dat S x T i = S ++ x :: T := by
  subst h; simp [dat]
theorem insR_dat {S T : List Int} {x : Int} {j : Nat} (h : j = 0 ∨ ¬ x < S.getD (j - 1) default) : dat S x T j = insR S x j ++ T := by
  rcases j with _ | j
  · simp [dat, insR]
  · unfold insR
    rw [if_neg (by simpa using h)]
    simp [dat]
def O70 : Nat → Sch := fun id => .done
theorem ho70 : Try.f70.body.map (okO O70) = some true := by kernel_rfl
def Cf70 : Nat → List AV → (AV → List AV → Sto → Prop) → Kt → List AV → Sto → Prop := fun f args K Q e s => match f with
  | _ => False
def Ct70 : CT := { f := Cf70, y := noYld, z := fun d => false }
theorem ctz70 {d : Nat} : CT.z Ct70 d = (false) := id rfl
theorem Ct70_ok : Ct70.ok Try.prog := ok_of_f (fun f args K Q e s h => by
  have h : Cf70 f args K Q e s := h
  unfold Cf70 at h; split at h
  · exact h.elim) (fun _ _ _ _ _ _ _ _ _ h => h)
theorem c70 : callable Try.prog 70 = true := by kernel_rfl
theorem pf70 (a : Int) : PF Try.prog 70 [.i a] (fun zz => zz = .ret (.b false)) := by
  refine PF_nil (PF_start (O := O70) Ct70_ok hmix ho70 Try.func70 c70 rfl Try.ntmps70 Try.results70 ?_)
  simp (maxSteps := 4000000) +contextual (disch := first | omega | exact qdb_ok (by kernel_rfl) | exact okb_ok (by kernel_rfl)) only [bw1,bw2,bw3,bw4,bw5,bw6,bw7,bc0,bc1,bc2,bc3,bc4,bc5,bc6,bc7,bb0,setPs,AV.owns,AV.datF,AV.frz,AV.cpy,ifV,isEqB,nilV,nilX,AV.isNilS,AV.isNoRows,wk,dclo,datOf,binIs,addF,AV.isPtr,idxV,AV.isSl,AV.isSlice,AV.rows,ps,pv,extV,extS,AV.outs,AV.outF,packD,AV.dl,fieldV,fieldS,AV.cells?,AV.upr,AV.menc,AV.one,D.one,Value.oneCell',tagOf,AV.isApp,strV,strS,bolV,bolS,slcV,AV.isSlD,asrtS,AV.dcells,D.cells?,stcV,stcS,leafOk,eqDs,eqD,packA,D.val?,↓reduceIte,reduceCtorEq,Nat.reduceAdd,Nat.reduceSub,Nat.reduceMul,List.reduceReplicate,Nat.reduceLeDiff,Nat.reduceLT,Nat.reduceBEq,Nat.reduceEqDiff,Int.reduceNeg,Int.reduceEq,Int.reduceLE,Int.reduceLT,tfb,bi_add,bi_sub,bi_mul,bi_quo,bi_rem,bi_and,bi_or,bi_xor,bi_andNot,bi_shl,bi_shr,bi_eql,bi_neq,bi_lss,bi_leq,bi_gtr,bi_geq,ctz70,bne_self_eq_false]
def ent70 (args : List AV) (K : AV → List AV → Sto → Prop) (e : List AV) (s : Sto) : Prop := ent (α := (Int)) (fun aa => [.i aa]) (fun aa => True) (fun aa => .b false) args K e s
theorem ent70_ok {args : List AV} {K : AV → List AV → Sto → Prop} {Q : Kt} {e : List AV} {s : Sto} (h : ent70 args K e s) : pcall Try.prog 70 args K Q e s := ent_ok (fun aa h => pf70 aa) h
theorem eq70 {a : Int} {KK : AV → List AV → Sto → Prop} {ee : List AV} {ss : Sto} : ent70 [.d (.i a)] KK ee ss = (KK (.d (.b false)) ee ss) := by
  unfold ent70; rw [ent_iff a (by intro b h; simpa [Prod.ext_iff, and_assoc, Int.ofNat_inj, ints_inj, hrs_inj, grs_inj, hr_inj, gr_inj, tt_inj] using h) rfl]; simp
def O78 : Nat → Sch := fun id => .done
theorem ho78 : Try.f78.body.map (okO O78) = some true := by kernel_rfl
def Cf78 : Nat → List AV → (AV → List AV → Sto → Prop) → Kt → List AV → Sto → Prop := fun f args K Q e s => match f with
  | 70 => ent70 args K e s
  | _ => False
def Ct78 : CT := { f := Cf78, y := noYld, z := fun d => false }
theorem ctz78 {d : Nat} : CT.z Ct78 d = (false) := id rfl
theorem Ct78_ok : Ct78.ok Try.prog := ok_of_f (fun f args K Q e s h => by
  have h : Cf78 f args K Q e s := h
  unfold Cf78 at h; split at h
  · exact ent70_ok h
  · exact h.elim) (fun _ _ _ _ _ _ _ _ _ h => h)
theorem x78_70 {a : Int} {KK : AV → List AV → Sto → Prop} {QQ : Kt} {ii : At KK} {jj : At QQ} {ee : List AV} {ss : Sto} : xC Ct78 70 [.d (.i a)] KK QQ ii jj ee ss = (KK (.d (.b false)) ee ss) := eq70
theorem c78 : callable Try.prog 78 = true := by kernel_rfl
theorem pf78 (a b : Int) : PF Try.prog 78 [.i a, .i b] (fun zz => zz = .ret (.b (decide (a < b)))) := by
  refine PF_nil (PF_start (O := O78) Ct78_ok hmix ho78 Try.func78 c78 rfl Try.ntmps78 Try.results78 ?_)
  simp (maxSteps := 4000000) +contextual (disch := first | omega | exact qdb_ok (by kernel_rfl) | exact okb_ok (by kernel_rfl)) only [bw1,bw2,bw3,bw4,bw5,bw6,bw7,bc0,bc1,bc2,bc3,bc4,bc5,bc6,bc7,bb0,setPs,AV.owns,AV.datF,AV.frz,AV.cpy,ifV,isEqB,nilV,nilX,AV.isNilS,AV.isNoRows,wk,dclo,datOf,binIs,addF,AV.isPtr,idxV,AV.isSl,AV.isSlice,AV.rows,ps,pv,extV,extS,AV.outs,AV.outF,packD,AV.dl,fieldV,fieldS,AV.cells?,AV.upr,AV.menc,AV.one,D.one,Value.oneCell',tagOf,AV.isApp,strV,strS,bolV,bolS,slcV,AV.isSlD,asrtS,AV.dcells,D.cells?,stcV,stcS,leafOk,eqDs,eqD,packA,D.val?,↓reduceIte,reduceCtorEq,Nat.reduceAdd,Nat.reduceSub,Nat.reduceMul,List.reduceReplicate,Nat.reduceLeDiff,Nat.reduceLT,Nat.reduceBEq,Nat.reduceEqDiff,Int.reduceNeg,Int.reduceEq,Int.reduceLE,Int.reduceLT,tfb,bi_add,bi_sub,bi_mul,bi_quo,bi_rem,bi_and,bi_or,bi_xor,bi_andNot,bi_shl,bi_shr,bi_eql,bi_neq,bi_lss,bi_leq,bi_gtr,bi_geq,ctz78,x78_70]
def cmpI (a b : Int) : Int := if a < b then -1 else if b < a then 1 else 0
def ent78 (args : List AV) (K : AV → List AV → Sto → Prop) (e : List AV) (s : Sto) : Prop := ent (α := (Int) × (Int)) (fun aa => [.i aa.1, .i aa.2]) (fun aa => True) (fun aa => .b (decide (aa.1 < aa.2))) args K e s
theorem ent78_ok {args : List AV} {K : AV → List AV → Sto → Prop} {Q : Kt} {e : List AV} {s : Sto} (h : ent78 args K e s) : pcall Try.prog 78 args K Q e s := ent_ok (fun aa h => pf78 aa.1 aa.2) h
theorem eq78 {a : Int} {b : Int} {KK : AV → List AV → Sto → Prop} {ee : List AV} {ss : Sto} : ent78 [.d (.i a), .d (.i b)] KK ee ss = (KK (.d (.b (decide (a < b)))) ee ss) := by
  unfold ent78; rw [ent_iff (a, b) (by intro b h; simpa [Prod.ext_iff, and_assoc, Int.ofNat_inj, ints_inj, hrs_inj, grs_inj, hr_inj, gr_inj, tt_inj] using h) rfl]; simp
def O60 : Nat → Sch := fun id => .done
theorem ho60 : Try.f60.body.map (okO O60) = some true := by kernel_rfl
def Cf60 : Nat → List AV → (AV → List AV → Sto → Prop) → Kt → List AV → Sto → Prop := fun f args K Q e s => match f with
  | 70 => ent70 args K e s
  | _ => False
def Ct60 : CT := { f := Cf60, y := noYld, z := fun d => false }
theorem ctz60 {d : Nat} : CT.z Ct60 d = (false) := id rfl
theorem Ct60_ok : Ct60.ok Try.prog := ok_of_f (fun f args K Q e s h => by
  have h : Cf60 f args K Q e s := h
  unfold Cf60 at h; split at h
  · exact ent70_ok h
  · exact h.elim) (fun _ _ _ _ _ _ _ _ _ h => h)
theorem x60_70 {a : Int} {KK : AV → List AV → Sto → Prop} {QQ : Kt} {ii : At KK} {jj : At QQ} {ee : List AV} {ss : Sto} : xC Ct60 70 [.d (.i a)] KK QQ ii jj ee ss = (KK (.d (.b false)) ee ss) := eq70
theorem c60 : callable Try.prog 60 = true := by kernel_rfl
theorem pf60 (a b : Int) : PF Try.prog 60 [.i a, .i b] (fun zz => zz = .ret (.i (cmpI a b))) := by
  unfold cmpI
  by_cases c : a < b
  · refine PF_nil (PF_start (O := O60) Ct60_ok hmix ho60 Try.func60 c60 rfl Try.ntmps60 Try.results60 ?_)
    simp (maxSteps := 4000000) +contextual (disch := first | omega | exact qdb_ok (by kernel_rfl) | exact okb_ok (by kernel_rfl)) only [bw1,bw2,bw3,bw4,bw5,bw6,bw7,bc0,bc1,bc2,bc3,bc4,bc5,bc6,bc7,bb0,setPs,AV.owns,AV.datF,AV.frz,AV.cpy,ifV,isEqB,nilV,nilX,AV.isNilS,AV.isNoRows,wk,dclo,datOf,binIs,addF,AV.isPtr,idxV,AV.isSl,AV.isSlice,AV.rows,ps,pv,extV,extS,AV.outs,AV.outF,packD,AV.dl,fieldV,fieldS,AV.cells?,AV.upr,AV.menc,AV.one,D.one,Value.oneCell',tagOf,AV.isApp,strV,strS,bolV,bolS,slcV,AV.isSlD,asrtS,AV.dcells,D.cells?,stcV,stcS,leafOk,eqDs,eqD,packA,D.val?,↓reduceIte,reduceCtorEq,Nat.reduceAdd,Nat.reduceSub,Nat.reduceMul,List.reduceReplicate,Nat.reduceLeDiff,Nat.reduceLT,Nat.reduceBEq,Nat.reduceEqDiff,Int.reduceNeg,Int.reduceEq,Int.reduceLE,Int.reduceLT,tfb,bi_add,bi_sub,bi_mul,bi_quo,bi_rem,bi_and,bi_or,bi_xor,bi_andNot,bi_shl,bi_shr,bi_eql,bi_neq,bi_lss,bi_leq,bi_gtr,bi_geq,ctz60,x60_70,c]
  · by_cases d : b < a
    · refine PF_nil (PF_start (O := O60) Ct60_ok hmix ho60 Try.func60 c60 rfl Try.ntmps60 Try.results60 ?_)
      simp (maxSteps := 4000000) +contextual (disch := first | omega | exact qdb_ok (by kernel_rfl) | exact okb_ok (by kernel_rfl)) only [bw1,bw2,bw3,bw4,bw5,bw6,bw7,bc0,bc1,bc2,bc3,bc4,bc5,bc6,bc7,bb0,setPs,AV.owns,AV.datF,AV.frz,AV.cpy,ifV,isEqB,nilV,nilX,AV.isNilS,AV.isNoRows,wk,dclo,datOf,binIs,addF,AV.isPtr,idxV,AV.isSl,AV.isSlice,AV.rows,ps,pv,extV,extS,AV.outs,AV.outF,packD,AV.dl,fieldV,fieldS,AV.cells?,AV.upr,AV.menc,AV.one,D.one,Value.oneCell',tagOf,AV.isApp,strV,strS,bolV,bolS,slcV,AV.isSlD,asrtS,AV.dcells,D.cells?,stcV,stcS,leafOk,eqDs,eqD,packA,D.val?,↓reduceIte,reduceCtorEq,Nat.reduceAdd,Nat.reduceSub,Nat.reduceMul,List.reduceReplicate,Nat.reduceLeDiff,Nat.reduceLT,Nat.reduceBEq,Nat.reduceEqDiff,Int.reduceNeg,Int.reduceEq,Int.reduceLE,Int.reduceLT,tfb,bi_add,bi_sub,bi_mul,bi_quo,bi_rem,bi_and,bi_or,bi_xor,bi_andNot,bi_shl,bi_shr,bi_eql,bi_neq,bi_lss,bi_leq,bi_gtr,bi_geq,ctz60,x60_70,c, d]
    · refine PF_nil (PF_start (O := O60) Ct60_ok hmix ho60 Try.func60 c60 rfl Try.ntmps60 Try.results60 ?_)
      simp (maxSteps := 4000000) +contextual (disch := first | omega | exact qdb_ok (by kernel_rfl) | exact okb_ok (by kernel_rfl)) only [bw1,bw2,bw3,bw4,bw5,bw6,bw7,bc0,bc1,bc2,bc3,bc4,bc5,bc6,bc7,bb0,setPs,AV.owns,AV.datF,AV.frz,AV.cpy,ifV,isEqB,nilV,nilX,AV.isNilS,AV.isNoRows,wk,dclo,datOf,binIs,addF,AV.isPtr,idxV,AV.isSl,AV.isSlice,AV.rows,ps,pv,extV,extS,AV.outs,AV.outF,packD,AV.dl,fieldV,fieldS,AV.cells?,AV.upr,AV.menc,AV.one,D.one,Value.oneCell',tagOf,AV.isApp,strV,strS,bolV,bolS,slcV,AV.isSlD,asrtS,AV.dcells,D.cells?,stcV,stcS,leafOk,eqDs,eqD,packA,D.val?,↓reduceIte,reduceCtorEq,Nat.reduceAdd,Nat.reduceSub,Nat.reduceMul,List.reduceReplicate,Nat.reduceLeDiff,Nat.reduceLT,Nat.reduceBEq,Nat.reduceEqDiff,Int.reduceNeg,Int.reduceEq,Int.reduceLE,Int.reduceLT,tfb,bi_add,bi_sub,bi_mul,bi_quo,bi_rem,bi_and,bi_or,bi_xor,bi_andNot,bi_shl,bi_shr,bi_eql,bi_neq,bi_lss,bi_leq,bi_gtr,bi_geq,ctz60,x60_70,c, d]
def lenN (n : Int) : Int := if n = 0 then 0 else if n = 1 then 1 else if n ≤ 3 then 2 else if n ≤ 7 then 3 else if n ≤ 15 then 4 else 5
def ent60 (args : List AV) (K : AV → List AV → Sto → Prop) (e : List AV) (s : Sto) : Prop := ent (α := (Int) × (Int)) (fun aa => [.i aa.1, .i aa.2]) (fun aa => True) (fun aa => .i (cmpI aa.1 aa.2)) args K e s
theorem ent60_ok {args : List AV} {K : AV → List AV → Sto → Prop} {Q : Kt} {e : List AV} {s : Sto} (h : ent60 args K e s) : pcall Try.prog 60 args K Q e s := ent_ok (fun aa h => pf60 aa.1 aa.2) h
theorem eq60 {a : Int} {b : Int} {KK : AV → List AV → Sto → Prop} {ee : List AV} {ss : Sto} : ent60 [.d (.i a), .d (.i b)] KK ee ss = (KK (.d (.i (cmpI a b))) ee ss) := by
  unfold ent60; rw [ent_iff (a, b) (by intro b h; simpa [Prod.ext_iff, and_assoc, Int.ofNat_inj, ints_inj, hrs_inj, grs_inj, hr_inj, gr_inj, tt_inj] using h) rfl]; simp
def O82 : Nat → Sch := fun id => .done
theorem ho82 : Try.f82.body.map (okO O82) = some true := by kernel_rfl
def Cf82 : Nat → List AV → (AV → List AV → Sto → Prop) → Kt → List AV → Sto → Prop := fun f args K Q e s => match f with
  | _ => False
def Ct82 : CT := { f := Cf82, y := noYld, z := fun d => false }
theorem ctz82 {d : Nat} : CT.z Ct82 d = (false) := id rfl
theorem Ct82_ok : Ct82.ok Try.prog := ok_of_f (fun f args K Q e s h => by
  have h : Cf82 f args K Q e s := h
  unfold Cf82 at h; split at h
  · exact h.elim) (fun _ _ _ _ _ _ _ _ _ h => h)
theorem c82 : callable Try.prog 82 = true := by kernel_rfl
theorem pf82 (n : Int) (h : 0 ≤ n ∧ n ≤ 16) : PF Try.prog 82 [.v (.int .u64 n)] (fun zz => zz = .ret (.i (lenN n))) := by
  obtain ⟨h1, h2⟩ := h
  refine PF_nil (PF_start (O := O82) Ct82_ok hmix ho82 Try.func82 c82 rfl Try.ntmps82 Try.results82 ?_)
  have g1 : ¬ 256 ≤ n := by omega
  have g2 : ¬ 65536 ≤ n := by omega
  have g3 : ¬ 4294967296 ≤ n := by omega
  simp (maxSteps := 4000000) +contextual (disch := first | omega | exact qdb_ok (by kernel_rfl) | exact okb_ok (by kernel_rfl)) only [bw1,bw2,bw3,bw4,bw5,bw6,bw7,bc0,bc1,bc2,bc3,bc4,bc5,bc6,bc7,bb0,setPs,AV.owns,AV.datF,AV.frz,AV.cpy,ifV,isEqB,nilV,nilX,AV.isNilS,AV.isNoRows,wk,dclo,datOf,binIs,addF,AV.isPtr,idxV,AV.isSl,AV.isSlice,AV.rows,ps,pv,extV,extS,AV.outs,AV.outF,packD,AV.dl,fieldV,fieldS,AV.cells?,AV.upr,AV.menc,AV.one,D.one,Value.oneCell',tagOf,AV.isApp,strV,strS,bolV,bolS,slcV,AV.isSlD,asrtS,AV.dcells,D.cells?,stcV,stcS,leafOk,eqDs,eqD,packA,D.val?,↓reduceIte,reduceCtorEq,Nat.reduceAdd,Nat.reduceSub,Nat.reduceMul,List.reduceReplicate,Nat.reduceLeDiff,Nat.reduceLT,Nat.reduceBEq,Nat.reduceEqDiff,Int.reduceNeg,Int.reduceEq,Int.reduceLE,Int.reduceLT,tfb,bi_add,bi_sub,bi_mul,bi_quo,bi_rem,bi_and,bi_or,bi_xor,bi_andNot,bi_shl,bi_shr,bi_eql,bi_neq,bi_lss,bi_leq,bi_gtr,bi_geq,ctz82,g1, g2, g3]
  rcases (show n = 0 ∨ n = 1 ∨ n = 2 ∨ n = 3 ∨ n = 4 ∨ n = 5 ∨ n = 6 ∨ n = 7 ∨ n = 8 ∨ n = 9 ∨ n = 10 ∨ n = 11 ∨ n = 12 ∨ n = 13 ∨ n = 14 ∨ n = 15 ∨ n = 16 by omega) with rfl | rfl | rfl | rfl | rfl | rfl | rfl | rfl | rfl | rfl | rfl | rfl | rfl | rfl | rfl | rfl | rfl <;> exact ⟨⟨trivial, of_decide_eq_true (by kernel_rfl), of_decide_eq_true (by kernel_rfl)⟩, by kernel_rfl⟩
def ent82 (args : List AV) (K : AV → List AV → Sto → Prop) (e : List AV) (s : Sto) : Prop := ent (α := (Int)) (fun aa => [.v (.int .u64 aa)]) (fun aa => 0 ≤ aa ∧ aa ≤ 16) (fun aa => .i (lenN aa)) args K e s
theorem ent82_ok {args : List AV} {K : AV → List AV → Sto → Prop} {Q : Kt} {e : List AV} {s : Sto} (h : ent82 args K e s) : pcall Try.prog 82 args K Q e s := ent_ok (fun aa h => pf82 aa h) h
theorem eq82 {n : Int} {KK : AV → List AV → Sto → Prop} {ee : List AV} {ss : Sto} : ent82 [.d (.v (.int .u64 n))] KK ee ss = ((0 ≤ n ∧ n ≤ 16) ∧ KK (.d (.i (lenN n))) ee ss) := by
  unfold ent82; rw [ent_iff n (by intro b h; simpa [Prod.ext_iff, and_assoc, Int.ofNat_inj, ints_inj, hrs_inj, grs_inj, hr_inj, gr_inj, tt_inj] using h) rfl]; simp
def O69 : Nat → Sch := fun id => .done
theorem ho69 : Try.f69.body.map (okO O69) = some true := by kernel_rfl
def Cf69 : Nat → List AV → (AV → List AV → Sto → Prop) → Kt → List AV → Sto → Prop := fun f args K Q e s => match f with
  | 82 => ent82 args K e s
  | _ => False
def Ct69 : CT := { f := Cf69, y := noYld, z := fun d => false }
theorem ctz69 {d : Nat} : CT.z Ct69 d = (false) := id rfl
theorem Ct69_ok : Ct69.ok Try.prog := ok_of_f (fun f args K Q e s h => by
  have h : Cf69 f args K Q e s := h
  unfold Cf69 at h; split at h
  · exact ent82_ok h
  · exact h.elim) (fun _ _ _ _ _ _ _ _ _ h => h)
theorem x69_82 {n : Int} {KK : AV → List AV → Sto → Prop} {QQ : Kt} {ii : At KK} {jj : At QQ} {ee : List AV} {ss : Sto} : xC Ct69 82 [.d (.v (.int .u64 n))] KK QQ ii jj ee ss = ((0 ≤ n ∧ n ≤ 16) ∧ KK (.d (.i (lenN n))) ee ss) := eq82
theorem c69 : callable Try.prog 69 = true := by kernel_rfl
theorem pf69 (n : Int) (h : 0 ≤ n ∧ n ≤ 16) : PF Try.prog 69 [.v (.int .u64 n)] (fun zz => zz = .ret (.i (lenN n))) := by
  refine PF_nil (PF_start (O := O69) Ct69_ok hmix ho69 Try.func69 c69 rfl Try.ntmps69 Try.results69 ?_)
  simp (maxSteps := 4000000) +contextual (disch := first | omega | exact qdb_ok (by kernel_rfl) | exact okb_ok (by kernel_rfl)) only [bw1,bw2,bw3,bw4,bw5,bw6,bw7,bc0,bc1,bc2,bc3,bc4,bc5,bc6,bc7,bb0,setPs,AV.owns,AV.datF,AV.frz,AV.cpy,ifV,isEqB,nilV,nilX,AV.isNilS,AV.isNoRows,wk,dclo,datOf,binIs,addF,AV.isPtr,idxV,AV.isSl,AV.isSlice,AV.rows,ps,pv,extV,extS,AV.outs,AV.outF,packD,AV.dl,fieldV,fieldS,AV.cells?,AV.upr,AV.menc,AV.one,D.one,Value.oneCell',tagOf,AV.isApp,strV,strS,bolV,bolS,slcV,AV.isSlD,asrtS,AV.dcells,D.cells?,stcV,stcS,leafOk,eqDs,eqD,packA,D.val?,↓reduceIte,reduceCtorEq,Nat.reduceAdd,Nat.reduceSub,Nat.reduceMul,List.reduceReplicate,Nat.reduceLeDiff,Nat.reduceLT,Nat.reduceBEq,Nat.reduceEqDiff,Int.reduceNeg,Int.reduceEq,Int.reduceLE,Int.reduceLT,tfb,bi_add,bi_sub,bi_mul,bi_quo,bi_rem,bi_and,bi_or,bi_xor,bi_andNot,bi_shl,bi_shr,bi_eql,bi_neq,bi_lss,bi_leq,bi_gtr,bi_geq,ctz69,x69_82]
  exact h
def ent69 (args : List AV) (K : AV → List AV → Sto → Prop) (e : List AV) (s : Sto) : Prop := ent (α := (Int)) (fun aa => [.v (.int .u64 aa)]) (fun aa => 0 ≤ aa ∧ aa ≤ 16) (fun aa => .i (lenN aa)) args K e s
theorem ent69_ok {args : List AV} {K : AV → List AV → Sto → Prop} {Q : Kt} {e : List AV} {s : Sto} (h : ent69 args K e s) : pcall Try.prog 69 args K Q e s := ent_ok (fun aa h => pf69 aa h) h
theorem eq69 {n : Int} {KK : AV → List AV → Sto → Prop} {ee : List AV} {ss : Sto} : ent69 [.d (.v (.int .u64 n))] KK ee ss = ((0 ≤ n ∧ n ≤ 16) ∧ KK (.d (.i (lenN n))) ee ss) := by
  unfold ent69; rw [ent_iff n (by intro b h; simpa [Prod.ext_iff, and_assoc, Int.ofNat_inj, ints_inj, hrs_inj, grs_inj, hr_inj, gr_inj, tt_inj] using h) rfl]; simp
theorem insR_lt {S : List Int} {x : Int} {j : Nat} (h : x < S.getD j default) : insR S x (j + 1) = insR S x j := if_pos h
theorem isortN_succ {l : List Int} {k : Nat} : isortN l (k + 1) = insR (isortN l k) (l.getD k default) k := rfl
theorem swap_rows {R : List Int} {j : Nat} {v x : Int} (h : j + 1 < R.length) : ((R.map ic).set (j + 1) [.v (.int .i64 v)]).set j ((((R.map ic).set (j + 1) [.v (.int .i64 v)]).getD j []).set 0 (.v (.int .i64 x))) = ((R.set (j + 1) v).set j x).map ic := by
  rw [List.map_set, List.map_set]
  congr 1
  have h2 : j < R.length := by omega
  simp [List.getD, List.getElem?_set, h2]
theorem sort_one {v : List Int} (h : 1 ≤ v.length) : isortN v 1 ++ v.drop 1 = v := by
  rcases v with _ | ⟨a, v⟩
  · simp at h
  · rfl
theorem sort_all {v : List Int} : isortN v v.length ++ v.drop v.length = isort v := by rw [List.drop_length, List.append_nil]; rfl
def O72 : Nat → Sch := fun id => if id = 4 then .one 0 (.one 1 (.one 2 (.one 3 (.one 4 (.one 5 (.one 6 (.one 7 (.one 8 (.one 9 (.one 10 (.one 11 (.one 12 (.one 13 (.one 14 (.done))))))))))))))) else if id = 6 then .one 0 (.one 1 (.one 2 (.one 3 (.one 4 (.one 5 (.one 6 (.one 7 (.one 8 (.one 9 (.one 10 (.one 11 (.one 12 (.one 13 (.one 14 (.one 15 (.one 16 (.one 17 (.done)))))))))))))))))) else .done
theorem O72_4 : O72 4 = .one 0 (.one 1 (.one 2 (.one 3 (.one 4 (.one 5 (.one 6 (.one 7 (.one 8 (.one 9 (.one 10 (.one 11 (.one 12 (.one 13 (.one 14 (.done))))))))))))))) := rfl
theorem O72_6 : O72 6 = .one 0 (.one 1 (.one 2 (.one 3 (.one 4 (.one 5 (.one 6 (.one 7 (.one 8 (.one 9 (.one 10 (.one 11 (.one 12 (.one 13 (.one 14 (.one 15 (.one 16 (.one 17 (.done)))))))))))))))))) := rfl
theorem ho72 : Try.f72.body.map (okO O72) = some true := by kernel_rfl
def Cf72 : Nat → List AV → (AV → List AV → Sto → Prop) → Kt → List AV → Sto → Prop := fun f args K Q e s => match f with
  | 78 => ent78 args K e s
  | _ => False
def Ct72 : CT := { f := Cf72, y := noYld, z := fun d => false }
theorem ctz72 {d : Nat} : CT.z Ct72 d = (false) := id rfl
theorem Ct72_ok : Ct72.ok Try.prog := ok_of_f (fun f args K Q e s h => by
  have h : Cf72 f args K Q e s := h
  unfold Cf72 at h; split at h
  · exact ent78_ok h
  · exact h.elim) (fun _ _ _ _ _ _ _ _ _ h => h)
theorem x72_78 {a : Int} {b : Int} {KK : AV → List AV → Sto → Prop} {QQ : Kt} {ii : At KK} {jj : At QQ} {ee : List AV} {ss : Sto} : xC Ct72 78 [.d (.i a), .d (.i b)] KK QQ ii jj ee ss = (KK (.d (.b (decide (a < b)))) ee ss) := eq78
theorem c72 : callable Try.prog 72 = true := by kernel_rfl
theorem pf72 (l : List Int) (h : l.length ≤ 1000) : PFu Try.prog 72 3 1 (l.map ic) [.i 0, .i (l.length : Int)] (fun r x => r = .d (.tup []) ∧ x = ((isort l).map ic)) := by
  refine PFu_start (O := O72) Ct72_ok hmix ho72 Try.func72 c72 rfl Try.ntmps72 Try.results72 ?_
  simp (maxSteps := 4000000) +contextual (disch := first | omega | exact qdb_ok (by kernel_rfl) | exact okb_ok (by kernel_rfl)) only [bw1,bw2,bw3,bw4,bw5,bw6,bw7,bc0,bc1,bc2,bc3,bc4,bc5,bc6,bc7,bb0,setPs,AV.owns,AV.datF,AV.frz,AV.cpy,ifV,isEqB,nilV,nilX,AV.isNilS,AV.isNoRows,wk,dclo,datOf,binIs,addF,AV.isPtr,idxV,AV.isSl,AV.isSlice,AV.rows,ps,pv,extV,extS,AV.outs,AV.outF,packD,AV.dl,fieldV,fieldS,AV.cells?,AV.upr,AV.menc,AV.one,D.one,Value.oneCell',tagOf,AV.isApp,strV,strS,bolV,bolS,slcV,AV.isSlD,asrtS,AV.dcells,D.cells?,stcV,stcS,leafOk,eqDs,eqD,packA,D.val?,↓reduceIte,reduceCtorEq,Nat.reduceAdd,Nat.reduceSub,Nat.reduceMul,List.reduceReplicate,Nat.reduceLeDiff,Nat.reduceLT,Nat.reduceBEq,Nat.reduceEqDiff,Int.reduceNeg,Int.reduceEq,Int.reduceLE,Int.reduceLT,tfb,bi_add,bi_sub,bi_mul,bi_quo,bi_rem,bi_and,bi_or,bi_xor,bi_andNot,bi_shl,bi_shr,bi_eql,bi_neq,bi_lss,bi_leq,bi_gtr,bi_geq,upOk,gU,bu0,ctz72,O72_4,O72_6,x72_78]
  by_cases l1 : 1 ≤ l.length
  case neg =>
    obtain rfl : l = [] := by cases l; rfl; simp at l1
    refine loop_r (O := O72) (tb := 0) Ct72_ok hmix (by kernel_rfl) (σ := Unit) gU (fun i => (([] : List Int)).map ic) (fun i => []) (fun _ => True) (fun _ => 0) (fun _ => ()) () trivial ?_ ?_
    · simp (maxSteps := 4000000) +contextual (disch := first | omega | exact qdb_ok (by kernel_rfl) | exact okb_ok (by kernel_rfl)) only [bw1,bw2,bw3,bw4,bw5,bw6,bw7,bc0,bc1,bc2,bc3,bc4,bc5,bc6,bc7,bb0,setPs,AV.owns,AV.datF,AV.frz,AV.cpy,ifV,isEqB,nilV,nilX,AV.isNilS,AV.isNoRows,wk,dclo,datOf,binIs,addF,AV.isPtr,idxV,AV.isSl,AV.isSlice,AV.rows,ps,pv,extV,extS,AV.outs,AV.outF,packD,AV.dl,fieldV,fieldS,AV.cells?,AV.upr,AV.menc,AV.one,D.one,Value.oneCell',tagOf,AV.isApp,strV,strS,bolV,bolS,slcV,AV.isSlD,asrtS,AV.dcells,D.cells?,stcV,stcS,leafOk,eqDs,eqD,packA,D.val?,↓reduceIte,reduceCtorEq,Nat.reduceAdd,Nat.reduceSub,Nat.reduceMul,List.reduceReplicate,Nat.reduceLeDiff,Nat.reduceLT,Nat.reduceBEq,Nat.reduceEqDiff,Int.reduceNeg,Int.reduceEq,Int.reduceLE,Int.reduceLT,tfb,bi_add,bi_sub,bi_mul,bi_quo,bi_rem,bi_and,bi_or,bi_xor,bi_andNot,bi_shl,bi_shr,bi_eql,bi_neq,bi_lss,bi_leq,bi_gtr,bi_geq,upOk,gU,bu0,ctz72,O72_4,O72_6,x72_78]
    intro _ _
    have h01 : ¬ ((0 : Int) + 1 < 0) := by omega
    simp (maxSteps := 4000000) +contextual (disch := first | omega | exact qdb_ok (by kernel_rfl) | exact okb_ok (by kernel_rfl)) only [bw1,bw2,bw3,bw4,bw5,bw6,bw7,bc0,bc1,bc2,bc3,bc4,bc5,bc6,bc7,bb0,setPs,AV.owns,AV.datF,AV.frz,AV.cpy,ifV,isEqB,nilV,nilX,AV.isNilS,AV.isNoRows,wk,dclo,datOf,binIs,addF,AV.isPtr,idxV,AV.isSl,AV.isSlice,AV.rows,ps,pv,extV,extS,AV.outs,AV.outF,packD,AV.dl,fieldV,fieldS,AV.cells?,AV.upr,AV.menc,AV.one,D.one,Value.oneCell',tagOf,AV.isApp,strV,strS,bolV,bolS,slcV,AV.isSlD,asrtS,AV.dcells,D.cells?,stcV,stcS,leafOk,eqDs,eqD,packA,D.val?,↓reduceIte,reduceCtorEq,Nat.reduceAdd,Nat.reduceSub,Nat.reduceMul,List.reduceReplicate,Nat.reduceLeDiff,Nat.reduceLT,Nat.reduceBEq,Nat.reduceEqDiff,Int.reduceNeg,Int.reduceEq,Int.reduceLE,Int.reduceLT,tfb,bi_add,bi_sub,bi_mul,bi_quo,bi_rem,bi_and,bi_or,bi_xor,bi_andNot,bi_shl,bi_shr,bi_eql,bi_neq,bi_lss,bi_leq,bi_gtr,bi_geq,upOk,gU,bu0,ctz72,O72_4,O72_6,x72_78,eq_self, h01]
    rfl
  have hel : l.length = l.length := rfl
  have hal : l.take l.length = l := List.take_length
  refine loop_r (O := O72) (tb := 72000) Ct72_ok hmix (by kernel_rfl) (σ := Nat) 999999999 (fun i => (isortN (l) i ++ (l).drop i).map ic) (fun i => [(0, .own 999999999 3 1 ((isortN (l) i ++ (l).drop i).map ic)), (6, .i i)]) (fun i => 1 ≤ i ∧ i ≤ l.length) (fun i => l.length - i) (fun i => i + 1) 1 ?_ ?_ ?_
  · exact ⟨Nat.le_refl _, l1⟩
  · have hs1 := sort_one (v := l) (by rw [hel]; exact l1)
    simp (maxSteps := 4000000) +contextual (disch := first | omega | exact qdb_ok (by kernel_rfl) | exact okb_ok (by kernel_rfl)) only [bw1,bw2,bw3,bw4,bw5,bw6,bw7,bc0,bc1,bc2,bc3,bc4,bc5,bc6,bc7,bb0,setPs,AV.owns,AV.datF,AV.frz,AV.cpy,ifV,isEqB,nilV,nilX,AV.isNilS,AV.isNoRows,wk,dclo,datOf,binIs,addF,AV.isPtr,idxV,AV.isSl,AV.isSlice,AV.rows,ps,pv,extV,extS,AV.outs,AV.outF,packD,AV.dl,fieldV,fieldS,AV.cells?,AV.upr,AV.menc,AV.one,D.one,Value.oneCell',tagOf,AV.isApp,strV,strS,bolV,bolS,slcV,AV.isSlD,asrtS,AV.dcells,D.cells?,stcV,stcS,leafOk,eqDs,eqD,packA,D.val?,↓reduceIte,reduceCtorEq,Nat.reduceAdd,Nat.reduceSub,Nat.reduceMul,List.reduceReplicate,Nat.reduceLeDiff,Nat.reduceLT,Nat.reduceBEq,Nat.reduceEqDiff,Int.reduceNeg,Int.reduceEq,Int.reduceLE,Int.reduceLT,tfb,bi_add,bi_sub,bi_mul,bi_quo,bi_rem,bi_and,bi_or,bi_xor,bi_andNot,bi_shl,bi_shr,bi_eql,bi_neq,bi_lss,bi_leq,bi_gtr,bi_geq,upOk,gU,bu0,ctz72,O72_4,O72_6,x72_78,hs1]
  rintro i ⟨hi1, hi2⟩
  by_cases hlt : i < l.length
  · have hlt' : (i : Int) < l.length := by omega
    have hS' : ∃ S, isortN (l) i = S := ⟨_, rfl⟩
    obtain ⟨S, hS⟩ := hS'
    have hx' : ∃ x, (l).getD i default = x := ⟨_, rfl⟩
    obtain ⟨x, hx⟩ := hx'
    have hT' : ∃ T, (l).drop (i + 1) = T := ⟨_, rfl⟩
    obtain ⟨T, hT⟩ := hT'
    have hSl : S.length = i := by rw [← hS, isortN_len]
    have hTl : S.length + 1 + T.length = l.length := by
      have : T.length = (l).length - (i + 1) := by rw [← hT, List.length_drop]
      clear hx hS hT hal
      omega
    have hle : i < (l).length := Nat.lt_of_lt_of_eq hlt hel.symm
    have hd0 : S ++ (l).drop i = dat S x T i := by
      rw [dat_top hSl, ← hT, ← hx, at_lt hle, List.drop_eq_getElem_cons hle]
    have hnx : isortN (l) (i + 1) ++ (l).drop (i + 1) = insR S x i ++ T := by rw [hT, isortN_succ, hS, hx]
    simp (maxSteps := 4000000) +contextual (disch := first | omega | exact qdb_ok (by kernel_rfl) | exact okb_ok (by kernel_rfl)) only [bw1,bw2,bw3,bw4,bw5,bw6,bw7,bc0,bc1,bc2,bc3,bc4,bc5,bc6,bc7,bb0,setPs,AV.owns,AV.datF,AV.frz,AV.cpy,ifV,isEqB,nilV,nilX,AV.isNilS,AV.isNoRows,wk,dclo,datOf,binIs,addF,AV.isPtr,idxV,AV.isSl,AV.isSlice,AV.rows,ps,pv,extV,extS,AV.outs,AV.outF,packD,AV.dl,fieldV,fieldS,AV.cells?,AV.upr,AV.menc,AV.one,D.one,Value.oneCell',tagOf,AV.isApp,strV,strS,bolV,bolS,slcV,AV.isSlD,asrtS,AV.dcells,D.cells?,stcV,stcS,leafOk,eqDs,eqD,packA,D.val?,↓reduceIte,reduceCtorEq,Nat.reduceAdd,Nat.reduceSub,Nat.reduceMul,List.reduceReplicate,Nat.reduceLeDiff,Nat.reduceLT,Nat.reduceBEq,Nat.reduceEqDiff,Int.reduceNeg,Int.reduceEq,Int.reduceLE,Int.reduceLT,tfb,bi_add,bi_sub,bi_mul,bi_quo,bi_rem,bi_and,bi_or,bi_xor,bi_andNot,bi_shl,bi_shr,bi_eql,bi_neq,bi_lss,bi_leq,bi_gtr,bi_geq,upOk,gU,bu0,ctz72,O72_4,O72_6,x72_78,eq_self, hlt', hS, hd0]
    refine loop_r (O := O72) (tb := 72000) Ct72_ok hmix (by kernel_rfl) (σ := Nat) 999999999 (fun j => (dat S x T j).map ic) (fun j => [(0, .own 999999999 3 1 ((dat S x T j).map ic)), (7, .i j)]) (fun j => j ≤ i ∧ insR S x j = insR S x i) (fun j => j) (fun j => j - 1) i ⟨Nat.le_refl _, rfl⟩ ?_ ?_
    · simp (maxSteps := 4000000) +contextual (disch := first | omega | exact qdb_ok (by kernel_rfl) | exact okb_ok (by kernel_rfl)) only [bw1,bw2,bw3,bw4,bw5,bw6,bw7,bc0,bc1,bc2,bc3,bc4,bc5,bc6,bc7,bb0,setPs,AV.owns,AV.datF,AV.frz,AV.cpy,ifV,isEqB,nilV,nilX,AV.isNilS,AV.isNoRows,wk,dclo,datOf,binIs,addF,AV.isPtr,idxV,AV.isSl,AV.isSlice,AV.rows,ps,pv,extV,extS,AV.outs,AV.outF,packD,AV.dl,fieldV,fieldS,AV.cells?,AV.upr,AV.menc,AV.one,D.one,Value.oneCell',tagOf,AV.isApp,strV,strS,bolV,bolS,slcV,AV.isSlD,asrtS,AV.dcells,D.cells?,stcV,stcS,leafOk,eqDs,eqD,packA,D.val?,↓reduceIte,reduceCtorEq,Nat.reduceAdd,Nat.reduceSub,Nat.reduceMul,List.reduceReplicate,Nat.reduceLeDiff,Nat.reduceLT,Nat.reduceBEq,Nat.reduceEqDiff,Int.reduceNeg,Int.reduceEq,Int.reduceLE,Int.reduceLT,tfb,bi_add,bi_sub,bi_mul,bi_quo,bi_rem,bi_and,bi_or,bi_xor,bi_andNot,bi_shl,bi_shr,bi_eql,bi_neq,bi_lss,bi_leq,bi_gtr,bi_geq,upOk,gU,bu0,ctz72,O72_4,O72_6,x72_78]
    rintro j ⟨hj1, hj2⟩
    have hdl : (dat S x T j).length = l.length := by rw [dat_len (by omega), hTl]
    have hda := dat_at (S := S) (T := T) (x := x) (j := j) (by omega)
    rcases j with _ | j
    · have hdd : dat S x T 0 = insR S x i ++ T := by rw [insR_dat (.inl rfl), hj2]
      simp (maxSteps := 4000000) +contextual (disch := first | omega | exact qdb_ok (by kernel_rfl) | exact okb_ok (by kernel_rfl)) only [bw1,bw2,bw3,bw4,bw5,bw6,bw7,bc0,bc1,bc2,bc3,bc4,bc5,bc6,bc7,bb0,setPs,AV.owns,AV.datF,AV.frz,AV.cpy,ifV,isEqB,nilV,nilX,AV.isNilS,AV.isNoRows,wk,dclo,datOf,binIs,addF,AV.isPtr,idxV,AV.isSl,AV.isSlice,AV.rows,ps,pv,extV,extS,AV.outs,AV.outF,packD,AV.dl,fieldV,fieldS,AV.cells?,AV.upr,AV.menc,AV.one,D.one,Value.oneCell',tagOf,AV.isApp,strV,strS,bolV,bolS,slcV,AV.isSlD,asrtS,AV.dcells,D.cells?,stcV,stcS,leafOk,eqDs,eqD,packA,D.val?,↓reduceIte,reduceCtorEq,Nat.reduceAdd,Nat.reduceSub,Nat.reduceMul,List.reduceReplicate,Nat.reduceLeDiff,Nat.reduceLT,Nat.reduceBEq,Nat.reduceEqDiff,Int.reduceNeg,Int.reduceEq,Int.reduceLE,Int.reduceLT,tfb,bi_add,bi_sub,bi_mul,bi_quo,bi_rem,bi_and,bi_or,bi_xor,bi_andNot,bi_shl,bi_shr,bi_eql,bi_neq,bi_lss,bi_leq,bi_gtr,bi_geq,upOk,gU,bu0,ctz72,O72_4,O72_6,x72_78,eq_self, hdd, hnx, Int.lt_irrefl]
      and_intros <;> omega
    · have hdp := dat_prev (S := S) (T := T) (x := x) (j := j) (by omega)
      have hg1 : (0 : Int) < j + 1 := by omega
      have hg2 : (j : Int) + 1 - 1 = j := by omega
      have hg3 : ((j : Int) + 1).toNat = j + 1 := by omega
      have hg4 : j + 1 < (dat S x T (j + 1)).length := by omega
      have hg5 : j < (dat S x T (j + 1)).length := by omega
      by_cases hx2 : x < S.getD j default
      · have hsw := dat_swap (S := S) (T := T) (x := x) (j := j) (by omega)
        have hin : insR S x j = insR S x i := by rw [← hj2, insR_lt hx2]
        have hr := swap_rows (R := dat S x T (j + 1)) (j := j) (v := S.getD j default) (x := x) hg4
        rw [hsw] at hr
        simp (maxSteps := 4000000) +contextual (disch := first | omega | exact qdb_ok (by kernel_rfl) | exact okb_ok (by kernel_rfl)) only [bw1,bw2,bw3,bw4,bw5,bw6,bw7,bc0,bc1,bc2,bc3,bc4,bc5,bc6,bc7,bb0,setPs,AV.owns,AV.datF,AV.frz,AV.cpy,ifV,isEqB,nilV,nilX,AV.isNilS,AV.isNoRows,wk,dclo,datOf,binIs,addF,AV.isPtr,idxV,AV.isSl,AV.isSlice,AV.rows,ps,pv,extV,extS,AV.outs,AV.outF,packD,AV.dl,fieldV,fieldS,AV.cells?,AV.upr,AV.menc,AV.one,D.one,Value.oneCell',tagOf,AV.isApp,strV,strS,bolV,bolS,slcV,AV.isSlD,asrtS,AV.dcells,D.cells?,stcV,stcS,leafOk,eqDs,eqD,packA,D.val?,↓reduceIte,reduceCtorEq,Nat.reduceAdd,Nat.reduceSub,Nat.reduceMul,List.reduceReplicate,Nat.reduceLeDiff,Nat.reduceLT,Nat.reduceBEq,Nat.reduceEqDiff,Int.reduceNeg,Int.reduceEq,Int.reduceLE,Int.reduceLT,tfb,bi_add,bi_sub,bi_mul,bi_quo,bi_rem,bi_and,bi_or,bi_xor,bi_andNot,bi_shl,bi_shr,bi_eql,bi_neq,bi_lss,bi_leq,bi_gtr,bi_geq,upOk,gU,bu0,ctz72,O72_4,O72_6,x72_78,eq_self, hda, hdp, hg1, hg2, hg3, hg4, hg5, hx2, hdl, hr, Nat.add_sub_cancel, List.length_set, List.length_map]
        and_intros <;> first | omega | assumption
      · have hdd : dat S x T (j + 1) = insR S x i ++ T := by rw [insR_dat (.inr (by simpa using hx2)), hj2]
        simp (maxSteps := 4000000) +contextual (disch := first | omega | exact qdb_ok (by kernel_rfl) | exact okb_ok (by kernel_rfl)) only [bw1,bw2,bw3,bw4,bw5,bw6,bw7,bc0,bc1,bc2,bc3,bc4,bc5,bc6,bc7,bb0,setPs,AV.owns,AV.datF,AV.frz,AV.cpy,ifV,isEqB,nilV,nilX,AV.isNilS,AV.isNoRows,wk,dclo,datOf,binIs,addF,AV.isPtr,idxV,AV.isSl,AV.isSlice,AV.rows,ps,pv,extV,extS,AV.outs,AV.outF,packD,AV.dl,fieldV,fieldS,AV.cells?,AV.upr,AV.menc,AV.one,D.one,Value.oneCell',tagOf,AV.isApp,strV,strS,bolV,bolS,slcV,AV.isSlD,asrtS,AV.dcells,D.cells?,stcV,stcS,leafOk,eqDs,eqD,packA,D.val?,↓reduceIte,reduceCtorEq,Nat.reduceAdd,Nat.reduceSub,Nat.reduceMul,List.reduceReplicate,Nat.reduceLeDiff,Nat.reduceLT,Nat.reduceBEq,Nat.reduceEqDiff,Int.reduceNeg,Int.reduceEq,Int.reduceLE,Int.reduceLT,tfb,bi_add,bi_sub,bi_mul,bi_quo,bi_rem,bi_and,bi_or,bi_xor,bi_andNot,bi_shl,bi_shr,bi_eql,bi_neq,bi_lss,bi_leq,bi_gtr,bi_geq,upOk,gU,bu0,ctz72,O72_4,O72_6,x72_78,eq_self, hda, hdp, hg1, hg2, hg3, hg4, hg5, hx2, hdl]
        rw [hdd, hnx]
        and_intros <;> first | omega | rfl
  have hlt' : ¬ (i : Int) < l.length := by omega
  have hie : i = l.length := by omega
  have hsa := sort_all (v := l)
  have hil : (isort l).length = l.length := isort_len
  simp (maxSteps := 4000000) +contextual (disch := first | omega | exact qdb_ok (by kernel_rfl) | exact okb_ok (by kernel_rfl)) only [bw1,bw2,bw3,bw4,bw5,bw6,bw7,bc0,bc1,bc2,bc3,bc4,bc5,bc6,bc7,bb0,setPs,AV.owns,AV.datF,AV.frz,AV.cpy,ifV,isEqB,nilV,nilX,AV.isNilS,AV.isNoRows,wk,dclo,datOf,binIs,addF,AV.isPtr,idxV,AV.isSl,AV.isSlice,AV.rows,ps,pv,extV,extS,AV.outs,AV.outF,packD,AV.dl,fieldV,fieldS,AV.cells?,AV.upr,AV.menc,AV.one,D.one,Value.oneCell',tagOf,AV.isApp,strV,strS,bolV,bolS,slcV,AV.isSlD,asrtS,AV.dcells,D.cells?,stcV,stcS,leafOk,eqDs,eqD,packA,D.val?,↓reduceIte,reduceCtorEq,Nat.reduceAdd,Nat.reduceSub,Nat.reduceMul,List.reduceReplicate,Nat.reduceLeDiff,Nat.reduceLT,Nat.reduceBEq,Nat.reduceEqDiff,Int.reduceNeg,Int.reduceEq,Int.reduceLE,Int.reduceLT,tfb,bi_add,bi_sub,bi_mul,bi_quo,bi_rem,bi_and,bi_or,bi_xor,bi_andNot,bi_shl,bi_shr,bi_eql,bi_neq,bi_lss,bi_leq,bi_gtr,bi_geq,upOk,gU,bu0,ctz72,O72_4,O72_6,x72_78,eq_self, Int.lt_irrefl, hie, hsa, hil]
def ent72 (args : List AV) (K : AV → List AV → Sto → Prop) (e : List AV) (s : Sto) : Prop := entU (α := (List Int)) 3 1 (fun aa => (aa.map ic)) (fun aa => [.i 0, .i (aa.length : Int)]) (fun aa => aa.length ≤ 1000) (fun aa r x => r = .d (.tup []) ∧ x = ((isort aa).map ic)) args K e s
theorem ent72_ok {args : List AV} {K : AV → List AV → Sto → Prop} {Q : Kt} {e : List AV} {s : Sto} (h : ent72 args K e s) : pcall Try.prog 72 args K Q e s := entU_ok (fun aa h => pf72 aa h) (fun aa r x h => ⟨_, h.1⟩) h
theorem eq72 {l : List Int} {gg : Nat} {KK : AV → List AV → Sto → Prop} {ee : List AV} {ss : Sto} : ent72 [.own gg 3 1 (l.map ic), .d (.i 0), .d (.i (l.length : Int))] KK ee ss = ((l.length ≤ 1000) ∧ upOk gg 3 1 (l.map ic) ee ss ∧ KK (.d (.tup [])) (ee.map (AV.ups gg ((isort l).map ic))) (ss.ups gg ((isort l).map ic))) := by
  unfold ent72
  exact Eq.trans (entU_iff (g := gg) l (by intro b h1 h2; first | (simpa [Prod.ext_iff, and_assoc, Int.ofNat_inj, ints_inj, hrs_inj, grs_inj, hr_inj, gr_inj, tt_inj] using And.intro h1 h2) | (simp [Prod.ext_iff, and_assoc, Int.ofNat_inj, ints_inj, hrs_inj, grs_inj, hr_inj, gr_inj, tt_inj] at h1 h2 ⊢; simp_all)) rfl) (propext ⟨fun ⟨h1, h2, h3⟩ => ⟨h1, h2, h3 _ _ ⟨rfl, rfl⟩⟩, fun ⟨h1, h2, h3⟩ => ⟨h1, h2, fun r x ⟨e1, e2⟩ => by subst e1; subst e2; exact h3⟩⟩)
theorem u64_in' {x : Int} (h : 0 ≤ x ∧ x ≤ 1000) : IntKind.u64.wrap x = x := by simp [IntKind.wrap, IntKind.signed, IntKind.bits]; omega
def O68 : Nat → Sch := fun id => if id = 17 then .one 0 (.one 1 (.one 2 (.one 3 (.one 4 (.one 5 (.one 6 (.one 7 (.one 8 (.one 9 (.one 10 (.one 11 (.one 12 (.one 13 (.one 14 (.done))))))))))))))) else .done
theorem O68_17 : O68 17 = .one 0 (.one 1 (.one 2 (.one 3 (.one 4 (.one 5 (.one 6 (.one 7 (.one 8 (.one 9 (.one 10 (.one 11 (.one 12 (.one 13 (.one 14 (.done))))))))))))))) := rfl
theorem ho68 : Try.f68.body.map (okO O68) = some true := by kernel_rfl
def Cf68 : Nat → List AV → (AV → List AV → Sto → Prop) → Kt → List AV → Sto → Prop := fun f args K Q e s => match f with
  | 72 => ent72 args K e s
  | _ => False
def Ct68 : CT := { f := Cf68, y := noYld, z := fun d => false }
theorem ctz68 {d : Nat} : CT.z Ct68 d = (false) := id rfl
theorem Ct68_ok : Ct68.ok Try.prog := ok_of_f (fun f args K Q e s h => by
  have h : Cf68 f args K Q e s := h
  unfold Cf68 at h; split at h
  · exact ent72_ok h
  · exact h.elim) (fun _ _ _ _ _ _ _ _ _ h => h)
theorem x68_72 {l : List Int} {gg : Nat} {KK : AV → List AV → Sto → Prop} {QQ : Kt} {ii : At KK} {jj : At QQ} {ee : List AV} {ss : Sto} : xC Ct68 72 [.own gg 3 1 (l.map ic), .d (.i 0), .d (.i (l.length : Int))] KK QQ ii jj ee ss = ((l.length ≤ 1000) ∧ upOk gg 3 1 (l.map ic) ee ss ∧ KK (.d (.tup [])) (ee.map (AV.ups gg ((isort l).map ic))) (ss.ups gg ((isort l).map ic))) := eq72
theorem c68 : callable Try.prog 68 = true := by kernel_rfl
def O59 : Nat → Sch := fun id => .done
theorem ho59 : Try.f59.body.map (okO O59) = some true := by kernel_rfl
def Cf59 : Nat → List AV → (AV → List AV → Sto → Prop) → Kt → List AV → Sto → Prop := fun f args K Q e s => match f with
  | 68 => inlE Try.prog Ct68 O68 68000 68 args K Q e s
  | 69 => ent69 args K e s
  | _ => False
def Ct59 : CT := { f := Cf59, y := noYld, z := fun d => false }
theorem ctz59 {d : Nat} : CT.z Ct59 d = (false) := id rfl
theorem Ct59_ok : Ct59.ok Try.prog := ok_of_f (fun f args K Q e s h => by
  have h : Cf59 f args K Q e s := h
  unfold Cf59 at h; split at h
  · exact inlE_ok Ct68_ok hmix ho68 h
  · exact ent69_ok h
  · exact h.elim) (fun _ _ _ _ _ _ _ _ _ h => h)
theorem x59_69 {n : Int} {KK : AV → List AV → Sto → Prop} {QQ : Kt} {ii : At KK} {jj : At QQ} {ee : List AV} {ss : Sto} : xC Ct59 69 [.d (.v (.int .u64 n))] KK QQ ii jj ee ss = ((0 ≤ n ∧ n ≤ 16) ∧ KK (.d (.i (lenN n))) ee ss) := eq69
theorem z59_68 : type_of% (@xinl Try.prog Ct59 Ct68 O68 68000 68 _ _ _ _ rfl c68 Try.func68 rfl Try.ntmps68 Try.results68) := @xinl Try.prog Ct59 Ct68 O68 68000 68 _ _ _ _ rfl c68 Try.func68 rfl Try.ntmps68 Try.results68
theorem c59 : callable Try.prog 59 = true := by kernel_rfl
theorem pf59 (l : List Int) (h : l.length ≤ 12) : PFu Try.prog 59 3 1 (l.map ic) [] (fun r x => r = .d (.tup []) ∧ x = ((isort l).map ic)) := by
  have h64 : IntKind.u64.wrap (l.length : Int) = l.length := u64_in' (by omega)
  have hl0 : (0 : Int) ≤ l.length := by omega
  have hl12 : (l.length : Int) ≤ 12 := by omega
  have hl16 : (l.length : Int) ≤ 16 := by omega
  refine PFu_start (O := O59) Ct59_ok hmix ho59 Try.func59 c59 rfl Try.ntmps59 Try.results59 ?_
  simp (maxSteps := 4000000) +contextual (disch := first | omega | exact qdb_ok (by kernel_rfl) | exact okb_ok (by kernel_rfl)) only [bw1,bw2,bw3,bw4,bw5,bw6,bw7,bc0,bc1,bc2,bc3,bc4,bc5,bc6,bc7,bb0,setPs,AV.owns,AV.datF,AV.frz,AV.cpy,ifV,isEqB,nilV,nilX,AV.isNilS,AV.isNoRows,wk,dclo,datOf,binIs,addF,AV.isPtr,idxV,AV.isSl,AV.isSlice,AV.rows,ps,pv,extV,extS,AV.outs,AV.outF,packD,AV.dl,fieldV,fieldS,AV.cells?,AV.upr,AV.menc,AV.one,D.one,Value.oneCell',tagOf,AV.isApp,strV,strS,bolV,bolS,slcV,AV.isSlD,asrtS,AV.dcells,D.cells?,stcV,stcS,leafOk,eqDs,eqD,packA,D.val?,↓reduceIte,reduceCtorEq,Nat.reduceAdd,Nat.reduceSub,Nat.reduceMul,List.reduceReplicate,Nat.reduceLeDiff,Nat.reduceLT,Nat.reduceBEq,Nat.reduceEqDiff,Int.reduceNeg,Int.reduceEq,Int.reduceLE,Int.reduceLT,tfb,bi_add,bi_sub,bi_mul,bi_quo,bi_rem,bi_and,bi_or,bi_xor,bi_andNot,bi_shl,bi_shr,bi_eql,bi_neq,bi_lss,bi_leq,bi_gtr,bi_geq,upOk,gU,bu0,ctz59,x59_69,z59_68,ctz68,O68_17,x68_72,h64, hl0, hl16]
  refine loop_s (O := O68) (tb := 68000) Ct68_ok hmix (by kernel_rfl) (σ := Unit) (fun _ => []) (fun _ => True) (fun _ => 0) (fun _ => ()) () trivial ?_ ?_
  · simp (maxSteps := 4000000) +contextual (disch := first | omega | exact qdb_ok (by kernel_rfl) | exact okb_ok (by kernel_rfl)) only [bw1,bw2,bw3,bw4,bw5,bw6,bw7,bc0,bc1,bc2,bc3,bc4,bc5,bc6,bc7,bb0,setPs,AV.owns,AV.datF,AV.frz,AV.cpy,ifV,isEqB,nilV,nilX,AV.isNilS,AV.isNoRows,wk,dclo,datOf,binIs,addF,AV.isPtr,idxV,AV.isSl,AV.isSlice,AV.rows,ps,pv,extV,extS,AV.outs,AV.outF,packD,AV.dl,fieldV,fieldS,AV.cells?,AV.upr,AV.menc,AV.one,D.one,Value.oneCell',tagOf,AV.isApp,strV,strS,bolV,bolS,slcV,AV.isSlD,asrtS,AV.dcells,D.cells?,stcV,stcS,leafOk,eqDs,eqD,packA,D.val?,↓reduceIte,reduceCtorEq,Nat.reduceAdd,Nat.reduceSub,Nat.reduceMul,List.reduceReplicate,Nat.reduceLeDiff,Nat.reduceLT,Nat.reduceBEq,Nat.reduceEqDiff,Int.reduceNeg,Int.reduceEq,Int.reduceLE,Int.reduceLT,tfb,bi_add,bi_sub,bi_mul,bi_quo,bi_rem,bi_and,bi_or,bi_xor,bi_andNot,bi_shl,bi_shr,bi_eql,bi_neq,bi_lss,bi_leq,bi_gtr,bi_geq,upOk,gU,bu0,ctz59,x59_69,z59_68,ctz68,O68_17,x68_72]
  intro _ _
  simp (maxSteps := 4000000) +contextual (disch := first | omega | exact qdb_ok (by kernel_rfl) | exact okb_ok (by kernel_rfl)) only [bw1,bw2,bw3,bw4,bw5,bw6,bw7,bc0,bc1,bc2,bc3,bc4,bc5,bc6,bc7,bb0,setPs,AV.owns,AV.datF,AV.frz,AV.cpy,ifV,isEqB,nilV,nilX,AV.isNilS,AV.isNoRows,wk,dclo,datOf,binIs,addF,AV.isPtr,idxV,AV.isSl,AV.isSlice,AV.rows,ps,pv,extV,extS,AV.outs,AV.outF,packD,AV.dl,fieldV,fieldS,AV.cells?,AV.upr,AV.menc,AV.one,D.one,Value.oneCell',tagOf,AV.isApp,strV,strS,bolV,bolS,slcV,AV.isSlD,asrtS,AV.dcells,D.cells?,stcV,stcS,leafOk,eqDs,eqD,packA,D.val?,↓reduceIte,reduceCtorEq,Nat.reduceAdd,Nat.reduceSub,Nat.reduceMul,List.reduceReplicate,Nat.reduceLeDiff,Nat.reduceLT,Nat.reduceBEq,Nat.reduceEqDiff,Int.reduceNeg,Int.reduceEq,Int.reduceLE,Int.reduceLT,tfb,bi_add,bi_sub,bi_mul,bi_quo,bi_rem,bi_and,bi_or,bi_xor,bi_andNot,bi_shl,bi_shr,bi_eql,bi_neq,bi_lss,bi_leq,bi_gtr,bi_geq,upOk,gU,bu0,ctz59,x59_69,z59_68,ctz68,O68_17,x68_72,eq_self, Int.lt_irrefl, List.length_map, h64, hl0, hl12, Int.sub_zero]
  and_intros <;> first | omega | rfl
def ent59 (args : List AV) (K : AV → List AV → Sto → Prop) (e : List AV) (s : Sto) : Prop := entU (α := (List Int)) 3 1 (fun aa => (aa.map ic)) (fun aa => []) (fun aa => aa.length ≤ 12) (fun aa r x => r = .d (.tup []) ∧ x = ((isort aa).map ic)) args K e s
theorem ent59_ok {args : List AV} {K : AV → List AV → Sto → Prop} {Q : Kt} {e : List AV} {s : Sto} (h : ent59 args K e s) : pcall Try.prog 59 args K Q e s := entU_ok (fun aa h => pf59 aa h) (fun aa r x h => ⟨_, h.1⟩) h
theorem eq59 {l : List Int} {gg : Nat} {KK : AV → List AV → Sto → Prop} {ee : List AV} {ss : Sto} : ent59 [.own gg 3 1 (l.map ic)] KK ee ss = ((l.length ≤ 12) ∧ upOk gg 3 1 (l.map ic) ee ss ∧ KK (.d (.tup [])) (ee.map (AV.ups gg ((isort l).map ic))) (ss.ups gg ((isort l).map ic))) := by
  unfold ent59
  exact Eq.trans (entU_iff (g := gg) l (by intro b h1 h2; first | (simpa [Prod.ext_iff, and_assoc, Int.ofNat_inj, ints_inj, hrs_inj, grs_inj, hr_inj, gr_inj, tt_inj] using And.intro h1 h2) | (simp [Prod.ext_iff, and_assoc, Int.ofNat_inj, ints_inj, hrs_inj, grs_inj, hr_inj, gr_inj, tt_inj] at h1 h2 ⊢; simp_all)) rfl) (propext ⟨fun ⟨h1, h2, h3⟩ => ⟨h1, h2, h3 _ _ ⟨rfl, rfl⟩⟩, fun ⟨h1, h2, h3⟩ => ⟨h1, h2, fun r x ⟨e1, e2⟩ => by subst e1; subst e2; exact h3⟩⟩)
end Go.Proofs.Ytofbbkacihnjdaa
