/- A part of the proof that the last text ends: what functions of the program do, told by plain data. -/
import Derived.Test.YtkanibdihhlmgaaAA
import Derived.Test.YtkanibdihhlmgaaEW
import Derived.Test.YtkanibdihhlmgaaEb
set_option linter.unusedVariables false
set_option linter.unusedSimpArgs false
namespace Go.Proofs.Ytkanibdihhlmgaa
open Go Go.E
set_option maxRecDepth 100000
set_option maxHeartbeats 8000000
/-! ### A sort in place -/
def insR (S : List Int) (x : Int) : Nat → List Int
  | 0 => x :: S
  | j + 1 => if x < S.getD j default then insR S x j else S.take (j + 1) ++ x :: S.drop (j + 1)
def isortN (l : List Int) : Nat → List Int
  | 0 => []
  | k + 1 => insR (isortN l k) (l.getD k default) k
def isort (l : List Int) : List Int := isortN l l.length
theorem insR_perm {S : List Int} {x : Int} : ∀ j, (insR S x j).Perm (x :: S)
  | 0 => .refl _
  | j + 1 => by
    unfold insR
    split
    · exact insR_perm j
    · exact List.perm_middle.trans (by rw [List.take_append_drop])
theorem insR_len {S : List Int} {x : Int} {j : Nat} : (insR S x j).length = S.length + 1 := by rw [(insR_perm j).length_eq]; rfl
theorem isortN_len {l : List Int} : ∀ k, (isortN l k).length = k
  | 0 => rfl
  | k + 1 => by unfold isortN; rw [insR_len, isortN_len k]
theorem isortN_perm {l : List Int} : ∀ k, k ≤ l.length → (isortN l k).Perm (l.take k)
  | 0, _ => by simp [isortN]
  | k + 1, h => by
    unfold isortN
    refine (insR_perm _).trans ?_
    rw [List.take_succ_eq_append_getElem (by omega), at_lt (by omega)]
    exact ((isortN_perm k (by omega)).cons _).trans (List.perm_append_singleton _ _).symm
theorem isort_perm {l : List Int} : (isort l).Perm l := by
  have := isortN_perm (l := l) l.length (Nat.le_refl _)
  rwa [List.take_length] at this
abbrev Srt (l : List Int) : Prop := l.Pairwise (· ≤ ·)
theorem insR_srt {S : List Int} {x : Int} (hS : Srt S) : ∀ j, j ≤ S.length → (∀ k, j ≤ k → k < S.length → x < S.getD k default) → Srt (insR S x j)
  | 0, _, h => by
    unfold insR
    refine List.pairwise_cons.2 ⟨fun y hy => ?_, hS⟩
    obtain ⟨k, hk, rfl⟩ := List.getElem_of_mem hy
    have := h k (by omega) hk
    rw [at_lt hk] at this; omega
  | j + 1, hj, h => by
    unfold insR
    split
    · rename_i hx
      refine insR_srt hS j (by omega) fun k h1 h2 => ?_
      rcases Nat.lt_or_ge j k with h3 | h3
      · exact h k h3 h2
      · obtain rfl : k = j := by omega
        exact hx
    · rename_i hx
      rw [at_lt (by omega)] at hx
      have hS' := hS
      rw [← List.take_append_drop (j + 1) S] at hS'
      obtain ⟨p1, p2, p3⟩ := List.pairwise_append.1 hS'
      refine List.pairwise_append.2 ⟨p1, List.pairwise_cons.2 ⟨fun y hy => ?_, p2⟩, fun a ha b hb => ?_⟩
      · obtain ⟨k, hk, rfl⟩ := List.getElem_of_mem hy
        rw [List.length_drop] at hk
        have := h (j + 1 + k) (by omega) (by omega)
        rw [at_lt (by omega)] at this
        rw [List.getElem_drop]; omega
      · have hax : a ≤ x := by
          obtain ⟨k, hk, rfl⟩ := List.getElem_of_mem ha
          rw [List.length_take] at hk
          rw [List.getElem_take]
          rcases Nat.lt_or_ge k j with h3 | h3
          · have := List.pairwise_iff_getElem.1 hS k j (by omega) (by omega) h3
            omega
          · obtain rfl : k = j := by omega
            omega
        rcases List.mem_cons.1 hb with rfl | hb
        · exact hax
        · exact p3 a ha b hb
theorem isortN_srt {l : List Int} : ∀ k, Srt (isortN l k)
  | 0 => by simp [isortN]
  | k + 1 => by
    unfold isortN
    exact insR_srt (isortN_srt k) k (by rw [isortN_len]; exact Nat.le_refl _) fun j h1 h2 => by rw [isortN_len] at h2; omega
theorem isort_srt {l : List Int} : Srt (isort l) := isortN_srt _
theorem isort_len {l : List Int} : (isort l).length = l.length := isortN_len _
/-- The row while an element goes to its place. -/
def dat (S : List Int) (x : Int) (T : List Int) (j : Nat) : List Int := S.take j ++ x :: (S.drop j ++ T)
theorem dat_len {S T : List Int} {x : Int} {j : Nat} (h : j ≤ S.length) : (dat S x T j).length = S.length + 1 + T.length := by simp [dat]; omega
theorem dat_at {S T : List Int} {x : Int} {j : Nat} (h : j ≤ S.length) : (dat S x T j).getD j default = x := by
  have : (S.take j).length = j := by rw [List.length_take]; omega
  simp [dat, List.getD, List.getElem?_append, this]
theorem dat_prev {S T : List Int} {x : Int} {j : Nat} (h : j + 1 ≤ S.length) : (dat S x T (j + 1)).getD j default = S.getD j default := by
  have : (S.take (j + 1)).length = j + 1 := by rw [List.length_take]; omega
  rw [at_lt (show j < S.length by omega)]
  simp [dat, List.getD, List.getElem?_append, this, List.getElem?_take, List.getElem?_eq_getElem (show j < S.length by omega)]
theorem dat_swap {S T : List Int} {x : Int} {j : Nat} (h : j + 1 ≤ S.length) : ((dat S x T (j + 1)).set (j + 1) (S.getD j default)).set j x = dat S x T j := by
  have h1 : (S.take (j + 1)).length = j + 1 := by rw [List.length_take]; omega
  have h2 : (S.take j).length = j := by rw [List.length_take]; omega
  unfold dat
  rw [List.set_append_right _ _ (by omega), h1, Nat.sub_self, List.set_cons_zero, List.take_succ_eq_append_getElem (by omega), at_lt (by omega), List.append_assoc, List.set_append_right _ _ (by omega), h2, Nat.sub_self]
  rw [List.drop_eq_getElem_cons (show j < S.length by omega)]
  rfl
theorem dat_top {S T : List Int} {x : Int} {i : Nat} (h : S.length = i) : dat S x T i = S ++ x :: T := by
  subst h; simp [dat]
theorem insR_dat {S T : List Int} {x : Int} {j : Nat} (h : j = 0 ∨ ¬ x < S.getD (j - 1) default) : dat S x T j = insR S x j ++ T := by
  rcases j with _ | j
  · simp [dat, insR]
  · unfold insR
    rw [if_neg (by simpa using h)]
    simp [dat]
def O88 : Nat → Sch := fun id => .done
theorem ho88 : Try.f88.body.map (okO O88) = some true := by kernel_rfl
def Cf88 : Nat → List AV → (AV → List AV → Sto → Prop) → Kt → List AV → Sto → Prop := fun f args K Q e s => match f with
  | _ => False
def Ct88 : CT := { f := Cf88, y := noYld, z := fun d => false }
theorem ctz88 {d : Nat} : CT.z Ct88 d = (false) := id rfl
theorem Ct88_ok : Ct88.ok Try.prog := ok_of_f (fun f args K Q e s h => by
  have h : Cf88 f args K Q e s := h
  unfold Cf88 at h; split at h
  · exact h.elim) (fun _ _ _ _ _ _ _ _ _ h => h)
theorem c88 : callable Try.prog 88 = true := by kernel_rfl
theorem pf88 (n : Int) : PF Try.prog 88 [.i n] (fun zz => zz = .ret (.b false)) := by
  refine PF_nil (PF_start (O := O88) Ct88_ok hmix ho88 Try.func88 c88 rfl Try.ntmps88 Try.results88 ?_)
  simp (maxSteps := 4000000) +contextual (disch := first | omega | exact qdb_ok (by kernel_rfl) | exact okb_ok (by kernel_rfl)) only [bw1,bw2,bw3,bw4,bw5,bw6,bw7,zcell,setPs,sv,gif_true,gif_false,gif_eq,AV.frz,Sto.frz,updAll,AV.cpy,Sto.cpy,ifV,isEqB,nilV,nilX,cloV,AV.isNilS,AV.isNoRows,setAll,wk,wkG,AV.own.injEq,dclo,maskB,datOf,Option.any,List.isEmpty,Sto.hidn,binV,binS,binIs,unV,unVs,addF,AV.isPtr,idxV,AV.isSl,AV.isSlice,AV.rows,loadV,loadS,D.part,AV.part,ps,pv,extV,extS,cvI,resAll,resV,resS,AV.outs,outL,AV.outF,Option.map_none,packD,AV.mkAgg,AV.mkTup,AV.dl,fieldV,fieldS,fillV,fillS,AV.cells?,AV.upr,Sto.upr,setR,Sto.get,Sto.ins,Sto.kill,Sto.upd,AV.kill,AV.men,AV.mens,AV.mencs,AV.menc,Sto.mens,Sto.mencs,AV.one,D.one,Value.oneCell',tagOf,AV.isApp,strV,strS,bolV,bolS,slcV,AV.isSlD,optI,optS,asrtS,ifV,bsV,bsS,AV.dcells,D.cells?,AV.no,stcV,stcS,leafOk,eqDs,eqD,Sto.push,Sto.top,Sto.pull,packA,D.val?,D.vals?,beq_self_eq_true,if_true,if_false,ite_true,ite_false,Bool.false_eq_true,Bool.true_eq_false,if_true_left,↓reduceIte,reduceCtorEq,List.getElem?_cons_zero,List.getElem?_cons_succ,List.map_cons,List.map_nil,List.append_nil,List.nil_append,List.cons_append,List.length_cons,List.length_nil,Option.bind_some,Option.getD_some,Option.isSome_some,Option.map_some,true_and,and_true,and_self,true_implies,implies_true,Nat.reduceAdd,Nat.reduceSub,Nat.reduceMul,List.reduceReplicate,List.replicate_zero,List.toList_toArray,Nat.zero_add,Nat.add_zero,List.drop_succ_cons,List.drop_zero,List.take_succ_cons,List.take_zero,List.drop_nil,List.take_nil,Nat.reduceLeDiff,Nat.reduceLT,Nat.reduceBEq,Nat.reduceEqDiff,Int.reduceNeg,Bool.not_true,Bool.not_false,Bool.not_not,Int.reduceEq,Bool.not_eq_true',ne_eq,not_false_eq_true,List.all_cons,List.all_nil,Bool.and_true,Bool.true_and,Bool.and_self,Bool.if_false_right,Bool.if_true_left,Bool.decide_eq_true,Option.some.injEq,exists_eq_left',exists_eq_left,Int.reduceLE,Int.reduceLT,List.not_mem_nil,and_false,false_and,Bool.and_eq_true,decide_eq_true_eq,ite_self,or_true,true_or,or_false,false_or,not_true_eq_false,D.tup.injEq,List.cons.injEq,D.agg.injEq,D.sl.injEq,beq_iff_eq,bne_iff_ne,Bool.or_self,Bool.or_false,Bool.false_or,decide_true,decide_false,End.ret.injEq,D.v.injEq,Value.bool.injEq,Value.int.injEq,tfb,bi_add,bi_sub,bi_mul,bi_quo,bi_rem,bi_and,bi_or,bi_xor,bi_andNot,bi_shl,bi_shr,bi_eql,bi_neq,bi_lss,bi_leq,bi_gtr,bi_geq,ctz88,bne_self_eq_false]
def ent88 (args : List AV) (K : AV → List AV → Sto → Prop) (e : List AV) (s : Sto) : Prop := ent (α := (Int)) (fun aa => [.i aa]) (fun aa => True) (fun aa => .b false) args K e s
theorem ent88_ok {args : List AV} {K : AV → List AV → Sto → Prop} {Q : Kt} {e : List AV} {s : Sto} (h : ent88 args K e s) : pcall Try.prog 88 args K Q e s := ent_ok (fun aa h => pf88 aa) h
theorem eq88 {n : Int} {KK : AV → List AV → Sto → Prop} {ee : List AV} {ss : Sto} : ent88 [.d (.i n)] KK ee ss = (KK (.d (.b false)) ee ss) := by
  unfold ent88; rw [ent_iff n (by intro b h; simpa [Prod.ext_iff, and_assoc, sen_inj, sens_inj, ints_inj] using h) rfl]; simp
def O78 : Nat → Sch := fun id => .done
theorem ho78 : Try.f78.body.map (okO O78) = some true := by kernel_rfl
def Cf78 : Nat → List AV → (AV → List AV → Sto → Prop) → Kt → List AV → Sto → Prop := fun f args K Q e s => match f with
  | 88 => ent88 args K e s
  | _ => False
def Ct78 : CT := { f := Cf78, y := noYld, z := fun d => false }
theorem ctz78 {d : Nat} : CT.z Ct78 d = (false) := id rfl
theorem Ct78_ok : Ct78.ok Try.prog := ok_of_f (fun f args K Q e s h => by
  have h : Cf78 f args K Q e s := h
  unfold Cf78 at h; split at h
  · exact ent88_ok h
  · exact h.elim) (fun _ _ _ _ _ _ _ _ _ h => h)
theorem x78_88 {n : Int} {KK : AV → List AV → Sto → Prop} {QQ : Kt} {ii : At KK} {jj : At QQ} {ee : List AV} {ss : Sto} : xC Ct78 88 [.d (.i n)] KK QQ ii jj ee ss = (KK (.d (.b false)) ee ss) := eq88
theorem c78 : callable Try.prog 78 = true := by kernel_rfl
theorem pf78 (a b : Int) : PF Try.prog 78 [.i a, .i b] (fun zz => zz = .ret (.b (decide (a < b)))) := by
  refine PF_nil (PF_start (O := O78) Ct78_ok hmix ho78 Try.func78 c78 rfl Try.ntmps78 Try.results78 ?_)
  simp (maxSteps := 4000000) +contextual (disch := first | omega | exact qdb_ok (by kernel_rfl) | exact okb_ok (by kernel_rfl)) only [bw1,bw2,bw3,bw4,bw5,bw6,bw7,zcell,setPs,sv,gif_true,gif_false,gif_eq,AV.frz,Sto.frz,updAll,AV.cpy,Sto.cpy,ifV,isEqB,nilV,nilX,cloV,AV.isNilS,AV.isNoRows,setAll,wk,wkG,AV.own.injEq,dclo,maskB,datOf,Option.any,List.isEmpty,Sto.hidn,binV,binS,binIs,unV,unVs,addF,AV.isPtr,idxV,AV.isSl,AV.isSlice,AV.rows,loadV,loadS,D.part,AV.part,ps,pv,extV,extS,cvI,resAll,resV,resS,AV.outs,outL,AV.outF,Option.map_none,packD,AV.mkAgg,AV.mkTup,AV.dl,fieldV,fieldS,fillV,fillS,AV.cells?,AV.upr,Sto.upr,setR,Sto.get,Sto.ins,Sto.kill,Sto.upd,AV.kill,AV.men,AV.mens,AV.mencs,AV.menc,Sto.mens,Sto.mencs,AV.one,D.one,Value.oneCell',tagOf,AV.isApp,strV,strS,bolV,bolS,slcV,AV.isSlD,optI,optS,asrtS,ifV,bsV,bsS,AV.dcells,D.cells?,AV.no,stcV,stcS,leafOk,eqDs,eqD,Sto.push,Sto.top,Sto.pull,packA,D.val?,D.vals?,beq_self_eq_true,if_true,if_false,ite_true,ite_false,Bool.false_eq_true,Bool.true_eq_false,if_true_left,↓reduceIte,reduceCtorEq,List.getElem?_cons_zero,List.getElem?_cons_succ,List.map_cons,List.map_nil,List.append_nil,List.nil_append,List.cons_append,List.length_cons,List.length_nil,Option.bind_some,Option.getD_some,Option.isSome_some,Option.map_some,true_and,and_true,and_self,true_implies,implies_true,Nat.reduceAdd,Nat.reduceSub,Nat.reduceMul,List.reduceReplicate,List.replicate_zero,List.toList_toArray,Nat.zero_add,Nat.add_zero,List.drop_succ_cons,List.drop_zero,List.take_succ_cons,List.take_zero,List.drop_nil,List.take_nil,Nat.reduceLeDiff,Nat.reduceLT,Nat.reduceBEq,Nat.reduceEqDiff,Int.reduceNeg,Bool.not_true,Bool.not_false,Bool.not_not,Int.reduceEq,Bool.not_eq_true',ne_eq,not_false_eq_true,List.all_cons,List.all_nil,Bool.and_true,Bool.true_and,Bool.and_self,Bool.if_false_right,Bool.if_true_left,Bool.decide_eq_true,Option.some.injEq,exists_eq_left',exists_eq_left,Int.reduceLE,Int.reduceLT,List.not_mem_nil,and_false,false_and,Bool.and_eq_true,decide_eq_true_eq,ite_self,or_true,true_or,or_false,false_or,not_true_eq_false,D.tup.injEq,List.cons.injEq,D.agg.injEq,D.sl.injEq,beq_iff_eq,bne_iff_ne,Bool.or_self,Bool.or_false,Bool.false_or,decide_true,decide_false,End.ret.injEq,D.v.injEq,Value.bool.injEq,Value.int.injEq,tfb,bi_add,bi_sub,bi_mul,bi_quo,bi_rem,bi_and,bi_or,bi_xor,bi_andNot,bi_shl,bi_shr,bi_eql,bi_neq,bi_lss,bi_leq,bi_gtr,bi_geq,ctz78,x78_88]
def lenN (n : Int) : Int := if n = 0 then 0 else if n = 1 then 1 else if n ≤ 3 then 2 else if n ≤ 7 then 3 else 4
def ent78 (args : List AV) (K : AV → List AV → Sto → Prop) (e : List AV) (s : Sto) : Prop := ent (α := (Int) × (Int)) (fun aa => [.i aa.1, .i aa.2]) (fun aa => True) (fun aa => .b (decide (aa.1 < aa.2))) args K e s
theorem ent78_ok {args : List AV} {K : AV → List AV → Sto → Prop} {Q : Kt} {e : List AV} {s : Sto} (h : ent78 args K e s) : pcall Try.prog 78 args K Q e s := ent_ok (fun aa h => pf78 aa.1 aa.2) h
theorem eq78 {a : Int} {b : Int} {KK : AV → List AV → Sto → Prop} {ee : List AV} {ss : Sto} : ent78 [.d (.i a), .d (.i b)] KK ee ss = (KK (.d (.b (decide (a < b)))) ee ss) := by
  unfold ent78; rw [ent_iff (a, b) (by intro b h; simpa [Prod.ext_iff, and_assoc, sen_inj, sens_inj, ints_inj] using h) rfl]; simp
def O82 : Nat → Sch := fun id => .done
theorem ho82 : Try.f82.body.map (okO O82) = some true := by kernel_rfl
def Cf82 : Nat → List AV → (AV → List AV → Sto → Prop) → Kt → List AV → Sto → Prop := fun f args K Q e s => match f with
  | _ => False
def Ct82 : CT := { f := Cf82, y := noYld, z := fun d => false }
theorem ctz82 {d : Nat} : CT.z Ct82 d = (false) := id rfl
theorem Ct82_ok : Ct82.ok Try.prog := ok_of_f (fun f args K Q e s h => by
  have h : Cf82 f args K Q e s := h
  unfold Cf82 at h; split at h
  · exact h.elim) (fun _ _ _ _ _ _ _ _ _ h => h)
theorem c82 : callable Try.prog 82 = true := by kernel_rfl
theorem pf82 (n : Int) (h : 0 ≤ n ∧ n ≤ 12) : PF Try.prog 82 [.v (.int .u64 n)] (fun zz => zz = .ret (.i (lenN n))) := by
  obtain ⟨h1, h2⟩ := h
  refine PF_nil (PF_start (O := O82) Ct82_ok hmix ho82 Try.func82 c82 rfl Try.ntmps82 Try.results82 ?_)
  have g1 : ¬ 256 ≤ n := by omega
  have g2 : ¬ 65536 ≤ n := by omega
  have g3 : ¬ 4294967296 ≤ n := by omega
  simp (maxSteps := 4000000) +contextual (disch := first | omega | exact qdb_ok (by kernel_rfl) | exact okb_ok (by kernel_rfl)) only [bw1,bw2,bw3,bw4,bw5,bw6,bw7,zcell,setPs,sv,gif_true,gif_false,gif_eq,AV.frz,Sto.frz,updAll,AV.cpy,Sto.cpy,ifV,isEqB,nilV,nilX,cloV,AV.isNilS,AV.isNoRows,setAll,wk,wkG,AV.own.injEq,dclo,maskB,datOf,Option.any,List.isEmpty,Sto.hidn,binV,binS,binIs,unV,unVs,addF,AV.isPtr,idxV,AV.isSl,AV.isSlice,AV.rows,loadV,loadS,D.part,AV.part,ps,pv,extV,extS,cvI,resAll,resV,resS,AV.outs,outL,AV.outF,Option.map_none,packD,AV.mkAgg,AV.mkTup,AV.dl,fieldV,fieldS,fillV,fillS,AV.cells?,AV.upr,Sto.upr,setR,Sto.get,Sto.ins,Sto.kill,Sto.upd,AV.kill,AV.men,AV.mens,AV.mencs,AV.menc,Sto.mens,Sto.mencs,AV.one,D.one,Value.oneCell',tagOf,AV.isApp,strV,strS,bolV,bolS,slcV,AV.isSlD,optI,optS,asrtS,ifV,bsV,bsS,AV.dcells,D.cells?,AV.no,stcV,stcS,leafOk,eqDs,eqD,Sto.push,Sto.top,Sto.pull,packA,D.val?,D.vals?,beq_self_eq_true,if_true,if_false,ite_true,ite_false,Bool.false_eq_true,Bool.true_eq_false,if_true_left,↓reduceIte,reduceCtorEq,List.getElem?_cons_zero,List.getElem?_cons_succ,List.map_cons,List.map_nil,List.append_nil,List.nil_append,List.cons_append,List.length_cons,List.length_nil,Option.bind_some,Option.getD_some,Option.isSome_some,Option.map_some,true_and,and_true,and_self,true_implies,implies_true,Nat.reduceAdd,Nat.reduceSub,Nat.reduceMul,List.reduceReplicate,List.replicate_zero,List.toList_toArray,Nat.zero_add,Nat.add_zero,List.drop_succ_cons,List.drop_zero,List.take_succ_cons,List.take_zero,List.drop_nil,List.take_nil,Nat.reduceLeDiff,Nat.reduceLT,Nat.reduceBEq,Nat.reduceEqDiff,Int.reduceNeg,Bool.not_true,Bool.not_false,Bool.not_not,Int.reduceEq,Bool.not_eq_true',ne_eq,not_false_eq_true,List.all_cons,List.all_nil,Bool.and_true,Bool.true_and,Bool.and_self,Bool.if_false_right,Bool.if_true_left,Bool.decide_eq_true,Option.some.injEq,exists_eq_left',exists_eq_left,Int.reduceLE,Int.reduceLT,List.not_mem_nil,and_false,false_and,Bool.and_eq_true,decide_eq_true_eq,ite_self,or_true,true_or,or_false,false_or,not_true_eq_false,D.tup.injEq,List.cons.injEq,D.agg.injEq,D.sl.injEq,beq_iff_eq,bne_iff_ne,Bool.or_self,Bool.or_false,Bool.false_or,decide_true,decide_false,End.ret.injEq,D.v.injEq,Value.bool.injEq,Value.int.injEq,tfb,bi_add,bi_sub,bi_mul,bi_quo,bi_rem,bi_and,bi_or,bi_xor,bi_andNot,bi_shl,bi_shr,bi_eql,bi_neq,bi_lss,bi_leq,bi_gtr,bi_geq,ctz82,g1, g2, g3]
  rcases (show n = 0 ∨ n = 1 ∨ n = 2 ∨ n = 3 ∨ n = 4 ∨ n = 5 ∨ n = 6 ∨ n = 7 ∨ n = 8 ∨ n = 9 ∨ n = 10 ∨ n = 11 ∨ n = 12 by omega) with rfl | rfl | rfl | rfl | rfl | rfl | rfl | rfl | rfl | rfl | rfl | rfl | rfl <;> exact ⟨⟨trivial, of_decide_eq_true (by kernel_rfl), of_decide_eq_true (by kernel_rfl)⟩, by kernel_rfl⟩
def ent82 (args : List AV) (K : AV → List AV → Sto → Prop) (e : List AV) (s : Sto) : Prop := ent (α := (Int)) (fun aa => [.v (.int .u64 aa)]) (fun aa => 0 ≤ aa ∧ aa ≤ 12) (fun aa => .i (lenN aa)) args K e s
theorem ent82_ok {args : List AV} {K : AV → List AV → Sto → Prop} {Q : Kt} {e : List AV} {s : Sto} (h : ent82 args K e s) : pcall Try.prog 82 args K Q e s := ent_ok (fun aa h => pf82 aa h) h
theorem eq82 {n : Int} {KK : AV → List AV → Sto → Prop} {ee : List AV} {ss : Sto} : ent82 [.d (.v (.int .u64 n))] KK ee ss = ((0 ≤ n ∧ n ≤ 12) ∧ KK (.d (.i (lenN n))) ee ss) := by
  unfold ent82; rw [ent_iff n (by intro b h; simpa [Prod.ext_iff, and_assoc, sen_inj, sens_inj, ints_inj] using h) rfl]; simp
def O71 : Nat → Sch := fun id => .done
theorem ho71 : Try.f71.body.map (okO O71) = some true := by kernel_rfl
def Cf71 : Nat → List AV → (AV → List AV → Sto → Prop) → Kt → List AV → Sto → Prop := fun f args K Q e s => match f with
  | 82 => ent82 args K e s
  | _ => False
def Ct71 : CT := { f := Cf71, y := noYld, z := fun d => false }
theorem ctz71 {d : Nat} : CT.z Ct71 d = (false) := id rfl
theorem Ct71_ok : Ct71.ok Try.prog := ok_of_f (fun f args K Q e s h => by
  have h : Cf71 f args K Q e s := h
  unfold Cf71 at h; split at h
  · exact ent82_ok h
  · exact h.elim) (fun _ _ _ _ _ _ _ _ _ h => h)
theorem x71_82 {n : Int} {KK : AV → List AV → Sto → Prop} {QQ : Kt} {ii : At KK} {jj : At QQ} {ee : List AV} {ss : Sto} : xC Ct71 82 [.d (.v (.int .u64 n))] KK QQ ii jj ee ss = ((0 ≤ n ∧ n ≤ 12) ∧ KK (.d (.i (lenN n))) ee ss) := eq82
theorem c71 : callable Try.prog 71 = true := by kernel_rfl
theorem pf71 (n : Int) (h : 0 ≤ n ∧ n ≤ 12) : PF Try.prog 71 [.v (.int .u64 n)] (fun zz => zz = .ret (.i (lenN n))) := by
  refine PF_nil (PF_start (O := O71) Ct71_ok hmix ho71 Try.func71 c71 rfl Try.ntmps71 Try.results71 ?_)
  simp (maxSteps := 4000000) +contextual (disch := first | omega | exact qdb_ok (by kernel_rfl) | exact okb_ok (by kernel_rfl)) only [bw1,bw2,bw3,bw4,bw5,bw6,bw7,zcell,setPs,sv,gif_true,gif_false,gif_eq,AV.frz,Sto.frz,updAll,AV.cpy,Sto.cpy,ifV,isEqB,nilV,nilX,cloV,AV.isNilS,AV.isNoRows,setAll,wk,wkG,AV.own.injEq,dclo,maskB,datOf,Option.any,List.isEmpty,Sto.hidn,binV,binS,binIs,unV,unVs,addF,AV.isPtr,idxV,AV.isSl,AV.isSlice,AV.rows,loadV,loadS,D.part,AV.part,ps,pv,extV,extS,cvI,resAll,resV,resS,AV.outs,outL,AV.outF,Option.map_none,packD,AV.mkAgg,AV.mkTup,AV.dl,fieldV,fieldS,fillV,fillS,AV.cells?,AV.upr,Sto.upr,setR,Sto.get,Sto.ins,Sto.kill,Sto.upd,AV.kill,AV.men,AV.mens,AV.mencs,AV.menc,Sto.mens,Sto.mencs,AV.one,D.one,Value.oneCell',tagOf,AV.isApp,strV,strS,bolV,bolS,slcV,AV.isSlD,optI,optS,asrtS,ifV,bsV,bsS,AV.dcells,D.cells?,AV.no,stcV,stcS,leafOk,eqDs,eqD,Sto.push,Sto.top,Sto.pull,packA,D.val?,D.vals?,beq_self_eq_true,if_true,if_false,ite_true,ite_false,Bool.false_eq_true,Bool.true_eq_false,if_true_left,↓reduceIte,reduceCtorEq,List.getElem?_cons_zero,List.getElem?_cons_succ,List.map_cons,List.map_nil,List.append_nil,List.nil_append,List.cons_append,List.length_cons,List.length_nil,Option.bind_some,Option.getD_some,Option.isSome_some,Option.map_some,true_and,and_true,and_self,true_implies,implies_true,Nat.reduceAdd,Nat.reduceSub,Nat.reduceMul,List.reduceReplicate,List.replicate_zero,List.toList_toArray,Nat.zero_add,Nat.add_zero,List.drop_succ_cons,List.drop_zero,List.take_succ_cons,List.take_zero,List.drop_nil,List.take_nil,Nat.reduceLeDiff,Nat.reduceLT,Nat.reduceBEq,Nat.reduceEqDiff,Int.reduceNeg,Bool.not_true,Bool.not_false,Bool.not_not,Int.reduceEq,Bool.not_eq_true',ne_eq,not_false_eq_true,List.all_cons,List.all_nil,Bool.and_true,Bool.true_and,Bool.and_self,Bool.if_false_right,Bool.if_true_left,Bool.decide_eq_true,Option.some.injEq,exists_eq_left',exists_eq_left,Int.reduceLE,Int.reduceLT,List.not_mem_nil,and_false,false_and,Bool.and_eq_true,decide_eq_true_eq,ite_self,or_true,true_or,or_false,false_or,not_true_eq_false,D.tup.injEq,List.cons.injEq,D.agg.injEq,D.sl.injEq,beq_iff_eq,bne_iff_ne,Bool.or_self,Bool.or_false,Bool.false_or,decide_true,decide_false,End.ret.injEq,D.v.injEq,Value.bool.injEq,Value.int.injEq,tfb,bi_add,bi_sub,bi_mul,bi_quo,bi_rem,bi_and,bi_or,bi_xor,bi_andNot,bi_shl,bi_shr,bi_eql,bi_neq,bi_lss,bi_leq,bi_gtr,bi_geq,ctz71,x71_82]
  exact h
def ent71 (args : List AV) (K : AV → List AV → Sto → Prop) (e : List AV) (s : Sto) : Prop := ent (α := (Int)) (fun aa => [.v (.int .u64 aa)]) (fun aa => 0 ≤ aa ∧ aa ≤ 12) (fun aa => .i (lenN aa)) args K e s
theorem ent71_ok {args : List AV} {K : AV → List AV → Sto → Prop} {Q : Kt} {e : List AV} {s : Sto} (h : ent71 args K e s) : pcall Try.prog 71 args K Q e s := ent_ok (fun aa h => pf71 aa h) h
theorem eq71 {n : Int} {KK : AV → List AV → Sto → Prop} {ee : List AV} {ss : Sto} : ent71 [.d (.v (.int .u64 n))] KK ee ss = ((0 ≤ n ∧ n ≤ 12) ∧ KK (.d (.i (lenN n))) ee ss) := by
  unfold ent71; rw [ent_iff n (by intro b h; simpa [Prod.ext_iff, and_assoc, sen_inj, sens_inj, ints_inj] using h) rfl]; simp
end Go.Proofs.Ytkanibdihhlmgaa
