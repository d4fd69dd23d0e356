/- A part of the proof that the last text ends: what functions of the program do, told by plain data. -/
import Derived.Test.YtkanibdihhlmgaaAB
import Derived.Test.YtkanibdihhlmgaaEc
set_option linter.unusedVariables false
set_option linter.unusedSimpArgs false
namespace Go.Proofs.Ytkanibdihhlmgaa
open Go Go.E
set_option maxRecDepth 100000
set_option maxHeartbeats 8000000
/-! ### A search by halves -/
def srch (p : Nat → Bool) : Nat → Nat → Nat → Nat
  | 0, i, _ => i
  | k + 1, i, j => if i < j then (if p ((i + j) / 2) = true then srch p k i ((i + j) / 2) else srch p k ((i + j) / 2 + 1) j) else i
def srchI (l : List Int) (x : Int) : Nat := srch (fun h => decide (x ≤ l.getD h default)) 32 0 l.length
theorem srch_done {p : Nat → Bool} : ∀ k i j, ¬ i < j → srch p k i j = i
  | 0, _, _, _ => rfl
  | k + 1, i, j, h => by unfold srch; rw [if_neg h]
/-- What is known when the search stands at i and j. -/
structure Sea (p : Nat → Bool) (n k i j : Nat) : Prop where
  le : i ≤ j ∧ j ≤ n
  gap : j - i < 2 ^ k
  eq : srch p k i j = srch p 32 0 n
theorem sea_yes {p : Nat → Bool} {n k i j : Nat} (h : Sea p n k i j) (hlt : i < j) (hp : p ((i + j) / 2) = true) : Sea p n (k - 1) i ((i + j) / 2) := by
  obtain ⟨⟨h1, h2⟩, h3, h4⟩ := h
  rcases k with _ | k
  · simp at h3; omega
  · rw [Nat.pow_succ] at h3
    unfold srch at h4
    rw [if_pos hlt, if_pos hp] at h4
    exact ⟨⟨by omega, by omega⟩, by simp only [Nat.add_sub_cancel]; omega, h4⟩
theorem sea_no {p : Nat → Bool} {n k i j : Nat} (h : Sea p n k i j) (hlt : i < j) (hp : p ((i + j) / 2) = false) : Sea p n (k - 1) ((i + j) / 2 + 1) j := by
  obtain ⟨⟨h1, h2⟩, h3, h4⟩ := h
  rcases k with _ | k
  · simp at h3; omega
  · rw [Nat.pow_succ] at h3
    unfold srch at h4
    rw [if_pos hlt, if_neg (by simp [hp])] at h4
    exact ⟨⟨by omega, by omega⟩, by simp only [Nat.add_sub_cancel]; omega, h4⟩
theorem sea_end {p : Nat → Bool} {n k i j : Nat} (h : Sea p n k i j) (hlt : ¬ i < j) : i = srch p 32 0 n := by rw [← h.eq, srch_done k i j hlt]
theorem u64_in {n : Nat} (h : n < 18446744073709551616) : IntKind.u64.wrap (n : Int) = n := by simp [IntKind.wrap, IntKind.signed, IntKind.bits]; omega
theorem half_u64 {i j : Nat} (h : i + j < 4611686018427387904) : IntKind.i64.wrap (shrZ .u64 (IntKind.u64.wrap ((i : Int) + j)) 1) = ((i + j) / 2 : Nat) := by
  rw [show ((i : Int) + j) = ((i + j : Nat) : Int) by omega, u64_in (by omega), show (1 : Int) = ((1 : Nat) : Int) from rfl, shr_u64 (by omega), Nat.pow_one, wrap_ok (by omega) (by omega)]
namespace A1
def O68 : Nat → Sch := fun id => if id = 1 then .one 0 (.one 1 (.one 2 (.one 3 (.one 4 (.one 5 (.one 6 (.done))))))) else .done
theorem O68_1 : O68 1 = .one 0 (.one 1 (.one 2 (.one 3 (.one 4 (.one 5 (.one 6 (.done))))))) := rfl
theorem ho68 : Try.f68.body.map (okO O68) = some true := by kernel_rfl
def Cf68 : Nat → List AV → (AV → List AV → Sto → Prop) → Kt → List AV → Sto → Prop := fun f args K Q e s => match f with
  | _ => False
def Ct68 : CT := { f := Cf68, y := noYld, z := fun d => false }
theorem ctz68 {d : Nat} : CT.z Ct68 d = (false) := id rfl
theorem Ct68_ok : Ct68.ok Try.prog := ok_of_f (fun f args K Q e s h => by
  have h : Cf68 f args K Q e s := h
  unfold Cf68 at h; split at h
  · exact h.elim) (fun _ _ _ _ _ _ _ _ _ h => h)
theorem c68 : callable Try.prog 68 = true := by kernel_rfl
def O57 : Nat → Sch := fun id => .done
theorem ho57 : Try.f57.body.map (okO O57) = some true := by kernel_rfl
def Cf57 : Nat → List AV → (AV → List AV → Sto → Prop) → Kt → List AV → Sto → Prop := fun f args K Q e s => match f with
  | 68 => inlE Try.prog Ct68 O68 68000 68 args K Q e s
  | _ => False
def Ct57 : CT := { f := Cf57, y := noYld, z := fun d => false }
theorem ctz57 {d : Nat} : CT.z Ct57 d = (false) := id rfl
theorem Ct57_ok : Ct57.ok Try.prog := ok_of_f (fun f args K Q e s h => by
  have h : Cf57 f args K Q e s := h
  unfold Cf57 at h; split at h
  · exact inlE_ok Ct68_ok hmix ho68 h
  · exact h.elim) (fun _ _ _ _ _ _ _ _ _ h => h)
theorem z57_68 : type_of% (@xinl Try.prog Ct57 Ct68 O68 68000 68 _ _ _ _ rfl c68 Try.func68 rfl Try.ntmps68 Try.results68) := @xinl Try.prog Ct57 Ct68 O68 68000 68 _ _ _ _ rfl c68 Try.func68 rfl Try.ntmps68 Try.results68
theorem c57 : callable Try.prog 57 = true := by kernel_rfl
def O61 : Nat → Sch := fun id => .done
theorem ho61 : Try.f61.body.map (okO O61) = some true := by kernel_rfl
def Cf61 : Nat → List AV → (AV → List AV → Sto → Prop) → Kt → List AV → Sto → Prop := fun f args K Q e s => match f with
  | 57 => inlE Try.prog Ct57 O57 57000 57 args K Q e s
  | _ => False
def Ct61 : CT := { f := Cf61, y := noYld, z := fun d => false }
theorem ctz61 {d : Nat} : CT.z Ct61 d = (false) := id rfl
theorem Ct61_ok : Ct61.ok Try.prog := ok_of_f (fun f args K Q e s h => by
  have h : Cf61 f args K Q e s := h
  unfold Cf61 at h; split at h
  · exact inlE_ok Ct57_ok hmix ho57 h
  · exact h.elim) (fun _ _ _ _ _ _ _ _ _ h => h)
theorem z61_57 : type_of% (@xinl Try.prog Ct61 Ct57 O57 57000 57 _ _ _ _ rfl c57 Try.func57 rfl Try.ntmps57 Try.results57) := @xinl Try.prog Ct61 Ct57 O57 57000 57 _ _ _ _ rfl c57 Try.func57 rfl Try.ntmps57 Try.results57
theorem c61 : callable Try.prog 61 = true := by kernel_rfl
theorem pf61 (l : List Int) (x : Int) (h : l.length ≤ 1000000) : PF Try.prog 61 [.sl 1 (l.map ic), .i x] (fun zz => zz = .ret (.i (srchI l x))) := by
  refine PF_nil (PF_start (O := O61) Ct61_ok hmix ho61 Try.func61 c61 rfl Try.ntmps61 Try.results61 ?_)
  simp (maxSteps := 4000000) +contextual (disch := first | omega | exact qdb_ok (by kernel_rfl) | exact okb_ok (by kernel_rfl)) only [bw1,bw2,bw3,bw4,bw5,bw6,bw7,zcell,setPs,sv,gif_true,gif_false,gif_eq,AV.frz,Sto.frz,updAll,AV.cpy,Sto.cpy,ifV,isEqB,nilV,nilX,cloV,AV.isNilS,AV.isNoRows,setAll,wk,wkG,AV.own.injEq,dclo,maskB,datOf,Option.any,List.isEmpty,Sto.hidn,binV,binS,binIs,unV,unVs,addF,AV.isPtr,idxV,AV.isSl,AV.isSlice,AV.rows,loadV,loadS,D.part,AV.part,ps,pv,extV,extS,cvI,resAll,resV,resS,AV.outs,outL,AV.outF,Option.map_none,packD,AV.mkAgg,AV.mkTup,AV.dl,fieldV,fieldS,fillV,fillS,AV.cells?,AV.upr,Sto.upr,setR,Sto.get,Sto.ins,Sto.kill,Sto.upd,AV.kill,AV.men,AV.mens,AV.mencs,AV.menc,Sto.mens,Sto.mencs,AV.one,D.one,Value.oneCell',tagOf,AV.isApp,strV,strS,bolV,bolS,slcV,AV.isSlD,optI,optS,asrtS,ifV,bsV,bsS,AV.dcells,D.cells?,AV.no,stcV,stcS,leafOk,eqDs,eqD,Sto.push,Sto.top,Sto.pull,packA,D.val?,D.vals?,beq_self_eq_true,if_true,if_false,ite_true,ite_false,Bool.false_eq_true,Bool.true_eq_false,if_true_left,↓reduceIte,reduceCtorEq,List.getElem?_cons_zero,List.getElem?_cons_succ,List.map_cons,List.map_nil,List.append_nil,List.nil_append,List.cons_append,List.length_cons,List.length_nil,Option.bind_some,Option.getD_some,Option.isSome_some,Option.map_some,true_and,and_true,and_self,true_implies,implies_true,Nat.reduceAdd,Nat.reduceSub,Nat.reduceMul,List.reduceReplicate,List.replicate_zero,List.toList_toArray,Nat.zero_add,Nat.add_zero,List.drop_succ_cons,List.drop_zero,List.take_succ_cons,List.take_zero,List.drop_nil,List.take_nil,Nat.reduceLeDiff,Nat.reduceLT,Nat.reduceBEq,Nat.reduceEqDiff,Int.reduceNeg,Bool.not_true,Bool.not_false,Bool.not_not,Int.reduceEq,Bool.not_eq_true',ne_eq,not_false_eq_true,List.all_cons,List.all_nil,Bool.and_true,Bool.true_and,Bool.and_self,Bool.if_false_right,Bool.if_true_left,Bool.decide_eq_true,Option.some.injEq,exists_eq_left',exists_eq_left,Int.reduceLE,Int.reduceLT,List.not_mem_nil,and_false,false_and,Bool.and_eq_true,decide_eq_true_eq,ite_self,or_true,true_or,or_false,false_or,not_true_eq_false,D.tup.injEq,List.cons.injEq,D.agg.injEq,D.sl.injEq,beq_iff_eq,bne_iff_ne,Bool.or_self,Bool.or_false,Bool.false_or,decide_true,decide_false,End.ret.injEq,D.v.injEq,Value.bool.injEq,Value.int.injEq,tfb,bi_add,bi_sub,bi_mul,bi_quo,bi_rem,bi_and,bi_or,bi_xor,bi_andNot,bi_shl,bi_shr,bi_eql,bi_neq,bi_lss,bi_leq,bi_gtr,bi_geq,ctz61,z61_57,ctz57,z57_68,ctz68,O68_1]
  refine loop_s (O := O57) (tb := 57000) Ct57_ok hmix (by kernel_rfl) (σ := Nat × Nat × Nat) (fun x => [(5, .i x.2.1), (6, .i x.2.2)]) (fun y => Sea (fun h => decide (x ≤ l.getD h default)) l.length y.1 y.2.1 y.2.2) (fun y => y.2.2 - y.2.1) (fun y => if decide (x ≤ l.getD ((y.2.1 + y.2.2) / 2) default) = true then (y.1 - 1, y.2.1, (y.2.1 + y.2.2) / 2) else (y.1 - 1, (y.2.1 + y.2.2) / 2 + 1, y.2.2)) (32, 0, l.length) ⟨⟨Nat.zero_le _, Nat.le_refl _⟩, by simp only [Nat.sub_zero]; omega, rfl⟩ ?_ ?_
  · simp (maxSteps := 4000000) +contextual (disch := first | omega | exact qdb_ok (by kernel_rfl) | exact okb_ok (by kernel_rfl)) only [bw1,bw2,bw3,bw4,bw5,bw6,bw7,zcell,setPs,sv,gif_true,gif_false,gif_eq,AV.frz,Sto.frz,updAll,AV.cpy,Sto.cpy,ifV,isEqB,nilV,nilX,cloV,AV.isNilS,AV.isNoRows,setAll,wk,wkG,AV.own.injEq,dclo,maskB,datOf,Option.any,List.isEmpty,Sto.hidn,binV,binS,binIs,unV,unVs,addF,AV.isPtr,idxV,AV.isSl,AV.isSlice,AV.rows,loadV,loadS,D.part,AV.part,ps,pv,extV,extS,cvI,resAll,resV,resS,AV.outs,outL,AV.outF,Option.map_none,packD,AV.mkAgg,AV.mkTup,AV.dl,fieldV,fieldS,fillV,fillS,AV.cells?,AV.upr,Sto.upr,setR,Sto.get,Sto.ins,Sto.kill,Sto.upd,AV.kill,AV.men,AV.mens,AV.mencs,AV.menc,Sto.mens,Sto.mencs,AV.one,D.one,Value.oneCell',tagOf,AV.isApp,strV,strS,bolV,bolS,slcV,AV.isSlD,optI,optS,asrtS,ifV,bsV,bsS,AV.dcells,D.cells?,AV.no,stcV,stcS,leafOk,eqDs,eqD,Sto.push,Sto.top,Sto.pull,packA,D.val?,D.vals?,beq_self_eq_true,if_true,if_false,ite_true,ite_false,Bool.false_eq_true,Bool.true_eq_false,if_true_left,↓reduceIte,reduceCtorEq,List.getElem?_cons_zero,List.getElem?_cons_succ,List.map_cons,List.map_nil,List.append_nil,List.nil_append,List.cons_append,List.length_cons,List.length_nil,Option.bind_some,Option.getD_some,Option.isSome_some,Option.map_some,true_and,and_true,and_self,true_implies,implies_true,Nat.reduceAdd,Nat.reduceSub,Nat.reduceMul,List.reduceReplicate,List.replicate_zero,List.toList_toArray,Nat.zero_add,Nat.add_zero,List.drop_succ_cons,List.drop_zero,List.take_succ_cons,List.take_zero,List.drop_nil,List.take_nil,Nat.reduceLeDiff,Nat.reduceLT,Nat.reduceBEq,Nat.reduceEqDiff,Int.reduceNeg,Bool.not_true,Bool.not_false,Bool.not_not,Int.reduceEq,Bool.not_eq_true',ne_eq,not_false_eq_true,List.all_cons,List.all_nil,Bool.and_true,Bool.true_and,Bool.and_self,Bool.if_false_right,Bool.if_true_left,Bool.decide_eq_true,Option.some.injEq,exists_eq_left',exists_eq_left,Int.reduceLE,Int.reduceLT,List.not_mem_nil,and_false,false_and,Bool.and_eq_true,decide_eq_true_eq,ite_self,or_true,true_or,or_false,false_or,not_true_eq_false,D.tup.injEq,List.cons.injEq,D.agg.injEq,D.sl.injEq,beq_iff_eq,bne_iff_ne,Bool.or_self,Bool.or_false,Bool.false_or,decide_true,decide_false,End.ret.injEq,D.v.injEq,Value.bool.injEq,Value.int.injEq,tfb,bi_add,bi_sub,bi_mul,bi_quo,bi_rem,bi_and,bi_or,bi_xor,bi_andNot,bi_shl,bi_shr,bi_eql,bi_neq,bi_lss,bi_leq,bi_gtr,bi_geq,ctz61,z61_57,ctz57,z57_68,ctz68,O68_1]
  rintro ⟨k, i, j⟩ hs
  simp only at hs
  by_cases hlt : i < j
  · have hlt' : (i : Int) < j := by omega
    have hn := hs.le.2
    have hd : ((i : Int) + j) / 2 = ((i + j) / 2 : Nat) := by omega
    have hh := half_u64 (i := i) (j := j) (by omega)
    have hm1 : (i + j) / 2 < l.length := by omega
    have hm2 : (((i + j) / 2 : Nat) : Int) < l.length := by omega
    have hm3 : (0 : Int) ≤ ((i + j) / 2 : Nat) := by omega
    by_cases hp : x ≤ l.getD ((i + j) / 2) default
    · have h1 := sea_yes hs hlt (decide_eq_true hp)
      simp (maxSteps := 4000000) +contextual (disch := first | omega | exact qdb_ok (by kernel_rfl) | exact okb_ok (by kernel_rfl)) only [bw1,bw2,bw3,bw4,bw5,bw6,bw7,zcell,setPs,sv,gif_true,gif_false,gif_eq,AV.frz,Sto.frz,updAll,AV.cpy,Sto.cpy,ifV,isEqB,nilV,nilX,cloV,AV.isNilS,AV.isNoRows,setAll,wk,wkG,AV.own.injEq,dclo,maskB,datOf,Option.any,List.isEmpty,Sto.hidn,binV,binS,binIs,unV,unVs,addF,AV.isPtr,idxV,AV.isSl,AV.isSlice,AV.rows,loadV,loadS,D.part,AV.part,ps,pv,extV,extS,cvI,resAll,resV,resS,AV.outs,outL,AV.outF,Option.map_none,packD,AV.mkAgg,AV.mkTup,AV.dl,fieldV,fieldS,fillV,fillS,AV.cells?,AV.upr,Sto.upr,setR,Sto.get,Sto.ins,Sto.kill,Sto.upd,AV.kill,AV.men,AV.mens,AV.mencs,AV.menc,Sto.mens,Sto.mencs,AV.one,D.one,Value.oneCell',tagOf,AV.isApp,strV,strS,bolV,bolS,slcV,AV.isSlD,optI,optS,asrtS,ifV,bsV,bsS,AV.dcells,D.cells?,AV.no,stcV,stcS,leafOk,eqDs,eqD,Sto.push,Sto.top,Sto.pull,packA,D.val?,D.vals?,beq_self_eq_true,if_true,if_false,ite_true,ite_false,Bool.false_eq_true,Bool.true_eq_false,if_true_left,↓reduceIte,reduceCtorEq,List.getElem?_cons_zero,List.getElem?_cons_succ,List.map_cons,List.map_nil,List.append_nil,List.nil_append,List.cons_append,List.length_cons,List.length_nil,Option.bind_some,Option.getD_some,Option.isSome_some,Option.map_some,true_and,and_true,and_self,true_implies,implies_true,Nat.reduceAdd,Nat.reduceSub,Nat.reduceMul,List.reduceReplicate,List.replicate_zero,List.toList_toArray,Nat.zero_add,Nat.add_zero,List.drop_succ_cons,List.drop_zero,List.take_succ_cons,List.take_zero,List.drop_nil,List.take_nil,Nat.reduceLeDiff,Nat.reduceLT,Nat.reduceBEq,Nat.reduceEqDiff,Int.reduceNeg,Bool.not_true,Bool.not_false,Bool.not_not,Int.reduceEq,Bool.not_eq_true',ne_eq,not_false_eq_true,List.all_cons,List.all_nil,Bool.and_true,Bool.true_and,Bool.and_self,Bool.if_false_right,Bool.if_true_left,Bool.decide_eq_true,Option.some.injEq,exists_eq_left',exists_eq_left,Int.reduceLE,Int.reduceLT,List.not_mem_nil,and_false,false_and,Bool.and_eq_true,decide_eq_true_eq,ite_self,or_true,true_or,or_false,false_or,not_true_eq_false,D.tup.injEq,List.cons.injEq,D.agg.injEq,D.sl.injEq,beq_iff_eq,bne_iff_ne,Bool.or_self,Bool.or_false,Bool.false_or,decide_true,decide_false,End.ret.injEq,D.v.injEq,Value.bool.injEq,Value.int.injEq,tfb,bi_add,bi_sub,bi_mul,bi_quo,bi_rem,bi_and,bi_or,bi_xor,bi_andNot,bi_shl,bi_shr,bi_eql,bi_neq,bi_lss,bi_leq,bi_gtr,bi_geq,ctz61,z61_57,ctz57,z57_68,ctz68,O68_1,eq_self, hlt', hh, hm1, hm2, hm3, hp]
      exact ⟨h1, by omega⟩
    · have h1 := sea_no hs hlt (decide_eq_false hp)
      simp (maxSteps := 4000000) +contextual (disch := first | omega | exact qdb_ok (by kernel_rfl) | exact okb_ok (by kernel_rfl)) only [bw1,bw2,bw3,bw4,bw5,bw6,bw7,zcell,setPs,sv,gif_true,gif_false,gif_eq,AV.frz,Sto.frz,updAll,AV.cpy,Sto.cpy,ifV,isEqB,nilV,nilX,cloV,AV.isNilS,AV.isNoRows,setAll,wk,wkG,AV.own.injEq,dclo,maskB,datOf,Option.any,List.isEmpty,Sto.hidn,binV,binS,binIs,unV,unVs,addF,AV.isPtr,idxV,AV.isSl,AV.isSlice,AV.rows,loadV,loadS,D.part,AV.part,ps,pv,extV,extS,cvI,resAll,resV,resS,AV.outs,outL,AV.outF,Option.map_none,packD,AV.mkAgg,AV.mkTup,AV.dl,fieldV,fieldS,fillV,fillS,AV.cells?,AV.upr,Sto.upr,setR,Sto.get,Sto.ins,Sto.kill,Sto.upd,AV.kill,AV.men,AV.mens,AV.mencs,AV.menc,Sto.mens,Sto.mencs,AV.one,D.one,Value.oneCell',tagOf,AV.isApp,strV,strS,bolV,bolS,slcV,AV.isSlD,optI,optS,asrtS,ifV,bsV,bsS,AV.dcells,D.cells?,AV.no,stcV,stcS,leafOk,eqDs,eqD,Sto.push,Sto.top,Sto.pull,packA,D.val?,D.vals?,beq_self_eq_true,if_true,if_false,ite_true,ite_false,Bool.false_eq_true,Bool.true_eq_false,if_true_left,↓reduceIte,reduceCtorEq,List.getElem?_cons_zero,List.getElem?_cons_succ,List.map_cons,List.map_nil,List.append_nil,List.nil_append,List.cons_append,List.length_cons,List.length_nil,Option.bind_some,Option.getD_some,Option.isSome_some,Option.map_some,true_and,and_true,and_self,true_implies,implies_true,Nat.reduceAdd,Nat.reduceSub,Nat.reduceMul,List.reduceReplicate,List.replicate_zero,List.toList_toArray,Nat.zero_add,Nat.add_zero,List.drop_succ_cons,List.drop_zero,List.take_succ_cons,List.take_zero,List.drop_nil,List.take_nil,Nat.reduceLeDiff,Nat.reduceLT,Nat.reduceBEq,Nat.reduceEqDiff,Int.reduceNeg,Bool.not_true,Bool.not_false,Bool.not_not,Int.reduceEq,Bool.not_eq_true',ne_eq,not_false_eq_true,List.all_cons,List.all_nil,Bool.and_true,Bool.true_and,Bool.and_self,Bool.if_false_right,Bool.if_true_left,Bool.decide_eq_true,Option.some.injEq,exists_eq_left',exists_eq_left,Int.reduceLE,Int.reduceLT,List.not_mem_nil,and_false,false_and,Bool.and_eq_true,decide_eq_true_eq,ite_self,or_true,true_or,or_false,false_or,not_true_eq_false,D.tup.injEq,List.cons.injEq,D.agg.injEq,D.sl.injEq,beq_iff_eq,bne_iff_ne,Bool.or_self,Bool.or_false,Bool.false_or,decide_true,decide_false,End.ret.injEq,D.v.injEq,Value.bool.injEq,Value.int.injEq,tfb,bi_add,bi_sub,bi_mul,bi_quo,bi_rem,bi_and,bi_or,bi_xor,bi_andNot,bi_shl,bi_shr,bi_eql,bi_neq,bi_lss,bi_leq,bi_gtr,bi_geq,ctz61,z61_57,ctz57,z57_68,ctz68,O68_1,eq_self, hlt', hh, hm1, hm2, hm3, hp]
      exact ⟨h1, by omega⟩
  · have hlt' : ¬ (i : Int) < j := by omega
    have hse := sea_end hs hlt
    simp (maxSteps := 4000000) +contextual (disch := first | omega | exact qdb_ok (by kernel_rfl) | exact okb_ok (by kernel_rfl)) only [bw1,bw2,bw3,bw4,bw5,bw6,bw7,zcell,setPs,sv,gif_true,gif_false,gif_eq,AV.frz,Sto.frz,updAll,AV.cpy,Sto.cpy,ifV,isEqB,nilV,nilX,cloV,AV.isNilS,AV.isNoRows,setAll,wk,wkG,AV.own.injEq,dclo,maskB,datOf,Option.any,List.isEmpty,Sto.hidn,binV,binS,binIs,unV,unVs,addF,AV.isPtr,idxV,AV.isSl,AV.isSlice,AV.rows,loadV,loadS,D.part,AV.part,ps,pv,extV,extS,cvI,resAll,resV,resS,AV.outs,outL,AV.outF,Option.map_none,packD,AV.mkAgg,AV.mkTup,AV.dl,fieldV,fieldS,fillV,fillS,AV.cells?,AV.upr,Sto.upr,setR,Sto.get,Sto.ins,Sto.kill,Sto.upd,AV.kill,AV.men,AV.mens,AV.mencs,AV.menc,Sto.mens,Sto.mencs,AV.one,D.one,Value.oneCell',tagOf,AV.isApp,strV,strS,bolV,bolS,slcV,AV.isSlD,optI,optS,asrtS,ifV,bsV,bsS,AV.dcells,D.cells?,AV.no,stcV,stcS,leafOk,eqDs,eqD,Sto.push,Sto.top,Sto.pull,packA,D.val?,D.vals?,beq_self_eq_true,if_true,if_false,ite_true,ite_false,Bool.false_eq_true,Bool.true_eq_false,if_true_left,↓reduceIte,reduceCtorEq,List.getElem?_cons_zero,List.getElem?_cons_succ,List.map_cons,List.map_nil,List.append_nil,List.nil_append,List.cons_append,List.length_cons,List.length_nil,Option.bind_some,Option.getD_some,Option.isSome_some,Option.map_some,true_and,and_true,and_self,true_implies,implies_true,Nat.reduceAdd,Nat.reduceSub,Nat.reduceMul,List.reduceReplicate,List.replicate_zero,List.toList_toArray,Nat.zero_add,Nat.add_zero,List.drop_succ_cons,List.drop_zero,List.take_succ_cons,List.take_zero,List.drop_nil,List.take_nil,Nat.reduceLeDiff,Nat.reduceLT,Nat.reduceBEq,Nat.reduceEqDiff,Int.reduceNeg,Bool.not_true,Bool.not_false,Bool.not_not,Int.reduceEq,Bool.not_eq_true',ne_eq,not_false_eq_true,List.all_cons,List.all_nil,Bool.and_true,Bool.true_and,Bool.and_self,Bool.if_false_right,Bool.if_true_left,Bool.decide_eq_true,Option.some.injEq,exists_eq_left',exists_eq_left,Int.reduceLE,Int.reduceLT,List.not_mem_nil,and_false,false_and,Bool.and_eq_true,decide_eq_true_eq,ite_self,or_true,true_or,or_false,false_or,not_true_eq_false,D.tup.injEq,List.cons.injEq,D.agg.injEq,D.sl.injEq,beq_iff_eq,bne_iff_ne,Bool.or_self,Bool.or_false,Bool.false_or,decide_true,decide_false,End.ret.injEq,D.v.injEq,Value.bool.injEq,Value.int.injEq,tfb,bi_add,bi_sub,bi_mul,bi_quo,bi_rem,bi_and,bi_or,bi_xor,bi_andNot,bi_shl,bi_shr,bi_eql,bi_neq,bi_lss,bi_leq,bi_gtr,bi_geq,ctz61,z61_57,ctz57,z57_68,ctz68,O68_1,eq_self, hlt']
    rw [hse]; rfl
def ent61 (args : List AV) (K : AV → List AV → Sto → Prop) (e : List AV) (s : Sto) : Prop := ent (α := (List Int) × (Int)) (fun aa => [.sl 1 (aa.1.map ic), .i aa.2]) (fun aa => aa.1.length ≤ 1000000) (fun aa => .i (srchI aa.1 aa.2)) args K e s
theorem ent61_ok {args : List AV} {K : AV → List AV → Sto → Prop} {Q : Kt} {e : List AV} {s : Sto} (h : ent61 args K e s) : pcall Try.prog 61 args K Q e s := ent_ok (fun aa h => pf61 aa.1 aa.2 h) h
theorem eq61 {l : List Int} {x : Int} {KK : AV → List AV → Sto → Prop} {ee : List AV} {ss : Sto} : ent61 [.d (.sl 1 (l.map ic)), .d (.i x)] KK ee ss = ((l.length ≤ 1000000) ∧ KK (.d (.i (srchI l x))) ee ss) := by
  unfold ent61; rw [ent_iff (l, x) (by intro b h; simpa [Prod.ext_iff, and_assoc, sen_inj, sens_inj, ints_inj] using h) rfl]; simp
theorem eqo61 {l : List Int} {x : Int} {g1 el1 : Nat} {KK : AV → List AV → Sto → Prop} {ee : List AV} {ss : Sto} : ent61 [.own g1 el1 1 (l.map ic), .d (.i x)] KK ee ss = ((l.length ≤ 1000000) ∧ (.i (srchI l x) : D).flat = true ∧ KK (.d (.i (srchI l x))) ee ss) := by
  unfold ent61; rw [ent_iff (l, x) (by intro b h; simpa [Prod.ext_iff, and_assoc, sen_inj, sens_inj, ints_inj] using h) rfl]; simp
end A1
end Go.Proofs.Ytkanibdihhlmgaa
