/- A part of the proof that the last text ends: what functions of the program do, told by plain data. -/
import Derived.Test.YtmkigohedfcomaaGJ
import Derived.Test.YtmkigohedfcomaaEb
set_option linter.unusedVariables false
set_option linter.unusedSimpArgs false
namespace Go.Proofs.Ytmkigohedfcomaa
open Go Go.E
set_option maxRecDepth 100000
set_option maxHeartbeats 8000000
/-! ### Sizes -/
def Sized (l : List Pair) : Prop := ∀ p ∈ l, 0 ≤ p.size ∧ p.size ≤ 60
theorem one_size {s : Shop} {l : List Pair} {x : Ev} : (one s l x).1.size = (l.getD x.pair.toNat default).size := by
  unfold one
  simp only
  repeat' split
  all_goals rfl
theorem doS_sized {s : Shop} {l : List Pair} {x : Ev} (hx : x.ok = true) (h : Sized l) : Sized (doS s l x).1 := by
  unfold doS
  split
  · rename_i hk
    split
    · exact h
    · have hn : 0 ≤ x.n ∧ x.n ≤ 60 := by
        unfold Ev.ok at hx; simp [hk] at hx; omega
      intro p hp
      rcases List.mem_append.1 hp with hp | hp
      · exact h p hp
      · obtain rfl := List.mem_singleton.1 hp; exact hn
  · split
    · exact h
    · rename_i hlt
      split
      · intro p hp
        rcases List.mem_or_eq_of_mem_set hp with hp | rfl
        · exact h p hp
        · rw [one_size]
          have hi : x.pair.toNat < l.length := by
            have : 0 ≤ x.pair := by have := Ev.bounds hx; omega
            omega
          have := h (l.getD x.pair.toNat default) (by rw [List.getD, List.getElem?_eq_getElem hi]; exact List.getElem_mem _)
          exact this
      · exact h
theorem go_sized {s : Shop} {l : List Ev} : ∀ k i out, Sized out → Sized (go s l k i out).1
  | 0, _, _, h => h
  | k + 1, i, out, h => by
    unfold go
    split
    · refine go_sized k (i + 1) _ ?_
      unfold stepE
      simp only
      split
      · exact h
      · rename_i hok
        split
        · exact h
        · exact doS_sized (by simpa using hok) h
    · intro p hp; cases hp
theorem play_sized {s : Shop} {l : List Ev} : Sized (play s l).1 := by
  unfold play
  split
  · intro p hp; cases hp
  · split
    · intro p hp; cases hp
    · exact go_sized _ _ _ (fun p hp => by cases hp)
/-! ### Wishes -/
def badW (n : Int) : Bool := !(decide (0 ≤ n) && decide (n ≤ 60))
def fb (l : List Int) : Nat → Nat → Int
  | _, 0 => -1
  | i, k + 1 => if badW (l.getD i default) = true then i else fb l (i + 1) k
theorem fb_pos {l : List Int} : ∀ k i, (0 ≤ fb l i k ↔ ∃ j, i ≤ j ∧ j < i + k ∧ badW (l.getD j default) = true)
  | 0, i => by simp [fb]; omega
  | k + 1, i => by
    unfold fb
    split
    · rename_i h; exact ⟨fun _ => ⟨i, by omega, by omega, h⟩, fun _ => by omega⟩
    · rename_i h
      rw [fb_pos k (i + 1)]
      constructor
      · rintro ⟨j, h1, h2, h3⟩; exact ⟨j, by omega, by omega, h3⟩
      · rintro ⟨j, h1, h2, h3⟩
        refine ⟨j, ?_, by omega, h3⟩
        rcases Nat.lt_or_ge i j with h4 | h4
        · omega
        · have : j = i := by omega
          subst this; exact absurd h3 h
def bads (l : List Int) : Int := fb l 0 l.length
theorem bads_no {l : List Int} (h : ¬ 0 ≤ bads l) : ∀ x ∈ l, 0 ≤ x ∧ x ≤ 60 := fun x hx => by
  obtain ⟨j, hj, rfl⟩ := List.getElem_of_mem hx
  by_cases hb : badW l[j] = true
  · exact absurd ((fb_pos l.length 0).2 ⟨j, by omega, by omega, by rw [List.getD, List.getElem?_eq_getElem hj]; exact hb⟩) h
  · unfold badW at hb; simp at hb; exact hb
def O28 : Nat → Sch := fun id => .done
theorem ho28 : Try.f28.body.map (okO O28) = some true := by kernel_rfl
def Cf28 : Nat → List AV → (AV → List AV → Sto → Prop) → Kt → List AV → Sto → Prop := fun f args K Q e s => match f with
  | 26 => ent26 args K e s
  | _ => False
def Ct28 : CT := { f := Cf28, y := noYld, z := fun d => false }
theorem ctz28 {d : Nat} : CT.z Ct28 d = (false) := id rfl
theorem Ct28_ok : Ct28.ok Try.prog := ok_of_f (fun f args K Q e s h => by
  have h : Cf28 f args K Q e s := h
  unfold Cf28 at h; split at h
  · exact ent26_ok h
  · exact h.elim) (fun _ _ _ _ _ _ _ _ _ h => h)
theorem x28_26 {n : Int} {lo : Int} {hi : Int} {KK : AV → List AV → Sto → Prop} {QQ : Kt} {ii : At KK} {jj : At QQ} {ee : List AV} {ss : Sto} : xC Ct28 26 [.d (.i n), .d (.i lo), .d (.i hi)] KK QQ ii jj ee ss = (KK (.d (.b (decide (lo ≤ n) && decide (n ≤ hi)))) ee ss) := eq26
theorem c28 : callable Try.prog 28 = true := by kernel_rfl
def O43 : Nat → Sch := fun id => .done
theorem ho43 : Try.f43.body.map (okO O43) = some true := by kernel_rfl
def Cf43 : Nat → List AV → (AV → List AV → Sto → Prop) → Kt → List AV → Sto → Prop := fun f args K Q e s => match f with
  | 28 => inlE Try.prog Ct28 O28 28000 28 args K Q e s
  | _ => False
def Ct43 : CT := { f := Cf43, y := noYld, z := fun d => false }
theorem ctz43 {d : Nat} : CT.z Ct43 d = (false) := id rfl
theorem Ct43_ok : Ct43.ok Try.prog := ok_of_f (fun f args K Q e s h => by
  have h : Cf43 f args K Q e s := h
  unfold Cf43 at h; split at h
  · exact inlE_ok Ct28_ok hmix ho28 h
  · exact h.elim) (fun _ _ _ _ _ _ _ _ _ h => h)
theorem z43_28 : type_of% (@xinl Try.prog Ct43 Ct28 O28 28000 28 _ _ _ _ rfl c28 Try.func28 rfl Try.ntmps28 Try.results28) := @xinl Try.prog Ct43 Ct28 O28 28000 28 _ _ _ _ rfl c28 Try.func28 rfl Try.ntmps28 Try.results28
theorem c43 : callable Try.prog 43 = true := by kernel_rfl
theorem pf43 (l : List Int) (h : l.length ≤ 1000) : PF Try.prog 43 [.sl 1 (l.map ic), .v (.func (.func 28) #[] #[])] (fun zz => zz = .ret (.i (bads l))) := by
  refine PF_nil (PF_start (O := O43) Ct43_ok hmix ho43 Try.func43 c43 rfl Try.ntmps43 Try.results43 ?_)
  simp (maxSteps := 4000000) +contextual (disch := first | omega | exact qdb_ok (by kernel_rfl) | exact okb_ok (by kernel_rfl)) only [bw1,bw2,bw3,bw4,bw5,bw6,bw7,zcell,setPs,sv,gif_true,gif_false,gif_eq,AV.frz,Sto.frz,updAll,AV.cpy,Sto.cpy,ifV,isEqB,nilV,nilX,cloV,AV.isNilS,AV.isNoRows,setAll,wk,wkG,AV.own.injEq,dclo,maskB,datOf,Option.any,List.isEmpty,Sto.hidn,binV,binS,binI,binIs,unV,unVs,addF,AV.isPtr,idxV,AV.isSl,AV.isSlice,AV.rows,loadV,loadS,D.part,AV.part,ps,pv,extV,extS,cvI,resAll,resV,resS,AV.outs,outL,AV.outF,Option.map_none,packD,AV.mkAgg,AV.mkTup,AV.dl,fieldV,fieldS,fillV,fillS,AV.cells?,AV.upr,Sto.upr,setR,Sto.get,Sto.ins,Sto.kill,Sto.upd,AV.kill,AV.men,AV.mens,AV.mencs,AV.menc,Sto.mens,Sto.mencs,AV.one,D.one,Value.oneCell',tagOf,AV.isApp,strV,strS,bolV,bolS,slcV,AV.isSlD,optI,optS,asrtS,ifV,bsV,bsS,AV.dcells,D.cells?,AV.no,stcV,stcS,leafOk,eqDs,eqD,Sto.push,Sto.top,Sto.pull,packA,D.val?,D.vals?,beq_self_eq_true,if_true,if_false,ite_true,ite_false,Bool.false_eq_true,Bool.true_eq_false,if_true_left,↓reduceIte,reduceCtorEq,List.getElem?_cons_zero,List.getElem?_cons_succ,List.map_cons,List.map_nil,List.append_nil,List.nil_append,List.cons_append,List.length_cons,List.length_nil,Option.bind_some,Option.getD_some,Option.isSome_some,Option.map_some,true_and,and_true,and_self,true_implies,implies_true,Nat.reduceAdd,Nat.reduceSub,Nat.reduceMul,List.reduceReplicate,List.replicate_zero,List.toList_toArray,Nat.zero_add,Nat.add_zero,List.drop_succ_cons,List.drop_zero,List.take_succ_cons,List.take_zero,List.drop_nil,List.take_nil,Nat.reduceLeDiff,Nat.reduceLT,Nat.reduceBEq,Nat.reduceEqDiff,Int.reduceNeg,Bool.not_true,Bool.not_false,Bool.not_not,Int.reduceEq,Bool.not_eq_true',ne_eq,not_false_eq_true,List.all_cons,List.all_nil,Bool.and_true,Bool.true_and,Bool.and_self,Bool.if_false_right,Bool.if_true_left,Bool.decide_eq_true,Option.some.injEq,exists_eq_left',exists_eq_left,Int.reduceLE,Int.reduceLT,List.not_mem_nil,and_false,false_and,Bool.and_eq_true,decide_eq_true_eq,ite_self,or_true,true_or,or_false,false_or,not_true_eq_false,D.tup.injEq,List.cons.injEq,D.agg.injEq,D.sl.injEq,beq_iff_eq,bne_iff_ne,Bool.or_self,Bool.or_false,Bool.false_or,decide_true,decide_false,End.ret.injEq,D.v.injEq,Value.bool.injEq,Value.int.injEq,tfb,mt97_61,mt99_63,mt101_69,mt102_70,mt103_71,ctz43,z43_28,ctz28,x28_26]
  refine loop_s (O := O43) (tb := 0) Ct43_ok hmix (by kernel_rfl) (σ := Nat) (fun i => [(8, .i i)]) (fun i => i ≤ l.length ∧ fb l i (l.length - i) = bads l) (fun i => l.length - i) (fun i => i + 1) 0 ⟨by omega, rfl⟩ ?_ ?_
  · simp (maxSteps := 4000000) +contextual (disch := first | omega | exact qdb_ok (by kernel_rfl) | exact okb_ok (by kernel_rfl)) only [bw1,bw2,bw3,bw4,bw5,bw6,bw7,zcell,setPs,sv,gif_true,gif_false,gif_eq,AV.frz,Sto.frz,updAll,AV.cpy,Sto.cpy,ifV,isEqB,nilV,nilX,cloV,AV.isNilS,AV.isNoRows,setAll,wk,wkG,AV.own.injEq,dclo,maskB,datOf,Option.any,List.isEmpty,Sto.hidn,binV,binS,binI,binIs,unV,unVs,addF,AV.isPtr,idxV,AV.isSl,AV.isSlice,AV.rows,loadV,loadS,D.part,AV.part,ps,pv,extV,extS,cvI,resAll,resV,resS,AV.outs,outL,AV.outF,Option.map_none,packD,AV.mkAgg,AV.mkTup,AV.dl,fieldV,fieldS,fillV,fillS,AV.cells?,AV.upr,Sto.upr,setR,Sto.get,Sto.ins,Sto.kill,Sto.upd,AV.kill,AV.men,AV.mens,AV.mencs,AV.menc,Sto.mens,Sto.mencs,AV.one,D.one,Value.oneCell',tagOf,AV.isApp,strV,strS,bolV,bolS,slcV,AV.isSlD,optI,optS,asrtS,ifV,bsV,bsS,AV.dcells,D.cells?,AV.no,stcV,stcS,leafOk,eqDs,eqD,Sto.push,Sto.top,Sto.pull,packA,D.val?,D.vals?,beq_self_eq_true,if_true,if_false,ite_true,ite_false,Bool.false_eq_true,Bool.true_eq_false,if_true_left,↓reduceIte,reduceCtorEq,List.getElem?_cons_zero,List.getElem?_cons_succ,List.map_cons,List.map_nil,List.append_nil,List.nil_append,List.cons_append,List.length_cons,List.length_nil,Option.bind_some,Option.getD_some,Option.isSome_some,Option.map_some,true_and,and_true,and_self,true_implies,implies_true,Nat.reduceAdd,Nat.reduceSub,Nat.reduceMul,List.reduceReplicate,List.replicate_zero,List.toList_toArray,Nat.zero_add,Nat.add_zero,List.drop_succ_cons,List.drop_zero,List.take_succ_cons,List.take_zero,List.drop_nil,List.take_nil,Nat.reduceLeDiff,Nat.reduceLT,Nat.reduceBEq,Nat.reduceEqDiff,Int.reduceNeg,Bool.not_true,Bool.not_false,Bool.not_not,Int.reduceEq,Bool.not_eq_true',ne_eq,not_false_eq_true,List.all_cons,List.all_nil,Bool.and_true,Bool.true_and,Bool.and_self,Bool.if_false_right,Bool.if_true_left,Bool.decide_eq_true,Option.some.injEq,exists_eq_left',exists_eq_left,Int.reduceLE,Int.reduceLT,List.not_mem_nil,and_false,false_and,Bool.and_eq_true,decide_eq_true_eq,ite_self,or_true,true_or,or_false,false_or,not_true_eq_false,D.tup.injEq,List.cons.injEq,D.agg.injEq,D.sl.injEq,beq_iff_eq,bne_iff_ne,Bool.or_self,Bool.or_false,Bool.false_or,decide_true,decide_false,End.ret.injEq,D.v.injEq,Value.bool.injEq,Value.int.injEq,tfb,mt97_61,mt99_63,mt101_69,mt102_70,mt103_71,ctz43,z43_28,ctz28,x28_26]
  rintro i ⟨hi, hf⟩
  by_cases hlt : i < l.length
  · have hlt' : (i : Int) < l.length := by omega
    rw [show l.length - i = (l.length - (i + 1)) + 1 by omega, fb] at hf
    simp (maxSteps := 4000000) +contextual (disch := first | omega | exact qdb_ok (by kernel_rfl) | exact okb_ok (by kernel_rfl)) only [bw1,bw2,bw3,bw4,bw5,bw6,bw7,zcell,setPs,sv,gif_true,gif_false,gif_eq,AV.frz,Sto.frz,updAll,AV.cpy,Sto.cpy,ifV,isEqB,nilV,nilX,cloV,AV.isNilS,AV.isNoRows,setAll,wk,wkG,AV.own.injEq,dclo,maskB,datOf,Option.any,List.isEmpty,Sto.hidn,binV,binS,binI,binIs,unV,unVs,addF,AV.isPtr,idxV,AV.isSl,AV.isSlice,AV.rows,loadV,loadS,D.part,AV.part,ps,pv,extV,extS,cvI,resAll,resV,resS,AV.outs,outL,AV.outF,Option.map_none,packD,AV.mkAgg,AV.mkTup,AV.dl,fieldV,fieldS,fillV,fillS,AV.cells?,AV.upr,Sto.upr,setR,Sto.get,Sto.ins,Sto.kill,Sto.upd,AV.kill,AV.men,AV.mens,AV.mencs,AV.menc,Sto.mens,Sto.mencs,AV.one,D.one,Value.oneCell',tagOf,AV.isApp,strV,strS,bolV,bolS,slcV,AV.isSlD,optI,optS,asrtS,ifV,bsV,bsS,AV.dcells,D.cells?,AV.no,stcV,stcS,leafOk,eqDs,eqD,Sto.push,Sto.top,Sto.pull,packA,D.val?,D.vals?,beq_self_eq_true,if_true,if_false,ite_true,ite_false,Bool.false_eq_true,Bool.true_eq_false,if_true_left,↓reduceIte,reduceCtorEq,List.getElem?_cons_zero,List.getElem?_cons_succ,List.map_cons,List.map_nil,List.append_nil,List.nil_append,List.cons_append,List.length_cons,List.length_nil,Option.bind_some,Option.getD_some,Option.isSome_some,Option.map_some,true_and,and_true,and_self,true_implies,implies_true,Nat.reduceAdd,Nat.reduceSub,Nat.reduceMul,List.reduceReplicate,List.replicate_zero,List.toList_toArray,Nat.zero_add,Nat.add_zero,List.drop_succ_cons,List.drop_zero,List.take_succ_cons,List.take_zero,List.drop_nil,List.take_nil,Nat.reduceLeDiff,Nat.reduceLT,Nat.reduceBEq,Nat.reduceEqDiff,Int.reduceNeg,Bool.not_true,Bool.not_false,Bool.not_not,Int.reduceEq,Bool.not_eq_true',ne_eq,not_false_eq_true,List.all_cons,List.all_nil,Bool.and_true,Bool.true_and,Bool.and_self,Bool.if_false_right,Bool.if_true_left,Bool.decide_eq_true,Option.some.injEq,exists_eq_left',exists_eq_left,Int.reduceLE,Int.reduceLT,List.not_mem_nil,and_false,false_and,Bool.and_eq_true,decide_eq_true_eq,ite_self,or_true,true_or,or_false,false_or,not_true_eq_false,D.tup.injEq,List.cons.injEq,D.agg.injEq,D.sl.injEq,beq_iff_eq,bne_iff_ne,Bool.or_self,Bool.or_false,Bool.false_or,decide_true,decide_false,End.ret.injEq,D.v.injEq,Value.bool.injEq,Value.int.injEq,tfb,mt97_61,mt99_63,mt101_69,mt102_70,mt103_71,ctz43,z43_28,ctz28,x28_26,hlt', Int.natCast_nonneg]
    unfold badW at hf
    split
    · rename_i hc
      rw [if_pos (by rw [hc]; rfl)] at hf
      exact hf
    · rename_i hc
      rw [if_neg (fun h' => hc (by simpa only [Bool.not_eq_true'] using h'))] at hf
      exact ⟨⟨hlt, hf⟩, by omega⟩
  · have hlt' : ¬ (i : Int) < l.length := by omega
    rw [show l.length - i = 0 by omega, fb] at hf
    simp (maxSteps := 4000000) +contextual (disch := first | omega | exact qdb_ok (by kernel_rfl) | exact okb_ok (by kernel_rfl)) only [bw1,bw2,bw3,bw4,bw5,bw6,bw7,zcell,setPs,sv,gif_true,gif_false,gif_eq,AV.frz,Sto.frz,updAll,AV.cpy,Sto.cpy,ifV,isEqB,nilV,nilX,cloV,AV.isNilS,AV.isNoRows,setAll,wk,wkG,AV.own.injEq,dclo,maskB,datOf,Option.any,List.isEmpty,Sto.hidn,binV,binS,binI,binIs,unV,unVs,addF,AV.isPtr,idxV,AV.isSl,AV.isSlice,AV.rows,loadV,loadS,D.part,AV.part,ps,pv,extV,extS,cvI,resAll,resV,resS,AV.outs,outL,AV.outF,Option.map_none,packD,AV.mkAgg,AV.mkTup,AV.dl,fieldV,fieldS,fillV,fillS,AV.cells?,AV.upr,Sto.upr,setR,Sto.get,Sto.ins,Sto.kill,Sto.upd,AV.kill,AV.men,AV.mens,AV.mencs,AV.menc,Sto.mens,Sto.mencs,AV.one,D.one,Value.oneCell',tagOf,AV.isApp,strV,strS,bolV,bolS,slcV,AV.isSlD,optI,optS,asrtS,ifV,bsV,bsS,AV.dcells,D.cells?,AV.no,stcV,stcS,leafOk,eqDs,eqD,Sto.push,Sto.top,Sto.pull,packA,D.val?,D.vals?,beq_self_eq_true,if_true,if_false,ite_true,ite_false,Bool.false_eq_true,Bool.true_eq_false,if_true_left,↓reduceIte,reduceCtorEq,List.getElem?_cons_zero,List.getElem?_cons_succ,List.map_cons,List.map_nil,List.append_nil,List.nil_append,List.cons_append,List.length_cons,List.length_nil,Option.bind_some,Option.getD_some,Option.isSome_some,Option.map_some,true_and,and_true,and_self,true_implies,implies_true,Nat.reduceAdd,Nat.reduceSub,Nat.reduceMul,List.reduceReplicate,List.replicate_zero,List.toList_toArray,Nat.zero_add,Nat.add_zero,List.drop_succ_cons,List.drop_zero,List.take_succ_cons,List.take_zero,List.drop_nil,List.take_nil,Nat.reduceLeDiff,Nat.reduceLT,Nat.reduceBEq,Nat.reduceEqDiff,Int.reduceNeg,Bool.not_true,Bool.not_false,Bool.not_not,Int.reduceEq,Bool.not_eq_true',ne_eq,not_false_eq_true,List.all_cons,List.all_nil,Bool.and_true,Bool.true_and,Bool.and_self,Bool.if_false_right,Bool.if_true_left,Bool.decide_eq_true,Option.some.injEq,exists_eq_left',exists_eq_left,Int.reduceLE,Int.reduceLT,List.not_mem_nil,and_false,false_and,Bool.and_eq_true,decide_eq_true_eq,ite_self,or_true,true_or,or_false,false_or,not_true_eq_false,D.tup.injEq,List.cons.injEq,D.agg.injEq,D.sl.injEq,beq_iff_eq,bne_iff_ne,Bool.or_self,Bool.or_false,Bool.false_or,decide_true,decide_false,End.ret.injEq,D.v.injEq,Value.bool.injEq,Value.int.injEq,tfb,mt97_61,mt99_63,mt101_69,mt102_70,mt103_71,ctz43,z43_28,ctz28,x28_26,hlt']
    exact hf
def ent43 (args : List AV) (K : AV → List AV → Sto → Prop) (e : List AV) (s : Sto) : Prop := ent (α := (List Int)) (fun aa => [.sl 1 (aa.map ic), .v (.func (.func 28) #[] #[])]) (fun aa => aa.length ≤ 1000) (fun aa => .i (bads aa)) args K e s
theorem ent43_ok {args : List AV} {K : AV → List AV → Sto → Prop} {Q : Kt} {e : List AV} {s : Sto} (h : ent43 args K e s) : pcall Try.prog 43 args K Q e s := ent_ok (fun aa h => pf43 aa h) h
theorem eq43 {l : List Int} {KK : AV → List AV → Sto → Prop} {ee : List AV} {ss : Sto} : ent43 [.d (.sl 1 (l.map ic)), .d (.v (.func (.func 28) #[] #[]))] KK ee ss = ((l.length ≤ 1000) ∧ KK (.d (.i (bads l))) ee ss) := by
  unfold ent43; rw [ent_iff l (by intro b h; simpa [Prod.ext_iff, and_assoc, shop_inj, ev_inj, pairs_inj, evs_inj, ints_inj] using h) rfl]; simp
theorem eqo43 {l : List Int} {g1 el1 : Nat} {KK : AV → List AV → Sto → Prop} {ee : List AV} {ss : Sto} : ent43 [.own g1 el1 1 (l.map ic), .d (.v (.func (.func 28) #[] #[]))] KK ee ss = ((l.length ≤ 1000) ∧ (.i (bads l) : D).flat = true ∧ KK (.d (.i (bads l))) ee ss) := by
  unfold ent43; rw [ent_iff l (by intro b h; simpa [Prod.ext_iff, and_assoc, shop_inj, ev_inj, pairs_inj, evs_inj, ints_inj] using h) rfl]; simp
def O29 : Nat → Sch := fun id => .done
theorem ho29 : Try.f29.body.map (okO O29) = some true := by kernel_rfl
def Cf29 : Nat → List AV → (AV → List AV → Sto → Prop) → Kt → List AV → Sto → Prop := fun f args K Q e s => match f with
  | 43 => ent43 args K e s
  | _ => False
def Ct29 : CT := { f := Cf29, y := noYld, z := fun d => false }
theorem ctz29 {d : Nat} : CT.z Ct29 d = (false) := id rfl
theorem Ct29_ok : Ct29.ok Try.prog := ok_of_f (fun f args K Q e s h => by
  have h : Cf29 f args K Q e s := h
  unfold Cf29 at h; split at h
  · exact ent43_ok h
  · exact h.elim) (fun _ _ _ _ _ _ _ _ _ h => h)
theorem x29_43 {l : List Int} {KK : AV → List AV → Sto → Prop} {QQ : Kt} {ii : At KK} {jj : At QQ} {ee : List AV} {ss : Sto} : xC Ct29 43 [.d (.sl 1 (l.map ic)), .d (.v (.func (.func 28) #[] #[]))] KK QQ ii jj ee ss = ((l.length ≤ 1000) ∧ KK (.d (.i (bads l))) ee ss) := eq43
theorem x29_43_m1 {l : List Int} {g1 el1 : Nat} {KK : AV → List AV → Sto → Prop} {QQ : Kt} {ii : At KK} {jj : At QQ} {ee : List AV} {ss : Sto} : xC Ct29 43 [.own g1 el1 1 (l.map ic), .d (.v (.func (.func 28) #[] #[]))] KK QQ ii jj ee ss = ((l.length ≤ 1000) ∧ (.i (bads l) : D).flat = true ∧ KK (.d (.i (bads l))) ee ss) := eqo43
theorem c29 : callable Try.prog 29 = true := by kernel_rfl
theorem pf29 (l : List Int) (h : l.length ≤ 1000) : PF Try.prog 29 [.sl 1 (l.map ic), .v (.func (.func 28) #[] #[])] (fun zz => zz = .ret (.b (decide (0 ≤ bads l)))) := by
  refine PF_nil (PF_start (O := O29) Ct29_ok hmix ho29 Try.func29 c29 rfl Try.ntmps29 Try.results29 ?_)
  simp (maxSteps := 4000000) +contextual (disch := first | omega | exact qdb_ok (by kernel_rfl) | exact okb_ok (by kernel_rfl)) only [bw1,bw2,bw3,bw4,bw5,bw6,bw7,zcell,setPs,sv,gif_true,gif_false,gif_eq,AV.frz,Sto.frz,updAll,AV.cpy,Sto.cpy,ifV,isEqB,nilV,nilX,cloV,AV.isNilS,AV.isNoRows,setAll,wk,wkG,AV.own.injEq,dclo,maskB,datOf,Option.any,List.isEmpty,Sto.hidn,binV,binS,binI,binIs,unV,unVs,addF,AV.isPtr,idxV,AV.isSl,AV.isSlice,AV.rows,loadV,loadS,D.part,AV.part,ps,pv,extV,extS,cvI,resAll,resV,resS,AV.outs,outL,AV.outF,Option.map_none,packD,AV.mkAgg,AV.mkTup,AV.dl,fieldV,fieldS,fillV,fillS,AV.cells?,AV.upr,Sto.upr,setR,Sto.get,Sto.ins,Sto.kill,Sto.upd,AV.kill,AV.men,AV.mens,AV.mencs,AV.menc,Sto.mens,Sto.mencs,AV.one,D.one,Value.oneCell',tagOf,AV.isApp,strV,strS,bolV,bolS,slcV,AV.isSlD,optI,optS,asrtS,ifV,bsV,bsS,AV.dcells,D.cells?,AV.no,stcV,stcS,leafOk,eqDs,eqD,Sto.push,Sto.top,Sto.pull,packA,D.val?,D.vals?,beq_self_eq_true,if_true,if_false,ite_true,ite_false,Bool.false_eq_true,Bool.true_eq_false,if_true_left,↓reduceIte,reduceCtorEq,List.getElem?_cons_zero,List.getElem?_cons_succ,List.map_cons,List.map_nil,List.append_nil,List.nil_append,List.cons_append,List.length_cons,List.length_nil,Option.bind_some,Option.getD_some,Option.isSome_some,Option.map_some,true_and,and_true,and_self,true_implies,implies_true,Nat.reduceAdd,Nat.reduceSub,Nat.reduceMul,List.reduceReplicate,List.replicate_zero,List.toList_toArray,Nat.zero_add,Nat.add_zero,List.drop_succ_cons,List.drop_zero,List.take_succ_cons,List.take_zero,List.drop_nil,List.take_nil,Nat.reduceLeDiff,Nat.reduceLT,Nat.reduceBEq,Nat.reduceEqDiff,Int.reduceNeg,Bool.not_true,Bool.not_false,Bool.not_not,Int.reduceEq,Bool.not_eq_true',ne_eq,not_false_eq_true,List.all_cons,List.all_nil,Bool.and_true,Bool.true_and,Bool.and_self,Bool.if_false_right,Bool.if_true_left,Bool.decide_eq_true,Option.some.injEq,exists_eq_left',exists_eq_left,Int.reduceLE,Int.reduceLT,List.not_mem_nil,and_false,false_and,Bool.and_eq_true,decide_eq_true_eq,ite_self,or_true,true_or,or_false,false_or,not_true_eq_false,D.tup.injEq,List.cons.injEq,D.agg.injEq,D.sl.injEq,beq_iff_eq,bne_iff_ne,Bool.or_self,Bool.or_false,Bool.false_or,decide_true,decide_false,End.ret.injEq,D.v.injEq,Value.bool.injEq,Value.int.injEq,tfb,mt97_61,mt99_63,mt101_69,mt102_70,mt103_71,ctz29,x29_43,x29_43_m1]
  exact h
def ent29 (args : List AV) (K : AV → List AV → Sto → Prop) (e : List AV) (s : Sto) : Prop := ent (α := (List Int)) (fun aa => [.sl 1 (aa.map ic), .v (.func (.func 28) #[] #[])]) (fun aa => aa.length ≤ 1000) (fun aa => .b (decide (0 ≤ bads aa))) args K e s
theorem ent29_ok {args : List AV} {K : AV → List AV → Sto → Prop} {Q : Kt} {e : List AV} {s : Sto} (h : ent29 args K e s) : pcall Try.prog 29 args K Q e s := ent_ok (fun aa h => pf29 aa h) h
theorem eq29 {l : List Int} {KK : AV → List AV → Sto → Prop} {ee : List AV} {ss : Sto} : ent29 [.d (.sl 1 (l.map ic)), .d (.v (.func (.func 28) #[] #[]))] KK ee ss = ((l.length ≤ 1000) ∧ KK (.d (.b (decide (0 ≤ bads l)))) ee ss) := by
  unfold ent29; rw [ent_iff l (by intro b h; simpa [Prod.ext_iff, and_assoc, shop_inj, ev_inj, pairs_inj, evs_inj, ints_inj] using h) rfl]; simp
theorem eqo29 {l : List Int} {g1 el1 : Nat} {KK : AV → List AV → Sto → Prop} {ee : List AV} {ss : Sto} : ent29 [.own g1 el1 1 (l.map ic), .d (.v (.func (.func 28) #[] #[]))] KK ee ss = ((l.length ≤ 1000) ∧ (.b (decide (0 ≤ bads l)) : D).flat = true ∧ KK (.d (.b (decide (0 ≤ bads l)))) ee ss) := by
  unfold ent29; rw [ent_iff l (by intro b h; simpa [Prod.ext_iff, and_assoc, shop_inj, ev_inj, pairs_inj, evs_inj, ints_inj] using h) rfl]; simp
end Go.Proofs.Ytmkigohedfcomaa
