/- A part of the proof that the last text ends: what functions of the program do, told by plain data. -/
import Derived.Test.YtmkigohedfcomaaGE
set_option linter.unusedVariables false
set_option linter.unusedSimpArgs false
namespace Go.Proofs.Ytmkigohedfcomaa
open Go Go.E
set_option maxRecDepth 100000
theorem one_good {s : Shop} {l : List Pair} {x : Ev} (h : Pre s l x) (hx : x.pair < l.length) : (one s l x).1.fit ∧ (one s l x).1.since ≤ x.time := by
  obtain ⟨hok, hev, hlen, hfit, htime⟩ := h
  obtain ⟨e1, e2, e3, e4, e5, e6, e7, e8⟩ := Ev.bounds hev
  obtain ⟨b1, b2, b3, b4, b5, b6, b7, b8, b9, b10, b11⟩ := Shop.bounds hok
  have hm : l.getD x.pair.toNat default ∈ l := by rw [at_lt (by omega)]; exact List.getElem_mem _
  have hf := hfit _ hm
  have ht := htime _ hm
  obtain ⟨t1, t2⟩ := hours_bounds hf.si0 ht e2
  obtain ⟨m1, m2⟩ := mul_b t1 t2 (show 0 ≤ s.hi by omega) (by omega)
  obtain ⟨m3, m4⟩ := mul_b t1 t2 (show 0 ≤ s.lo by omega) (by omega)
  unfold one
  generalize l.getD x.pair.toNat default = p at *
  simp only
  have hp := hf
  obtain ⟨p1, p2, p3, p4, p5, p6, p7, p8, p9, p10⟩ := hf
  repeat' split
  all_goals first
    | exact ⟨hp, ht⟩
    | (refine ⟨⟨?_, ?_, ?_, ?_, ?_, ?_, ?_, ?_, ?_, ?_⟩, ?_⟩ <;> simp only <;> omega)
theorem doS_good {s : Shop} {l : List Pair} {x : Ev} (h : Pre s l x) (h0 : (doS s l x).2 = 0) : (doS s l x).1.length ≤ 64 ∧ ∀ p ∈ (doS s l x).1, p.fit ∧ p.since ≤ x.time := by
  have h' := h
  obtain ⟨hok, hev, hlen, hfit, htime⟩ := h
  obtain ⟨e1, e2, e3, e4, e5, e6, e7, e8⟩ := Ev.bounds hev
  obtain ⟨b1, b2, b3, b4, b5, b6, b7, b8, b9, b10, b11⟩ := Shop.bounds hok
  unfold doS at h0 ⊢
  split at h0
  · rename_i k
    rw [if_pos k]
    split at h0
    · cases h0
    · rename_i hl
      rw [if_neg hl]
      refine ⟨by simp; omega, fun p hp => ?_⟩
      rcases List.mem_append.1 hp with hp | hp
      · exact ⟨hfit p hp, htime p hp⟩
      · obtain rfl := List.mem_singleton.1 hp
        refine ⟨⟨?_, ?_, ?_, ?_, ?_, ?_, ?_, ?_, ?_, ?_⟩, ?_⟩ <;> simp only <;> omega
  · rename_i k
    rw [if_neg k]
    split at h0
    · cases h0
    · rename_i hl
      rw [if_neg hl]
      split at h0
      · rename_i he
        rw [if_pos he]
        refine ⟨by simp; omega, fun p hp => ?_⟩
        rcases List.mem_or_eq_of_mem_set hp with hp | rfl
        · exact ⟨hfit p hp, htime p hp⟩
        · exact one_good h' (by omega)
      · rename_i he
        exact absurd h0 he
/-- One event, behind the events ahead of it. -/
def stepE (s : Shop) (l : List Ev) (i : Nat) (out : List Pair) : List Pair × Int :=
  let x := l.getD i default
  if x.ok = false then (out, 1) else if 0 < i ∧ x.time < (l.getD (i - 1) default).time then (out, 7) else doS s out x
def go (s : Shop) (l : List Ev) : Nat → Nat → List Pair → List Pair × Int × Int
  | 0, i, out => (out, i, 0)
  | k + 1, i, out => if (stepE s l i out).2 = 0 then go s l k (i + 1) (stepE s l i out).1 else ([], i, (stepE s l i out).2)
def play (s : Shop) (l : List Ev) : List Pair × Int × Int :=
  if s.ok = false then ([], 0, 1) else if 256 < l.length then ([], 0, 3) else go s l l.length 0 []
/-- What holds ahead of event i. -/
structure Good (l : List Ev) (i : Nat) (out : List Pair) : Prop where
  len : out.length ≤ 64
  fit : ∀ p ∈ out, p.fit
  time : ∀ p ∈ out, p.since ≤ (l.getD (i - 1) default).time
  none : i = 0 → out = []
theorem good_pre {s : Shop} {l : List Ev} {i : Nat} {out : List Pair} (hok : s.ok = true) (h : Good l i out) (hx : (l.getD i default).ok = true) (ht : ¬ (0 < i ∧ (l.getD i default).time < (l.getD (i - 1) default).time)) : Pre s out (l.getD i default) :=
  ⟨hok, hx, h.len, h.fit, fun p hp => by
    by_cases h0 : i = 0
    · rw [h.none h0] at hp; cases hp
    · have := h.time p hp; omega⟩
theorem good_step {s : Shop} {l : List Ev} {i : Nat} {out : List Pair} (hok : s.ok = true) (h : Good l i out) (hs : (stepE s l i out).2 = 0) : Good l (i + 1) (stepE s l i out).1 := by
  unfold stepE at hs ⊢
  simp only at hs ⊢
  split at hs
  · cases hs
  · rename_i hx
    rw [if_neg hx]
    split at hs
    · cases hs
    · rename_i ht
      rw [if_neg ht]
      obtain ⟨h1, h2⟩ := doS_good (good_pre hok h (by simpa using hx) ht) hs
      exact ⟨h1, fun p hp => (h2 p hp).1, fun p hp => (h2 p hp).2, fun h => by omega⟩
theorem go_at {s : Shop} {l : List Ev} {i : Nat} {out : List Pair} (h : i < l.length) : go s l (l.length - i) i out = if (stepE s l i out).2 = 0 then go s l (l.length - (i + 1)) (i + 1) (stepE s l i out).1 else ([], i, (stepE s l i out).2) := by
  rw [show l.length - i = (l.length - (i + 1)) + 1 by omega, go]
theorem go_end {s : Shop} {l : List Ev} {i : Nat} {out : List Pair} (h : l.length = i) : go s l (l.length - i) i out = (out, (i : Int), 0) := by
  rw [h, Nat.sub_self, go]
def O11 : Nat → Sch := fun id => if id = 11 then .one 0 (.one 1 (.one 2 (.one 3 (.one 4 (.one 5 (.one 6 (.one 7 (.one 8 (.one 9 (.one 10 (.one 11 (.one 12 (.one 13 (.one 14 (.one 15 (.done)))))))))))))))) else if id = 13 then .one 0 (.one 1 (.one 2 (.one 3 (.one 4 (.one 5 (.one 6 (.one 7 (.one 8 (.one 9 (.one 10 (.one 11 (.done)))))))))))) else .done
theorem O11_11 : O11 11 = .one 0 (.one 1 (.one 2 (.one 3 (.one 4 (.one 5 (.one 6 (.one 7 (.one 8 (.one 9 (.one 10 (.one 11 (.one 12 (.one 13 (.one 14 (.one 15 (.done)))))))))))))))) := rfl
theorem O11_13 : O11 13 = .one 0 (.one 1 (.one 2 (.one 3 (.one 4 (.one 5 (.one 6 (.one 7 (.one 8 (.one 9 (.one 10 (.one 11 (.done)))))))))))) := rfl
theorem ho11 : Try.f11.body.map (okO O11) = some true := by kernel_rfl
def Cf11 : Nat → List AV → (AV → List AV → Sto → Prop) → Kt → List AV → Sto → Prop := fun f args K Q e s => match f with
  | 18 => ent18 args K e s
  | 23 => ent23 args K e s
  | 24 => ent24 args K e s
  | _ => False
def Ct11 : CT := { f := Cf11, y := noYld, z := fun d => false }
theorem ctz11 {d : Nat} : CT.z Ct11 d = (false) := id rfl
theorem Ct11_ok : Ct11.ok Try.prog := ok_of_f (fun f args K Q e s h => by
  have h : Cf11 f args K Q e s := h
  unfold Cf11 at h; split at h
  · exact ent18_ok h
  · exact ent23_ok h
  · exact ent24_ok h
  · exact h.elim) (fun _ _ _ _ _ _ _ _ _ h => h)
theorem x11_18 {s : Shop} {KK : AV → List AV → Sto → Prop} {QQ : Kt} {ii : At KK} {jj : At QQ} {ee : List AV} {ss : Sto} : xC Ct11 18 [.d (s.d)] KK QQ ii jj ee ss = (KK (.d (.b s.ok)) ee ss) := eq18
theorem x11_23 {x : Ev} {KK : AV → List AV → Sto → Prop} {QQ : Kt} {ii : At KK} {jj : At QQ} {ee : List AV} {ss : Sto} : xC Ct11 23 [.d (.agg x.c)] KK QQ ii jj ee ss = (KK (.d (.b x.ok)) ee ss) := eq23
theorem x11_24 {s : Shop} {l : List Pair} {x : Ev} {KK : AV → List AV → Sto → Prop} {QQ : Kt} {ii : At KK} {jj : At QQ} {ee : List AV} {ss : Sto} : xC Ct11 24 [.d (s.d), .d (.sl 7 (l.map Pair.c)), .d (.agg x.c)] KK QQ ii jj ee ss = ((Pre s l x) ∧ KK (.d (.tup [.sl 7 ((doS s l x).1.map Pair.c), .i (doS s l x).2])) ee ss) := eq24
theorem x11_24_m1 {s : Shop} {l : List Pair} {x : Ev} {g1 el1 : Nat} {KK : AV → List AV → Sto → Prop} {QQ : Kt} {ii : At KK} {jj : At QQ} {ee : List AV} {ss : Sto} : xC Ct11 24 [.d (s.d), .own g1 el1 7 (l.map Pair.c), .d (.agg x.c)] KK QQ ii jj ee ss = ((Pre s l x) ∧ (.tup [.sl 7 ((doS s l x).1.map Pair.c), .i (doS s l x).2] : D).flat = true ∧ KK (.d (.tup [.sl 7 ((doS s l x).1.map Pair.c), .i (doS s l x).2])) ee ss) := eqo24
theorem c11 : callable Try.prog 11 = true := by kernel_rfl
theorem pf11 (s : Shop) (l : List Ev) : PF Try.prog 11 [s.d, .sl 4 (l.map Ev.c)] (fun zz => zz = .ret (.tup [.sl 7 ((play s l).1.map Pair.c), .i (play s l).2.1, .i (play s l).2.2])) := by
  by_cases hok : s.ok = true
  case neg =>
    have hok : s.ok = false := by simpa using hok
    refine PF_nil (PF_start (O := O11) Ct11_ok hmix ho11 Try.func11 c11 rfl Try.ntmps11 Try.results11 ?_)
    simp (maxSteps := 4000000) +contextual (disch := first | omega | exact qdb_ok (by kernel_rfl) | exact okb_ok (by kernel_rfl)) only [bw1,bw2,bw3,bw4,bw5,bw6,bw7,zcell,setPs,sv,gif_true,gif_false,gif_eq,AV.frz,Sto.frz,updAll,AV.cpy,Sto.cpy,ifV,isEqB,nilV,nilX,cloV,AV.isNilS,AV.isNoRows,setAll,wk,wkG,AV.own.injEq,dclo,maskB,datOf,Option.any,List.isEmpty,Sto.hidn,binV,binS,binI,binIs,unV,unVs,addF,AV.isPtr,idxV,AV.isSl,AV.isSlice,AV.rows,loadV,loadS,D.part,AV.part,ps,pv,extV,extS,cvI,resAll,resV,resS,AV.outs,outL,AV.outF,Option.map_none,packD,AV.mkAgg,AV.mkTup,AV.dl,fieldV,fieldS,fillV,fillS,AV.cells?,AV.upr,Sto.upr,setR,Sto.get,Sto.ins,Sto.kill,Sto.upd,AV.kill,AV.men,AV.mens,AV.mencs,AV.menc,Sto.mens,Sto.mencs,AV.one,D.one,Value.oneCell',tagOf,AV.isApp,strV,strS,bolV,bolS,slcV,AV.isSlD,optI,optS,asrtS,ifV,bsV,bsS,AV.dcells,D.cells?,AV.no,stcV,stcS,leafOk,eqDs,eqD,Sto.push,Sto.top,Sto.pull,packA,D.val?,D.vals?,beq_self_eq_true,if_true,if_false,ite_true,ite_false,Bool.false_eq_true,Bool.true_eq_false,if_true_left,↓reduceIte,reduceCtorEq,List.getElem?_cons_zero,List.getElem?_cons_succ,List.map_cons,List.map_nil,List.append_nil,List.nil_append,List.cons_append,List.length_cons,List.length_nil,Option.bind_some,Option.getD_some,Option.isSome_some,Option.map_some,true_and,and_true,and_self,true_implies,implies_true,Nat.reduceAdd,Nat.reduceSub,Nat.reduceMul,List.reduceReplicate,List.replicate_zero,List.toList_toArray,Nat.zero_add,Nat.add_zero,List.drop_succ_cons,List.drop_zero,List.take_succ_cons,List.take_zero,List.drop_nil,List.take_nil,Nat.reduceLeDiff,Nat.reduceLT,Nat.reduceBEq,Nat.reduceEqDiff,Int.reduceNeg,Bool.not_true,Bool.not_false,Bool.not_not,Int.reduceEq,Bool.not_eq_true',ne_eq,not_false_eq_true,List.all_cons,List.all_nil,Bool.and_true,Bool.true_and,Bool.and_self,Bool.if_false_right,Bool.if_true_left,Bool.decide_eq_true,Option.some.injEq,exists_eq_left',exists_eq_left,Int.reduceLE,Int.reduceLT,List.not_mem_nil,and_false,false_and,Bool.and_eq_true,decide_eq_true_eq,ite_self,or_true,true_or,or_false,false_or,not_true_eq_false,D.tup.injEq,List.cons.injEq,D.agg.injEq,D.sl.injEq,beq_iff_eq,bne_iff_ne,Bool.or_self,Bool.or_false,Bool.false_or,decide_true,decide_false,End.ret.injEq,D.v.injEq,Value.bool.injEq,Value.int.injEq,tfb,mt97_61,mt99_63,mt101_69,mt102_70,mt103_71,ctz11,O11_11,O11_13,x11_18,x11_23,x11_24,x11_24_m1,hok]
    simp [play, hok]
  by_cases hl : l.length ≤ 256
  case neg =>
    have hl' : (256 : Int) < l.length := by omega
    refine PF_nil (PF_start (O := O11) Ct11_ok hmix ho11 Try.func11 c11 rfl Try.ntmps11 Try.results11 ?_)
    simp (maxSteps := 4000000) +contextual (disch := first | omega | exact qdb_ok (by kernel_rfl) | exact okb_ok (by kernel_rfl)) only [bw1,bw2,bw3,bw4,bw5,bw6,bw7,zcell,setPs,sv,gif_true,gif_false,gif_eq,AV.frz,Sto.frz,updAll,AV.cpy,Sto.cpy,ifV,isEqB,nilV,nilX,cloV,AV.isNilS,AV.isNoRows,setAll,wk,wkG,AV.own.injEq,dclo,maskB,datOf,Option.any,List.isEmpty,Sto.hidn,binV,binS,binI,binIs,unV,unVs,addF,AV.isPtr,idxV,AV.isSl,AV.isSlice,AV.rows,loadV,loadS,D.part,AV.part,ps,pv,extV,extS,cvI,resAll,resV,resS,AV.outs,outL,AV.outF,Option.map_none,packD,AV.mkAgg,AV.mkTup,AV.dl,fieldV,fieldS,fillV,fillS,AV.cells?,AV.upr,Sto.upr,setR,Sto.get,Sto.ins,Sto.kill,Sto.upd,AV.kill,AV.men,AV.mens,AV.mencs,AV.menc,Sto.mens,Sto.mencs,AV.one,D.one,Value.oneCell',tagOf,AV.isApp,strV,strS,bolV,bolS,slcV,AV.isSlD,optI,optS,asrtS,ifV,bsV,bsS,AV.dcells,D.cells?,AV.no,stcV,stcS,leafOk,eqDs,eqD,Sto.push,Sto.top,Sto.pull,packA,D.val?,D.vals?,beq_self_eq_true,if_true,if_false,ite_true,ite_false,Bool.false_eq_true,Bool.true_eq_false,if_true_left,↓reduceIte,reduceCtorEq,List.getElem?_cons_zero,List.getElem?_cons_succ,List.map_cons,List.map_nil,List.append_nil,List.nil_append,List.cons_append,List.length_cons,List.length_nil,Option.bind_some,Option.getD_some,Option.isSome_some,Option.map_some,true_and,and_true,and_self,true_implies,implies_true,Nat.reduceAdd,Nat.reduceSub,Nat.reduceMul,List.reduceReplicate,List.replicate_zero,List.toList_toArray,Nat.zero_add,Nat.add_zero,List.drop_succ_cons,List.drop_zero,List.take_succ_cons,List.take_zero,List.drop_nil,List.take_nil,Nat.reduceLeDiff,Nat.reduceLT,Nat.reduceBEq,Nat.reduceEqDiff,Int.reduceNeg,Bool.not_true,Bool.not_false,Bool.not_not,Int.reduceEq,Bool.not_eq_true',ne_eq,not_false_eq_true,List.all_cons,List.all_nil,Bool.and_true,Bool.true_and,Bool.and_self,Bool.if_false_right,Bool.if_true_left,Bool.decide_eq_true,Option.some.injEq,exists_eq_left',exists_eq_left,Int.reduceLE,Int.reduceLT,List.not_mem_nil,and_false,false_and,Bool.and_eq_true,decide_eq_true_eq,ite_self,or_true,true_or,or_false,false_or,not_true_eq_false,D.tup.injEq,List.cons.injEq,D.agg.injEq,D.sl.injEq,beq_iff_eq,bne_iff_ne,Bool.or_self,Bool.or_false,Bool.false_or,decide_true,decide_false,End.ret.injEq,D.v.injEq,Value.bool.injEq,Value.int.injEq,tfb,mt97_61,mt99_63,mt101_69,mt102_70,mt103_71,ctz11,O11_11,O11_13,x11_18,x11_23,x11_24,x11_24_m1,hok, hl']
    simp [play, hok, show 256 < l.length by omega]
  have hl' : ¬ (256 : Int) < l.length := by omega
  refine PF_nil (PF_start (O := O11) Ct11_ok hmix ho11 Try.func11 c11 rfl Try.ntmps11 Try.results11 ?_)
  simp (maxSteps := 4000000) +contextual (disch := first | omega | exact qdb_ok (by kernel_rfl) | exact okb_ok (by kernel_rfl)) only [bw1,bw2,bw3,bw4,bw5,bw6,bw7,zcell,setPs,sv,gif_true,gif_false,gif_eq,AV.frz,Sto.frz,updAll,AV.cpy,Sto.cpy,ifV,isEqB,nilV,nilX,cloV,AV.isNilS,AV.isNoRows,setAll,wk,wkG,AV.own.injEq,dclo,maskB,datOf,Option.any,List.isEmpty,Sto.hidn,binV,binS,binI,binIs,unV,unVs,addF,AV.isPtr,idxV,AV.isSl,AV.isSlice,AV.rows,loadV,loadS,D.part,AV.part,ps,pv,extV,extS,cvI,resAll,resV,resS,AV.outs,outL,AV.outF,Option.map_none,packD,AV.mkAgg,AV.mkTup,AV.dl,fieldV,fieldS,fillV,fillS,AV.cells?,AV.upr,Sto.upr,setR,Sto.get,Sto.ins,Sto.kill,Sto.upd,AV.kill,AV.men,AV.mens,AV.mencs,AV.menc,Sto.mens,Sto.mencs,AV.one,D.one,Value.oneCell',tagOf,AV.isApp,strV,strS,bolV,bolS,slcV,AV.isSlD,optI,optS,asrtS,ifV,bsV,bsS,AV.dcells,D.cells?,AV.no,stcV,stcS,leafOk,eqDs,eqD,Sto.push,Sto.top,Sto.pull,packA,D.val?,D.vals?,beq_self_eq_true,if_true,if_false,ite_true,ite_false,Bool.false_eq_true,Bool.true_eq_false,if_true_left,↓reduceIte,reduceCtorEq,List.getElem?_cons_zero,List.getElem?_cons_succ,List.map_cons,List.map_nil,List.append_nil,List.nil_append,List.cons_append,List.length_cons,List.length_nil,Option.bind_some,Option.getD_some,Option.isSome_some,Option.map_some,true_and,and_true,and_self,true_implies,implies_true,Nat.reduceAdd,Nat.reduceSub,Nat.reduceMul,List.reduceReplicate,List.replicate_zero,List.toList_toArray,Nat.zero_add,Nat.add_zero,List.drop_succ_cons,List.drop_zero,List.take_succ_cons,List.take_zero,List.drop_nil,List.take_nil,Nat.reduceLeDiff,Nat.reduceLT,Nat.reduceBEq,Nat.reduceEqDiff,Int.reduceNeg,Bool.not_true,Bool.not_false,Bool.not_not,Int.reduceEq,Bool.not_eq_true',ne_eq,not_false_eq_true,List.all_cons,List.all_nil,Bool.and_true,Bool.true_and,Bool.and_self,Bool.if_false_right,Bool.if_true_left,Bool.decide_eq_true,Option.some.injEq,exists_eq_left',exists_eq_left,Int.reduceLE,Int.reduceLT,List.not_mem_nil,and_false,false_and,Bool.and_eq_true,decide_eq_true_eq,ite_self,or_true,true_or,or_false,false_or,not_true_eq_false,D.tup.injEq,List.cons.injEq,D.agg.injEq,D.sl.injEq,beq_iff_eq,bne_iff_ne,Bool.or_self,Bool.or_false,Bool.false_or,decide_true,decide_false,End.ret.injEq,D.v.injEq,Value.bool.injEq,Value.int.injEq,tfb,mt97_61,mt99_63,mt101_69,mt102_70,mt103_71,ctz11,O11_11,O11_13,x11_18,x11_23,x11_24,x11_24_m1,hok, hl']
  refine loop_s (O := O11) (tb := 0) Ct11_ok hmix (by kernel_rfl) (σ := Nat × List Pair) (fun x => [(7, .d (.sl 7 (x.2.map Pair.c))), (8, .i x.1)]) (fun x => x.1 ≤ l.length ∧ Good l x.1 x.2 ∧ go s l (l.length - x.1) x.1 x.2 = play s l) (fun x => l.length - x.1) (fun x => (x.1 + 1, (stepE s l x.1 x.2).1)) (0, []) ?_ ?_ ?_
  · exact ⟨by omega, ⟨by simp, by simp, by simp, fun _ => rfl⟩, by simp [play, hok]; omega⟩
  · simp (maxSteps := 4000000) +contextual (disch := first | omega | exact qdb_ok (by kernel_rfl) | exact okb_ok (by kernel_rfl)) only [bw1,bw2,bw3,bw4,bw5,bw6,bw7,zcell,setPs,sv,gif_true,gif_false,gif_eq,AV.frz,Sto.frz,updAll,AV.cpy,Sto.cpy,ifV,isEqB,nilV,nilX,cloV,AV.isNilS,AV.isNoRows,setAll,wk,wkG,AV.own.injEq,dclo,maskB,datOf,Option.any,List.isEmpty,Sto.hidn,binV,binS,binI,binIs,unV,unVs,addF,AV.isPtr,idxV,AV.isSl,AV.isSlice,AV.rows,loadV,loadS,D.part,AV.part,ps,pv,extV,extS,cvI,resAll,resV,resS,AV.outs,outL,AV.outF,Option.map_none,packD,AV.mkAgg,AV.mkTup,AV.dl,fieldV,fieldS,fillV,fillS,AV.cells?,AV.upr,Sto.upr,setR,Sto.get,Sto.ins,Sto.kill,Sto.upd,AV.kill,AV.men,AV.mens,AV.mencs,AV.menc,Sto.mens,Sto.mencs,AV.one,D.one,Value.oneCell',tagOf,AV.isApp,strV,strS,bolV,bolS,slcV,AV.isSlD,optI,optS,asrtS,ifV,bsV,bsS,AV.dcells,D.cells?,AV.no,stcV,stcS,leafOk,eqDs,eqD,Sto.push,Sto.top,Sto.pull,packA,D.val?,D.vals?,beq_self_eq_true,if_true,if_false,ite_true,ite_false,Bool.false_eq_true,Bool.true_eq_false,if_true_left,↓reduceIte,reduceCtorEq,List.getElem?_cons_zero,List.getElem?_cons_succ,List.map_cons,List.map_nil,List.append_nil,List.nil_append,List.cons_append,List.length_cons,List.length_nil,Option.bind_some,Option.getD_some,Option.isSome_some,Option.map_some,true_and,and_true,and_self,true_implies,implies_true,Nat.reduceAdd,Nat.reduceSub,Nat.reduceMul,List.reduceReplicate,List.replicate_zero,List.toList_toArray,Nat.zero_add,Nat.add_zero,List.drop_succ_cons,List.drop_zero,List.take_succ_cons,List.take_zero,List.drop_nil,List.take_nil,Nat.reduceLeDiff,Nat.reduceLT,Nat.reduceBEq,Nat.reduceEqDiff,Int.reduceNeg,Bool.not_true,Bool.not_false,Bool.not_not,Int.reduceEq,Bool.not_eq_true',ne_eq,not_false_eq_true,List.all_cons,List.all_nil,Bool.and_true,Bool.true_and,Bool.and_self,Bool.if_false_right,Bool.if_true_left,Bool.decide_eq_true,Option.some.injEq,exists_eq_left',exists_eq_left,Int.reduceLE,Int.reduceLT,List.not_mem_nil,and_false,false_and,Bool.and_eq_true,decide_eq_true_eq,ite_self,or_true,true_or,or_false,false_or,not_true_eq_false,D.tup.injEq,List.cons.injEq,D.agg.injEq,D.sl.injEq,beq_iff_eq,bne_iff_ne,Bool.or_self,Bool.or_false,Bool.false_or,decide_true,decide_false,End.ret.injEq,D.v.injEq,Value.bool.injEq,Value.int.injEq,tfb,mt97_61,mt99_63,mt101_69,mt102_70,mt103_71,ctz11,O11_11,O11_13,x11_18,x11_23,x11_24,x11_24_m1]
  rintro ⟨i, out⟩ ⟨hi, hg, hgo⟩
  dsimp only at hi hg hgo
  by_cases hil : i < l.length
  case neg =>
    have he : l.length = i := by omega
    have hn : ¬ (i : Int) < l.length := by omega
    rw [go_end he] at hgo
    simp (maxSteps := 4000000) +contextual (disch := first | omega | exact qdb_ok (by kernel_rfl) | exact okb_ok (by kernel_rfl)) only [bw1,bw2,bw3,bw4,bw5,bw6,bw7,zcell,setPs,sv,gif_true,gif_false,gif_eq,AV.frz,Sto.frz,updAll,AV.cpy,Sto.cpy,ifV,isEqB,nilV,nilX,cloV,AV.isNilS,AV.isNoRows,setAll,wk,wkG,AV.own.injEq,dclo,maskB,datOf,Option.any,List.isEmpty,Sto.hidn,binV,binS,binI,binIs,unV,unVs,addF,AV.isPtr,idxV,AV.isSl,AV.isSlice,AV.rows,loadV,loadS,D.part,AV.part,ps,pv,extV,extS,cvI,resAll,resV,resS,AV.outs,outL,AV.outF,Option.map_none,packD,AV.mkAgg,AV.mkTup,AV.dl,fieldV,fieldS,fillV,fillS,AV.cells?,AV.upr,Sto.upr,setR,Sto.get,Sto.ins,Sto.kill,Sto.upd,AV.kill,AV.men,AV.mens,AV.mencs,AV.menc,Sto.mens,Sto.mencs,AV.one,D.one,Value.oneCell',tagOf,AV.isApp,strV,strS,bolV,bolS,slcV,AV.isSlD,optI,optS,asrtS,ifV,bsV,bsS,AV.dcells,D.cells?,AV.no,stcV,stcS,leafOk,eqDs,eqD,Sto.push,Sto.top,Sto.pull,packA,D.val?,D.vals?,beq_self_eq_true,if_true,if_false,ite_true,ite_false,Bool.false_eq_true,Bool.true_eq_false,if_true_left,↓reduceIte,reduceCtorEq,List.getElem?_cons_zero,List.getElem?_cons_succ,List.map_cons,List.map_nil,List.append_nil,List.nil_append,List.cons_append,List.length_cons,List.length_nil,Option.bind_some,Option.getD_some,Option.isSome_some,Option.map_some,true_and,and_true,and_self,true_implies,implies_true,Nat.reduceAdd,Nat.reduceSub,Nat.reduceMul,List.reduceReplicate,List.replicate_zero,List.toList_toArray,Nat.zero_add,Nat.add_zero,List.drop_succ_cons,List.drop_zero,List.take_succ_cons,List.take_zero,List.drop_nil,List.take_nil,Nat.reduceLeDiff,Nat.reduceLT,Nat.reduceBEq,Nat.reduceEqDiff,Int.reduceNeg,Bool.not_true,Bool.not_false,Bool.not_not,Int.reduceEq,Bool.not_eq_true',ne_eq,not_false_eq_true,List.all_cons,List.all_nil,Bool.and_true,Bool.true_and,Bool.and_self,Bool.if_false_right,Bool.if_true_left,Bool.decide_eq_true,Option.some.injEq,exists_eq_left',exists_eq_left,Int.reduceLE,Int.reduceLT,List.not_mem_nil,and_false,false_and,Bool.and_eq_true,decide_eq_true_eq,ite_self,or_true,true_or,or_false,false_or,not_true_eq_false,D.tup.injEq,List.cons.injEq,D.agg.injEq,D.sl.injEq,beq_iff_eq,bne_iff_ne,Bool.or_self,Bool.or_false,Bool.false_or,decide_true,decide_false,End.ret.injEq,D.v.injEq,Value.bool.injEq,Value.int.injEq,tfb,mt97_61,mt99_63,mt101_69,mt102_70,mt103_71,ctz11,O11_11,O11_13,x11_18,x11_23,x11_24,x11_24_m1,hn]
    simp [← hgo, he]
  have hil' : (i : Int) < l.length := by omega
  rw [go_at hil] at hgo
  by_cases hx : (l.getD i default).ok = true
  case neg =>
    have hx : (l.getD i default).ok = false := by simpa using hx
    simp (maxSteps := 4000000) +contextual (disch := first | omega | exact qdb_ok (by kernel_rfl) | exact okb_ok (by kernel_rfl)) only [bw1,bw2,bw3,bw4,bw5,bw6,bw7,zcell,setPs,sv,gif_true,gif_false,gif_eq,AV.frz,Sto.frz,updAll,AV.cpy,Sto.cpy,ifV,isEqB,nilV,nilX,cloV,AV.isNilS,AV.isNoRows,setAll,wk,wkG,AV.own.injEq,dclo,maskB,datOf,Option.any,List.isEmpty,Sto.hidn,binV,binS,binI,binIs,unV,unVs,addF,AV.isPtr,idxV,AV.isSl,AV.isSlice,AV.rows,loadV,loadS,D.part,AV.part,ps,pv,extV,extS,cvI,resAll,resV,resS,AV.outs,outL,AV.outF,Option.map_none,packD,AV.mkAgg,AV.mkTup,AV.dl,fieldV,fieldS,fillV,fillS,AV.cells?,AV.upr,Sto.upr,setR,Sto.get,Sto.ins,Sto.kill,Sto.upd,AV.kill,AV.men,AV.mens,AV.mencs,AV.menc,Sto.mens,Sto.mencs,AV.one,D.one,Value.oneCell',tagOf,AV.isApp,strV,strS,bolV,bolS,slcV,AV.isSlD,optI,optS,asrtS,ifV,bsV,bsS,AV.dcells,D.cells?,AV.no,stcV,stcS,leafOk,eqDs,eqD,Sto.push,Sto.top,Sto.pull,packA,D.val?,D.vals?,beq_self_eq_true,if_true,if_false,ite_true,ite_false,Bool.false_eq_true,Bool.true_eq_false,if_true_left,↓reduceIte,reduceCtorEq,List.getElem?_cons_zero,List.getElem?_cons_succ,List.map_cons,List.map_nil,List.append_nil,List.nil_append,List.cons_append,List.length_cons,List.length_nil,Option.bind_some,Option.getD_some,Option.isSome_some,Option.map_some,true_and,and_true,and_self,true_implies,implies_true,Nat.reduceAdd,Nat.reduceSub,Nat.reduceMul,List.reduceReplicate,List.replicate_zero,List.toList_toArray,Nat.zero_add,Nat.add_zero,List.drop_succ_cons,List.drop_zero,List.take_succ_cons,List.take_zero,List.drop_nil,List.take_nil,Nat.reduceLeDiff,Nat.reduceLT,Nat.reduceBEq,Nat.reduceEqDiff,Int.reduceNeg,Bool.not_true,Bool.not_false,Bool.not_not,Int.reduceEq,Bool.not_eq_true',ne_eq,not_false_eq_true,List.all_cons,List.all_nil,Bool.and_true,Bool.true_and,Bool.and_self,Bool.if_false_right,Bool.if_true_left,Bool.decide_eq_true,Option.some.injEq,exists_eq_left',exists_eq_left,Int.reduceLE,Int.reduceLT,List.not_mem_nil,and_false,false_and,Bool.and_eq_true,decide_eq_true_eq,ite_self,or_true,true_or,or_false,false_or,not_true_eq_false,D.tup.injEq,List.cons.injEq,D.agg.injEq,D.sl.injEq,beq_iff_eq,bne_iff_ne,Bool.or_self,Bool.or_false,Bool.false_or,decide_true,decide_false,End.ret.injEq,D.v.injEq,Value.bool.injEq,Value.int.injEq,tfb,mt97_61,mt99_63,mt101_69,mt102_70,mt103_71,ctz11,O11_11,O11_13,x11_18,x11_23,x11_24,x11_24_m1,row_at, hx, hil']
    have hst : stepE s l i out = (out, 1) := by unfold stepE; simp only [hx, if_true]
    simp [hst] at hgo
    simp [← hgo]
  by_cases ht : 0 < i ∧ (l.getD i default).time < (l.getD (i - 1) default).time
  case pos =>
    obtain ⟨ht1, ht2⟩ := ht
    have ht1' : 0 < (i : Int) := by omega
    have hsub : ((i : Int) - 1).toNat = i - 1 := by omega
    have hsub1 : 0 ≤ (i : Int) - 1 := by omega
    have hsub2 : (i : Int) - 1 < l.length := by omega
    simp (maxSteps := 4000000) +contextual (disch := first | omega | exact qdb_ok (by kernel_rfl) | exact okb_ok (by kernel_rfl)) only [bw1,bw2,bw3,bw4,bw5,bw6,bw7,zcell,setPs,sv,gif_true,gif_false,gif_eq,AV.frz,Sto.frz,updAll,AV.cpy,Sto.cpy,ifV,isEqB,nilV,nilX,cloV,AV.isNilS,AV.isNoRows,setAll,wk,wkG,AV.own.injEq,dclo,maskB,datOf,Option.any,List.isEmpty,Sto.hidn,binV,binS,binI,binIs,unV,unVs,addF,AV.isPtr,idxV,AV.isSl,AV.isSlice,AV.rows,loadV,loadS,D.part,AV.part,ps,pv,extV,extS,cvI,resAll,resV,resS,AV.outs,outL,AV.outF,Option.map_none,packD,AV.mkAgg,AV.mkTup,AV.dl,fieldV,fieldS,fillV,fillS,AV.cells?,AV.upr,Sto.upr,setR,Sto.get,Sto.ins,Sto.kill,Sto.upd,AV.kill,AV.men,AV.mens,AV.mencs,AV.menc,Sto.mens,Sto.mencs,AV.one,D.one,Value.oneCell',tagOf,AV.isApp,strV,strS,bolV,bolS,slcV,AV.isSlD,optI,optS,asrtS,ifV,bsV,bsS,AV.dcells,D.cells?,AV.no,stcV,stcS,leafOk,eqDs,eqD,Sto.push,Sto.top,Sto.pull,packA,D.val?,D.vals?,beq_self_eq_true,if_true,if_false,ite_true,ite_false,Bool.false_eq_true,Bool.true_eq_false,if_true_left,↓reduceIte,reduceCtorEq,List.getElem?_cons_zero,List.getElem?_cons_succ,List.map_cons,List.map_nil,List.append_nil,List.nil_append,List.cons_append,List.length_cons,List.length_nil,Option.bind_some,Option.getD_some,Option.isSome_some,Option.map_some,true_and,and_true,and_self,true_implies,implies_true,Nat.reduceAdd,Nat.reduceSub,Nat.reduceMul,List.reduceReplicate,List.replicate_zero,List.toList_toArray,Nat.zero_add,Nat.add_zero,List.drop_succ_cons,List.drop_zero,List.take_succ_cons,List.take_zero,List.drop_nil,List.take_nil,Nat.reduceLeDiff,Nat.reduceLT,Nat.reduceBEq,Nat.reduceEqDiff,Int.reduceNeg,Bool.not_true,Bool.not_false,Bool.not_not,Int.reduceEq,Bool.not_eq_true',ne_eq,not_false_eq_true,List.all_cons,List.all_nil,Bool.and_true,Bool.true_and,Bool.and_self,Bool.if_false_right,Bool.if_true_left,Bool.decide_eq_true,Option.some.injEq,exists_eq_left',exists_eq_left,Int.reduceLE,Int.reduceLT,List.not_mem_nil,and_false,false_and,Bool.and_eq_true,decide_eq_true_eq,ite_self,or_true,true_or,or_false,false_or,not_true_eq_false,D.tup.injEq,List.cons.injEq,D.agg.injEq,D.sl.injEq,beq_iff_eq,bne_iff_ne,Bool.or_self,Bool.or_false,Bool.false_or,decide_true,decide_false,End.ret.injEq,D.v.injEq,Value.bool.injEq,Value.int.injEq,tfb,mt97_61,mt99_63,mt101_69,mt102_70,mt103_71,ctz11,O11_11,O11_13,x11_18,x11_23,x11_24,x11_24_m1,row_at, hx, hil', ht1', hsub, ht2, hsub1, hsub2]
    have hst : stepE s l i out = (out, 7) := by unfold stepE; simp only [hx, ht1, ht2, and_self, if_true, Bool.true_eq_false, if_false]
    simp [hst] at hgo
    simp [← hgo]
  have hpre := good_pre hok hg hx ht
  have hst : stepE s l i out = doS s out (l.getD i default) := by unfold stepE; simp only [hx, Bool.true_eq_false, if_false]; rw [if_neg ht]
  have hgs := fun h => good_step (s := s) (l := l) (i := i) hok hg h
  rw [hst] at hgo hgs
  simp (maxSteps := 4000000) +contextual (disch := first | omega | exact qdb_ok (by kernel_rfl) | exact okb_ok (by kernel_rfl)) only [bw1,bw2,bw3,bw4,bw5,bw6,bw7,zcell,setPs,sv,gif_true,gif_false,gif_eq,AV.frz,Sto.frz,updAll,AV.cpy,Sto.cpy,ifV,isEqB,nilV,nilX,cloV,AV.isNilS,AV.isNoRows,setAll,wk,wkG,AV.own.injEq,dclo,maskB,datOf,Option.any,List.isEmpty,Sto.hidn,binV,binS,binI,binIs,unV,unVs,addF,AV.isPtr,idxV,AV.isSl,AV.isSlice,AV.rows,loadV,loadS,D.part,AV.part,ps,pv,extV,extS,cvI,resAll,resV,resS,AV.outs,outL,AV.outF,Option.map_none,packD,AV.mkAgg,AV.mkTup,AV.dl,fieldV,fieldS,fillV,fillS,AV.cells?,AV.upr,Sto.upr,setR,Sto.get,Sto.ins,Sto.kill,Sto.upd,AV.kill,AV.men,AV.mens,AV.mencs,AV.menc,Sto.mens,Sto.mencs,AV.one,D.one,Value.oneCell',tagOf,AV.isApp,strV,strS,bolV,bolS,slcV,AV.isSlD,optI,optS,asrtS,ifV,bsV,bsS,AV.dcells,D.cells?,AV.no,stcV,stcS,leafOk,eqDs,eqD,Sto.push,Sto.top,Sto.pull,packA,D.val?,D.vals?,beq_self_eq_true,if_true,if_false,ite_true,ite_false,Bool.false_eq_true,Bool.true_eq_false,if_true_left,↓reduceIte,reduceCtorEq,List.getElem?_cons_zero,List.getElem?_cons_succ,List.map_cons,List.map_nil,List.append_nil,List.nil_append,List.cons_append,List.length_cons,List.length_nil,Option.bind_some,Option.getD_some,Option.isSome_some,Option.map_some,true_and,and_true,and_self,true_implies,implies_true,Nat.reduceAdd,Nat.reduceSub,Nat.reduceMul,List.reduceReplicate,List.replicate_zero,List.toList_toArray,Nat.zero_add,Nat.add_zero,List.drop_succ_cons,List.drop_zero,List.take_succ_cons,List.take_zero,List.drop_nil,List.take_nil,Nat.reduceLeDiff,Nat.reduceLT,Nat.reduceBEq,Nat.reduceEqDiff,Int.reduceNeg,Bool.not_true,Bool.not_false,Bool.not_not,Int.reduceEq,Bool.not_eq_true',ne_eq,not_false_eq_true,List.all_cons,List.all_nil,Bool.and_true,Bool.true_and,Bool.and_self,Bool.if_false_right,Bool.if_true_left,Bool.decide_eq_true,Option.some.injEq,exists_eq_left',exists_eq_left,Int.reduceLE,Int.reduceLT,List.not_mem_nil,and_false,false_and,Bool.and_eq_true,decide_eq_true_eq,ite_self,or_true,true_or,or_false,false_or,not_true_eq_false,D.tup.injEq,List.cons.injEq,D.agg.injEq,D.sl.injEq,beq_iff_eq,bne_iff_ne,Bool.or_self,Bool.or_false,Bool.false_or,decide_true,decide_false,End.ret.injEq,D.v.injEq,Value.bool.injEq,Value.int.injEq,tfb,mt97_61,mt99_63,mt101_69,mt102_70,mt103_71,ctz11,O11_11,O11_13,x11_18,x11_23,x11_24,x11_24_m1,row_at, hx, hil', hpre, hst]
  refine ⟨by omega, ?_⟩
  have hsub : ((i : Int) - 1).toNat = i - 1 := by omega
  split
  · rename_i h1
    rw [hsub, if_neg (fun h => ht ⟨by omega, h⟩)]
    refine ⟨by omega, ⟨by omega, by omega⟩, by omega, ?_⟩
    split
    · rename_i h0; rw [if_neg h0] at hgo; simp [← hgo]
    · rename_i h0
      have h0 := Decidable.not_not.1 h0
      rw [if_pos h0] at hgo; exact ⟨⟨by omega, hgs h0, hgo⟩, by omega⟩
  · refine ⟨by omega, ?_⟩
    split
    · rename_i h0; rw [if_neg h0] at hgo; simp [← hgo]
    · rename_i h0
      have h0 := Decidable.not_not.1 h0
      rw [if_pos h0] at hgo; exact ⟨⟨by omega, hgs h0, hgo⟩, by omega⟩
def ent11 (args : List AV) (K : AV → List AV → Sto → Prop) (e : List AV) (s : Sto) : Prop := ent (α := (Shop) × (List Ev)) (fun aa => [aa.1.d, .sl 4 (aa.2.map Ev.c)]) (fun aa => True) (fun aa => .tup [.sl 7 ((play aa.1 aa.2).1.map Pair.c), .i (play aa.1 aa.2).2.1, .i (play aa.1 aa.2).2.2]) args K e s
theorem ent11_ok {args : List AV} {K : AV → List AV → Sto → Prop} {Q : Kt} {e : List AV} {s : Sto} (h : ent11 args K e s) : pcall Try.prog 11 args K Q e s := ent_ok (fun aa h => pf11 aa.1 aa.2) h
theorem eq11 {s : Shop} {l : List Ev} {KK : AV → List AV → Sto → Prop} {ee : List AV} {ss : Sto} : ent11 [.d (s.d), .d (.sl 4 (l.map Ev.c))] KK ee ss = (KK (.d (.tup [.sl 7 ((play s l).1.map Pair.c), .i (play s l).2.1, .i (play s l).2.2])) ee ss) := by
  unfold ent11; rw [ent_iff (s, l) (by intro b h; simpa [Prod.ext_iff, and_assoc, shop_inj, ev_inj, pairs_inj, evs_inj, ints_inj] using h) rfl]; simp
theorem eqo11 {s : Shop} {l : List Ev} {g1 el1 : Nat} {KK : AV → List AV → Sto → Prop} {ee : List AV} {ss : Sto} : ent11 [.d (s.d), .own g1 el1 4 (l.map Ev.c)] KK ee ss = ((.tup [.sl 7 ((play s l).1.map Pair.c), .i (play s l).2.1, .i (play s l).2.2] : D).flat = true ∧ KK (.d (.tup [.sl 7 ((play s l).1.map Pair.c), .i (play s l).2.1, .i (play s l).2.2])) ee ss) := by
  unfold ent11; rw [ent_iff (s, l) (by intro b h; simpa [Prod.ext_iff, and_assoc, shop_inj, ev_inj, pairs_inj, evs_inj, ints_inj] using h) rfl]; simp
end Go.Proofs.Ytmkigohedfcomaa
