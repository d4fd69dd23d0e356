/- A part of the proof that the last text ends: what functions of the program do, told by plain data. -/
import Derived.Test.YtmkigohedfcomaaGG
import Derived.Test.YtmkigohedfcomaaEb
set_option linter.unusedVariables false
set_option linter.unusedSimpArgs false
namespace Go.Proofs.Ytmkigohedfcomaa
open Go Go.E
set_option maxRecDepth 100000
set_option maxHeartbeats 8000000
theorem fl_pair {l : List Pair} : rowsFlat (l.map Pair.c) = true := rowsFlat_map fun _ => rfl
theorem fl_ic {l : List Int} : rowsFlat (l.map ic) = true := rowsFlat_map fun _ => rfl
theorem go_good {s : Shop} {l : List Ev} (hok : s.ok = true) : ∀ k i out, Good l i out → (go s l k i out).2.2 = 0 → Good l (i + k) (go s l k i out).1
  | 0, _, _, h, _ => h
  | k + 1, i, out, h, h0 => by
    unfold go at h0 ⊢
    split at h0
    · rename_i hs
      rw [if_pos hs]
      have := go_good hok k (i + 1) _ (good_step hok h hs) h0
      rwa [show i + 1 + k = i + (k + 1) by omega] at this
    · rename_i hs; exact absurd h0 hs
theorem go_err {s : Shop} {l : List Ev} : ∀ k i out, (go s l k i out).2.2 ≠ 0 → (go s l k i out).1 = []
  | 0, _, _, h => absurd rfl h
  | k + 1, i, out, h => by
    unfold go at h ⊢
    split at h
    · rename_i hs; rw [if_pos hs]; exact go_err k _ _ h
    · rename_i hs; rw [if_neg hs]
theorem play_err {s : Shop} {l : List Ev} (h : (play s l).2.2 ≠ 0) : (play s l).1 = [] := by
  unfold play at h ⊢
  split
  · rfl
  · rename_i h1; rw [if_neg h1] at h
    split
    · rfl
    · rename_i h2; rw [if_neg h2] at h; exact go_err _ _ _ h
theorem play_good {s : Shop} {l : List Ev} (h : (play s l).2.2 = 0) : (play s l).1.length ≤ 64 ∧ ∀ p ∈ (play s l).1, p.fit := by
  unfold play at h ⊢
  split at h
  · cases h
  · rename_i h1; rw [if_neg h1]
    split at h
    · cases h
    · rename_i h2; rw [if_neg h2]
      have := go_good (by simpa using h1) _ _ _ ⟨by simp, by simp, by simp, fun _ => rfl⟩ h
      exact ⟨this.len, this.fit⟩
theorem play_len {s : Shop} {l : List Ev} : (play s l).1.length ≤ 64 := by
  by_cases h : (play s l).2.2 = 0
  · exact (play_good h).1
  · rw [play_err h]; simp
def O10 : Nat → Sch := fun id => .done
theorem ho10 : Try.f10.body.map (okO O10) = some true := by kernel_rfl
def Cf10 : Nat → List AV → (AV → List AV → Sto → Prop) → Kt → List AV → Sto → Prop := fun f args K Q e s => match f with
  | 22 => ent22 args K e s
  | _ => False
def Ct10 : CT := { f := Cf10, y := noYld, z := fun d => false }
theorem ctz10 {d : Nat} : CT.z Ct10 d = (false) := id rfl
theorem Ct10_ok : Ct10.ok Try.prog := ok_of_f (fun f args K Q e s h => by
  have h : Cf10 f args K Q e s := h
  unfold Cf10 at h; split at h
  · exact ent22_ok h
  · exact h.elim) (fun _ _ _ _ _ _ _ _ _ h => h)
theorem x10_22 {s : Shop} {l : List Ev} {KK : AV → List AV → Sto → Prop} {QQ : Kt} {ii : At KK} {jj : At QQ} {ee : List AV} {ss : Sto} : xC Ct10 22 [.d (s.d), .d (.sl 4 (l.map Ev.c))] KK QQ ii jj ee ss = (KK (.d (.tup [storeD s (play s l), .i (play s l).2.1, .i (play s l).2.2])) ee ss) := eq22
theorem x10_22_m1 {s : Shop} {l : List Ev} {g1 el1 : Nat} {KK : AV → List AV → Sto → Prop} {QQ : Kt} {ii : At KK} {jj : At QQ} {ee : List AV} {ss : Sto} : xC Ct10 22 [.d (s.d), .own g1 el1 4 (l.map Ev.c)] KK QQ ii jj ee ss = ((.tup [storeD s (play s l), .i (play s l).2.1, .i (play s l).2.2] : D).flat = true ∧ KK (.d (.tup [storeD s (play s l), .i (play s l).2.1, .i (play s l).2.2])) ee ss) := eqo22
theorem c10 : callable Try.prog 10 = true := by kernel_rfl
theorem pf10 (s : Shop) (l : List Ev) : PFn Try.prog 10 [s.d, .sl 4 (l.map Ev.c)] (fun zz => zz = .ret (.tup [.sl 7 ((play s l).1.map Pair.c), .i (play s l).2.1, .i (play s l).2.2])) := by
  refine PFn_nil (PFn_start (O := O10) Ct10_ok hmix ho10 Try.func10 c10 rfl Try.ntmps10 Try.results10 ?_)
  have hlen := play_len (s := s) (l := l)
  by_cases he : (play s l).2.2 = 0
  · have hd : ∀ x : List D, List.drop (play s l).1.length (List.replicate (play s l).1.length x) = [] := fun x => by simp
    simp (maxSteps := 4000000) +contextual (disch := first | omega | exact qdb_ok (by kernel_rfl) | exact okb_ok (by kernel_rfl)) only [bw1,bw2,bw3,bw4,bw5,bw6,bw7,zcell,setPs,sv,gif_true,gif_false,gif_eq,AV.frz,Sto.frz,updAll,AV.cpy,Sto.cpy,ifV,isEqB,nilV,nilX,cloV,AV.isNilS,AV.isNoRows,setAll,wk,wkG,AV.own.injEq,dclo,maskB,datOf,Option.any,List.isEmpty,Sto.hidn,binV,binS,binI,binIs,unV,unVs,addF,AV.isPtr,idxV,AV.isSl,AV.isSlice,AV.rows,loadV,loadS,D.part,AV.part,ps,pv,extV,extS,cvI,resAll,resV,resS,AV.outs,outL,AV.outF,Option.map_none,packD,AV.mkAgg,AV.mkTup,AV.dl,fieldV,fieldS,fillV,fillS,AV.cells?,AV.upr,Sto.upr,setR,Sto.get,Sto.ins,Sto.kill,Sto.upd,AV.kill,AV.men,AV.mens,AV.mencs,AV.menc,Sto.mens,Sto.mencs,AV.one,D.one,Value.oneCell',tagOf,AV.isApp,strV,strS,bolV,bolS,slcV,AV.isSlD,optI,optS,asrtS,ifV,bsV,bsS,AV.dcells,D.cells?,AV.no,stcV,stcS,leafOk,eqDs,eqD,Sto.push,Sto.top,Sto.pull,packA,D.val?,D.vals?,beq_self_eq_true,if_true,if_false,ite_true,ite_false,Bool.false_eq_true,Bool.true_eq_false,if_true_left,↓reduceIte,reduceCtorEq,List.getElem?_cons_zero,List.getElem?_cons_succ,List.map_cons,List.map_nil,List.append_nil,List.nil_append,List.cons_append,List.length_cons,List.length_nil,Option.bind_some,Option.getD_some,Option.isSome_some,Option.map_some,true_and,and_true,and_self,true_implies,implies_true,Nat.reduceAdd,Nat.reduceSub,Nat.reduceMul,List.reduceReplicate,List.replicate_zero,List.toList_toArray,Nat.zero_add,Nat.add_zero,List.drop_succ_cons,List.drop_zero,List.take_succ_cons,List.take_zero,List.drop_nil,List.take_nil,Nat.reduceLeDiff,Nat.reduceLT,Nat.reduceBEq,Nat.reduceEqDiff,Int.reduceNeg,Bool.not_true,Bool.not_false,Bool.not_not,Int.reduceEq,Bool.not_eq_true',ne_eq,not_false_eq_true,List.all_cons,List.all_nil,Bool.and_true,Bool.true_and,Bool.and_self,Bool.if_false_right,Bool.if_true_left,Bool.decide_eq_true,Option.some.injEq,exists_eq_left',exists_eq_left,Int.reduceLE,Int.reduceLT,List.not_mem_nil,and_false,false_and,Bool.and_eq_true,decide_eq_true_eq,ite_self,or_true,true_or,or_false,false_or,not_true_eq_false,D.tup.injEq,List.cons.injEq,D.agg.injEq,D.sl.injEq,beq_iff_eq,bne_iff_ne,Bool.or_self,Bool.or_false,Bool.false_or,decide_true,decide_false,End.ret.injEq,D.v.injEq,Value.bool.injEq,Value.int.injEq,tfb,mt97_61,mt99_63,mt101_69,mt102_70,mt103_71,n_retn,n_retr,n_retp,qd_Rn,AV.outN,fl_pair,fl_ic,D.flat,D.flats,ctz10,x10_22,x10_22_m1,he, storeD_is he, hd, List.length_replicate, Nat.le_refl]
    omega
  · have hn := play_err he
    simp (maxSteps := 4000000) +contextual (disch := first | omega | exact qdb_ok (by kernel_rfl) | exact okb_ok (by kernel_rfl)) only [bw1,bw2,bw3,bw4,bw5,bw6,bw7,zcell,setPs,sv,gif_true,gif_false,gif_eq,AV.frz,Sto.frz,updAll,AV.cpy,Sto.cpy,ifV,isEqB,nilV,nilX,cloV,AV.isNilS,AV.isNoRows,setAll,wk,wkG,AV.own.injEq,dclo,maskB,datOf,Option.any,List.isEmpty,Sto.hidn,binV,binS,binI,binIs,unV,unVs,addF,AV.isPtr,idxV,AV.isSl,AV.isSlice,AV.rows,loadV,loadS,D.part,AV.part,ps,pv,extV,extS,cvI,resAll,resV,resS,AV.outs,outL,AV.outF,Option.map_none,packD,AV.mkAgg,AV.mkTup,AV.dl,fieldV,fieldS,fillV,fillS,AV.cells?,AV.upr,Sto.upr,setR,Sto.get,Sto.ins,Sto.kill,Sto.upd,AV.kill,AV.men,AV.mens,AV.mencs,AV.menc,Sto.mens,Sto.mencs,AV.one,D.one,Value.oneCell',tagOf,AV.isApp,strV,strS,bolV,bolS,slcV,AV.isSlD,optI,optS,asrtS,ifV,bsV,bsS,AV.dcells,D.cells?,AV.no,stcV,stcS,leafOk,eqDs,eqD,Sto.push,Sto.top,Sto.pull,packA,D.val?,D.vals?,beq_self_eq_true,if_true,if_false,ite_true,ite_false,Bool.false_eq_true,Bool.true_eq_false,if_true_left,↓reduceIte,reduceCtorEq,List.getElem?_cons_zero,List.getElem?_cons_succ,List.map_cons,List.map_nil,List.append_nil,List.nil_append,List.cons_append,List.length_cons,List.length_nil,Option.bind_some,Option.getD_some,Option.isSome_some,Option.map_some,true_and,and_true,and_self,true_implies,implies_true,Nat.reduceAdd,Nat.reduceSub,Nat.reduceMul,List.reduceReplicate,List.replicate_zero,List.toList_toArray,Nat.zero_add,Nat.add_zero,List.drop_succ_cons,List.drop_zero,List.take_succ_cons,List.take_zero,List.drop_nil,List.take_nil,Nat.reduceLeDiff,Nat.reduceLT,Nat.reduceBEq,Nat.reduceEqDiff,Int.reduceNeg,Bool.not_true,Bool.not_false,Bool.not_not,Int.reduceEq,Bool.not_eq_true',ne_eq,not_false_eq_true,List.all_cons,List.all_nil,Bool.and_true,Bool.true_and,Bool.and_self,Bool.if_false_right,Bool.if_true_left,Bool.decide_eq_true,Option.some.injEq,exists_eq_left',exists_eq_left,Int.reduceLE,Int.reduceLT,List.not_mem_nil,and_false,false_and,Bool.and_eq_true,decide_eq_true_eq,ite_self,or_true,true_or,or_false,false_or,not_true_eq_false,D.tup.injEq,List.cons.injEq,D.agg.injEq,D.sl.injEq,beq_iff_eq,bne_iff_ne,Bool.or_self,Bool.or_false,Bool.false_or,decide_true,decide_false,End.ret.injEq,D.v.injEq,Value.bool.injEq,Value.int.injEq,tfb,mt97_61,mt99_63,mt101_69,mt102_70,mt103_71,n_retn,n_retr,n_retp,qd_Rn,AV.outN,fl_pair,fl_ic,D.flat,D.flats,ctz10,x10_22,x10_22_m1,he, hn, storeD_no he]
def ent10 (args : List AV) (K : AV → List AV → Sto → Prop) (e : List AV) (s : Sto) : Prop := entn (α := (Shop) × (List Ev)) (fun aa => [aa.1.d, .sl 4 (aa.2.map Ev.c)]) (fun aa => True) (fun aa => .tup [.sl 7 ((play aa.1 aa.2).1.map Pair.c), .i (play aa.1 aa.2).2.1, .i (play aa.1 aa.2).2.2]) args K e s
theorem ent10_ok {args : List AV} {K : AV → List AV → Sto → Prop} {Q : Kt} {e : List AV} {s : Sto} (h : ent10 args K e s) : pcall Try.prog 10 args K Q e s := entn_ok (fun aa h => pf10 aa.1 aa.2) h
theorem eq10 {s : Shop} {l : List Ev} {KK : AV → List AV → Sto → Prop} {ee : List AV} {ss : Sto} : ent10 [.d (s.d), .d (.sl 4 (l.map Ev.c))] KK ee ss = (KK (.d (.tup [.sl 7 ((play s l).1.map Pair.c), .i (play s l).2.1, .i (play s l).2.2])) ee ss) := by
  unfold ent10; rw [entn_iff (s, l) (by intro b h; simpa [Prod.ext_iff, and_assoc, shop_inj, ev_inj, pairs_inj, evs_inj, ints_inj] using h) rfl]; simp
theorem eqo10 {s : Shop} {l : List Ev} {g1 el1 : Nat} {KK : AV → List AV → Sto → Prop} {ee : List AV} {ss : Sto} : ent10 [.d (s.d), .own g1 el1 4 (l.map Ev.c)] KK ee ss = (KK (.d (.tup [.sl 7 ((play s l).1.map Pair.c), .i (play s l).2.1, .i (play s l).2.2])) ee ss) := by
  unfold ent10; rw [entn_iff (s, l) (by intro b h; simpa [Prod.ext_iff, and_assoc, shop_inj, ev_inj, pairs_inj, evs_inj, ints_inj] using h) rfl]; simp
end Go.Proofs.Ytmkigohedfcomaa
