/- A part of the proof that the last text ends: what functions of the program do, told by plain data. -/
import Derived.Test.YtkanibdihhlmgaaEb
import Derived.Test.YtkanibdihhlmgaaTFA
set_option linter.unusedVariables false
set_option linter.unusedSimpArgs false
namespace Go.Proofs.Ytkanibdihhlmgaa
open Go Go.E
set_option maxRecDepth 100000
set_option maxHeartbeats 8000000
theorem hmix : Try.prog.follows .mixedOrders = true := by kernel_rfl
/-! ### Plain data -/
structure Sen where
  first : Int
  every : Int
  err : Int
  deriving Inhabited, DecidableEq
abbrev Sen.c (s : Sen) : List D := [.i s.first, .i s.every, .i s.err]
theorem Sen.inj {a b : Sen} (h : a.c = b.c) : a = b := by cases a; cases b; simp at h; simp [h]
abbrev ic (n : Int) : List D := [.i n]
theorem sen_inj {a b : Sen} : (a.first = b.first ∧ a.every = b.every ∧ a.err = b.err) = (a = b) := by cases a; cases b; simp
theorem sens_inj {a b : List Sen} : (a.map Sen.c = b.map Sen.c) = (a = b) := inj_map fun _ _ h => Sen.inj h
theorem ints_inj {a b : List Int} : (a.map ic = b.map ic) = (a = b) := inj_map fun _ _ h => by simpa using h
theorem at_lt {α : Type} [Inhabited α] {l : List α} {i : Nat} (h : i < l.length) : l.getD i default = l[i] := by simp [List.getD, List.getElem?_eq_getElem h]
abbrev votd (l : List Sen) (vo fa : Int) : D := .agg [.sl 3 (l.map Sen.c), .i vo, .i fa]
def inB (n lo hi : Int) : Bool := decide (lo ≤ n) && decide (n ≤ hi)
theorem inB_iff {n lo hi : Int} : inB n lo hi = true ↔ lo ≤ n ∧ n ≤ hi := by simp [inB]
theorem inB_no {n lo hi : Int} : inB n lo hi = false ↔ ¬ (lo ≤ n ∧ n ≤ hi) := by rw [← inB_iff]; simp
def gas (n : Int) : Bool := inB n 0 1048576
def tim (a b : Int) : Bool := inB b 0 2000 && inB a 0 b
def Sen.bad (s : Sen) : Bool := !inB s.first 0 2000 || !inB s.every 1 1000 || !gas s.err
def fbp {α : Type} [Inhabited α] (p : α → Bool) (l : List α) : Nat → Nat → Int
  | _, 0 => -1
  | i, k + 1 => if p (l.getD i default) = true then i else fbp p l (i + 1) k
theorem fbp_pos {α : Type} [Inhabited α] {p : α → Bool} {l : List α} : ∀ k i, (0 ≤ fbp p l i k ↔ ∃ j, i ≤ j ∧ j < i + k ∧ p (l.getD j default) = true)
  | 0, i => by simp [fbp]; omega
  | k + 1, i => by
    unfold fbp
    split
    · rename_i h; exact ⟨fun _ => ⟨i, by omega, by omega, h⟩, fun _ => by omega⟩
    · rename_i h
      rw [fbp_pos k (i + 1)]
      constructor
      · rintro ⟨j, h1, h2, h3⟩; exact ⟨j, by omega, by omega, h3⟩
      · rintro ⟨j, h1, h2, h3⟩
        refine ⟨j, ?_, by omega, h3⟩
        rcases Nat.lt_or_ge i j with h4 | h4
        · omega
        · have : j = i := by omega
          subst this; exact absurd h3 h
theorem fbp_any {α : Type} [Inhabited α] {p : α → Bool} {l : List α} : decide (0 ≤ fbp p l 0 l.length) = l.any p := by
  rw [Bool.eq_iff_iff, decide_eq_true_eq, fbp_pos, List.any_eq_true]
  constructor
  · rintro ⟨j, _, h2, h3⟩
    exact ⟨l.getD j default, by rw [at_lt (by omega)]; exact List.getElem_mem _, h3⟩
  · rintro ⟨x, hx, hp⟩
    obtain ⟨j, hj, rfl⟩ := List.getElem_of_mem hx
    exact ⟨j, by omega, by omega, by rw [at_lt hj]; exact hp⟩
def votOk (l : List Sen) (vo fa : Int) : Bool := inB l.length 1 12 && inB vo 1 l.length && inB fa 0 l.length && !l.any Sen.bad
def O48 : Nat → Sch := fun id => .done
theorem ho48 : Try.f48.body.map (okO O48) = some true := by kernel_rfl
def Cf48 : Nat → List AV → (AV → List AV → Sto → Prop) → Kt → List AV → Sto → Prop := fun f args K Q e s => match f with
  | _ => False
def Ct48 : CT := { f := Cf48, y := noYld, z := fun d => false }
theorem ctz48 {d : Nat} : CT.z Ct48 d = (false) := id rfl
theorem Ct48_ok : Ct48.ok Try.prog := ok_of_f (fun f args K Q e s h => by
  have h : Cf48 f args K Q e s := h
  unfold Cf48 at h; split at h
  · exact h.elim) (fun _ _ _ _ _ _ _ _ _ h => h)
theorem c48 : callable Try.prog 48 = true := by kernel_rfl
theorem pf48 (n lo hi : Int) : PF Try.prog 48 [.i n, .i lo, .i hi] (fun zz => zz = .ret (.b (inB n lo hi))) := by
  refine PF_nil (PF_start (O := O48) Ct48_ok hmix ho48 Try.func48 c48 rfl Try.ntmps48 Try.results48 ?_)
  simp (maxSteps := 4000000) +contextual (disch := first | omega | exact qdb_ok (by kernel_rfl) | exact okb_ok (by kernel_rfl)) only [bw1,bw2,bw3,bw4,bw5,bw6,bw7,zcell,setPs,sv,gif_true,gif_false,gif_eq,AV.frz,Sto.frz,updAll,AV.cpy,Sto.cpy,ifV,isEqB,nilV,nilX,cloV,AV.isNilS,AV.isNoRows,setAll,wk,wkG,AV.own.injEq,dclo,maskB,datOf,Option.any,List.isEmpty,Sto.hidn,binV,binS,binI,binIs,unV,unVs,addF,AV.isPtr,idxV,AV.isSl,AV.isSlice,AV.rows,loadV,loadS,D.part,AV.part,ps,pv,extV,extS,cvI,resAll,resV,resS,AV.outs,outL,AV.outF,Option.map_none,packD,AV.mkAgg,AV.mkTup,AV.dl,fieldV,fieldS,fillV,fillS,AV.cells?,AV.upr,Sto.upr,setR,Sto.get,Sto.ins,Sto.kill,Sto.upd,AV.kill,AV.men,AV.mens,AV.mencs,AV.menc,Sto.mens,Sto.mencs,AV.one,D.one,Value.oneCell',tagOf,AV.isApp,strV,strS,bolV,bolS,slcV,AV.isSlD,optI,optS,asrtS,ifV,bsV,bsS,AV.dcells,D.cells?,AV.no,stcV,stcS,leafOk,eqDs,eqD,Sto.push,Sto.top,Sto.pull,packA,D.val?,D.vals?,beq_self_eq_true,if_true,if_false,ite_true,ite_false,Bool.false_eq_true,Bool.true_eq_false,if_true_left,↓reduceIte,reduceCtorEq,List.getElem?_cons_zero,List.getElem?_cons_succ,List.map_cons,List.map_nil,List.append_nil,List.nil_append,List.cons_append,List.length_cons,List.length_nil,Option.bind_some,Option.getD_some,Option.isSome_some,Option.map_some,true_and,and_true,and_self,true_implies,implies_true,Nat.reduceAdd,Nat.reduceSub,Nat.reduceMul,List.reduceReplicate,List.replicate_zero,List.toList_toArray,Nat.zero_add,Nat.add_zero,List.drop_succ_cons,List.drop_zero,List.take_succ_cons,List.take_zero,List.drop_nil,List.take_nil,Nat.reduceLeDiff,Nat.reduceLT,Nat.reduceBEq,Nat.reduceEqDiff,Int.reduceNeg,Bool.not_true,Bool.not_false,Bool.not_not,Int.reduceEq,Bool.not_eq_true',ne_eq,not_false_eq_true,List.all_cons,List.all_nil,Bool.and_true,Bool.true_and,Bool.and_self,Bool.if_false_right,Bool.if_true_left,Bool.decide_eq_true,Option.some.injEq,exists_eq_left',exists_eq_left,Int.reduceLE,Int.reduceLT,List.not_mem_nil,and_false,false_and,Bool.and_eq_true,decide_eq_true_eq,ite_self,or_true,true_or,or_false,false_or,not_true_eq_false,D.tup.injEq,List.cons.injEq,D.agg.injEq,D.sl.injEq,beq_iff_eq,bne_iff_ne,Bool.or_self,Bool.or_false,Bool.false_or,decide_true,decide_false,End.ret.injEq,D.v.injEq,Value.bool.injEq,Value.int.injEq,tfb,ctz48]
  unfold inB
  try simp_all
def ent48 (args : List AV) (K : AV → List AV → Sto → Prop) (e : List AV) (s : Sto) : Prop := ent (α := (Int) × (Int) × (Int)) (fun aa => [.i aa.1, .i aa.2.1, .i aa.2.2]) (fun aa => True) (fun aa => .b (inB aa.1 aa.2.1 aa.2.2)) args K e s
theorem ent48_ok {args : List AV} {K : AV → List AV → Sto → Prop} {Q : Kt} {e : List AV} {s : Sto} (h : ent48 args K e s) : pcall Try.prog 48 args K Q e s := ent_ok (fun aa h => pf48 aa.1 aa.2.1 aa.2.2) h
theorem eq48 {n : Int} {lo : Int} {hi : Int} {KK : AV → List AV → Sto → Prop} {ee : List AV} {ss : Sto} : ent48 [.d (.i n), .d (.i lo), .d (.i hi)] KK ee ss = (KK (.d (.b (inB n lo hi))) ee ss) := by
  unfold ent48; rw [ent_iff (n, lo, hi) (by intro b h; simpa [Prod.ext_iff, and_assoc, sen_inj, sens_inj, ints_inj] using h) rfl]; simp
def O36 : Nat → Sch := fun id => .done
theorem ho36 : Try.f36.body.map (okO O36) = some true := by kernel_rfl
def Cf36 : Nat → List AV → (AV → List AV → Sto → Prop) → Kt → List AV → Sto → Prop := fun f args K Q e s => match f with
  | 48 => ent48 args K e s
  | _ => False
def Ct36 : CT := { f := Cf36, y := noYld, z := fun d => false }
theorem ctz36 {d : Nat} : CT.z Ct36 d = (false) := id rfl
theorem Ct36_ok : Ct36.ok Try.prog := ok_of_f (fun f args K Q e s h => by
  have h : Cf36 f args K Q e s := h
  unfold Cf36 at h; split at h
  · exact ent48_ok h
  · exact h.elim) (fun _ _ _ _ _ _ _ _ _ h => h)
theorem x36_48 {n : Int} {lo : Int} {hi : Int} {KK : AV → List AV → Sto → Prop} {QQ : Kt} {ii : At KK} {jj : At QQ} {ee : List AV} {ss : Sto} : xC Ct36 48 [.d (.i n), .d (.i lo), .d (.i hi)] KK QQ ii jj ee ss = (KK (.d (.b (inB n lo hi))) ee ss) := eq48
theorem c36 : callable Try.prog 36 = true := by kernel_rfl
theorem pf36 (n : Int) : PF Try.prog 36 [.i n] (fun zz => zz = .ret (.b (gas n))) := by
  refine PF_nil (PF_start (O := O36) Ct36_ok hmix ho36 Try.func36 c36 rfl Try.ntmps36 Try.results36 ?_)
  simp (maxSteps := 4000000) +contextual (disch := first | omega | exact qdb_ok (by kernel_rfl) | exact okb_ok (by kernel_rfl)) only [bw1,bw2,bw3,bw4,bw5,bw6,bw7,zcell,setPs,sv,gif_true,gif_false,gif_eq,AV.frz,Sto.frz,updAll,AV.cpy,Sto.cpy,ifV,isEqB,nilV,nilX,cloV,AV.isNilS,AV.isNoRows,setAll,wk,wkG,AV.own.injEq,dclo,maskB,datOf,Option.any,List.isEmpty,Sto.hidn,binV,binS,binI,binIs,unV,unVs,addF,AV.isPtr,idxV,AV.isSl,AV.isSlice,AV.rows,loadV,loadS,D.part,AV.part,ps,pv,extV,extS,cvI,resAll,resV,resS,AV.outs,outL,AV.outF,Option.map_none,packD,AV.mkAgg,AV.mkTup,AV.dl,fieldV,fieldS,fillV,fillS,AV.cells?,AV.upr,Sto.upr,setR,Sto.get,Sto.ins,Sto.kill,Sto.upd,AV.kill,AV.men,AV.mens,AV.mencs,AV.menc,Sto.mens,Sto.mencs,AV.one,D.one,Value.oneCell',tagOf,AV.isApp,strV,strS,bolV,bolS,slcV,AV.isSlD,optI,optS,asrtS,ifV,bsV,bsS,AV.dcells,D.cells?,AV.no,stcV,stcS,leafOk,eqDs,eqD,Sto.push,Sto.top,Sto.pull,packA,D.val?,D.vals?,beq_self_eq_true,if_true,if_false,ite_true,ite_false,Bool.false_eq_true,Bool.true_eq_false,if_true_left,↓reduceIte,reduceCtorEq,List.getElem?_cons_zero,List.getElem?_cons_succ,List.map_cons,List.map_nil,List.append_nil,List.nil_append,List.cons_append,List.length_cons,List.length_nil,Option.bind_some,Option.getD_some,Option.isSome_some,Option.map_some,true_and,and_true,and_self,true_implies,implies_true,Nat.reduceAdd,Nat.reduceSub,Nat.reduceMul,List.reduceReplicate,List.replicate_zero,List.toList_toArray,Nat.zero_add,Nat.add_zero,List.drop_succ_cons,List.drop_zero,List.take_succ_cons,List.take_zero,List.drop_nil,List.take_nil,Nat.reduceLeDiff,Nat.reduceLT,Nat.reduceBEq,Nat.reduceEqDiff,Int.reduceNeg,Bool.not_true,Bool.not_false,Bool.not_not,Int.reduceEq,Bool.not_eq_true',ne_eq,not_false_eq_true,List.all_cons,List.all_nil,Bool.and_true,Bool.true_and,Bool.and_self,Bool.if_false_right,Bool.if_true_left,Bool.decide_eq_true,Option.some.injEq,exists_eq_left',exists_eq_left,Int.reduceLE,Int.reduceLT,List.not_mem_nil,and_false,false_and,Bool.and_eq_true,decide_eq_true_eq,ite_self,or_true,true_or,or_false,false_or,not_true_eq_false,D.tup.injEq,List.cons.injEq,D.agg.injEq,D.sl.injEq,beq_iff_eq,bne_iff_ne,Bool.or_self,Bool.or_false,Bool.false_or,decide_true,decide_false,End.ret.injEq,D.v.injEq,Value.bool.injEq,Value.int.injEq,tfb,ctz36,x36_48,gas]
def ent36 (args : List AV) (K : AV → List AV → Sto → Prop) (e : List AV) (s : Sto) : Prop := ent (α := (Int)) (fun aa => [.i aa]) (fun aa => True) (fun aa => .b (gas aa)) args K e s
theorem ent36_ok {args : List AV} {K : AV → List AV → Sto → Prop} {Q : Kt} {e : List AV} {s : Sto} (h : ent36 args K e s) : pcall Try.prog 36 args K Q e s := ent_ok (fun aa h => pf36 aa) h
theorem eq36 {n : Int} {KK : AV → List AV → Sto → Prop} {ee : List AV} {ss : Sto} : ent36 [.d (.i n)] KK ee ss = (KK (.d (.b (gas n))) ee ss) := by
  unfold ent36; rw [ent_iff n (by intro b h; simpa [Prod.ext_iff, and_assoc, sen_inj, sens_inj, ints_inj] using h) rfl]; simp
def O37 : Nat → Sch := fun id => .done
theorem ho37 : Try.f37.body.map (okO O37) = some true := by kernel_rfl
def Cf37 : Nat → List AV → (AV → List AV → Sto → Prop) → Kt → List AV → Sto → Prop := fun f args K Q e s => match f with
  | 48 => ent48 args K e s
  | _ => False
def Ct37 : CT := { f := Cf37, y := noYld, z := fun d => false }
theorem ctz37 {d : Nat} : CT.z Ct37 d = (false) := id rfl
theorem Ct37_ok : Ct37.ok Try.prog := ok_of_f (fun f args K Q e s h => by
  have h : Cf37 f args K Q e s := h
  unfold Cf37 at h; split at h
  · exact ent48_ok h
  · exact h.elim) (fun _ _ _ _ _ _ _ _ _ h => h)
theorem x37_48 {n : Int} {lo : Int} {hi : Int} {KK : AV → List AV → Sto → Prop} {QQ : Kt} {ii : At KK} {jj : At QQ} {ee : List AV} {ss : Sto} : xC Ct37 48 [.d (.i n), .d (.i lo), .d (.i hi)] KK QQ ii jj ee ss = (KK (.d (.b (inB n lo hi))) ee ss) := eq48
theorem c37 : callable Try.prog 37 = true := by kernel_rfl
theorem pf37 (a b : Int) : PF Try.prog 37 [.i a, .i b] (fun zz => zz = .ret (.b (tim a b))) := by
  refine PF_nil (PF_start (O := O37) Ct37_ok hmix ho37 Try.func37 c37 rfl Try.ntmps37 Try.results37 ?_)
  simp (maxSteps := 4000000) +contextual (disch := first | omega | exact qdb_ok (by kernel_rfl) | exact okb_ok (by kernel_rfl)) only [bw1,bw2,bw3,bw4,bw5,bw6,bw7,zcell,setPs,sv,gif_true,gif_false,gif_eq,AV.frz,Sto.frz,updAll,AV.cpy,Sto.cpy,ifV,isEqB,nilV,nilX,cloV,AV.isNilS,AV.isNoRows,setAll,wk,wkG,AV.own.injEq,dclo,maskB,datOf,Option.any,List.isEmpty,Sto.hidn,binV,binS,binI,binIs,unV,unVs,addF,AV.isPtr,idxV,AV.isSl,AV.isSlice,AV.rows,loadV,loadS,D.part,AV.part,ps,pv,extV,extS,cvI,resAll,resV,resS,AV.outs,outL,AV.outF,Option.map_none,packD,AV.mkAgg,AV.mkTup,AV.dl,fieldV,fieldS,fillV,fillS,AV.cells?,AV.upr,Sto.upr,setR,Sto.get,Sto.ins,Sto.kill,Sto.upd,AV.kill,AV.men,AV.mens,AV.mencs,AV.menc,Sto.mens,Sto.mencs,AV.one,D.one,Value.oneCell',tagOf,AV.isApp,strV,strS,bolV,bolS,slcV,AV.isSlD,optI,optS,asrtS,ifV,bsV,bsS,AV.dcells,D.cells?,AV.no,stcV,stcS,leafOk,eqDs,eqD,Sto.push,Sto.top,Sto.pull,packA,D.val?,D.vals?,beq_self_eq_true,if_true,if_false,ite_true,ite_false,Bool.false_eq_true,Bool.true_eq_false,if_true_left,↓reduceIte,reduceCtorEq,List.getElem?_cons_zero,List.getElem?_cons_succ,List.map_cons,List.map_nil,List.append_nil,List.nil_append,List.cons_append,List.length_cons,List.length_nil,Option.bind_some,Option.getD_some,Option.isSome_some,Option.map_some,true_and,and_true,and_self,true_implies,implies_true,Nat.reduceAdd,Nat.reduceSub,Nat.reduceMul,List.reduceReplicate,List.replicate_zero,List.toList_toArray,Nat.zero_add,Nat.add_zero,List.drop_succ_cons,List.drop_zero,List.take_succ_cons,List.take_zero,List.drop_nil,List.take_nil,Nat.reduceLeDiff,Nat.reduceLT,Nat.reduceBEq,Nat.reduceEqDiff,Int.reduceNeg,Bool.not_true,Bool.not_false,Bool.not_not,Int.reduceEq,Bool.not_eq_true',ne_eq,not_false_eq_true,List.all_cons,List.all_nil,Bool.and_true,Bool.true_and,Bool.and_self,Bool.if_false_right,Bool.if_true_left,Bool.decide_eq_true,Option.some.injEq,exists_eq_left',exists_eq_left,Int.reduceLE,Int.reduceLT,List.not_mem_nil,and_false,false_and,Bool.and_eq_true,decide_eq_true_eq,ite_self,or_true,true_or,or_false,false_or,not_true_eq_false,D.tup.injEq,List.cons.injEq,D.agg.injEq,D.sl.injEq,beq_iff_eq,bne_iff_ne,Bool.or_self,Bool.or_false,Bool.false_or,decide_true,decide_false,End.ret.injEq,D.v.injEq,Value.bool.injEq,Value.int.injEq,tfb,ctz37,x37_48,tim]
  cases inB b 0 2000 <;> simp
def ent37 (args : List AV) (K : AV → List AV → Sto → Prop) (e : List AV) (s : Sto) : Prop := ent (α := (Int) × (Int)) (fun aa => [.i aa.1, .i aa.2]) (fun aa => True) (fun aa => .b (tim aa.1 aa.2)) args K e s
theorem ent37_ok {args : List AV} {K : AV → List AV → Sto → Prop} {Q : Kt} {e : List AV} {s : Sto} (h : ent37 args K e s) : pcall Try.prog 37 args K Q e s := ent_ok (fun aa h => pf37 aa.1 aa.2) h
theorem eq37 {a : Int} {b : Int} {KK : AV → List AV → Sto → Prop} {ee : List AV} {ss : Sto} : ent37 [.d (.i a), .d (.i b)] KK ee ss = (KK (.d (.b (tim a b))) ee ss) := by
  unfold ent37; rw [ent_iff (a, b) (by intro b h; simpa [Prod.ext_iff, and_assoc, sen_inj, sens_inj, ints_inj] using h) rfl]; simp
def O53 : Nat → Sch := fun id => .done
theorem ho53 : Try.f53.body.map (okO O53) = some true := by kernel_rfl
def Cf53 : Nat → List AV → (AV → List AV → Sto → Prop) → Kt → List AV → Sto → Prop := fun f args K Q e s => match f with
  | 36 => ent36 args K e s
  | 48 => ent48 args K e s
  | _ => False
def Ct53 : CT := { f := Cf53, y := noYld, z := fun d => false }
theorem ctz53 {d : Nat} : CT.z Ct53 d = (false) := id rfl
theorem Ct53_ok : Ct53.ok Try.prog := ok_of_f (fun f args K Q e s h => by
  have h : Cf53 f args K Q e s := h
  unfold Cf53 at h; split at h
  · exact ent36_ok h
  · exact ent48_ok h
  · exact h.elim) (fun _ _ _ _ _ _ _ _ _ h => h)
theorem x53_48 {n : Int} {lo : Int} {hi : Int} {KK : AV → List AV → Sto → Prop} {QQ : Kt} {ii : At KK} {jj : At QQ} {ee : List AV} {ss : Sto} : xC Ct53 48 [.d (.i n), .d (.i lo), .d (.i hi)] KK QQ ii jj ee ss = (KK (.d (.b (inB n lo hi))) ee ss) := eq48
theorem x53_36 {n : Int} {KK : AV → List AV → Sto → Prop} {QQ : Kt} {ii : At KK} {jj : At QQ} {ee : List AV} {ss : Sto} : xC Ct53 36 [.d (.i n)] KK QQ ii jj ee ss = (KK (.d (.b (gas n))) ee ss) := eq36
theorem c53 : callable Try.prog 53 = true := by kernel_rfl
def O65 : Nat → Sch := fun id => .done
theorem ho65 : Try.f65.body.map (okO O65) = some true := by kernel_rfl
def Cf65 : Nat → List AV → (AV → List AV → Sto → Prop) → Kt → List AV → Sto → Prop := fun f args K Q e s => match f with
  | 53 => inlE Try.prog Ct53 O53 53000 53 args K Q e s
  | _ => False
def Ct65 : CT := { f := Cf65, y := noYld, z := fun d => false }
theorem ctz65 {d : Nat} : CT.z Ct65 d = (false) := id rfl
theorem Ct65_ok : Ct65.ok Try.prog := ok_of_f (fun f args K Q e s h => by
  have h : Cf65 f args K Q e s := h
  unfold Cf65 at h; split at h
  · exact inlE_ok Ct53_ok hmix ho53 h
  · exact h.elim) (fun _ _ _ _ _ _ _ _ _ h => h)
theorem z65_53 : type_of% (@xinl Try.prog Ct65 Ct53 O53 53000 53 _ _ _ _ rfl c53 Try.func53 rfl Try.ntmps53 Try.results53) := @xinl Try.prog Ct65 Ct53 O53 53000 53 _ _ _ _ rfl c53 Try.func53 rfl Try.ntmps53 Try.results53
theorem c65 : callable Try.prog 65 = true := by kernel_rfl
theorem pf65 (l : List Sen) (h : l.length ≤ 1000) : PF Try.prog 65 [.sl 3 (l.map Sen.c), .v (.func (.func 53) #[] #[])] (fun zz => zz = .ret (.i (fbp Sen.bad l 0 l.length))) := by
  refine PF_nil (PF_start (O := O65) Ct65_ok hmix ho65 Try.func65 c65 rfl Try.ntmps65 Try.results65 ?_)
  simp (maxSteps := 4000000) +contextual (disch := first | omega | exact qdb_ok (by kernel_rfl) | exact okb_ok (by kernel_rfl)) only [bw1,bw2,bw3,bw4,bw5,bw6,bw7,zcell,setPs,sv,gif_true,gif_false,gif_eq,AV.frz,Sto.frz,updAll,AV.cpy,Sto.cpy,ifV,isEqB,nilV,nilX,cloV,AV.isNilS,AV.isNoRows,setAll,wk,wkG,AV.own.injEq,dclo,maskB,datOf,Option.any,List.isEmpty,Sto.hidn,binV,binS,binI,binIs,unV,unVs,addF,AV.isPtr,idxV,AV.isSl,AV.isSlice,AV.rows,loadV,loadS,D.part,AV.part,ps,pv,extV,extS,cvI,resAll,resV,resS,AV.outs,outL,AV.outF,Option.map_none,packD,AV.mkAgg,AV.mkTup,AV.dl,fieldV,fieldS,fillV,fillS,AV.cells?,AV.upr,Sto.upr,setR,Sto.get,Sto.ins,Sto.kill,Sto.upd,AV.kill,AV.men,AV.mens,AV.mencs,AV.menc,Sto.mens,Sto.mencs,AV.one,D.one,Value.oneCell',tagOf,AV.isApp,strV,strS,bolV,bolS,slcV,AV.isSlD,optI,optS,asrtS,ifV,bsV,bsS,AV.dcells,D.cells?,AV.no,stcV,stcS,leafOk,eqDs,eqD,Sto.push,Sto.top,Sto.pull,packA,D.val?,D.vals?,beq_self_eq_true,if_true,if_false,ite_true,ite_false,Bool.false_eq_true,Bool.true_eq_false,if_true_left,↓reduceIte,reduceCtorEq,List.getElem?_cons_zero,List.getElem?_cons_succ,List.map_cons,List.map_nil,List.append_nil,List.nil_append,List.cons_append,List.length_cons,List.length_nil,Option.bind_some,Option.getD_some,Option.isSome_some,Option.map_some,true_and,and_true,and_self,true_implies,implies_true,Nat.reduceAdd,Nat.reduceSub,Nat.reduceMul,List.reduceReplicate,List.replicate_zero,List.toList_toArray,Nat.zero_add,Nat.add_zero,List.drop_succ_cons,List.drop_zero,List.take_succ_cons,List.take_zero,List.drop_nil,List.take_nil,Nat.reduceLeDiff,Nat.reduceLT,Nat.reduceBEq,Nat.reduceEqDiff,Int.reduceNeg,Bool.not_true,Bool.not_false,Bool.not_not,Int.reduceEq,Bool.not_eq_true',ne_eq,not_false_eq_true,List.all_cons,List.all_nil,Bool.and_true,Bool.true_and,Bool.and_self,Bool.if_false_right,Bool.if_true_left,Bool.decide_eq_true,Option.some.injEq,exists_eq_left',exists_eq_left,Int.reduceLE,Int.reduceLT,List.not_mem_nil,and_false,false_and,Bool.and_eq_true,decide_eq_true_eq,ite_self,or_true,true_or,or_false,false_or,not_true_eq_false,D.tup.injEq,List.cons.injEq,D.agg.injEq,D.sl.injEq,beq_iff_eq,bne_iff_ne,Bool.or_self,Bool.or_false,Bool.false_or,decide_true,decide_false,End.ret.injEq,D.v.injEq,Value.bool.injEq,Value.int.injEq,tfb,ctz65,z65_53,ctz53,x53_48,x53_36]
  refine loop_s (O := O65) (tb := 0) Ct65_ok hmix (by kernel_rfl) (σ := Nat) (fun i => [(8, .i i)]) (fun i => i ≤ l.length ∧ fbp Sen.bad l i (l.length - i) = fbp Sen.bad l 0 l.length) (fun i => l.length - i) (fun i => i + 1) 0 ⟨by omega, rfl⟩ ?_ ?_
  · simp (maxSteps := 4000000) +contextual (disch := first | omega | exact qdb_ok (by kernel_rfl) | exact okb_ok (by kernel_rfl)) only [bw1,bw2,bw3,bw4,bw5,bw6,bw7,zcell,setPs,sv,gif_true,gif_false,gif_eq,AV.frz,Sto.frz,updAll,AV.cpy,Sto.cpy,ifV,isEqB,nilV,nilX,cloV,AV.isNilS,AV.isNoRows,setAll,wk,wkG,AV.own.injEq,dclo,maskB,datOf,Option.any,List.isEmpty,Sto.hidn,binV,binS,binI,binIs,unV,unVs,addF,AV.isPtr,idxV,AV.isSl,AV.isSlice,AV.rows,loadV,loadS,D.part,AV.part,ps,pv,extV,extS,cvI,resAll,resV,resS,AV.outs,outL,AV.outF,Option.map_none,packD,AV.mkAgg,AV.mkTup,AV.dl,fieldV,fieldS,fillV,fillS,AV.cells?,AV.upr,Sto.upr,setR,Sto.get,Sto.ins,Sto.kill,Sto.upd,AV.kill,AV.men,AV.mens,AV.mencs,AV.menc,Sto.mens,Sto.mencs,AV.one,D.one,Value.oneCell',tagOf,AV.isApp,strV,strS,bolV,bolS,slcV,AV.isSlD,optI,optS,asrtS,ifV,bsV,bsS,AV.dcells,D.cells?,AV.no,stcV,stcS,leafOk,eqDs,eqD,Sto.push,Sto.top,Sto.pull,packA,D.val?,D.vals?,beq_self_eq_true,if_true,if_false,ite_true,ite_false,Bool.false_eq_true,Bool.true_eq_false,if_true_left,↓reduceIte,reduceCtorEq,List.getElem?_cons_zero,List.getElem?_cons_succ,List.map_cons,List.map_nil,List.append_nil,List.nil_append,List.cons_append,List.length_cons,List.length_nil,Option.bind_some,Option.getD_some,Option.isSome_some,Option.map_some,true_and,and_true,and_self,true_implies,implies_true,Nat.reduceAdd,Nat.reduceSub,Nat.reduceMul,List.reduceReplicate,List.replicate_zero,List.toList_toArray,Nat.zero_add,Nat.add_zero,List.drop_succ_cons,List.drop_zero,List.take_succ_cons,List.take_zero,List.drop_nil,List.take_nil,Nat.reduceLeDiff,Nat.reduceLT,Nat.reduceBEq,Nat.reduceEqDiff,Int.reduceNeg,Bool.not_true,Bool.not_false,Bool.not_not,Int.reduceEq,Bool.not_eq_true',ne_eq,not_false_eq_true,List.all_cons,List.all_nil,Bool.and_true,Bool.true_and,Bool.and_self,Bool.if_false_right,Bool.if_true_left,Bool.decide_eq_true,Option.some.injEq,exists_eq_left',exists_eq_left,Int.reduceLE,Int.reduceLT,List.not_mem_nil,and_false,false_and,Bool.and_eq_true,decide_eq_true_eq,ite_self,or_true,true_or,or_false,false_or,not_true_eq_false,D.tup.injEq,List.cons.injEq,D.agg.injEq,D.sl.injEq,beq_iff_eq,bne_iff_ne,Bool.or_self,Bool.or_false,Bool.false_or,decide_true,decide_false,End.ret.injEq,D.v.injEq,Value.bool.injEq,Value.int.injEq,tfb,ctz65,z65_53,ctz53,x53_48,x53_36]
  rintro i ⟨hi, hf⟩
  by_cases hlt : i < l.length
  · have hlt' : (i : Int) < l.length := by omega
    rw [show l.length - i = (l.length - (i + 1)) + 1 by omega, fbp] at hf
    rw [show (l.getD i default).bad = (!inB (l.getD i default).first 0 2000 || !inB (l.getD i default).every 1 1000 || !gas (l.getD i default).err) from rfl] at hf
    simp (maxSteps := 4000000) +contextual (disch := first | omega | exact qdb_ok (by kernel_rfl) | exact okb_ok (by kernel_rfl)) only [bw1,bw2,bw3,bw4,bw5,bw6,bw7,zcell,setPs,sv,gif_true,gif_false,gif_eq,AV.frz,Sto.frz,updAll,AV.cpy,Sto.cpy,ifV,isEqB,nilV,nilX,cloV,AV.isNilS,AV.isNoRows,setAll,wk,wkG,AV.own.injEq,dclo,maskB,datOf,Option.any,List.isEmpty,Sto.hidn,binV,binS,binI,binIs,unV,unVs,addF,AV.isPtr,idxV,AV.isSl,AV.isSlice,AV.rows,loadV,loadS,D.part,AV.part,ps,pv,extV,extS,cvI,resAll,resV,resS,AV.outs,outL,AV.outF,Option.map_none,packD,AV.mkAgg,AV.mkTup,AV.dl,fieldV,fieldS,fillV,fillS,AV.cells?,AV.upr,Sto.upr,setR,Sto.get,Sto.ins,Sto.kill,Sto.upd,AV.kill,AV.men,AV.mens,AV.mencs,AV.menc,Sto.mens,Sto.mencs,AV.one,D.one,Value.oneCell',tagOf,AV.isApp,strV,strS,bolV,bolS,slcV,AV.isSlD,optI,optS,asrtS,ifV,bsV,bsS,AV.dcells,D.cells?,AV.no,stcV,stcS,leafOk,eqDs,eqD,Sto.push,Sto.top,Sto.pull,packA,D.val?,D.vals?,beq_self_eq_true,if_true,if_false,ite_true,ite_false,Bool.false_eq_true,Bool.true_eq_false,if_true_left,↓reduceIte,reduceCtorEq,List.getElem?_cons_zero,List.getElem?_cons_succ,List.map_cons,List.map_nil,List.append_nil,List.nil_append,List.cons_append,List.length_cons,List.length_nil,Option.bind_some,Option.getD_some,Option.isSome_some,Option.map_some,true_and,and_true,and_self,true_implies,implies_true,Nat.reduceAdd,Nat.reduceSub,Nat.reduceMul,List.reduceReplicate,List.replicate_zero,List.toList_toArray,Nat.zero_add,Nat.add_zero,List.drop_succ_cons,List.drop_zero,List.take_succ_cons,List.take_zero,List.drop_nil,List.take_nil,Nat.reduceLeDiff,Nat.reduceLT,Nat.reduceBEq,Nat.reduceEqDiff,Int.reduceNeg,Bool.not_true,Bool.not_false,Bool.not_not,Int.reduceEq,Bool.not_eq_true',ne_eq,not_false_eq_true,List.all_cons,List.all_nil,Bool.and_true,Bool.true_and,Bool.and_self,Bool.if_false_right,Bool.if_true_left,Bool.decide_eq_true,Option.some.injEq,exists_eq_left',exists_eq_left,Int.reduceLE,Int.reduceLT,List.not_mem_nil,and_false,false_and,Bool.and_eq_true,decide_eq_true_eq,ite_self,or_true,true_or,or_false,false_or,not_true_eq_false,D.tup.injEq,List.cons.injEq,D.agg.injEq,D.sl.injEq,beq_iff_eq,bne_iff_ne,Bool.or_self,Bool.or_false,Bool.false_or,decide_true,decide_false,End.ret.injEq,D.v.injEq,Value.bool.injEq,Value.int.injEq,tfb,ctz65,z65_53,ctz53,x53_48,x53_36,hlt', Int.natCast_nonneg]
    cases h1 : inB (l.getD i default).first 0 2000 <;> cases h2 : inB (l.getD i default).every 1 1000 <;> cases h3 : gas (l.getD i default).err <;> rw [h1, h2, h3] at hf <;> first | exact hf | exact ⟨⟨hlt, hf⟩, by omega⟩
  · have hlt' : ¬ (i : Int) < l.length := by omega
    rw [show l.length - i = 0 by omega, fbp] at hf
    simp (maxSteps := 4000000) +contextual (disch := first | omega | exact qdb_ok (by kernel_rfl) | exact okb_ok (by kernel_rfl)) only [bw1,bw2,bw3,bw4,bw5,bw6,bw7,zcell,setPs,sv,gif_true,gif_false,gif_eq,AV.frz,Sto.frz,updAll,AV.cpy,Sto.cpy,ifV,isEqB,nilV,nilX,cloV,AV.isNilS,AV.isNoRows,setAll,wk,wkG,AV.own.injEq,dclo,maskB,datOf,Option.any,List.isEmpty,Sto.hidn,binV,binS,binI,binIs,unV,unVs,addF,AV.isPtr,idxV,AV.isSl,AV.isSlice,AV.rows,loadV,loadS,D.part,AV.part,ps,pv,extV,extS,cvI,resAll,resV,resS,AV.outs,outL,AV.outF,Option.map_none,packD,AV.mkAgg,AV.mkTup,AV.dl,fieldV,fieldS,fillV,fillS,AV.cells?,AV.upr,Sto.upr,setR,Sto.get,Sto.ins,Sto.kill,Sto.upd,AV.kill,AV.men,AV.mens,AV.mencs,AV.menc,Sto.mens,Sto.mencs,AV.one,D.one,Value.oneCell',tagOf,AV.isApp,strV,strS,bolV,bolS,slcV,AV.isSlD,optI,optS,asrtS,ifV,bsV,bsS,AV.dcells,D.cells?,AV.no,stcV,stcS,leafOk,eqDs,eqD,Sto.push,Sto.top,Sto.pull,packA,D.val?,D.vals?,beq_self_eq_true,if_true,if_false,ite_true,ite_false,Bool.false_eq_true,Bool.true_eq_false,if_true_left,↓reduceIte,reduceCtorEq,List.getElem?_cons_zero,List.getElem?_cons_succ,List.map_cons,List.map_nil,List.append_nil,List.nil_append,List.cons_append,List.length_cons,List.length_nil,Option.bind_some,Option.getD_some,Option.isSome_some,Option.map_some,true_and,and_true,and_self,true_implies,implies_true,Nat.reduceAdd,Nat.reduceSub,Nat.reduceMul,List.reduceReplicate,List.replicate_zero,List.toList_toArray,Nat.zero_add,Nat.add_zero,List.drop_succ_cons,List.drop_zero,List.take_succ_cons,List.take_zero,List.drop_nil,List.take_nil,Nat.reduceLeDiff,Nat.reduceLT,Nat.reduceBEq,Nat.reduceEqDiff,Int.reduceNeg,Bool.not_true,Bool.not_false,Bool.not_not,Int.reduceEq,Bool.not_eq_true',ne_eq,not_false_eq_true,List.all_cons,List.all_nil,Bool.and_true,Bool.true_and,Bool.and_self,Bool.if_false_right,Bool.if_true_left,Bool.decide_eq_true,Option.some.injEq,exists_eq_left',exists_eq_left,Int.reduceLE,Int.reduceLT,List.not_mem_nil,and_false,false_and,Bool.and_eq_true,decide_eq_true_eq,ite_self,or_true,true_or,or_false,false_or,not_true_eq_false,D.tup.injEq,List.cons.injEq,D.agg.injEq,D.sl.injEq,beq_iff_eq,bne_iff_ne,Bool.or_self,Bool.or_false,Bool.false_or,decide_true,decide_false,End.ret.injEq,D.v.injEq,Value.bool.injEq,Value.int.injEq,tfb,ctz65,z65_53,ctz53,x53_48,x53_36,hlt']
    exact hf
def ent65 (args : List AV) (K : AV → List AV → Sto → Prop) (e : List AV) (s : Sto) : Prop := ent (α := (List Sen)) (fun aa => [.sl 3 (aa.map Sen.c), .v (.func (.func 53) #[] #[])]) (fun aa => aa.length ≤ 1000) (fun aa => .i (fbp Sen.bad aa 0 aa.length)) args K e s
theorem ent65_ok {args : List AV} {K : AV → List AV → Sto → Prop} {Q : Kt} {e : List AV} {s : Sto} (h : ent65 args K e s) : pcall Try.prog 65 args K Q e s := ent_ok (fun aa h => pf65 aa h) h
theorem eq65 {l : List Sen} {KK : AV → List AV → Sto → Prop} {ee : List AV} {ss : Sto} : ent65 [.d (.sl 3 (l.map Sen.c)), .d (.v (.func (.func 53) #[] #[]))] KK ee ss = ((l.length ≤ 1000) ∧ KK (.d (.i (fbp Sen.bad l 0 l.length))) ee ss) := by
  unfold ent65; rw [ent_iff l (by intro b h; simpa [Prod.ext_iff, and_assoc, sen_inj, sens_inj, ints_inj] using h) rfl]; simp
theorem eqo65 {l : List Sen} {g1 el1 : Nat} {KK : AV → List AV → Sto → Prop} {ee : List AV} {ss : Sto} : ent65 [.own g1 el1 3 (l.map Sen.c), .d (.v (.func (.func 53) #[] #[]))] KK ee ss = ((l.length ≤ 1000) ∧ (.i (fbp Sen.bad l 0 l.length) : D).flat = true ∧ KK (.d (.i (fbp Sen.bad l 0 l.length))) ee ss) := by
  unfold ent65; rw [ent_iff l (by intro b h; simpa [Prod.ext_iff, and_assoc, sen_inj, sens_inj, ints_inj] using h) rfl]; simp
def O54 : Nat → Sch := fun id => .done
theorem ho54 : Try.f54.body.map (okO O54) = some true := by kernel_rfl
def Cf54 : Nat → List AV → (AV → List AV → Sto → Prop) → Kt → List AV → Sto → Prop := fun f args K Q e s => match f with
  | 65 => ent65 args K e s
  | _ => False
def Ct54 : CT := { f := Cf54, y := noYld, z := fun d => false }
theorem ctz54 {d : Nat} : CT.z Ct54 d = (false) := id rfl
theorem Ct54_ok : Ct54.ok Try.prog := ok_of_f (fun f args K Q e s h => by
  have h : Cf54 f args K Q e s := h
  unfold Cf54 at h; split at h
  · exact ent65_ok h
  · exact h.elim) (fun _ _ _ _ _ _ _ _ _ h => h)
theorem x54_65 {l : List Sen} {KK : AV → List AV → Sto → Prop} {QQ : Kt} {ii : At KK} {jj : At QQ} {ee : List AV} {ss : Sto} : xC Ct54 65 [.d (.sl 3 (l.map Sen.c)), .d (.v (.func (.func 53) #[] #[]))] KK QQ ii jj ee ss = ((l.length ≤ 1000) ∧ KK (.d (.i (fbp Sen.bad l 0 l.length))) ee ss) := eq65
theorem x54_65_m1 {l : List Sen} {g1 el1 : Nat} {KK : AV → List AV → Sto → Prop} {QQ : Kt} {ii : At KK} {jj : At QQ} {ee : List AV} {ss : Sto} : xC Ct54 65 [.own g1 el1 3 (l.map Sen.c), .d (.v (.func (.func 53) #[] #[]))] KK QQ ii jj ee ss = ((l.length ≤ 1000) ∧ (.i (fbp Sen.bad l 0 l.length) : D).flat = true ∧ KK (.d (.i (fbp Sen.bad l 0 l.length))) ee ss) := eqo65
theorem c54 : callable Try.prog 54 = true := by kernel_rfl
theorem pf54 (l : List Sen) (h : l.length ≤ 1000) : PF Try.prog 54 [.sl 3 (l.map Sen.c), .v (.func (.func 53) #[] #[])] (fun zz => zz = .ret (.b (l.any Sen.bad))) := by
  refine PF_nil (PF_start (O := O54) Ct54_ok hmix ho54 Try.func54 c54 rfl Try.ntmps54 Try.results54 ?_)
  simp (maxSteps := 4000000) +contextual (disch := first | omega | exact qdb_ok (by kernel_rfl) | exact okb_ok (by kernel_rfl)) only [bw1,bw2,bw3,bw4,bw5,bw6,bw7,zcell,setPs,sv,gif_true,gif_false,gif_eq,AV.frz,Sto.frz,updAll,AV.cpy,Sto.cpy,ifV,isEqB,nilV,nilX,cloV,AV.isNilS,AV.isNoRows,setAll,wk,wkG,AV.own.injEq,dclo,maskB,datOf,Option.any,List.isEmpty,Sto.hidn,binV,binS,binI,binIs,unV,unVs,addF,AV.isPtr,idxV,AV.isSl,AV.isSlice,AV.rows,loadV,loadS,D.part,AV.part,ps,pv,extV,extS,cvI,resAll,resV,resS,AV.outs,outL,AV.outF,Option.map_none,packD,AV.mkAgg,AV.mkTup,AV.dl,fieldV,fieldS,fillV,fillS,AV.cells?,AV.upr,Sto.upr,setR,Sto.get,Sto.ins,Sto.kill,Sto.upd,AV.kill,AV.men,AV.mens,AV.mencs,AV.menc,Sto.mens,Sto.mencs,AV.one,D.one,Value.oneCell',tagOf,AV.isApp,strV,strS,bolV,bolS,slcV,AV.isSlD,optI,optS,asrtS,ifV,bsV,bsS,AV.dcells,D.cells?,AV.no,stcV,stcS,leafOk,eqDs,eqD,Sto.push,Sto.top,Sto.pull,packA,D.val?,D.vals?,beq_self_eq_true,if_true,if_false,ite_true,ite_false,Bool.false_eq_true,Bool.true_eq_false,if_true_left,↓reduceIte,reduceCtorEq,List.getElem?_cons_zero,List.getElem?_cons_succ,List.map_cons,List.map_nil,List.append_nil,List.nil_append,List.cons_append,List.length_cons,List.length_nil,Option.bind_some,Option.getD_some,Option.isSome_some,Option.map_some,true_and,and_true,and_self,true_implies,implies_true,Nat.reduceAdd,Nat.reduceSub,Nat.reduceMul,List.reduceReplicate,List.replicate_zero,List.toList_toArray,Nat.zero_add,Nat.add_zero,List.drop_succ_cons,List.drop_zero,List.take_succ_cons,List.take_zero,List.drop_nil,List.take_nil,Nat.reduceLeDiff,Nat.reduceLT,Nat.reduceBEq,Nat.reduceEqDiff,Int.reduceNeg,Bool.not_true,Bool.not_false,Bool.not_not,Int.reduceEq,Bool.not_eq_true',ne_eq,not_false_eq_true,List.all_cons,List.all_nil,Bool.and_true,Bool.true_and,Bool.and_self,Bool.if_false_right,Bool.if_true_left,Bool.decide_eq_true,Option.some.injEq,exists_eq_left',exists_eq_left,Int.reduceLE,Int.reduceLT,List.not_mem_nil,and_false,false_and,Bool.and_eq_true,decide_eq_true_eq,ite_self,or_true,true_or,or_false,false_or,not_true_eq_false,D.tup.injEq,List.cons.injEq,D.agg.injEq,D.sl.injEq,beq_iff_eq,bne_iff_ne,Bool.or_self,Bool.or_false,Bool.false_or,decide_true,decide_false,End.ret.injEq,D.v.injEq,Value.bool.injEq,Value.int.injEq,tfb,ctz54,x54_65,x54_65_m1]
  exact ⟨h, fbp_any⟩
def ent54 (args : List AV) (K : AV → List AV → Sto → Prop) (e : List AV) (s : Sto) : Prop := ent (α := (List Sen)) (fun aa => [.sl 3 (aa.map Sen.c), .v (.func (.func 53) #[] #[])]) (fun aa => aa.length ≤ 1000) (fun aa => .b (aa.any Sen.bad)) args K e s
theorem ent54_ok {args : List AV} {K : AV → List AV → Sto → Prop} {Q : Kt} {e : List AV} {s : Sto} (h : ent54 args K e s) : pcall Try.prog 54 args K Q e s := ent_ok (fun aa h => pf54 aa h) h
theorem eq54 {l : List Sen} {KK : AV → List AV → Sto → Prop} {ee : List AV} {ss : Sto} : ent54 [.d (.sl 3 (l.map Sen.c)), .d (.v (.func (.func 53) #[] #[]))] KK ee ss = ((l.length ≤ 1000) ∧ KK (.d (.b (l.any Sen.bad))) ee ss) := by
  unfold ent54; rw [ent_iff l (by intro b h; simpa [Prod.ext_iff, and_assoc, sen_inj, sens_inj, ints_inj] using h) rfl]; simp
theorem eqo54 {l : List Sen} {g1 el1 : Nat} {KK : AV → List AV → Sto → Prop} {ee : List AV} {ss : Sto} : ent54 [.own g1 el1 3 (l.map Sen.c), .d (.v (.func (.func 53) #[] #[]))] KK ee ss = ((l.length ≤ 1000) ∧ (.b (l.any Sen.bad) : D).flat = true ∧ KK (.d (.b (l.any Sen.bad))) ee ss) := by
  unfold ent54; rw [ent_iff l (by intro b h; simpa [Prod.ext_iff, and_assoc, sen_inj, sens_inj, ints_inj] using h) rfl]; simp
def O35 : Nat → Sch := fun id => .done
theorem ho35 : Try.f35.body.map (okO O35) = some true := by kernel_rfl
def Cf35 : Nat → List AV → (AV → List AV → Sto → Prop) → Kt → List AV → Sto → Prop := fun f args K Q e s => match f with
  | 48 => ent48 args K e s
  | 54 => ent54 args K e s
  | _ => False
def Ct35 : CT := { f := Cf35, y := noYld, z := fun d => false }
theorem ctz35 {d : Nat} : CT.z Ct35 d = (false) := id rfl
theorem Ct35_ok : Ct35.ok Try.prog := ok_of_f (fun f args K Q e s h => by
  have h : Cf35 f args K Q e s := h
  unfold Cf35 at h; split at h
  · exact ent48_ok h
  · exact ent54_ok h
  · exact h.elim) (fun _ _ _ _ _ _ _ _ _ h => h)
theorem x35_48 {n : Int} {lo : Int} {hi : Int} {KK : AV → List AV → Sto → Prop} {QQ : Kt} {ii : At KK} {jj : At QQ} {ee : List AV} {ss : Sto} : xC Ct35 48 [.d (.i n), .d (.i lo), .d (.i hi)] KK QQ ii jj ee ss = (KK (.d (.b (inB n lo hi))) ee ss) := eq48
theorem x35_54 {l : List Sen} {KK : AV → List AV → Sto → Prop} {QQ : Kt} {ii : At KK} {jj : At QQ} {ee : List AV} {ss : Sto} : xC Ct35 54 [.d (.sl 3 (l.map Sen.c)), .d (.v (.func (.func 53) #[] #[]))] KK QQ ii jj ee ss = ((l.length ≤ 1000) ∧ KK (.d (.b (l.any Sen.bad))) ee ss) := eq54
theorem x35_54_m1 {l : List Sen} {g1 el1 : Nat} {KK : AV → List AV → Sto → Prop} {QQ : Kt} {ii : At KK} {jj : At QQ} {ee : List AV} {ss : Sto} : xC Ct35 54 [.own g1 el1 3 (l.map Sen.c), .d (.v (.func (.func 53) #[] #[]))] KK QQ ii jj ee ss = ((l.length ≤ 1000) ∧ (.b (l.any Sen.bad) : D).flat = true ∧ KK (.d (.b (l.any Sen.bad))) ee ss) := eqo54
theorem c35 : callable Try.prog 35 = true := by kernel_rfl
theorem pf35 (l : List Sen) (vo fa : Int) : PF Try.prog 35 [votd l vo fa] (fun zz => zz = .ret (.b (votOk l vo fa))) := by
  refine PF_nil (PF_start (O := O35) Ct35_ok hmix ho35 Try.func35 c35 rfl Try.ntmps35 Try.results35 ?_)
  simp (maxSteps := 4000000) +contextual (disch := first | omega | exact qdb_ok (by kernel_rfl) | exact okb_ok (by kernel_rfl)) only [bw1,bw2,bw3,bw4,bw5,bw6,bw7,zcell,setPs,sv,gif_true,gif_false,gif_eq,AV.frz,Sto.frz,updAll,AV.cpy,Sto.cpy,ifV,isEqB,nilV,nilX,cloV,AV.isNilS,AV.isNoRows,setAll,wk,wkG,AV.own.injEq,dclo,maskB,datOf,Option.any,List.isEmpty,Sto.hidn,binV,binS,binI,binIs,unV,unVs,addF,AV.isPtr,idxV,AV.isSl,AV.isSlice,AV.rows,loadV,loadS,D.part,AV.part,ps,pv,extV,extS,cvI,resAll,resV,resS,AV.outs,outL,AV.outF,Option.map_none,packD,AV.mkAgg,AV.mkTup,AV.dl,fieldV,fieldS,fillV,fillS,AV.cells?,AV.upr,Sto.upr,setR,Sto.get,Sto.ins,Sto.kill,Sto.upd,AV.kill,AV.men,AV.mens,AV.mencs,AV.menc,Sto.mens,Sto.mencs,AV.one,D.one,Value.oneCell',tagOf,AV.isApp,strV,strS,bolV,bolS,slcV,AV.isSlD,optI,optS,asrtS,ifV,bsV,bsS,AV.dcells,D.cells?,AV.no,stcV,stcS,leafOk,eqDs,eqD,Sto.push,Sto.top,Sto.pull,packA,D.val?,D.vals?,beq_self_eq_true,if_true,if_false,ite_true,ite_false,Bool.false_eq_true,Bool.true_eq_false,if_true_left,↓reduceIte,reduceCtorEq,List.getElem?_cons_zero,List.getElem?_cons_succ,List.map_cons,List.map_nil,List.append_nil,List.nil_append,List.cons_append,List.length_cons,List.length_nil,Option.bind_some,Option.getD_some,Option.isSome_some,Option.map_some,true_and,and_true,and_self,true_implies,implies_true,Nat.reduceAdd,Nat.reduceSub,Nat.reduceMul,List.reduceReplicate,List.replicate_zero,List.toList_toArray,Nat.zero_add,Nat.add_zero,List.drop_succ_cons,List.drop_zero,List.take_succ_cons,List.take_zero,List.drop_nil,List.take_nil,Nat.reduceLeDiff,Nat.reduceLT,Nat.reduceBEq,Nat.reduceEqDiff,Int.reduceNeg,Bool.not_true,Bool.not_false,Bool.not_not,Int.reduceEq,Bool.not_eq_true',ne_eq,not_false_eq_true,List.all_cons,List.all_nil,Bool.and_true,Bool.true_and,Bool.and_self,Bool.if_false_right,Bool.if_true_left,Bool.decide_eq_true,Option.some.injEq,exists_eq_left',exists_eq_left,Int.reduceLE,Int.reduceLT,List.not_mem_nil,and_false,false_and,Bool.and_eq_true,decide_eq_true_eq,ite_self,or_true,true_or,or_false,false_or,not_true_eq_false,D.tup.injEq,List.cons.injEq,D.agg.injEq,D.sl.injEq,beq_iff_eq,bne_iff_ne,Bool.or_self,Bool.or_false,Bool.false_or,decide_true,decide_false,End.ret.injEq,D.v.injEq,Value.bool.injEq,Value.int.injEq,tfb,ctz35,x35_48,x35_54,x35_54_m1]
  unfold votOk
  cases h1 : inB l.length 1 12
  · rfl
  · have := inB_iff.1 h1
    cases h2 : inB vo 1 l.length <;> cases h3 : inB fa 0 l.length <;> first | rfl | exact ⟨by omega, rfl⟩
def ent35 (args : List AV) (K : AV → List AV → Sto → Prop) (e : List AV) (s : Sto) : Prop := ent (α := (List Sen) × (Int) × (Int)) (fun aa => [votd aa.1 aa.2.1 aa.2.2]) (fun aa => True) (fun aa => .b (votOk aa.1 aa.2.1 aa.2.2)) args K e s
theorem ent35_ok {args : List AV} {K : AV → List AV → Sto → Prop} {Q : Kt} {e : List AV} {s : Sto} (h : ent35 args K e s) : pcall Try.prog 35 args K Q e s := ent_ok (fun aa h => pf35 aa.1 aa.2.1 aa.2.2) h
theorem eq35 {l : List Sen} {vo : Int} {fa : Int} {KK : AV → List AV → Sto → Prop} {ee : List AV} {ss : Sto} : ent35 [.d (votd l vo fa)] KK ee ss = (KK (.d (.b (votOk l vo fa))) ee ss) := by
  unfold ent35; rw [ent_iff (l, vo, fa) (by intro b h; simpa [Prod.ext_iff, and_assoc, sen_inj, sens_inj, ints_inj] using h) rfl]; simp
end Go.Proofs.Ytkanibdihhlmgaa
