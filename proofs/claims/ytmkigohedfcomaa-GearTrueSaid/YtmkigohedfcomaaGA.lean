/- A part of the proof that the last text ends: what functions of the program do, told by plain data. -/
import Derived.Test.YtmkigohedfcomaaEb
import Derived.Test.YtmkigohedfcomaaTF
set_option linter.unusedVariables false
set_option linter.unusedSimpArgs false
namespace Go.Proofs.Ytmkigohedfcomaa
open Go Go.E
set_option maxRecDepth 100000
theorem hmix : Try.prog.follows .mixedOrders = true := by kernel_rfl
/-! ### Plain data -/
structure Shop where
  full : Int
  need : Int
  cut : Int
  least : Int
  lo : Int
  hi : Int
  deriving Inhabited, DecidableEq
abbrev Shop.c (s : Shop) : List D := [.i s.full, .i s.need, .i s.cut, .i s.least, .i s.lo, .i s.hi]
abbrev Shop.d (s : Shop) : D := .agg s.c
structure Pair where
  size : Int
  lo : Int
  hi : Int
  blade : Int
  who : Int
  since : Int
  gone : Bool
  deriving Inhabited, DecidableEq
abbrev Pair.c (p : Pair) : List D := [.i p.size, .i p.lo, .i p.hi, .i p.blade, .i p.who, .i p.since, .b p.gone]
structure Ev where
  time : Int
  kind : Int
  pair : Int
  n : Int
  deriving Inhabited, DecidableEq
abbrev Ev.c (x : Ev) : List D := [.i x.time, .i x.kind, .i x.pair, .i x.n]
theorem Shop.inj {a b : Shop} (h : a.c = b.c) : a = b := by cases a; cases b; simp at h; simp [h]
theorem Pair.inj {a b : Pair} (h : a.c = b.c) : a = b := by cases a; cases b; simp at h; simp [h]
theorem Ev.inj {a b : Ev} (h : a.c = b.c) : a = b := by cases a; cases b; simp at h; simp [h]
abbrev ic (n : Int) : List D := [.i n]
theorem shop_inj {a b : Shop} : (a.full = b.full ∧ a.need = b.need ∧ a.cut = b.cut ∧ a.least = b.least ∧ a.lo = b.lo ∧ a.hi = b.hi) = (a = b) := by cases a; cases b; simp
theorem ev_inj {a b : Ev} : (a.time = b.time ∧ a.kind = b.kind ∧ a.pair = b.pair ∧ a.n = b.n) = (a = b) := by cases a; cases b; simp
theorem pairs_inj {a b : List Pair} : (a.map Pair.c = b.map Pair.c) = (a = b) := inj_map fun _ _ h => Pair.inj h
theorem evs_inj {a b : List Ev} : (a.map Ev.c = b.map Ev.c) = (a = b) := inj_map fun _ _ h => Ev.inj h
theorem ints_inj {a b : List Int} : (a.map ic = b.map ic) = (a = b) := inj_map fun _ _ h => by simpa using h
def O27 : Nat → Sch := fun id => .done
theorem ho27 : Try.f27.body.map (okO O27) = some true := by kernel_rfl
def Cf27 : Nat → List AV → (AV → List AV → Sto → Prop) → Kt → List AV → Sto → Prop := fun f args K Q e s => match f with
  | _ => False
def Ct27 : CT := { f := Cf27, y := noYld, z := fun d => false }
theorem ctz27 {d : Nat} : CT.z Ct27 d = (false) := id rfl
theorem Ct27_ok : Ct27.ok Try.prog := ok_of_f (fun f args K Q e s h => by
  have h : Cf27 f args K Q e s := h
  unfold Cf27 at h; split at h
  · exact h.elim) (fun _ _ _ _ _ _ _ _ _ h => h)
theorem c27 : callable Try.prog 27 = true := by kernel_rfl
theorem pf27 (n lo hi : Int) : PF Try.prog 27 [.i n, .i lo, .i hi] (fun zz => zz = .ret (.b (decide (lo ≤ n) && decide (n ≤ hi)))) := by
  refine PF_nil (PF_start (O := O27) Ct27_ok hmix ho27 Try.func27 c27 rfl Try.ntmps27 Try.results27 ?_)
  simp (maxSteps := 4000000) +contextual (disch := first | omega | exact qdb_ok (by kernel_rfl) | exact okb_ok (by kernel_rfl)) only [bw1,bw2,bw3,bw4,bw5,bw6,bw7,zcell,setPs,sv,gif_true,gif_false,gif_eq,AV.frz,Sto.frz,updAll,AV.cpy,Sto.cpy,ifV,isEqB,nilV,nilX,cloV,AV.isNilS,AV.isNoRows,setAll,wk,wkG,AV.own.injEq,dclo,maskB,datOf,Option.any,List.isEmpty,Sto.hidn,binV,binS,binI,binIs,unV,unVs,addF,AV.isPtr,idxV,AV.isSl,AV.isSlice,AV.rows,loadV,loadS,D.part,AV.part,ps,pv,extV,extS,cvI,resAll,resV,resS,AV.outs,outL,AV.outF,Option.map_none,packD,AV.mkAgg,AV.mkTup,AV.dl,fieldV,fieldS,fillV,fillS,AV.cells?,AV.upr,Sto.upr,setR,Sto.get,Sto.ins,Sto.kill,Sto.upd,AV.kill,AV.men,AV.mens,AV.mencs,AV.menc,Sto.mens,Sto.mencs,AV.one,D.one,Value.oneCell',tagOf,AV.isApp,strV,strS,bolV,bolS,slcV,AV.isSlD,optI,optS,asrtS,ifV,bsV,bsS,AV.dcells,D.cells?,AV.no,stcV,stcS,leafOk,eqDs,eqD,Sto.push,Sto.top,Sto.pull,packA,D.val?,D.vals?,beq_self_eq_true,if_true,if_false,ite_true,ite_false,Bool.false_eq_true,Bool.true_eq_false,if_true_left,↓reduceIte,reduceCtorEq,List.getElem?_cons_zero,List.getElem?_cons_succ,List.map_cons,List.map_nil,List.append_nil,List.nil_append,List.cons_append,List.length_cons,List.length_nil,Option.bind_some,Option.getD_some,Option.isSome_some,Option.map_some,true_and,and_true,and_self,true_implies,implies_true,Nat.reduceAdd,Nat.reduceSub,Nat.reduceMul,List.reduceReplicate,List.replicate_zero,List.toList_toArray,Nat.zero_add,Nat.add_zero,List.drop_succ_cons,List.drop_zero,List.take_succ_cons,List.take_zero,List.drop_nil,List.take_nil,Nat.reduceLeDiff,Nat.reduceLT,Nat.reduceBEq,Nat.reduceEqDiff,Int.reduceNeg,Bool.not_true,Bool.not_false,Bool.not_not,Int.reduceEq,Bool.not_eq_true',ne_eq,not_false_eq_true,List.all_cons,List.all_nil,Bool.and_true,Bool.true_and,Bool.and_self,Bool.if_false_right,Bool.if_true_left,Bool.decide_eq_true,Option.some.injEq,exists_eq_left',exists_eq_left,Int.reduceLE,Int.reduceLT,List.not_mem_nil,and_false,false_and,Bool.and_eq_true,decide_eq_true_eq,ite_self,or_true,true_or,or_false,false_or,not_true_eq_false,D.tup.injEq,List.cons.injEq,D.agg.injEq,D.sl.injEq,beq_iff_eq,bne_iff_ne,Bool.or_self,Bool.or_false,Bool.false_or,decide_true,decide_false,End.ret.injEq,D.v.injEq,Value.bool.injEq,Value.int.injEq,tfb,mt97_61,mt99_63,mt101_69,mt102_70,mt103_71,ctz27]
  try simp_all
def ent27 (args : List AV) (K : AV → List AV → Sto → Prop) (e : List AV) (s : Sto) : Prop := ent (α := (Int) × (Int) × (Int)) (fun aa => [.i aa.1, .i aa.2.1, .i aa.2.2]) (fun aa => True) (fun aa => .b (decide (aa.2.1 ≤ aa.1) && decide (aa.1 ≤ aa.2.2))) args K e s
theorem ent27_ok {args : List AV} {K : AV → List AV → Sto → Prop} {Q : Kt} {e : List AV} {s : Sto} (h : ent27 args K e s) : pcall Try.prog 27 args K Q e s := ent_ok (fun aa h => pf27 aa.1 aa.2.1 aa.2.2) h
theorem eq27 {n : Int} {lo : Int} {hi : Int} {KK : AV → List AV → Sto → Prop} {ee : List AV} {ss : Sto} : ent27 [.d (.i n), .d (.i lo), .d (.i hi)] KK ee ss = (KK (.d (.b (decide (lo ≤ n) && decide (n ≤ hi)))) ee ss) := by
  unfold ent27; rw [ent_iff (n, lo, hi) (by intro b h; simpa [Prod.ext_iff, and_assoc, shop_inj, ev_inj, pairs_inj, evs_inj, ints_inj] using h) rfl]; simp
def O26 : Nat → Sch := fun id => .done
theorem ho26 : Try.f26.body.map (okO O26) = some true := by kernel_rfl
def Cf26 : Nat → List AV → (AV → List AV → Sto → Prop) → Kt → List AV → Sto → Prop := fun f args K Q e s => match f with
  | _ => False
def Ct26 : CT := { f := Cf26, y := noYld, z := fun d => false }
theorem ctz26 {d : Nat} : CT.z Ct26 d = (false) := id rfl
theorem Ct26_ok : Ct26.ok Try.prog := ok_of_f (fun f args K Q e s h => by
  have h : Cf26 f args K Q e s := h
  unfold Cf26 at h; split at h
  · exact h.elim) (fun _ _ _ _ _ _ _ _ _ h => h)
theorem c26 : callable Try.prog 26 = true := by kernel_rfl
theorem pf26 (n lo hi : Int) : PF Try.prog 26 [.i n, .i lo, .i hi] (fun zz => zz = .ret (.b (decide (lo ≤ n) && decide (n ≤ hi)))) := by
  refine PF_nil (PF_start (O := O26) Ct26_ok hmix ho26 Try.func26 c26 rfl Try.ntmps26 Try.results26 ?_)
  simp (maxSteps := 4000000) +contextual (disch := first | omega | exact qdb_ok (by kernel_rfl) | exact okb_ok (by kernel_rfl)) only [bw1,bw2,bw3,bw4,bw5,bw6,bw7,zcell,setPs,sv,gif_true,gif_false,gif_eq,AV.frz,Sto.frz,updAll,AV.cpy,Sto.cpy,ifV,isEqB,nilV,nilX,cloV,AV.isNilS,AV.isNoRows,setAll,wk,wkG,AV.own.injEq,dclo,maskB,datOf,Option.any,List.isEmpty,Sto.hidn,binV,binS,binI,binIs,unV,unVs,addF,AV.isPtr,idxV,AV.isSl,AV.isSlice,AV.rows,loadV,loadS,D.part,AV.part,ps,pv,extV,extS,cvI,resAll,resV,resS,AV.outs,outL,AV.outF,Option.map_none,packD,AV.mkAgg,AV.mkTup,AV.dl,fieldV,fieldS,fillV,fillS,AV.cells?,AV.upr,Sto.upr,setR,Sto.get,Sto.ins,Sto.kill,Sto.upd,AV.kill,AV.men,AV.mens,AV.mencs,AV.menc,Sto.mens,Sto.mencs,AV.one,D.one,Value.oneCell',tagOf,AV.isApp,strV,strS,bolV,bolS,slcV,AV.isSlD,optI,optS,asrtS,ifV,bsV,bsS,AV.dcells,D.cells?,AV.no,stcV,stcS,leafOk,eqDs,eqD,Sto.push,Sto.top,Sto.pull,packA,D.val?,D.vals?,beq_self_eq_true,if_true,if_false,ite_true,ite_false,Bool.false_eq_true,Bool.true_eq_false,if_true_left,↓reduceIte,reduceCtorEq,List.getElem?_cons_zero,List.getElem?_cons_succ,List.map_cons,List.map_nil,List.append_nil,List.nil_append,List.cons_append,List.length_cons,List.length_nil,Option.bind_some,Option.getD_some,Option.isSome_some,Option.map_some,true_and,and_true,and_self,true_implies,implies_true,Nat.reduceAdd,Nat.reduceSub,Nat.reduceMul,List.reduceReplicate,List.replicate_zero,List.toList_toArray,Nat.zero_add,Nat.add_zero,List.drop_succ_cons,List.drop_zero,List.take_succ_cons,List.take_zero,List.drop_nil,List.take_nil,Nat.reduceLeDiff,Nat.reduceLT,Nat.reduceBEq,Nat.reduceEqDiff,Int.reduceNeg,Bool.not_true,Bool.not_false,Bool.not_not,Int.reduceEq,Bool.not_eq_true',ne_eq,not_false_eq_true,List.all_cons,List.all_nil,Bool.and_true,Bool.true_and,Bool.and_self,Bool.if_false_right,Bool.if_true_left,Bool.decide_eq_true,Option.some.injEq,exists_eq_left',exists_eq_left,Int.reduceLE,Int.reduceLT,List.not_mem_nil,and_false,false_and,Bool.and_eq_true,decide_eq_true_eq,ite_self,or_true,true_or,or_false,false_or,not_true_eq_false,D.tup.injEq,List.cons.injEq,D.agg.injEq,D.sl.injEq,beq_iff_eq,bne_iff_ne,Bool.or_self,Bool.or_false,Bool.false_or,decide_true,decide_false,End.ret.injEq,D.v.injEq,Value.bool.injEq,Value.int.injEq,tfb,mt97_61,mt99_63,mt101_69,mt102_70,mt103_71,ctz26]
  try simp_all
def Shop.ok (s : Shop) : Bool := (decide (1 ≤ s.full) && decide (s.full ≤ 10000)) && (decide (0 ≤ s.need) && decide (s.need ≤ s.full)) && (decide (1 ≤ s.cut) && decide (s.cut ≤ 10000)) && (decide (0 ≤ s.least) && decide (s.least ≤ 10000)) && decide (0 ≤ s.lo) && decide (s.lo ≤ s.hi) && decide (s.hi ≤ 1000)
def ent26 (args : List AV) (K : AV → List AV → Sto → Prop) (e : List AV) (s : Sto) : Prop := ent (α := (Int) × (Int) × (Int)) (fun aa => [.i aa.1, .i aa.2.1, .i aa.2.2]) (fun aa => True) (fun aa => .b (decide (aa.2.1 ≤ aa.1) && decide (aa.1 ≤ aa.2.2))) args K e s
theorem ent26_ok {args : List AV} {K : AV → List AV → Sto → Prop} {Q : Kt} {e : List AV} {s : Sto} (h : ent26 args K e s) : pcall Try.prog 26 args K Q e s := ent_ok (fun aa h => pf26 aa.1 aa.2.1 aa.2.2) h
theorem eq26 {n : Int} {lo : Int} {hi : Int} {KK : AV → List AV → Sto → Prop} {ee : List AV} {ss : Sto} : ent26 [.d (.i n), .d (.i lo), .d (.i hi)] KK ee ss = (KK (.d (.b (decide (lo ≤ n) && decide (n ≤ hi)))) ee ss) := by
  unfold ent26; rw [ent_iff (n, lo, hi) (by intro b h; simpa [Prod.ext_iff, and_assoc, shop_inj, ev_inj, pairs_inj, evs_inj, ints_inj] using h) rfl]; simp
def O18 : Nat → Sch := fun id => .done
theorem ho18 : Try.f18.body.map (okO O18) = some true := by kernel_rfl
def Cf18 : Nat → List AV → (AV → List AV → Sto → Prop) → Kt → List AV → Sto → Prop := fun f args K Q e s => match f with
  | 27 => ent27 args K e s
  | _ => False
def Ct18 : CT := { f := Cf18, y := noYld, z := fun d => false }
theorem ctz18 {d : Nat} : CT.z Ct18 d = (false) := id rfl
theorem Ct18_ok : Ct18.ok Try.prog := ok_of_f (fun f args K Q e s h => by
  have h : Cf18 f args K Q e s := h
  unfold Cf18 at h; split at h
  · exact ent27_ok h
  · exact h.elim) (fun _ _ _ _ _ _ _ _ _ h => h)
theorem x18_27 {n : Int} {lo : Int} {hi : Int} {KK : AV → List AV → Sto → Prop} {QQ : Kt} {ii : At KK} {jj : At QQ} {ee : List AV} {ss : Sto} : xC Ct18 27 [.d (.i n), .d (.i lo), .d (.i hi)] KK QQ ii jj ee ss = (KK (.d (.b (decide (lo ≤ n) && decide (n ≤ hi)))) ee ss) := eq27
theorem c18 : callable Try.prog 18 = true := by kernel_rfl
theorem pf18 (s : Shop) : PF Try.prog 18 [s.d] (fun zz => zz = .ret (.b s.ok)) := by
  refine PF_nil (PF_start (O := O18) Ct18_ok hmix ho18 Try.func18 c18 rfl Try.ntmps18 Try.results18 ?_)
  simp (maxSteps := 4000000) +contextual (disch := first | omega | exact qdb_ok (by kernel_rfl) | exact okb_ok (by kernel_rfl)) only [bw1,bw2,bw3,bw4,bw5,bw6,bw7,zcell,setPs,sv,gif_true,gif_false,gif_eq,AV.frz,Sto.frz,updAll,AV.cpy,Sto.cpy,ifV,isEqB,nilV,nilX,cloV,AV.isNilS,AV.isNoRows,setAll,wk,wkG,AV.own.injEq,dclo,maskB,datOf,Option.any,List.isEmpty,Sto.hidn,binV,binS,binI,binIs,unV,unVs,addF,AV.isPtr,idxV,AV.isSl,AV.isSlice,AV.rows,loadV,loadS,D.part,AV.part,ps,pv,extV,extS,cvI,resAll,resV,resS,AV.outs,outL,AV.outF,Option.map_none,packD,AV.mkAgg,AV.mkTup,AV.dl,fieldV,fieldS,fillV,fillS,AV.cells?,AV.upr,Sto.upr,setR,Sto.get,Sto.ins,Sto.kill,Sto.upd,AV.kill,AV.men,AV.mens,AV.mencs,AV.menc,Sto.mens,Sto.mencs,AV.one,D.one,Value.oneCell',tagOf,AV.isApp,strV,strS,bolV,bolS,slcV,AV.isSlD,optI,optS,asrtS,ifV,bsV,bsS,AV.dcells,D.cells?,AV.no,stcV,stcS,leafOk,eqDs,eqD,Sto.push,Sto.top,Sto.pull,packA,D.val?,D.vals?,beq_self_eq_true,if_true,if_false,ite_true,ite_false,Bool.false_eq_true,Bool.true_eq_false,if_true_left,↓reduceIte,reduceCtorEq,List.getElem?_cons_zero,List.getElem?_cons_succ,List.map_cons,List.map_nil,List.append_nil,List.nil_append,List.cons_append,List.length_cons,List.length_nil,Option.bind_some,Option.getD_some,Option.isSome_some,Option.map_some,true_and,and_true,and_self,true_implies,implies_true,Nat.reduceAdd,Nat.reduceSub,Nat.reduceMul,List.reduceReplicate,List.replicate_zero,List.toList_toArray,Nat.zero_add,Nat.add_zero,List.drop_succ_cons,List.drop_zero,List.take_succ_cons,List.take_zero,List.drop_nil,List.take_nil,Nat.reduceLeDiff,Nat.reduceLT,Nat.reduceBEq,Nat.reduceEqDiff,Int.reduceNeg,Bool.not_true,Bool.not_false,Bool.not_not,Int.reduceEq,Bool.not_eq_true',ne_eq,not_false_eq_true,List.all_cons,List.all_nil,Bool.and_true,Bool.true_and,Bool.and_self,Bool.if_false_right,Bool.if_true_left,Bool.decide_eq_true,Option.some.injEq,exists_eq_left',exists_eq_left,Int.reduceLE,Int.reduceLT,List.not_mem_nil,and_false,false_and,Bool.and_eq_true,decide_eq_true_eq,ite_self,or_true,true_or,or_false,false_or,not_true_eq_false,D.tup.injEq,List.cons.injEq,D.agg.injEq,D.sl.injEq,beq_iff_eq,bne_iff_ne,Bool.or_self,Bool.or_false,Bool.false_or,decide_true,decide_false,End.ret.injEq,D.v.injEq,Value.bool.injEq,Value.int.injEq,tfb,mt97_61,mt99_63,mt101_69,mt102_70,mt103_71,ctz18,x18_27]
  unfold Shop.ok
  repeat' split
  all_goals (try simp_all)
  all_goals (try omega)
def ent18 (args : List AV) (K : AV → List AV → Sto → Prop) (e : List AV) (s : Sto) : Prop := ent (α := (Shop)) (fun aa => [aa.d]) (fun aa => True) (fun aa => .b aa.ok) args K e s
theorem ent18_ok {args : List AV} {K : AV → List AV → Sto → Prop} {Q : Kt} {e : List AV} {s : Sto} (h : ent18 args K e s) : pcall Try.prog 18 args K Q e s := ent_ok (fun aa h => pf18 aa) h
theorem eq18 {s : Shop} {KK : AV → List AV → Sto → Prop} {ee : List AV} {ss : Sto} : ent18 [.d (s.d)] KK ee ss = (KK (.d (.b s.ok)) ee ss) := by
  unfold ent18; rw [ent_iff s (by intro b h; simpa [Prod.ext_iff, and_assoc, shop_inj, ev_inj, pairs_inj, evs_inj, ints_inj] using h) rfl]; simp
def O25 : Nat → Sch := fun id => .done
theorem ho25 : Try.f25.body.map (okO O25) = some true := by kernel_rfl
def Cf25 : Nat → List AV → (AV → List AV → Sto → Prop) → Kt → List AV → Sto → Prop := fun f args K Q e s => match f with
  | 26 => ent26 args K e s
  | _ => False
def Ct25 : CT := { f := Cf25, y := noYld, z := fun d => false }
theorem ctz25 {d : Nat} : CT.z Ct25 d = (false) := id rfl
theorem Ct25_ok : Ct25.ok Try.prog := ok_of_f (fun f args K Q e s h => by
  have h : Cf25 f args K Q e s := h
  unfold Cf25 at h; split at h
  · exact ent26_ok h
  · exact h.elim) (fun _ _ _ _ _ _ _ _ _ h => h)
theorem x25_26 {n : Int} {lo : Int} {hi : Int} {KK : AV → List AV → Sto → Prop} {QQ : Kt} {ii : At KK} {jj : At QQ} {ee : List AV} {ss : Sto} : xC Ct25 26 [.d (.i n), .d (.i lo), .d (.i hi)] KK QQ ii jj ee ss = (KK (.d (.b (decide (lo ≤ n) && decide (n ≤ hi)))) ee ss) := eq26
theorem c25 : callable Try.prog 25 = true := by kernel_rfl
theorem pf25 (s : Shop) : PF Try.prog 25 [s.d] (fun zz => zz = .ret (.b s.ok)) := by
  refine PF_nil (PF_start (O := O25) Ct25_ok hmix ho25 Try.func25 c25 rfl Try.ntmps25 Try.results25 ?_)
  simp (maxSteps := 4000000) +contextual (disch := first | omega | exact qdb_ok (by kernel_rfl) | exact okb_ok (by kernel_rfl)) only [bw1,bw2,bw3,bw4,bw5,bw6,bw7,zcell,setPs,sv,gif_true,gif_false,gif_eq,AV.frz,Sto.frz,updAll,AV.cpy,Sto.cpy,ifV,isEqB,nilV,nilX,cloV,AV.isNilS,AV.isNoRows,setAll,wk,wkG,AV.own.injEq,dclo,maskB,datOf,Option.any,List.isEmpty,Sto.hidn,binV,binS,binI,binIs,unV,unVs,addF,AV.isPtr,idxV,AV.isSl,AV.isSlice,AV.rows,loadV,loadS,D.part,AV.part,ps,pv,extV,extS,cvI,resAll,resV,resS,AV.outs,outL,AV.outF,Option.map_none,packD,AV.mkAgg,AV.mkTup,AV.dl,fieldV,fieldS,fillV,fillS,AV.cells?,AV.upr,Sto.upr,setR,Sto.get,Sto.ins,Sto.kill,Sto.upd,AV.kill,AV.men,AV.mens,AV.mencs,AV.menc,Sto.mens,Sto.mencs,AV.one,D.one,Value.oneCell',tagOf,AV.isApp,strV,strS,bolV,bolS,slcV,AV.isSlD,optI,optS,asrtS,ifV,bsV,bsS,AV.dcells,D.cells?,AV.no,stcV,stcS,leafOk,eqDs,eqD,Sto.push,Sto.top,Sto.pull,packA,D.val?,D.vals?,beq_self_eq_true,if_true,if_false,ite_true,ite_false,Bool.false_eq_true,Bool.true_eq_false,if_true_left,↓reduceIte,reduceCtorEq,List.getElem?_cons_zero,List.getElem?_cons_succ,List.map_cons,List.map_nil,List.append_nil,List.nil_append,List.cons_append,List.length_cons,List.length_nil,Option.bind_some,Option.getD_some,Option.isSome_some,Option.map_some,true_and,and_true,and_self,true_implies,implies_true,Nat.reduceAdd,Nat.reduceSub,Nat.reduceMul,List.reduceReplicate,List.replicate_zero,List.toList_toArray,Nat.zero_add,Nat.add_zero,List.drop_succ_cons,List.drop_zero,List.take_succ_cons,List.take_zero,List.drop_nil,List.take_nil,Nat.reduceLeDiff,Nat.reduceLT,Nat.reduceBEq,Nat.reduceEqDiff,Int.reduceNeg,Bool.not_true,Bool.not_false,Bool.not_not,Int.reduceEq,Bool.not_eq_true',ne_eq,not_false_eq_true,List.all_cons,List.all_nil,Bool.and_true,Bool.true_and,Bool.and_self,Bool.if_false_right,Bool.if_true_left,Bool.decide_eq_true,Option.some.injEq,exists_eq_left',exists_eq_left,Int.reduceLE,Int.reduceLT,List.not_mem_nil,and_false,false_and,Bool.and_eq_true,decide_eq_true_eq,ite_self,or_true,true_or,or_false,false_or,not_true_eq_false,D.tup.injEq,List.cons.injEq,D.agg.injEq,D.sl.injEq,beq_iff_eq,bne_iff_ne,Bool.or_self,Bool.or_false,Bool.false_or,decide_true,decide_false,End.ret.injEq,D.v.injEq,Value.bool.injEq,Value.int.injEq,tfb,mt97_61,mt99_63,mt101_69,mt102_70,mt103_71,ctz25,x25_26]
  unfold Shop.ok
  repeat' split
  all_goals (try simp_all)
  all_goals (try omega)
def hours (a b : Int) : Int := (b - a + 60 - 1) / 60
def ent25 (args : List AV) (K : AV → List AV → Sto → Prop) (e : List AV) (s : Sto) : Prop := ent (α := (Shop)) (fun aa => [aa.d]) (fun aa => True) (fun aa => .b aa.ok) args K e s
theorem ent25_ok {args : List AV} {K : AV → List AV → Sto → Prop} {Q : Kt} {e : List AV} {s : Sto} (h : ent25 args K e s) : pcall Try.prog 25 args K Q e s := ent_ok (fun aa h => pf25 aa) h
theorem eq25 {s : Shop} {KK : AV → List AV → Sto → Prop} {ee : List AV} {ss : Sto} : ent25 [.d (s.d)] KK ee ss = (KK (.d (.b s.ok)) ee ss) := by
  unfold ent25; rw [ent_iff s (by intro b h; simpa [Prod.ext_iff, and_assoc, shop_inj, ev_inj, pairs_inj, evs_inj, ints_inj] using h) rfl]; simp
def O19 : Nat → Sch := fun id => .done
theorem ho19 : Try.f19.body.map (okO O19) = some true := by kernel_rfl
def Cf19 : Nat → List AV → (AV → List AV → Sto → Prop) → Kt → List AV → Sto → Prop := fun f args K Q e s => match f with
  | _ => False
def Ct19 : CT := { f := Cf19, y := noYld, z := fun d => false }
theorem ctz19 {d : Nat} : CT.z Ct19 d = (false) := id rfl
theorem Ct19_ok : Ct19.ok Try.prog := ok_of_f (fun f args K Q e s h => by
  have h : Cf19 f args K Q e s := h
  unfold Cf19 at h; split at h
  · exact h.elim) (fun _ _ _ _ _ _ _ _ _ h => h)
theorem c19 : callable Try.prog 19 = true := by kernel_rfl
theorem pf19 (a b : Int) (h : 0 ≤ a ∧ a ≤ b ∧ b ≤ 10000000) : PF Try.prog 19 [.i a, .i b] (fun zz => zz = .ret (.i (hours a b))) := by
  obtain ⟨h1, h2, h3⟩ := h
  refine PF_nil (PF_start (O := O19) Ct19_ok hmix ho19 Try.func19 c19 rfl Try.ntmps19 Try.results19 ?_)
  simp (maxSteps := 4000000) +contextual (disch := first | omega | exact qdb_ok (by kernel_rfl) | exact okb_ok (by kernel_rfl)) only [bw1,bw2,bw3,bw4,bw5,bw6,bw7,zcell,setPs,sv,gif_true,gif_false,gif_eq,AV.frz,Sto.frz,updAll,AV.cpy,Sto.cpy,ifV,isEqB,nilV,nilX,cloV,AV.isNilS,AV.isNoRows,setAll,wk,wkG,AV.own.injEq,dclo,maskB,datOf,Option.any,List.isEmpty,Sto.hidn,binV,binS,binI,binIs,unV,unVs,addF,AV.isPtr,idxV,AV.isSl,AV.isSlice,AV.rows,loadV,loadS,D.part,AV.part,ps,pv,extV,extS,cvI,resAll,resV,resS,AV.outs,outL,AV.outF,Option.map_none,packD,AV.mkAgg,AV.mkTup,AV.dl,fieldV,fieldS,fillV,fillS,AV.cells?,AV.upr,Sto.upr,setR,Sto.get,Sto.ins,Sto.kill,Sto.upd,AV.kill,AV.men,AV.mens,AV.mencs,AV.menc,Sto.mens,Sto.mencs,AV.one,D.one,Value.oneCell',tagOf,AV.isApp,strV,strS,bolV,bolS,slcV,AV.isSlD,optI,optS,asrtS,ifV,bsV,bsS,AV.dcells,D.cells?,AV.no,stcV,stcS,leafOk,eqDs,eqD,Sto.push,Sto.top,Sto.pull,packA,D.val?,D.vals?,beq_self_eq_true,if_true,if_false,ite_true,ite_false,Bool.false_eq_true,Bool.true_eq_false,if_true_left,↓reduceIte,reduceCtorEq,List.getElem?_cons_zero,List.getElem?_cons_succ,List.map_cons,List.map_nil,List.append_nil,List.nil_append,List.cons_append,List.length_cons,List.length_nil,Option.bind_some,Option.getD_some,Option.isSome_some,Option.map_some,true_and,and_true,and_self,true_implies,implies_true,Nat.reduceAdd,Nat.reduceSub,Nat.reduceMul,List.reduceReplicate,List.replicate_zero,List.toList_toArray,Nat.zero_add,Nat.add_zero,List.drop_succ_cons,List.drop_zero,List.take_succ_cons,List.take_zero,List.drop_nil,List.take_nil,Nat.reduceLeDiff,Nat.reduceLT,Nat.reduceBEq,Nat.reduceEqDiff,Int.reduceNeg,Bool.not_true,Bool.not_false,Bool.not_not,Int.reduceEq,Bool.not_eq_true',ne_eq,not_false_eq_true,List.all_cons,List.all_nil,Bool.and_true,Bool.true_and,Bool.and_self,Bool.if_false_right,Bool.if_true_left,Bool.decide_eq_true,Option.some.injEq,exists_eq_left',exists_eq_left,Int.reduceLE,Int.reduceLT,List.not_mem_nil,and_false,false_and,Bool.and_eq_true,decide_eq_true_eq,ite_self,or_true,true_or,or_false,false_or,not_true_eq_false,D.tup.injEq,List.cons.injEq,D.agg.injEq,D.sl.injEq,beq_iff_eq,bne_iff_ne,Bool.or_self,Bool.or_false,Bool.false_or,decide_true,decide_false,End.ret.injEq,D.v.injEq,Value.bool.injEq,Value.int.injEq,tfb,mt97_61,mt99_63,mt101_69,mt102_70,mt103_71,ctz19,hours]
def many (l : List Ev) (m : Int) : Bool := (decide (m < l.length) && decide ((l.length : Int) ≤ 256)) || decide (260 < (l.length : Int))
def ent19 (args : List AV) (K : AV → List AV → Sto → Prop) (e : List AV) (s : Sto) : Prop := ent (α := (Int) × (Int)) (fun aa => [.i aa.1, .i aa.2]) (fun aa => 0 ≤ aa.1 ∧ aa.1 ≤ aa.2 ∧ aa.2 ≤ 10000000) (fun aa => .i (hours aa.1 aa.2)) args K e s
theorem ent19_ok {args : List AV} {K : AV → List AV → Sto → Prop} {Q : Kt} {e : List AV} {s : Sto} (h : ent19 args K e s) : pcall Try.prog 19 args K Q e s := ent_ok (fun aa h => pf19 aa.1 aa.2 h) h
theorem eq19 {a : Int} {b : Int} {KK : AV → List AV → Sto → Prop} {ee : List AV} {ss : Sto} : ent19 [.d (.i a), .d (.i b)] KK ee ss = ((0 ≤ a ∧ a ≤ b ∧ b ≤ 10000000) ∧ KK (.d (.i (hours a b))) ee ss) := by
  unfold ent19; rw [ent_iff (a, b) (by intro b h; simpa [Prod.ext_iff, and_assoc, shop_inj, ev_inj, pairs_inj, evs_inj, ints_inj] using h) rfl]; simp
def O8 : Nat → Sch := fun id => .done
theorem ho8 : Try.f8.body.map (okO O8) = some true := by kernel_rfl
def Cf8 : Nat → List AV → (AV → List AV → Sto → Prop) → Kt → List AV → Sto → Prop := fun f args K Q e s => match f with
  | _ => False
def Ct8 : CT := { f := Cf8, y := noYld, z := fun d => false }
theorem ctz8 {d : Nat} : CT.z Ct8 d = (false) := id rfl
theorem Ct8_ok : Ct8.ok Try.prog := ok_of_f (fun f args K Q e s h => by
  have h : Cf8 f args K Q e s := h
  unfold Cf8 at h; split at h
  · exact h.elim) (fun _ _ _ _ _ _ _ _ _ h => h)
theorem c8 : callable Try.prog 8 = true := by kernel_rfl
theorem pf8 (l : List Ev) (m : Int) : PF Try.prog 8 [.sl 4 (l.map Ev.c), .i m] (fun zz => zz = .ret (.b (many l m))) := by
  refine PF_nil (PF_start (O := O8) Ct8_ok hmix ho8 Try.func8 c8 rfl Try.ntmps8 Try.results8 ?_)
  simp (maxSteps := 4000000) +contextual (disch := first | omega | exact qdb_ok (by kernel_rfl) | exact okb_ok (by kernel_rfl)) only [bw1,bw2,bw3,bw4,bw5,bw6,bw7,zcell,setPs,sv,gif_true,gif_false,gif_eq,AV.frz,Sto.frz,updAll,AV.cpy,Sto.cpy,ifV,isEqB,nilV,nilX,cloV,AV.isNilS,AV.isNoRows,setAll,wk,wkG,AV.own.injEq,dclo,maskB,datOf,Option.any,List.isEmpty,Sto.hidn,binV,binS,binI,binIs,unV,unVs,addF,AV.isPtr,idxV,AV.isSl,AV.isSlice,AV.rows,loadV,loadS,D.part,AV.part,ps,pv,extV,extS,cvI,resAll,resV,resS,AV.outs,outL,AV.outF,Option.map_none,packD,AV.mkAgg,AV.mkTup,AV.dl,fieldV,fieldS,fillV,fillS,AV.cells?,AV.upr,Sto.upr,setR,Sto.get,Sto.ins,Sto.kill,Sto.upd,AV.kill,AV.men,AV.mens,AV.mencs,AV.menc,Sto.mens,Sto.mencs,AV.one,D.one,Value.oneCell',tagOf,AV.isApp,strV,strS,bolV,bolS,slcV,AV.isSlD,optI,optS,asrtS,ifV,bsV,bsS,AV.dcells,D.cells?,AV.no,stcV,stcS,leafOk,eqDs,eqD,Sto.push,Sto.top,Sto.pull,packA,D.val?,D.vals?,beq_self_eq_true,if_true,if_false,ite_true,ite_false,Bool.false_eq_true,Bool.true_eq_false,if_true_left,↓reduceIte,reduceCtorEq,List.getElem?_cons_zero,List.getElem?_cons_succ,List.map_cons,List.map_nil,List.append_nil,List.nil_append,List.cons_append,List.length_cons,List.length_nil,Option.bind_some,Option.getD_some,Option.isSome_some,Option.map_some,true_and,and_true,and_self,true_implies,implies_true,Nat.reduceAdd,Nat.reduceSub,Nat.reduceMul,List.reduceReplicate,List.replicate_zero,List.toList_toArray,Nat.zero_add,Nat.add_zero,List.drop_succ_cons,List.drop_zero,List.take_succ_cons,List.take_zero,List.drop_nil,List.take_nil,Nat.reduceLeDiff,Nat.reduceLT,Nat.reduceBEq,Nat.reduceEqDiff,Int.reduceNeg,Bool.not_true,Bool.not_false,Bool.not_not,Int.reduceEq,Bool.not_eq_true',ne_eq,not_false_eq_true,List.all_cons,List.all_nil,Bool.and_true,Bool.true_and,Bool.and_self,Bool.if_false_right,Bool.if_true_left,Bool.decide_eq_true,Option.some.injEq,exists_eq_left',exists_eq_left,Int.reduceLE,Int.reduceLT,List.not_mem_nil,and_false,false_and,Bool.and_eq_true,decide_eq_true_eq,ite_self,or_true,true_or,or_false,false_or,not_true_eq_false,D.tup.injEq,List.cons.injEq,D.agg.injEq,D.sl.injEq,beq_iff_eq,bne_iff_ne,Bool.or_self,Bool.or_false,Bool.false_or,decide_true,decide_false,End.ret.injEq,D.v.injEq,Value.bool.injEq,Value.int.injEq,tfb,mt97_61,mt99_63,mt101_69,mt102_70,mt103_71,ctz8]
  unfold many
  repeat' split
  all_goals (try simp_all)
  all_goals (try omega)
def Ev.ok (x : Ev) : Bool := decide (0 ≤ x.time) && decide (x.time ≤ 1048576) && decide (0 ≤ x.kind) && decide (x.kind ≤ 4) &&
  (if x.kind = 0 then x.pair == 0 && decide (0 ≤ x.n) && decide (x.n ≤ 60)
   else decide (0 ≤ x.pair) && decide (x.pair ≤ 63) && (if x.kind = 1 then decide (0 ≤ x.n) && decide (x.n ≤ 4095) else x.n == 0))
def ent8 (args : List AV) (K : AV → List AV → Sto → Prop) (e : List AV) (s : Sto) : Prop := ent (α := (List Ev) × (Int)) (fun aa => [.sl 4 (aa.1.map Ev.c), .i aa.2]) (fun aa => True) (fun aa => .b (many aa.1 aa.2)) args K e s
theorem ent8_ok {args : List AV} {K : AV → List AV → Sto → Prop} {Q : Kt} {e : List AV} {s : Sto} (h : ent8 args K e s) : pcall Try.prog 8 args K Q e s := ent_ok (fun aa h => pf8 aa.1 aa.2) h
theorem eq8 {l : List Ev} {m : Int} {KK : AV → List AV → Sto → Prop} {ee : List AV} {ss : Sto} : ent8 [.d (.sl 4 (l.map Ev.c)), .d (.i m)] KK ee ss = (KK (.d (.b (many l m))) ee ss) := by
  unfold ent8; rw [ent_iff (l, m) (by intro b h; simpa [Prod.ext_iff, and_assoc, shop_inj, ev_inj, pairs_inj, evs_inj, ints_inj] using h) rfl]; simp
theorem eqo8 {l : List Ev} {m : Int} {g1 el1 : Nat} {KK : AV → List AV → Sto → Prop} {ee : List AV} {ss : Sto} : ent8 [.own g1 el1 4 (l.map Ev.c), .d (.i m)] KK ee ss = ((.b (many l m) : D).flat = true ∧ KK (.d (.b (many l m))) ee ss) := by
  unfold ent8; rw [ent_iff (l, m) (by intro b h; simpa [Prod.ext_iff, and_assoc, shop_inj, ev_inj, pairs_inj, evs_inj, ints_inj] using h) rfl]; simp
def O23 : Nat → Sch := fun id => .done
theorem ho23 : Try.f23.body.map (okO O23) = some true := by kernel_rfl
def Cf23 : Nat → List AV → (AV → List AV → Sto → Prop) → Kt → List AV → Sto → Prop := fun f args K Q e s => match f with
  | 27 => ent27 args K e s
  | _ => False
def Ct23 : CT := { f := Cf23, y := noYld, z := fun d => false }
theorem ctz23 {d : Nat} : CT.z Ct23 d = (false) := id rfl
theorem Ct23_ok : Ct23.ok Try.prog := ok_of_f (fun f args K Q e s h => by
  have h : Cf23 f args K Q e s := h
  unfold Cf23 at h; split at h
  · exact ent27_ok h
  · exact h.elim) (fun _ _ _ _ _ _ _ _ _ h => h)
theorem x23_27 {n : Int} {lo : Int} {hi : Int} {KK : AV → List AV → Sto → Prop} {QQ : Kt} {ii : At KK} {jj : At QQ} {ee : List AV} {ss : Sto} : xC Ct23 27 [.d (.i n), .d (.i lo), .d (.i hi)] KK QQ ii jj ee ss = (KK (.d (.b (decide (lo ≤ n) && decide (n ≤ hi)))) ee ss) := eq27
theorem c23 : callable Try.prog 23 = true := by kernel_rfl
theorem pf23 (x : Ev) : PF Try.prog 23 [.agg x.c] (fun zz => zz = .ret (.b x.ok)) := by
  refine PF_nil (PF_start (O := O23) Ct23_ok hmix ho23 Try.func23 c23 rfl Try.ntmps23 Try.results23 ?_)
  simp (maxSteps := 4000000) +contextual (disch := first | omega | exact qdb_ok (by kernel_rfl) | exact okb_ok (by kernel_rfl)) only [bw1,bw2,bw3,bw4,bw5,bw6,bw7,zcell,setPs,sv,gif_true,gif_false,gif_eq,AV.frz,Sto.frz,updAll,AV.cpy,Sto.cpy,ifV,isEqB,nilV,nilX,cloV,AV.isNilS,AV.isNoRows,setAll,wk,wkG,AV.own.injEq,dclo,maskB,datOf,Option.any,List.isEmpty,Sto.hidn,binV,binS,binI,binIs,unV,unVs,addF,AV.isPtr,idxV,AV.isSl,AV.isSlice,AV.rows,loadV,loadS,D.part,AV.part,ps,pv,extV,extS,cvI,resAll,resV,resS,AV.outs,outL,AV.outF,Option.map_none,packD,AV.mkAgg,AV.mkTup,AV.dl,fieldV,fieldS,fillV,fillS,AV.cells?,AV.upr,Sto.upr,setR,Sto.get,Sto.ins,Sto.kill,Sto.upd,AV.kill,AV.men,AV.mens,AV.mencs,AV.menc,Sto.mens,Sto.mencs,AV.one,D.one,Value.oneCell',tagOf,AV.isApp,strV,strS,bolV,bolS,slcV,AV.isSlD,optI,optS,asrtS,ifV,bsV,bsS,AV.dcells,D.cells?,AV.no,stcV,stcS,leafOk,eqDs,eqD,Sto.push,Sto.top,Sto.pull,packA,D.val?,D.vals?,beq_self_eq_true,if_true,if_false,ite_true,ite_false,Bool.false_eq_true,Bool.true_eq_false,if_true_left,↓reduceIte,reduceCtorEq,List.getElem?_cons_zero,List.getElem?_cons_succ,List.map_cons,List.map_nil,List.append_nil,List.nil_append,List.cons_append,List.length_cons,List.length_nil,Option.bind_some,Option.getD_some,Option.isSome_some,Option.map_some,true_and,and_true,and_self,true_implies,implies_true,Nat.reduceAdd,Nat.reduceSub,Nat.reduceMul,List.reduceReplicate,List.replicate_zero,List.toList_toArray,Nat.zero_add,Nat.add_zero,List.drop_succ_cons,List.drop_zero,List.take_succ_cons,List.take_zero,List.drop_nil,List.take_nil,Nat.reduceLeDiff,Nat.reduceLT,Nat.reduceBEq,Nat.reduceEqDiff,Int.reduceNeg,Bool.not_true,Bool.not_false,Bool.not_not,Int.reduceEq,Bool.not_eq_true',ne_eq,not_false_eq_true,List.all_cons,List.all_nil,Bool.and_true,Bool.true_and,Bool.and_self,Bool.if_false_right,Bool.if_true_left,Bool.decide_eq_true,Option.some.injEq,exists_eq_left',exists_eq_left,Int.reduceLE,Int.reduceLT,List.not_mem_nil,and_false,false_and,Bool.and_eq_true,decide_eq_true_eq,ite_self,or_true,true_or,or_false,false_or,not_true_eq_false,D.tup.injEq,List.cons.injEq,D.agg.injEq,D.sl.injEq,beq_iff_eq,bne_iff_ne,Bool.or_self,Bool.or_false,Bool.false_or,decide_true,decide_false,End.ret.injEq,D.v.injEq,Value.bool.injEq,Value.int.injEq,tfb,mt97_61,mt99_63,mt101_69,mt102_70,mt103_71,ctz23,x23_27]
  unfold Ev.ok
  repeat' split
  all_goals (try simp_all)
  all_goals (try omega)
def ent23 (args : List AV) (K : AV → List AV → Sto → Prop) (e : List AV) (s : Sto) : Prop := ent (α := (Ev)) (fun aa => [.agg aa.c]) (fun aa => True) (fun aa => .b aa.ok) args K e s
theorem ent23_ok {args : List AV} {K : AV → List AV → Sto → Prop} {Q : Kt} {e : List AV} {s : Sto} (h : ent23 args K e s) : pcall Try.prog 23 args K Q e s := ent_ok (fun aa h => pf23 aa) h
theorem eq23 {x : Ev} {KK : AV → List AV → Sto → Prop} {ee : List AV} {ss : Sto} : ent23 [.d (.agg x.c)] KK ee ss = (KK (.d (.b x.ok)) ee ss) := by
  unfold ent23; rw [ent_iff x (by intro b h; simpa [Prod.ext_iff, and_assoc, shop_inj, ev_inj, pairs_inj, evs_inj, ints_inj] using h) rfl]; simp
end Go.Proofs.Ytmkigohedfcomaa
