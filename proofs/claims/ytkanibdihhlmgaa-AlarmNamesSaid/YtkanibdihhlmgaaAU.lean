/- A part of the proof that the last text ends: what functions of the program do, told by plain data. -/
import Derived.Test.YtkanibdihhlmgaaAQ
import Derived.Test.YtkanibdihhlmgaaAM
set_option linter.unusedVariables false
set_option linter.unusedSimpArgs false
namespace Go.Proofs.Ytkanibdihhlmgaa
open Go Go.E
set_option maxRecDepth 100000
set_option maxHeartbeats 16000000
/-! ### Law AlarmNames -/
def exS : List Snf := [⟨0, 0, 60⟩, ⟨1, 1, 49⟩, ⟨2, 0, 40⟩, ⟨4, 1, 50⟩, ⟨4, 0, 50⟩]
theorem exS_rows : [[D.i 0, D.i 0, D.i 60], [D.i 1, D.i 1, D.i 49], [D.i 2, D.i 0, D.i 40], [D.i 4, D.i 1, D.i 50], [D.i 4, D.i 0, D.i 50]] = List.map Snf.c exS := rfl
theorem ex_a : alarmG samp 2 0 50 exS = (4, 0) := by kernel_rfl
theorem ex_b : worstG samp 2 0 50 10 1 30 = (73, 3, 0) := by kernel_rfl
theorem ex_f : worstG samp 2 2 50 10 1 30 = (0, 0, 4) := by kernel_rfl
theorem ex_x : quiG samp 2 1 50 44 = (true, 0) := by kernel_rfl
theorem ex_y : quiG samp 2 1 50 45 = (false, 0) := by kernel_rfl
theorem ex_s : thrG samp 2 1 100 10 30 1 30 = (36, 58, 0) := by kernel_rfl
def O12 : Nat → Sch := fun id => .done
theorem ho12 : Try.f12.body.map (okO O12) = some true := by kernel_rfl
def Cf12 : Nat → List AV → (AV → List AV → Sto → Prop) → Kt → List AV → Sto → Prop := fun f args K Q e s => match f with
  | 14 => ent14 args K e s
  | 15 => ent15 args K e s
  | 17 => ent17 args K e s
  | 23 => ent23 args K e s
  | 27 => ent27 args K e s
  | 34 => ent34 args K e s
  | _ => False
def Ct12 : CT := { f := Cf12, y := noYld, z := fun d => false }
theorem ctz12 {d : Nat} : CT.z Ct12 d = (false) := id rfl
theorem Ct12_ok : Ct12.ok Try.prog := ok_of_f (fun f args K Q e s h => by
  have h : Cf12 f args K Q e s := h
  unfold Cf12 at h; split at h
  · exact ent14_ok h
  · exact ent15_ok h
  · exact ent17_ok h
  · exact ent23_ok h
  · exact ent27_ok h
  · exact ent34_ok h
  · exact h.elim) (fun _ _ _ _ _ _ _ _ _ h => h)
theorem x12_14  {KK : AV → List AV → Sto → Prop} {QQ : Kt} {ii : At KK} {jj : At QQ} {ee : List AV} {ss : Sto} : xC Ct12 14 [] KK QQ ii jj ee ss = (KK (.d (.b true)) ee ss) := eq14
theorem x12_15 {l : List Sen} {vo : Int} {fa : Int} {th : Int} {rise : Int} {a : Int} {b : Int} {KK : AV → List AV → Sto → Prop} {QQ : Kt} {ii : At KK} {jj : At QQ} {ee : List AV} {ss : Sto} : xC Ct12 15 [.d (votd l vo fa), .d (.i th), .d (.i rise), .d (.i a), .d (.i b)] KK QQ ii jj ee ss = (KK (.d (.tup [.i (worstG l vo fa th rise a b).1, .i (worstG l vo fa th rise a b).2.1, .i (worstG l vo fa th rise a b).2.2])) ee ss) := eq15
theorem x12_17 {l : List Sen} {vo : Int} {fa : Int} {limit : Int} {rise : Int} {calm : Int} {a : Int} {b : Int} {KK : AV → List AV → Sto → Prop} {QQ : Kt} {ii : At KK} {jj : At QQ} {ee : List AV} {ss : Sto} : xC Ct12 17 [.d (votd l vo fa), .d (.i limit), .d (.i rise), .d (.i calm), .d (.i a), .d (.i b)] KK QQ ii jj ee ss = (KK (.d (.tup [.agg [.i (thrG l vo fa limit rise calm a b).1, .i (thrG l vo fa limit rise calm a b).2.1], .i (thrG l vo fa limit rise calm a b).2.2])) ee ss) := eq17
theorem x12_23 {l : List Sen} {vo : Int} {fa : Int} {th : Int} {calm : Int} {KK : AV → List AV → Sto → Prop} {QQ : Kt} {ii : At KK} {jj : At QQ} {ee : List AV} {ss : Sto} : xC Ct12 23 [.d (votd l vo fa), .d (.i th), .d (.i calm)] KK QQ ii jj ee ss = (KK (.d (.tup [.b (quiG l vo fa th calm).1, .i (quiG l vo fa th calm).2])) ee ss) := eq23
theorem x12_27 {l : List Sen} {vo : Int} {fa : Int} {th : Int} {sn : List Snf} {KK : AV → List AV → Sto → Prop} {QQ : Kt} {ii : At KK} {jj : At QQ} {ee : List AV} {ss : Sto} : xC Ct12 27 [.d (votd l vo fa), .d (.i th), .d (.sl 3 (sn.map Snf.c))] KK QQ ii jj ee ss = (KK (.d (.tup [.i (alarmG l vo fa th sn).1, .i (alarmG l vo fa th sn).2])) ee ss) := eq27
theorem x12_27_m1 {l : List Sen} {vo : Int} {fa : Int} {th : Int} {sn : List Snf} {g1 el1 : Nat} {KK : AV → List AV → Sto → Prop} {QQ : Kt} {ii : At KK} {jj : At QQ} {ee : List AV} {ss : Sto} : xC Ct12 27 [.d (votd l vo fa), .d (.i th), .own g1 el1 3 (sn.map Snf.c)] KK QQ ii jj ee ss = ((.tup [.i (alarmG l vo fa th sn).1, .i (alarmG l vo fa th sn).2] : D).flat = true ∧ KK (.d (.tup [.i (alarmG l vo fa th sn).1, .i (alarmG l vo fa th sn).2])) ee ss) := eqo27
theorem x12_34 {fa : Int} {KK : AV → List AV → Sto → Prop} {QQ : Kt} {ii : At KK} {jj : At QQ} {ee : List AV} {ss : Sto} : xC Ct12 34 [.d (.i fa)] KK QQ ii jj ee ss = (KK (.d (votd samp 2 fa)) ee ss) := eq34
theorem c12 : callable Try.prog 12 = true := by kernel_rfl
theorem pf12  : PF Try.prog 12 [] (fun zz => zz = .ret (.b true)) := by
  refine PF_nil (PF_start (O := O12) Ct12_ok hmix ho12 Try.func12 c12 rfl Try.ntmps12 Try.results12 ?_)
  simp (maxSteps := 4000000) +contextual (disch := first | omega | exact qdb_ok (by kernel_rfl) | exact okb_ok (by kernel_rfl)) only [bw1,bw2,bw3,bw4,bw5,bw6,bw7,zcell,setPs,sv,gif_true,gif_false,gif_eq,AV.frz,Sto.frz,updAll,AV.cpy,Sto.cpy,ifV,isEqB,nilV,nilX,cloV,AV.isNilS,AV.isNoRows,setAll,wk,wkG,AV.own.injEq,dclo,maskB,datOf,Option.any,List.isEmpty,Sto.hidn,binV,binS,binIs,unV,unVs,addF,AV.isPtr,idxV,AV.isSl,AV.isSlice,AV.rows,loadV,loadS,D.part,AV.part,ps,pv,extV,extS,cvI,resAll,resV,resS,AV.outs,outL,AV.outF,Option.map_none,packD,AV.mkAgg,AV.mkTup,AV.dl,fieldV,fieldS,fillV,fillS,AV.cells?,AV.upr,Sto.upr,setR,Sto.get,Sto.ins,Sto.kill,Sto.upd,AV.kill,AV.men,AV.mens,AV.mencs,AV.menc,Sto.mens,Sto.mencs,AV.one,D.one,Value.oneCell',tagOf,AV.isApp,strV,strS,bolV,bolS,slcV,AV.isSlD,optI,optS,asrtS,ifV,bsV,bsS,AV.dcells,D.cells?,AV.no,stcV,stcS,leafOk,eqDs,eqD,Sto.push,Sto.top,Sto.pull,packA,D.val?,D.vals?,beq_self_eq_true,if_true,if_false,ite_true,ite_false,Bool.false_eq_true,Bool.true_eq_false,if_true_left,↓reduceIte,reduceCtorEq,List.getElem?_cons_zero,List.getElem?_cons_succ,List.map_cons,List.map_nil,List.append_nil,List.nil_append,List.cons_append,List.length_cons,List.length_nil,Option.bind_some,Option.getD_some,Option.isSome_some,Option.map_some,true_and,and_true,and_self,true_implies,implies_true,Nat.reduceAdd,Nat.reduceSub,Nat.reduceMul,List.reduceReplicate,List.replicate_zero,List.toList_toArray,Nat.zero_add,Nat.add_zero,List.drop_succ_cons,List.drop_zero,List.take_succ_cons,List.take_zero,List.drop_nil,List.take_nil,Nat.reduceLeDiff,Nat.reduceLT,Nat.reduceBEq,Nat.reduceEqDiff,Int.reduceNeg,Bool.not_true,Bool.not_false,Bool.not_not,Int.reduceEq,Bool.not_eq_true',ne_eq,not_false_eq_true,List.all_cons,List.all_nil,Bool.and_true,Bool.true_and,Bool.and_self,Bool.if_false_right,Bool.if_true_left,Bool.decide_eq_true,Option.some.injEq,exists_eq_left',exists_eq_left,Int.reduceLE,Int.reduceLT,List.not_mem_nil,and_false,false_and,Bool.and_eq_true,decide_eq_true_eq,ite_self,or_true,true_or,or_false,false_or,not_true_eq_false,D.tup.injEq,List.cons.injEq,D.agg.injEq,D.sl.injEq,beq_iff_eq,bne_iff_ne,Bool.or_self,Bool.or_false,Bool.false_or,decide_true,decide_false,End.ret.injEq,D.v.injEq,Value.bool.injEq,Value.int.injEq,tfb,bi_add,bi_sub,bi_mul,bi_quo,bi_rem,bi_and,bi_or,bi_xor,bi_andNot,bi_shl,bi_shr,bi_eql,bi_neq,bi_lss,bi_leq,bi_gtr,bi_geq,D.flat,D.flats,ctz12,x12_14,x12_15,x12_17,x12_23,x12_27,x12_27_m1,x12_34,exS_rows, ex_a, ex_b, ex_f, ex_x, ex_y, ex_s]
def ent12 (args : List AV) (K : AV → List AV → Sto → Prop) (e : List AV) (s : Sto) : Prop := ent (α := Unit) (fun aa => []) (fun aa => True) (fun aa => .b true) args K e s
theorem ent12_ok {args : List AV} {K : AV → List AV → Sto → Prop} {Q : Kt} {e : List AV} {s : Sto} (h : ent12 args K e s) : pcall Try.prog 12 args K Q e s := ent_ok (fun aa h => pf12 ) h
theorem eq12  {KK : AV → List AV → Sto → Prop} {ee : List AV} {ss : Sto} : ent12 [] KK ee ss = (KK (.d (.b true)) ee ss) := by
  unfold ent12; rw [ent_iff () (by intro b h; cases b; rfl) rfl]; simp
end Go.Proofs.Ytkanibdihhlmgaa
