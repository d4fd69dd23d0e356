/- A part of the proof that the last text ends: what functions of the program do, told by plain data. -/
import Derived.Test.YtmkigohedfcomaaGK
set_option linter.unusedVariables false
set_option linter.unusedSimpArgs false
namespace Go.Proofs.Ytmkigohedfcomaa
open Go Go.E
set_option maxRecDepth 100000
set_option maxHeartbeats 16000000
/-! ### The document's examples -/
def smp : Shop := ⟨100, 40, 300, 4500, 8, 12⟩
def evs : List Ev := [⟨0, 0, 0, 38⟩, ⟨0, 0, 0, 40⟩, ⟨0, 0, 0, 42⟩, ⟨10, 1, 0, 7⟩, ⟨100, 2, 0, 0⟩, ⟨100, 1, 1, 7⟩]
def evs2 : List Ev := [⟨0, 0, 0, 38⟩, ⟨0, 0, 0, 40⟩, ⟨0, 0, 0, 42⟩, ⟨10, 1, 0, 7⟩, ⟨100, 2, 0, 0⟩, ⟨100, 1, 1, 7⟩, ⟨100, 1, 2, 7⟩]
def wsh : List Int := [42, 39]
def prs : List Pair := [⟨38, 76, 84, 5000, -1, 100, false⟩, ⟨40, 100, 100, 5000, 7, 100, false⟩, ⟨42, 100, 100, 5000, -1, 0, false⟩]
def fts : List Int := [2, 0]
theorem smp_fold : (D.agg [.v (.int .i64 100), .v (.int .i64 40), .v (.int .i64 300), .v (.int .i64 4500), .v (.int .i64 8), .v (.int .i64 12)]) = Shop.d smp := id rfl
theorem evs_fold : ([[.v (.int .i64 0), .v (.int .i64 0), .v (.int .i64 0), .v (.int .i64 38)], [.v (.int .i64 0), .v (.int .i64 0), .v (.int .i64 0), .v (.int .i64 40)], [.v (.int .i64 0), .v (.int .i64 0), .v (.int .i64 0), .v (.int .i64 42)], [.v (.int .i64 10), .v (.int .i64 1), .v (.int .i64 0), .v (.int .i64 7)], [.v (.int .i64 100), .v (.int .i64 2), .v (.int .i64 0), .v (.int .i64 0)], [.v (.int .i64 100), .v (.int .i64 1), .v (.int .i64 1), .v (.int .i64 7)]] : List (List D)) = evs.map Ev.c := id rfl
theorem evs2_fold : evs.map Ev.c ++ [[.v (.int .i64 100), .v (.int .i64 1), .v (.int .i64 2), .v (.int .i64 7)]] = evs2.map Ev.c := id rfl
theorem wsh_fold : ([[.v (.int .i64 42)], [.v (.int .i64 39)]] : List (List D)) = wsh.map ic := id rfl
theorem prs_fold : ([[.v (.int .i64 38), .v (.int .i64 76), .v (.int .i64 84), .v (.int .i64 5000), .v (.int .i64 (-1)), .v (.int .i64 100), .v (.bool false)], [.v (.int .i64 40), .v (.int .i64 100), .v (.int .i64 100), .v (.int .i64 5000), .v (.int .i64 7), .v (.int .i64 100), .v (.bool false)], [.v (.int .i64 42), .v (.int .i64 100), .v (.int .i64 100), .v (.int .i64 5000), .v (.int .i64 (-1)), .v (.int .i64 0), .v (.bool false)]] : List (List D)) = prs.map Pair.c := id rfl
theorem fts_fold : ([[.v (.int .i64 2)], [.v (.int .i64 0)]] : List (List D)) = fts.map ic := id rfl
theorem fts_set : (List.map ic fts).set 1 [D.v (.int .i64 0)] = List.map ic fts := id rfl
theorem play1 : play smp evs = (prs, 6, 0) := by kernel_rfl
theorem play2 : play smp evs2 = ([], 6, 5) := by kernel_rfl
theorem fit1 : fit smp evs wsh = (fts, 1, 0) := by kernel_rfl
theorem lasts1 : lasts smp 5000 = (12, 0) := by kernel_rfl
theorem evs_len : evs.length = 6 := id rfl
theorem prs_len : prs.length = 3 := id rfl
theorem fts_len : fts.length = 2 := id rfl
def O21 : Nat → Sch := fun id => .done
theorem ho21 : Try.f21.body.map (okO O21) = some true := by kernel_rfl
def Cf21 : Nat → List AV → (AV → List AV → Sto → Prop) → Kt → List AV → Sto → Prop := fun f args K Q e s => match f with
  | _ => False
def Ct21 : CT := { f := Cf21, y := noYld, z := fun d => false }
theorem ctz21 {d : Nat} : CT.z Ct21 d = (false) := id rfl
theorem Ct21_ok : Ct21.ok Try.prog := ok_of_f (fun f args K Q e s h => by
  have h : Cf21 f args K Q e s := h
  unfold Cf21 at h; split at h
  · exact h.elim) (fun _ _ _ _ _ _ _ _ _ h => h)
theorem c21 : callable Try.prog 21 = true := by kernel_rfl
def O9 : Nat → Sch := fun id => if id = 4 then .one 1 (.one 2 (.alt (.one 0 (.one 3 (.one 4 (.one 5 (.one 6 (.one 7 (.one 8 (.one 9 (.one 10 (.one 11 (.one 12 (.done)))))))))))) (.one 3 (.alt (.one 0 (.one 4 (.one 5 (.one 6 (.one 7 (.one 8 (.one 9 (.one 10 (.one 11 (.one 12 (.done))))))))))) (.one 4 (.one 0 (.one 5 (.one 6 (.one 7 (.one 8 (.one 9 (.one 10 (.one 11 (.one 12 (.done))))))))))))))) else .done
theorem O9_4 : O9 4 = .one 1 (.one 2 (.alt (.one 0 (.one 3 (.one 4 (.one 5 (.one 6 (.one 7 (.one 8 (.one 9 (.one 10 (.one 11 (.one 12 (.done)))))))))))) (.one 3 (.alt (.one 0 (.one 4 (.one 5 (.one 6 (.one 7 (.one 8 (.one 9 (.one 10 (.one 11 (.one 12 (.done))))))))))) (.one 4 (.one 0 (.one 5 (.one 6 (.one 7 (.one 8 (.one 9 (.one 10 (.one 11 (.one 12 (.done))))))))))))))) := rfl
theorem ho9 : Try.f9.body.map (okO O9) = some true := by kernel_rfl
def Cf9 : Nat → List AV → (AV → List AV → Sto → Prop) → Kt → List AV → Sto → Prop := fun f args K Q e s => match f with
  | 10 => ent10 args K e s
  | 12 => ent12 args K e s
  | 14 => ent14 args K e s
  | 15 => ent15 args K e s
  | 17 => ent17 args K e s
  | 21 => inlE Try.prog Ct21 O21 21000 21 args K Q e s
  | _ => False
def Ct9 : CT := { f := Cf9, y := noYld, z := fun d => d == 32 }
theorem ctz9 {d : Nat} : CT.z Ct9 d = (d == 32) := id rfl
theorem Ct9_ok : Ct9.ok Try.prog := ok_of_f (fun f args K Q e s h => by
  have h : Cf9 f args K Q e s := h
  unfold Cf9 at h; split at h
  · exact ent10_ok h
  · exact ent12_ok h
  · exact ent14_ok h
  · exact ent15_ok h
  · exact ent17_ok h
  · exact inlE_ok Ct21_ok hmix ho21 h
  · exact h.elim) (fun _ _ _ _ _ _ _ _ _ h => h)
theorem x9_10 {s : Shop} {l : List Ev} {KK : AV → List AV → Sto → Prop} {QQ : Kt} {ii : At KK} {jj : At QQ} {ee : List AV} {ss : Sto} : xC Ct9 10 [.d (s.d), .d (.sl 4 (l.map Ev.c))] KK QQ ii jj ee ss = (KK (.d (.tup [.sl 7 ((play s l).1.map Pair.c), .i (play s l).2.1, .i (play s l).2.2])) ee ss) := eq10
theorem x9_10_m1 {s : Shop} {l : List Ev} {g1 el1 : Nat} {KK : AV → List AV → Sto → Prop} {QQ : Kt} {ii : At KK} {jj : At QQ} {ee : List AV} {ss : Sto} : xC Ct9 10 [.d (s.d), .own g1 el1 4 (l.map Ev.c)] KK QQ ii jj ee ss = (KK (.d (.tup [.sl 7 ((play s l).1.map Pair.c), .i (play s l).2.1, .i (play s l).2.2])) ee ss) := eqo10
theorem x9_12 {s : Shop} {h : Int} {KK : AV → List AV → Sto → Prop} {QQ : Kt} {ii : At KK} {jj : At QQ} {ee : List AV} {ss : Sto} : xC Ct9 12 [.d (s.d), .d (.i h)] KK QQ ii jj ee ss = (KK (.d (.tup [.i (lasts s h).1, .i (lasts s h).2])) ee ss) := eq12
theorem x9_14 {a : List Pair} {b : List Pair} {KK : AV → List AV → Sto → Prop} {QQ : Kt} {ii : At KK} {jj : At QQ} {ee : List AV} {ss : Sto} : xC Ct9 14 [.d (.sl 7 (a.map Pair.c)), .d (.sl 7 (b.map Pair.c))] KK QQ ii jj ee ss = ((a.length ≤ 1000) ∧ KK (.d (.b (decide (a = b)))) ee ss) := eq14
theorem x9_14_m1 {a : List Pair} {b : List Pair} {g1 el1 : Nat} {KK : AV → List AV → Sto → Prop} {QQ : Kt} {ii : At KK} {jj : At QQ} {ee : List AV} {ss : Sto} : xC Ct9 14 [.own g1 el1 7 (a.map Pair.c), .d (.sl 7 (b.map Pair.c))] KK QQ ii jj ee ss = ((a.length ≤ 1000) ∧ (.b (decide (a = b)) : D).flat = true ∧ KK (.d (.b (decide (a = b)))) ee ss) := by
  show ent14 _ _ _ _ = _
  unfold ent14; rw [ent_iff (a, b) (by intro b h; simpa [Prod.ext_iff, and_assoc, shop_inj, ev_inj, pairs_inj, evs_inj, ints_inj, shop_inj, ev_inj, pairs_inj, evs_inj, ints_inj] using h) rfl]; simp
theorem x9_14_m2 {a : List Pair} {b : List Pair} {g1 el1 : Nat} {KK : AV → List AV → Sto → Prop} {QQ : Kt} {ii : At KK} {jj : At QQ} {ee : List AV} {ss : Sto} : xC Ct9 14 [.d (.sl 7 (a.map Pair.c)), .own g1 el1 7 (b.map Pair.c)] KK QQ ii jj ee ss = ((a.length ≤ 1000) ∧ (.b (decide (a = b)) : D).flat = true ∧ KK (.d (.b (decide (a = b)))) ee ss) := by
  show ent14 _ _ _ _ = _
  unfold ent14; rw [ent_iff (a, b) (by intro b h; simpa [Prod.ext_iff, and_assoc, shop_inj, ev_inj, pairs_inj, evs_inj, ints_inj, shop_inj, ev_inj, pairs_inj, evs_inj, ints_inj] using h) rfl]; simp
theorem x9_14_m3 {a : List Pair} {b : List Pair} {g1 el1 : Nat} {g2 el2 : Nat} {KK : AV → List AV → Sto → Prop} {QQ : Kt} {ii : At KK} {jj : At QQ} {ee : List AV} {ss : Sto} : xC Ct9 14 [.own g1 el1 7 (a.map Pair.c), .own g2 el2 7 (b.map Pair.c)] KK QQ ii jj ee ss = ((a.length ≤ 1000) ∧ (.b (decide (a = b)) : D).flat = true ∧ KK (.d (.b (decide (a = b)))) ee ss) := eqo14
theorem x9_15 {s : Shop} {l : List Ev} {ws : List Int} {KK : AV → List AV → Sto → Prop} {QQ : Kt} {ii : At KK} {jj : At QQ} {ee : List AV} {ss : Sto} : xC Ct9 15 [.d (s.d), .d (.sl 4 (l.map Ev.c)), .d (.sl 1 (ws.map ic))] KK QQ ii jj ee ss = (KK (.d (.tup [.sl 1 ((fit s l ws).1.map ic), .i (fit s l ws).2.1, .i (fit s l ws).2.2])) ee ss) := eq15
theorem x9_15_m1 {s : Shop} {l : List Ev} {ws : List Int} {g1 el1 : Nat} {KK : AV → List AV → Sto → Prop} {QQ : Kt} {ii : At KK} {jj : At QQ} {ee : List AV} {ss : Sto} : xC Ct9 15 [.d (s.d), .own g1 el1 4 (l.map Ev.c), .d (.sl 1 (ws.map ic))] KK QQ ii jj ee ss = (KK (.d (.tup [.sl 1 ((fit s l ws).1.map ic), .i (fit s l ws).2.1, .i (fit s l ws).2.2])) ee ss) := by
  show ent15 _ _ _ _ = _
  unfold ent15; rw [entn_iff (s, l, ws) (by intro b h; simpa [Prod.ext_iff, and_assoc, shop_inj, ev_inj, pairs_inj, evs_inj, ints_inj, shop_inj, ev_inj, pairs_inj, evs_inj, ints_inj] using h) rfl]; simp
theorem x9_15_m2 {s : Shop} {l : List Ev} {ws : List Int} {g1 el1 : Nat} {KK : AV → List AV → Sto → Prop} {QQ : Kt} {ii : At KK} {jj : At QQ} {ee : List AV} {ss : Sto} : xC Ct9 15 [.d (s.d), .d (.sl 4 (l.map Ev.c)), .own g1 el1 1 (ws.map ic)] KK QQ ii jj ee ss = (KK (.d (.tup [.sl 1 ((fit s l ws).1.map ic), .i (fit s l ws).2.1, .i (fit s l ws).2.2])) ee ss) := by
  show ent15 _ _ _ _ = _
  unfold ent15; rw [entn_iff (s, l, ws) (by intro b h; simpa [Prod.ext_iff, and_assoc, shop_inj, ev_inj, pairs_inj, evs_inj, ints_inj, shop_inj, ev_inj, pairs_inj, evs_inj, ints_inj] using h) rfl]; simp
theorem x9_15_m3 {s : Shop} {l : List Ev} {ws : List Int} {g1 el1 : Nat} {g2 el2 : Nat} {KK : AV → List AV → Sto → Prop} {QQ : Kt} {ii : At KK} {jj : At QQ} {ee : List AV} {ss : Sto} : xC Ct9 15 [.d (s.d), .own g1 el1 4 (l.map Ev.c), .own g2 el2 1 (ws.map ic)] KK QQ ii jj ee ss = (KK (.d (.tup [.sl 1 ((fit s l ws).1.map ic), .i (fit s l ws).2.1, .i (fit s l ws).2.2])) ee ss) := eqo15
theorem x9_17 {a : List Int} {b : List Int} {KK : AV → List AV → Sto → Prop} {QQ : Kt} {ii : At KK} {jj : At QQ} {ee : List AV} {ss : Sto} : xC Ct9 17 [.d (.sl 1 (a.map ic)), .d (.sl 1 (b.map ic))] KK QQ ii jj ee ss = ((a.length ≤ 1000) ∧ KK (.d (.b (decide (a = b)))) ee ss) := eq17
theorem x9_17_m1 {a : List Int} {b : List Int} {g1 el1 : Nat} {KK : AV → List AV → Sto → Prop} {QQ : Kt} {ii : At KK} {jj : At QQ} {ee : List AV} {ss : Sto} : xC Ct9 17 [.own g1 el1 1 (a.map ic), .d (.sl 1 (b.map ic))] KK QQ ii jj ee ss = ((a.length ≤ 1000) ∧ (.b (decide (a = b)) : D).flat = true ∧ KK (.d (.b (decide (a = b)))) ee ss) := by
  show ent17 _ _ _ _ = _
  unfold ent17; rw [ent_iff (a, b) (by intro b h; simpa [Prod.ext_iff, and_assoc, shop_inj, ev_inj, pairs_inj, evs_inj, ints_inj, shop_inj, ev_inj, pairs_inj, evs_inj, ints_inj] using h) rfl]; simp
theorem x9_17_m2 {a : List Int} {b : List Int} {g1 el1 : Nat} {KK : AV → List AV → Sto → Prop} {QQ : Kt} {ii : At KK} {jj : At QQ} {ee : List AV} {ss : Sto} : xC Ct9 17 [.d (.sl 1 (a.map ic)), .own g1 el1 1 (b.map ic)] KK QQ ii jj ee ss = ((a.length ≤ 1000) ∧ (.b (decide (a = b)) : D).flat = true ∧ KK (.d (.b (decide (a = b)))) ee ss) := by
  show ent17 _ _ _ _ = _
  unfold ent17; rw [ent_iff (a, b) (by intro b h; simpa [Prod.ext_iff, and_assoc, shop_inj, ev_inj, pairs_inj, evs_inj, ints_inj, shop_inj, ev_inj, pairs_inj, evs_inj, ints_inj] using h) rfl]; simp
theorem x9_17_m3 {a : List Int} {b : List Int} {g1 el1 : Nat} {g2 el2 : Nat} {KK : AV → List AV → Sto → Prop} {QQ : Kt} {ii : At KK} {jj : At QQ} {ee : List AV} {ss : Sto} : xC Ct9 17 [.own g1 el1 1 (a.map ic), .own g2 el2 1 (b.map ic)] KK QQ ii jj ee ss = ((a.length ≤ 1000) ∧ (.b (decide (a = b)) : D).flat = true ∧ KK (.d (.b (decide (a = b)))) ee ss) := eqo17
theorem z9_21 : type_of% (@xinl Try.prog Ct9 Ct21 O21 21000 21 _ _ _ _ rfl c21 Try.func21 rfl Try.ntmps21 Try.results21) := @xinl Try.prog Ct9 Ct21 O21 21000 21 _ _ _ _ rfl c21 Try.func21 rfl Try.ntmps21 Try.results21
theorem c9 : callable Try.prog 9 = true := by kernel_rfl
theorem pf9  : PF Try.prog 9 [] (fun zz => zz = .ret (.b true)) := by
  refine PF_nil (PF_start (O := O9) Ct9_ok hmix ho9 Try.func9 c9 rfl Try.ntmps9 Try.results9 ?_)
  simp (maxSteps := 4000000) +contextual (disch := first | omega | exact qdb_ok (by kernel_rfl) | exact okb_ok (by kernel_rfl)) only [bw1,bw2,bw3,bw4,bw5,bw6,bw7,zcell,setPs,sv,gif_true,gif_false,gif_eq,AV.frz,Sto.frz,updAll,AV.cpy,Sto.cpy,ifV,isEqB,nilV,nilX,cloV,AV.isNilS,AV.isNoRows,setAll,wk,wkG,AV.own.injEq,dclo,maskB,datOf,Option.any,List.isEmpty,Sto.hidn,binV,binS,binIs,unV,unVs,addF,AV.isPtr,idxV,AV.isSl,AV.isSlice,AV.rows,loadV,loadS,D.part,AV.part,ps,pv,extV,extS,cvI,resAll,resV,resS,AV.outs,outL,AV.outF,Option.map_none,packD,AV.mkAgg,AV.mkTup,AV.dl,fieldV,fieldS,fillV,fillS,AV.cells?,AV.upr,Sto.upr,setR,Sto.get,Sto.ins,Sto.kill,Sto.upd,AV.kill,AV.men,AV.mens,AV.mencs,AV.menc,Sto.mens,Sto.mencs,AV.one,D.one,Value.oneCell',tagOf,AV.isApp,strV,strS,bolV,bolS,slcV,AV.isSlD,optI,optS,asrtS,ifV,bsV,bsS,AV.dcells,D.cells?,AV.no,stcV,stcS,leafOk,eqDs,eqD,Sto.push,Sto.top,Sto.pull,packA,D.val?,D.vals?,beq_self_eq_true,if_true,if_false,ite_true,ite_false,Bool.false_eq_true,Bool.true_eq_false,if_true_left,↓reduceIte,reduceCtorEq,List.getElem?_cons_zero,List.getElem?_cons_succ,List.map_cons,List.map_nil,List.append_nil,List.nil_append,List.cons_append,List.length_cons,List.length_nil,Option.bind_some,Option.getD_some,Option.isSome_some,Option.map_some,true_and,and_true,and_self,true_implies,implies_true,Nat.reduceAdd,Nat.reduceSub,Nat.reduceMul,List.reduceReplicate,List.replicate_zero,List.toList_toArray,Nat.zero_add,Nat.add_zero,List.drop_succ_cons,List.drop_zero,List.take_succ_cons,List.take_zero,List.drop_nil,List.take_nil,Nat.reduceLeDiff,Nat.reduceLT,Nat.reduceBEq,Nat.reduceEqDiff,Int.reduceNeg,Bool.not_true,Bool.not_false,Bool.not_not,Int.reduceEq,Bool.not_eq_true',ne_eq,not_false_eq_true,List.all_cons,List.all_nil,Bool.and_true,Bool.true_and,Bool.and_self,Bool.if_false_right,Bool.if_true_left,Bool.decide_eq_true,Option.some.injEq,exists_eq_left',exists_eq_left,Int.reduceLE,Int.reduceLT,List.not_mem_nil,and_false,false_and,Bool.and_eq_true,decide_eq_true_eq,ite_self,or_true,true_or,or_false,false_or,not_true_eq_false,D.tup.injEq,List.cons.injEq,D.agg.injEq,D.sl.injEq,beq_iff_eq,bne_iff_ne,Bool.or_self,Bool.or_false,Bool.false_or,decide_true,decide_false,End.ret.injEq,D.v.injEq,Value.bool.injEq,Value.int.injEq,tfb,mt97_61,mt99_63,mt101_69,mt102_70,mt103_71,bi_add,bi_sub,bi_mul,bi_quo,bi_rem,bi_and,bi_or,bi_xor,bi_andNot,bi_shl,bi_shr,bi_eql,bi_neq,bi_lss,bi_leq,bi_gtr,bi_geq,D.flat,D.flats,ctz9,O9_4,x9_10,x9_10_m1,x9_12,x9_14,x9_14_m1,x9_14_m2,x9_14_m3,x9_15,x9_15_m1,x9_15_m2,x9_15_m3,x9_17,x9_17_m1,x9_17_m2,x9_17_m3,z9_21,ctz21,eq_self, smp_fold, evs_fold, evs2_fold, wsh_fold, prs_fold, fts_fold, play1, play2, fit1, lasts1, evs_len, prs_len, fts_len, fts_set, bne_self_eq_false, Int.reduceBNe, Int.reduceBEq]
def ent9 (args : List AV) (K : AV → List AV → Sto → Prop) (e : List AV) (s : Sto) : Prop := ent (α := Unit) (fun aa => []) (fun aa => True) (fun aa => .b true) args K e s
theorem ent9_ok {args : List AV} {K : AV → List AV → Sto → Prop} {Q : Kt} {e : List AV} {s : Sto} (h : ent9 args K e s) : pcall Try.prog 9 args K Q e s := ent_ok (fun aa h => pf9 ) h
theorem eq9  {KK : AV → List AV → Sto → Prop} {ee : List AV} {ss : Sto} : ent9 [] KK ee ss = (KK (.d (.b true)) ee ss) := by
  unfold ent9; rw [ent_iff () (by intro b h; cases b; rfl) rfl]; simp
end Go.Proofs.Ytmkigohedfcomaa
