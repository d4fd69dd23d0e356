/- A part of the proof that the last text ends: what functions of the program do, told by plain data. -/
import Derived.Test.YtofbbkacihnjdaaIHI
set_option linter.unusedVariables false
set_option linter.unusedSimpArgs false
namespace Go.Proofs.Ytofbbkacihnjdaa
open Go Go.E Go.Maps
set_option maxRecDepth 100000
set_option maxHeartbeats 16000000
theorem dayZ : ∀ k, k < 7 → ∀ d, d < 128 → andZ .i64 (shrZ .i64 ((d : Nat) : Int) ((k : Nat) : Int)) 1 = ((d : Nat) : Int) / (2 ^ k : Nat) % 2 := by decide +kernel
theorem day_is {g : Gr} {h : Hr} (h1 : 0 ≤ g.days ∧ g.days ≤ 127) (h2 : 0 ≤ h.day ∧ h.day ≤ 6) : (andZ .i64 (shrZ .i64 g.days h.day) 1 == 0) = !dayB g.days h.day := by
  have e := dayZ h.day.toNat (by omega) g.days.toNat (by omega)
  rw [show ((g.days.toNat : Nat) : Int) = g.days by omega, show ((h.day.toNat : Nat) : Int) = h.day by omega] at e
  rw [e]
  unfold dayB
  by_cases c : g.days / (2 ^ h.day.toNat : Nat) % 2 = 1
  · rw [decide_eq_true c, c]; rfl
  · have c2 : g.days / (2 ^ h.day.toNat : Nat) % 2 = 0 := by omega
    rw [decide_eq_false c, c2]; rfl
def erS (t : Tt) (s : Sd) (g : Int) : Int :=
  if g = -1 then 0
  else if ¬ mayB (t.groups.getD g.toNat default) (t.hours.getD s.h.toNat default) = true then 11
  else if s.n.at g = (t.groups.getD g.toNat default).most then 12
  else if s.l = -1 ∨ s.l = g then 0
  else if (t.hours.getD s.h.toNat default).day = (t.hours.getD (s.h.toNat - 1) default).day ∧ (t.hours.getD s.h.toNat default).b - (t.hours.getD (s.h.toNat - 1) default).e < t.res then 6
  else 0
def q58_0 : Sch := .alt (.one 17 (.one 18 (.one 19 (.one 20 (.done))))) (.one 18 (.one 17 (.one 19 (.one 20 (.done)))))
def q58_1 : Sch := .alt (.one 16 (.one 19 (.one 20 (.done)))) (.one 19 (.one 16 (.one 20 (.done))))
def q58_2 : Sch := .alt (.one 16 (.one 18 (.one 19 (.one 20 (.done))))) (.one 18 q58_1)
def q58_3 : Sch := .alt (.one 16 (.one 17 (.one 19 (.one 20 (.done))))) (.one 17 q58_1)
def q58_4 : Sch := .alt (.one 16 q58_0) (.alt (.one 17 q58_2) (.one 18 q58_3))
def q58_5 : Sch := .one 15 q58_4
def q58_6 : Sch := .one 15 q58_2
def q58_7 : Sch := .one 15 q58_1
def q58_8 : Sch := .alt (.one 14 q58_7) (.one 19 (.one 14 (.one 15 (.one 16 (.one 20 (.done))))))
def q58_9 : Sch := .alt (.one 14 q58_6) (.one 18 q58_8)
def q58_10 : Sch := .one 15 q58_3
def q58_11 : Sch := .alt (.one 14 q58_10) (.one 17 q58_8)
def q58_12 : Sch := .alt (.one 14 q58_5) (.alt (.one 17 q58_9) (.one 18 q58_11))
def q58_13 : Sch := .alt (.one 12 q58_7) (.one 19 (.one 12 (.one 15 (.one 16 (.one 20 (.done))))))
def q58_14 : Sch := .alt (.one 12 q58_6) (.one 18 q58_13)
def q58_15 : Sch := .alt (.one 12 q58_10) (.one 17 q58_13)
def q58_16 : Sch := .alt (.one 12 q58_5) (.alt (.one 17 q58_14) (.one 18 q58_15))
def q58_17 : Sch := .alt (.one 12 q58_8) (.alt (.one 14 q58_13) (.one 19 (.one 12 (.one 14 (.one 15 (.one 16 (.one 20 (.done))))))))
def q58_18 : Sch := .alt (.one 12 q58_9) (.alt (.one 14 q58_14) (.one 18 q58_17))
def q58_19 : Sch := .alt (.one 12 q58_11) (.alt (.one 14 q58_15) (.one 17 q58_17))
def q58_20 : Sch := .alt (.one 7 (.one 18 (.one 19 (.one 20 (.done))))) (.one 18 (.one 7 (.one 19 (.one 20 (.done)))))
def q58_21 : Sch := .alt (.one 7 (.one 17 (.one 19 (.one 20 (.done))))) (.one 17 (.one 7 (.one 19 (.one 20 (.done)))))
def q58_22 : Sch := .alt (.one 7 q58_0) (.alt (.one 17 q58_20) (.one 18 q58_21))
def q58_23 : Sch := .one 7 q58_1
def q58_24 : Sch := .alt (.one 7 q58_2) (.alt (.one 16 q58_20) (.one 18 q58_23))
def q58_25 : Sch := .alt (.one 7 q58_3) (.alt (.one 16 q58_21) (.one 17 q58_23))
def q58_26 : Sch := .alt (.one 7 q58_4) (.alt (.one 16 q58_22) (.alt (.one 17 q58_24) (.one 18 q58_25)))
def q58_27 : Sch := .one 15 q58_26
def q58_28 : Sch := .one 15 q58_24
def q58_29 : Sch := .one 7 q58_8
def q58_30 : Sch := .alt (.one 7 q58_9) (.alt (.one 14 q58_28) (.one 18 q58_29))
def q58_31 : Sch := .one 15 q58_25
def q58_32 : Sch := .alt (.one 7 q58_11) (.alt (.one 14 q58_31) (.one 17 q58_29))
def q58_33 : Sch := .alt (.one 7 q58_12) (.alt (.one 14 q58_27) (.alt (.one 17 q58_30) (.one 18 q58_32)))
def q58_34 : Sch := .one 7 q58_13
def q58_35 : Sch := .alt (.one 7 q58_14) (.alt (.one 12 q58_28) (.one 18 q58_34))
def q58_36 : Sch := .alt (.one 7 q58_15) (.alt (.one 12 q58_31) (.one 17 q58_34))
def q58_37 : Sch := .alt (.one 7 q58_16) (.alt (.one 12 q58_27) (.alt (.one 17 q58_35) (.one 18 q58_36)))
def q58_38 : Sch := .one 7 q58_17
def q58_39 : Sch := .alt (.one 7 q58_18) (.alt (.one 12 q58_30) (.alt (.one 14 q58_35) (.one 18 q58_38)))
def q58_40 : Sch := .alt (.one 7 q58_19) (.alt (.one 12 q58_32) (.alt (.one 14 q58_36) (.one 17 q58_38)))
def q58_41 : Sch := .alt (.one 4 (.one 6 q58_20)) (.one 18 (.one 4 (.one 6 (.one 7 (.one 19 (.one 20 (.done)))))))
def q58_42 : Sch := .alt (.one 4 (.one 6 q58_21)) (.one 17 (.one 4 (.one 6 (.one 7 (.one 19 (.one 20 (.done)))))))
def q58_43 : Sch := .one 4 (.one 6 q58_23)
def q58_44 : Sch := .alt (.one 4 (.one 6 q58_24)) (.alt (.one 16 q58_41) (.one 18 q58_43))
def q58_45 : Sch := .alt (.one 4 (.one 6 q58_25)) (.alt (.one 16 q58_42) (.one 17 q58_43))
def q58_46 : Sch := .one 15 (.alt (.one 4 (.one 6 q58_26)) (.alt (.one 16 (.alt (.one 4 (.one 6 q58_22)) (.alt (.one 17 q58_41) (.one 18 q58_42)))) (.alt (.one 17 q58_44) (.one 18 q58_45))))
def q58_47 : Sch := .one 15 q58_44
def q58_48 : Sch := .one 4 (.one 6 q58_29)
def q58_49 : Sch := .alt (.one 4 (.one 6 q58_30)) (.alt (.one 14 q58_47) (.one 18 q58_48))
def q58_50 : Sch := .one 15 q58_45
def q58_51 : Sch := .alt (.one 4 (.one 6 q58_32)) (.alt (.one 14 q58_50) (.one 17 q58_48))
def q58_52 : Sch := .one 4 (.one 6 q58_34)
def q58_53 : Sch := .alt (.one 4 (.one 6 q58_35)) (.alt (.one 12 q58_47) (.one 18 q58_52))
def q58_54 : Sch := .alt (.one 4 (.one 6 q58_36)) (.alt (.one 12 q58_50) (.one 17 q58_52))
def q58_55 : Sch := .one 4 (.one 6 q58_38)
def q58_56 : Sch := .one 8 (.alt (.one 9 (.one 10 (.one 11 (.done)))) (.one 10 (.one 9 (.one 11 (.done)))))
def O58 : Nat → Sch := fun id => if id = 3 then .one 0 (.one 1 (.one 2 (.one 3 (.one 5 (.one 8 (.one 9 (.one 10 (.one 11 (.one 13 (.alt (.one 4 (.one 6 (.alt (.one 7 (.alt (.one 12 q58_12) (.alt (.one 14 q58_16) (.alt (.one 17 q58_18) (.one 18 q58_19))))) (.alt (.one 12 q58_33) (.alt (.one 14 q58_37) (.alt (.one 17 q58_39) (.one 18 q58_40))))))) (.alt (.one 12 (.alt (.one 4 (.one 6 q58_33)) (.alt (.one 14 q58_46) (.alt (.one 17 q58_49) (.one 18 q58_51))))) (.alt (.one 14 (.alt (.one 4 (.one 6 q58_37)) (.alt (.one 12 q58_46) (.alt (.one 17 q58_53) (.one 18 q58_54))))) (.alt (.one 17 (.alt (.one 4 (.one 6 q58_39)) (.alt (.one 12 q58_49) (.alt (.one 14 q58_53) (.one 18 q58_55))))) (.one 18 (.alt (.one 4 (.one 6 q58_40)) (.alt (.one 12 q58_51) (.alt (.one 14 q58_54) (.one 17 q58_55)))))))))))))))))) else if id = 6 then .one 0 (.one 1 (.one 2 (.one 3 (.one 4 (.one 5 (.one 6 (.one 7 (.done)))))))) else if id = 10 then .one 0 (.one 1 (.one 2 (.one 3 (.one 5 (.alt (.one 4 (.alt (.one 6 (.one 7 q58_56)) (.one 10 (.one 6 (.one 7 (.one 8 (.one 9 (.one 11 (.done))))))))) (.alt (.one 6 (.one 7 (.alt (.one 4 q58_56) (.one 10 (.one 4 (.one 8 (.one 9 (.one 11 (.done))))))))) (.one 10 (.one 4 (.one 6 (.one 7 (.one 8 (.one 9 (.one 11 (.done)))))))))))))) else if id = 11 then .one 0 (.one 1 (.one 2 (.one 3 (.one 4 (.one 5 (.one 6 (.one 7 (.one 8 (.one 9 (.one 10 (.one 11 (.one 12 (.one 13 (.one 14 (.one 15 (.one 16 (.one 17 (.done)))))))))))))))))) else .done
theorem O58_3 : O58 3 = .one 0 (.one 1 (.one 2 (.one 3 (.one 5 (.one 8 (.one 9 (.one 10 (.one 11 (.one 13 (.alt (.one 4 (.one 6 (.alt (.one 7 (.alt (.one 12 q58_12) (.alt (.one 14 q58_16) (.alt (.one 17 q58_18) (.one 18 q58_19))))) (.alt (.one 12 q58_33) (.alt (.one 14 q58_37) (.alt (.one 17 q58_39) (.one 18 q58_40))))))) (.alt (.one 12 (.alt (.one 4 (.one 6 q58_33)) (.alt (.one 14 q58_46) (.alt (.one 17 q58_49) (.one 18 q58_51))))) (.alt (.one 14 (.alt (.one 4 (.one 6 q58_37)) (.alt (.one 12 q58_46) (.alt (.one 17 q58_53) (.one 18 q58_54))))) (.alt (.one 17 (.alt (.one 4 (.one 6 q58_39)) (.alt (.one 12 q58_49) (.alt (.one 14 q58_53) (.one 18 q58_55))))) (.one 18 (.alt (.one 4 (.one 6 q58_40)) (.alt (.one 12 q58_51) (.alt (.one 14 q58_54) (.one 17 q58_55)))))))))))))))))) := rfl
theorem O58_6 : O58 6 = .one 0 (.one 1 (.one 2 (.one 3 (.one 4 (.one 5 (.one 6 (.one 7 (.done)))))))) := rfl
theorem O58_10 : O58 10 = .one 0 (.one 1 (.one 2 (.one 3 (.one 5 (.alt (.one 4 (.alt (.one 6 (.one 7 q58_56)) (.one 10 (.one 6 (.one 7 (.one 8 (.one 9 (.one 11 (.done))))))))) (.alt (.one 6 (.one 7 (.alt (.one 4 q58_56) (.one 10 (.one 4 (.one 8 (.one 9 (.one 11 (.done))))))))) (.one 10 (.one 4 (.one 6 (.one 7 (.one 8 (.one 9 (.one 11 (.done)))))))))))))) := rfl
theorem O58_11 : O58 11 = .one 0 (.one 1 (.one 2 (.one 3 (.one 4 (.one 5 (.one 6 (.one 7 (.one 8 (.one 9 (.one 10 (.one 11 (.one 12 (.one 13 (.one 14 (.one 15 (.one 16 (.one 17 (.done)))))))))))))))))) := rfl
theorem ho58 : Try.f58.body.map (okO O58) = some true := by kernel_rfl
def Cf58 : Nat → List AV → (AV → List AV → Sto → Prop) → Kt → List AV → Sto → Prop := fun f args K Q e s => match f with
  | _ => False
def Ct58 : CT := { f := Cf58, y := noYld, z := fun d => false }
theorem Ct58_ok : Ct58.ok Try.prog := ok_of_f (fun f args K Q e s h => by
  have h : Cf58 f args K Q e s := h
  unfold Cf58 at h; split at h
  · exact h.elim) (fun _ _ _ _ _ _ _ _ _ h => h)
theorem c58 : callable Try.prog 58 = true := by kernel_rfl
theorem pf58 (t : Tt) (s : Sd) (g : Int) (h : (ttOk t = true ∧ (-1 ≤ g ∧ g < t.groups.length)) ∧ (0 ≤ s.h ∧ s.h < t.hours.length) ∧ (s.l = -1 ∨ 1 ≤ s.h)) : PF Try.prog 58 [.ptr t.c 0, .agg s.v, .i g] (fun zz => zz = .ret (.i (erS t s g))) := by
  obtain ⟨⟨ht, hg1, hg2⟩, ⟨hh1, hh2⟩, hl⟩ := h
  have hbig := tt_hours ht
  obtain ⟨W, hW⟩ : ∃ W, W = erS t s g := ⟨_, rfl⟩
  rw [← hW]
  unfold erS at hW
  by_cases c : g = -1
  · subst c
    rw [if_pos rfl] at hW
    refine PF_nil (PF_start (O := O58) Ct58_ok hmix ho58 Try.func58 c58 rfl Try.ntmps58 Try.results58 ?_)
    simp (maxSteps := 4000000) +contextual (disch := first | omega | exact qdb_ok (by kernel_rfl) | exact okb_ok (by kernel_rfl)) only [bw1,bw2,bw3,bw5,bw6,binV,binS,binIs,resAll,resV,resS,AV.outs,outL,AV.outF,packD,AV.cells?,Sto.get,Sto.ins,Sto.kill,AV.kill,AV.men,AV.mens,beq_self_eq_true,Bool.false_eq_true,↓reduceIte,reduceCtorEq,List.map_cons,List.map_nil,List.nil_append,List.cons_append,List.length_cons,List.length_nil,and_self,Nat.reduceAdd,Nat.reduceSub,List.reduceReplicate,List.toList_toArray,Nat.zero_add,Nat.reduceLT,Int.reduceNeg,Bool.or_self,tfb,bi_eql,hW]
    try rfl
  rw [if_neg c] at hW
  have cb : (g == -1) = false := by simpa using c
  obtain ⟨k, hk⟩ : ∃ k : Nat, g = (k : Int) := ⟨g.toNat, by omega⟩
  obtain ⟨i, hi⟩ : ∃ i : Nat, s.h = (i : Int) := ⟨s.h.toNat, by omega⟩
  have hkn : k < t.groups.length := by omega
  have hin : i < t.hours.length := by omega
  have hgr := tt_group ht hkn
  have hhr := tt_hour ht hin
  have hrg : (t.groups.map Gr.c).getD k [] = Gr.c (t.groups.getD k default) := Go.E.row_at hkn
  have hrh : (t.hours.map Hr.c).getD i [] = Hr.c (t.hours.getD i default) := Go.E.row_at hin
  have hin' : (i : Int) < t.hours.length := by omega
  have hi0 : (0 : Int) ≤ i := by omega
  have hdy := day_is hgr.1 hhr.1
  have hdy1 : 0 ≤ (t.hours.getD i default).day := hhr.1.1
  rw [hk, Int.toNat_natCast, hi, Int.toNat_natCast] at hW
  have hm : mayB (t.groups.getD k default) (t.hours.getD i default) = (dayB (t.groups.getD k default).days (t.hours.getD i default).day && (decide ((t.groups.getD k default).early ≤ (t.hours.getD i default).b) && decide ((t.hours.getD i default).e ≤ (t.groups.getD k default).late))) := rfl
  have hk0 : (0 : Int) ≤ k := by omega
  have hkn' : (k : Int) < t.groups.length := by omega
  have hke : ((k : Int) == -1) = false := by rw [beq_eq_false_iff_ne]; omega
  have hday : 0 ≤ (t.hours.getD i default).day ∧ (t.hours.getD i default).day ≤ 6 := hhr.1
  by_cases e1 : dayB (t.groups.getD k default).days (t.hours.getD i default).day = true
  case neg =>
    have e1b : dayB (t.groups.getD k default).days (t.hours.getD i default).day = false := by simpa using e1
    rw [e1b, Bool.not_false] at hdy
    rw [e1b, Bool.false_and] at hm
    rw [if_pos (by rw [hm]; simp)] at hW
    refine PF_nil (PF_start (O := O58) Ct58_ok hmix ho58 Try.func58 c58 rfl Try.ntmps58 Try.results58 ?_)
    simp (maxSteps := 4000000) +contextual (disch := first | omega | exact qdb_ok (by kernel_rfl) | exact okb_ok (by kernel_rfl)) only [bw1,bw2,bw3,bw4,bw5,bw6,bw7,sv,gif_eq,binV,binS,binIs,addF,AV.isPtr,idxV,AV.isSl,AV.rows,loadV,loadS,D.part,AV.part,ps,pv,resAll,resV,resS,AV.outs,outL,AV.outF,packD,AV.cells?,setR,Sto.get,Sto.ins,Sto.kill,Sto.upd,AV.kill,AV.men,AV.mens,AV.mencs,AV.menc,Sto.mencs,AV.one,D.one,Value.oneCell',AV.no,Bool.false_eq_true,↓reduceIte,reduceCtorEq,List.getElem?_cons_zero,List.getElem?_cons_succ,List.map_cons,List.map_nil,List.nil_append,List.cons_append,List.length_cons,List.length_nil,Option.bind_some,Option.getD_some,Option.isSome_some,and_self,Nat.reduceAdd,Nat.reduceSub,List.reduceReplicate,List.toList_toArray,Nat.zero_add,Nat.add_zero,List.drop_zero,List.take_succ_cons,List.take_nil,Nat.reduceLeDiff,Nat.reduceLT,Nat.reduceBEq,Nat.reduceEqDiff,Int.reduceNeg,Bool.not_true,Bool.not_false,ne_eq,not_false_eq_true,List.all_cons,List.all_nil,Bool.and_self,List.not_mem_nil,Bool.or_self,tfb,bi_and,bi_shr,bi_eql,q58_0,q58_1,q58_2,q58_3,q58_4,q58_5,q58_6,q58_7,q58_8,q58_9,q58_10,q58_11,q58_12,q58_13,q58_14,q58_15,q58_16,q58_17,q58_18,q58_19,q58_20,q58_21,q58_22,q58_23,q58_24,q58_25,q58_26,q58_27,q58_28,q58_29,q58_30,q58_31,q58_32,q58_33,q58_34,q58_35,q58_36,q58_37,q58_38,q58_39,q58_40,q58_41,q58_42,q58_43,q58_44,q58_45,q58_46,q58_47,q58_48,q58_49,q58_50,q58_51,q58_52,q58_53,q58_54,q58_55,O58_3,hk, hi, hke, hk0, hkn', hrg, hi0, hin', hrh, hdy, hdy1, hW]
    try (and_intros <;> first | omega | rfl)
  rw [e1, Bool.not_true] at hdy
  rw [e1, Bool.true_and] at hm
  by_cases e2 : (t.groups.getD k default).early ≤ (t.hours.getD i default).b
  case neg =>
    have e2b : (t.hours.getD i default).b < (t.groups.getD k default).early := by omega
    rw [decide_eq_false e2, Bool.false_and] at hm
    rw [if_pos (by rw [hm]; simp)] at hW
    refine PF_nil (PF_start (O := O58) Ct58_ok hmix ho58 Try.func58 c58 rfl Try.ntmps58 Try.results58 ?_)
    simp (maxSteps := 4000000) +contextual (disch := first | omega | exact qdb_ok (by kernel_rfl) | exact okb_ok (by kernel_rfl)) only [bw1,bw2,bw3,bw4,bw5,bw6,bw7,sv,gif_eq,binV,binS,binIs,addF,AV.isPtr,idxV,AV.isSl,AV.rows,loadV,loadS,D.part,AV.part,ps,pv,resAll,resV,resS,AV.outs,outL,AV.outF,packD,AV.cells?,setR,Sto.get,Sto.ins,Sto.kill,Sto.upd,AV.kill,AV.men,AV.mens,AV.mencs,AV.menc,Sto.mencs,AV.one,D.one,Value.oneCell',AV.no,beq_self_eq_true,Bool.false_eq_true,↓reduceIte,reduceCtorEq,List.getElem?_cons_zero,List.getElem?_cons_succ,List.map_cons,List.map_nil,List.nil_append,List.cons_append,List.length_cons,List.length_nil,Option.bind_some,Option.getD_some,Option.isSome_some,and_self,Nat.reduceAdd,Nat.reduceSub,List.reduceReplicate,List.toList_toArray,Nat.zero_add,Nat.add_zero,List.drop_zero,List.take_succ_cons,List.take_nil,Nat.reduceLeDiff,Nat.reduceLT,Nat.reduceBEq,Nat.reduceEqDiff,Int.reduceNeg,Bool.not_true,Bool.not_false,ne_eq,not_false_eq_true,List.all_cons,List.all_nil,Bool.and_self,List.not_mem_nil,Bool.or_self,decide_true,tfb,bi_and,bi_shr,bi_eql,bi_lss,q58_0,q58_1,q58_2,q58_3,q58_4,q58_5,q58_6,q58_7,q58_8,q58_9,q58_10,q58_11,q58_12,q58_13,q58_14,q58_15,q58_16,q58_17,q58_18,q58_19,q58_20,q58_21,q58_22,q58_23,q58_24,q58_25,q58_26,q58_27,q58_28,q58_29,q58_30,q58_31,q58_32,q58_33,q58_34,q58_35,q58_36,q58_37,q58_38,q58_39,q58_40,q58_41,q58_42,q58_43,q58_44,q58_45,q58_46,q58_47,q58_48,q58_49,q58_50,q58_51,q58_52,q58_53,q58_54,q58_55,O58_3,hk, hi, hke, hk0, hkn', hrg, hi0, hin', hrh, hdy, hdy1, e2b, hW]
    try (and_intros <;> first | omega | rfl)
  have e2b : ¬ (t.hours.getD i default).b < (t.groups.getD k default).early := by omega
  rw [decide_eq_true e2, Bool.true_and] at hm
  by_cases e3 : (t.hours.getD i default).e ≤ (t.groups.getD k default).late
  case neg =>
    have e3b : (t.groups.getD k default).late < (t.hours.getD i default).e := by omega
    rw [decide_eq_false e3] at hm
    rw [if_pos (by rw [hm]; simp)] at hW
    refine PF_nil (PF_start (O := O58) Ct58_ok hmix ho58 Try.func58 c58 rfl Try.ntmps58 Try.results58 ?_)
    simp (maxSteps := 4000000) +contextual (disch := first | omega | exact qdb_ok (by kernel_rfl) | exact okb_ok (by kernel_rfl)) only [bw1,bw2,bw3,bw4,bw5,bw6,sv,gif_eq,binV,binS,binIs,addF,AV.isPtr,idxV,AV.isSl,AV.rows,loadV,loadS,D.part,AV.part,ps,pv,resAll,resV,resS,AV.outs,outL,AV.outF,packD,AV.cells?,setR,Sto.get,Sto.ins,Sto.kill,Sto.upd,AV.kill,AV.men,AV.mens,AV.mencs,AV.menc,Sto.mencs,AV.one,D.one,Value.oneCell',AV.no,beq_self_eq_true,Bool.false_eq_true,↓reduceIte,reduceCtorEq,List.getElem?_cons_zero,List.getElem?_cons_succ,List.map_cons,List.map_nil,List.nil_append,List.cons_append,List.length_cons,List.length_nil,Option.bind_some,Option.getD_some,Option.isSome_some,and_self,Nat.reduceAdd,Nat.reduceSub,List.reduceReplicate,List.toList_toArray,Nat.zero_add,Nat.add_zero,List.drop_zero,List.take_succ_cons,List.take_nil,Nat.reduceLeDiff,Nat.reduceLT,Nat.reduceBEq,Nat.reduceEqDiff,Int.reduceNeg,ne_eq,not_false_eq_true,List.all_cons,List.all_nil,Bool.and_self,List.not_mem_nil,Bool.or_self,decide_true,decide_false,tfb,bi_and,bi_shr,bi_eql,bi_lss,bi_gtr,q58_0,q58_1,q58_2,q58_3,q58_4,q58_5,q58_6,q58_7,q58_8,q58_9,q58_10,q58_11,q58_12,q58_13,q58_14,q58_15,q58_16,q58_17,q58_18,q58_19,q58_20,q58_21,q58_22,q58_23,q58_24,q58_25,q58_26,q58_27,q58_28,q58_29,q58_30,q58_31,q58_32,q58_33,q58_34,q58_35,q58_36,q58_37,q58_38,q58_39,q58_40,q58_41,q58_42,q58_43,q58_44,q58_45,q58_46,q58_47,q58_48,q58_49,q58_50,q58_51,q58_52,q58_53,q58_54,q58_55,O58_3,hk, hi, hke, hk0, hkn', hrg, hi0, hin', hrh, hdy, hdy1, e2b, e3b, hW]
    try (and_intros <;> first | omega | rfl)
  have e3b : ¬ (t.groups.getD k default).late < (t.hours.getD i default).e := by omega
  rw [decide_eq_true e3] at hm
  rw [if_neg (fun h => h hm)] at hW
  have hat : [AV.d (D.i (i : Int)), AV.d (D.i s.l), AV.d (D.i s.n.a), AV.d (D.i s.n.b), AV.d (D.i s.n.c), AV.d (D.i s.n.d), AV.d (D.i s.n.e)].getD (2 + k) AV.any = AV.i (s.n.at (k : Int)) := by
    rcases (show k = 0 ∨ k = 1 ∨ k = 2 ∨ k = 3 ∨ k = 4 by omega) with rfl | rfl | rfl | rfl | rfl <;> rfl
  have hk5 : 2 + k ≤ 6 := by omega
  have hk6 : (k : Int) < 5 := by omega
  have hmul : k * 1 = k := Nat.mul_one k
  by_cases e4 : s.n.at (k : Int) = (t.groups.getD k default).most
  · have e4b := beq_iff_eq.2 e4
    rw [if_pos e4] at hW
    refine PF_nil (PF_start (O := O58) Ct58_ok hmix ho58 Try.func58 c58 rfl Try.ntmps58 Try.results58 ?_)
    simp (maxSteps := 4000000) +contextual (disch := first | omega | exact qdb_ok (by kernel_rfl) | exact okb_ok (by kernel_rfl)) only [bw1,bw2,bw3,bw4,bw5,bw6,sv,gif_eq,binV,binS,binIs,addF,AV.isPtr,idxV,AV.isSl,AV.rows,loadV,loadS,D.part,AV.part,ps,pv,resAll,resV,resS,AV.outs,outL,AV.outF,packD,AV.cells?,setR,Sto.get,Sto.ins,Sto.kill,Sto.upd,AV.kill,AV.men,AV.mens,AV.mencs,AV.menc,Sto.mencs,AV.one,D.one,Value.oneCell',AV.no,beq_self_eq_true,Bool.false_eq_true,↓reduceIte,reduceCtorEq,List.getElem?_cons_zero,List.getElem?_cons_succ,List.map_cons,List.map_nil,List.nil_append,List.cons_append,List.length_cons,List.length_nil,Option.bind_some,Option.getD_some,Option.isSome_some,true_and,and_true,and_self,Nat.reduceAdd,Nat.reduceSub,List.reduceReplicate,List.toList_toArray,Nat.zero_add,Nat.add_zero,List.drop_zero,List.take_succ_cons,List.take_nil,Nat.reduceLeDiff,Nat.reduceLT,Nat.reduceBEq,Nat.reduceEqDiff,Int.reduceNeg,ne_eq,not_false_eq_true,List.all_cons,List.all_nil,Bool.and_self,List.not_mem_nil,Bool.or_self,decide_false,tfb,bi_and,bi_shr,bi_eql,bi_lss,bi_gtr,q58_0,q58_1,q58_2,q58_3,q58_4,q58_5,q58_6,q58_7,q58_8,q58_9,q58_10,q58_11,q58_12,q58_13,q58_14,q58_15,q58_16,q58_17,q58_18,q58_19,q58_20,q58_21,q58_22,q58_23,q58_24,q58_25,q58_26,q58_27,q58_28,q58_29,q58_30,q58_31,q58_32,q58_33,q58_34,q58_35,q58_36,q58_37,q58_38,q58_39,q58_40,q58_41,q58_42,q58_43,q58_44,q58_45,q58_46,q58_47,q58_48,q58_49,q58_50,q58_51,q58_52,q58_53,q58_54,q58_55,O58_3,O58_6,hk, hi, hke, hk0, hkn', hrg, hi0, hin', hrh, hdy, hdy1, e2b, e3b, hat, hk5, hmul, e4b, hW]
    try (and_intros <;> first | omega | rfl)
  have e4b : (s.n.at (k : Int) == (t.groups.getD k default).most) = false := by simpa using e4
  rw [if_neg e4] at hW
  by_cases e5 : s.l = -1
  · have e5b : (s.l == -1) = true := by simpa using e5
    rw [if_pos (.inl e5)] at hW
    refine PF_nil (PF_start (O := O58) Ct58_ok hmix ho58 Try.func58 c58 rfl Try.ntmps58 Try.results58 ?_)
    simp (maxSteps := 4000000) +contextual (disch := first | omega | exact qdb_ok (by kernel_rfl) | exact okb_ok (by kernel_rfl)) only [bw1,bw2,bw3,bw4,bw5,bw6,bw7,sv,gif_eq,binV,binS,binIs,addF,AV.isPtr,idxV,AV.isSl,AV.rows,loadV,loadS,D.part,AV.part,ps,pv,resAll,resV,resS,AV.outs,outL,AV.outF,packD,AV.cells?,setR,Sto.get,Sto.ins,Sto.kill,Sto.upd,AV.kill,AV.men,AV.mens,AV.mencs,AV.menc,Sto.mencs,AV.one,D.one,Value.oneCell',AV.no,beq_self_eq_true,Bool.false_eq_true,↓reduceIte,reduceCtorEq,List.getElem?_cons_zero,List.getElem?_cons_succ,List.map_cons,List.map_nil,List.nil_append,List.cons_append,List.length_cons,List.length_nil,Option.bind_some,Option.getD_some,Option.isSome_some,true_and,and_true,and_self,Nat.reduceAdd,Nat.reduceSub,List.reduceReplicate,List.toList_toArray,Nat.zero_add,Nat.add_zero,List.drop_zero,List.take_succ_cons,List.take_nil,Nat.reduceLeDiff,Nat.reduceLT,Nat.reduceBEq,Nat.reduceEqDiff,Int.reduceNeg,Bool.not_true,Bool.not_false,ne_eq,not_false_eq_true,List.all_cons,List.all_nil,Bool.and_self,List.not_mem_nil,Bool.or_self,decide_false,tfb,bi_and,bi_shr,bi_eql,bi_lss,bi_gtr,q58_0,q58_1,q58_2,q58_3,q58_4,q58_5,q58_6,q58_7,q58_8,q58_9,q58_10,q58_11,q58_12,q58_13,q58_14,q58_15,q58_16,q58_17,q58_18,q58_19,q58_20,q58_21,q58_22,q58_23,q58_24,q58_25,q58_26,q58_27,q58_28,q58_29,q58_30,q58_31,q58_32,q58_33,q58_34,q58_35,q58_36,q58_37,q58_38,q58_39,q58_40,q58_41,q58_42,q58_43,q58_44,q58_45,q58_46,q58_47,q58_48,q58_49,q58_50,q58_51,q58_52,q58_53,q58_54,q58_55,O58_3,O58_6,hk, hi, hke, hk0, hkn', hrg, hi0, hin', hrh, hdy, hdy1, e2b, e3b, hat, hk5, hmul, e4b, e5b, hW]
    try (and_intros <;> first | omega | rfl)
  have e5b : (s.l == -1) = false := by simpa using e5
  by_cases e6 : s.l = (k : Int)
  · have e6b : (s.l == (k : Int)) = true := by simpa using e6
    rw [if_pos (.inr e6)] at hW
    refine PF_nil (PF_start (O := O58) Ct58_ok hmix ho58 Try.func58 c58 rfl Try.ntmps58 Try.results58 ?_)
    simp (maxSteps := 4000000) +contextual (disch := first | omega | exact qdb_ok (by kernel_rfl) | exact okb_ok (by kernel_rfl)) only [bw1,bw2,bw3,bw4,bw5,bw6,sv,gif_eq,binV,binS,binIs,addF,AV.isPtr,idxV,AV.isSl,AV.rows,loadV,loadS,D.part,AV.part,ps,pv,resAll,resV,resS,AV.outs,outL,AV.outF,packD,AV.cells?,setR,Sto.get,Sto.ins,Sto.kill,Sto.upd,AV.kill,AV.men,AV.mens,AV.mencs,AV.menc,Sto.mencs,AV.one,D.one,Value.oneCell',AV.no,beq_self_eq_true,Bool.false_eq_true,↓reduceIte,reduceCtorEq,List.getElem?_cons_zero,List.getElem?_cons_succ,List.map_cons,List.map_nil,List.nil_append,List.cons_append,List.length_cons,List.length_nil,Option.bind_some,Option.getD_some,Option.isSome_some,true_and,and_true,and_self,Nat.reduceAdd,Nat.reduceSub,List.reduceReplicate,List.toList_toArray,Nat.zero_add,Nat.add_zero,List.drop_zero,List.take_succ_cons,List.take_nil,Nat.reduceLeDiff,Nat.reduceLT,Nat.reduceBEq,Nat.reduceEqDiff,Int.reduceNeg,ne_eq,not_false_eq_true,List.all_cons,List.all_nil,Bool.and_self,List.not_mem_nil,Bool.or_self,decide_false,tfb,bi_and,bi_shr,bi_eql,bi_lss,bi_gtr,q58_0,q58_1,q58_2,q58_3,q58_4,q58_5,q58_6,q58_7,q58_8,q58_9,q58_10,q58_11,q58_12,q58_13,q58_14,q58_15,q58_16,q58_17,q58_18,q58_19,q58_20,q58_21,q58_22,q58_23,q58_24,q58_25,q58_26,q58_27,q58_28,q58_29,q58_30,q58_31,q58_32,q58_33,q58_34,q58_35,q58_36,q58_37,q58_38,q58_39,q58_40,q58_41,q58_42,q58_43,q58_44,q58_45,q58_46,q58_47,q58_48,q58_49,q58_50,q58_51,q58_52,q58_53,q58_54,q58_55,O58_3,O58_6,hk, hi, hke, hk0, hkn', hrg, hi0, hin', hrh, hdy, hdy1, e2b, e3b, hat, hk5, hmul, e4b, e5b, e6b, hW]
    try (and_intros <;> first | omega | rfl)
  have e6b : (s.l == (k : Int)) = false := by simpa using e6
  rw [if_neg (fun h => h.elim e5 e6)] at hW
  have hi1 : 1 ≤ i := by omega
  have y1 : ((i : Int) - 1).toNat = i - 1 := by omega
  have y2 : (0 : Int) ≤ (i : Int) - 1 := by omega
  have y3 : (i : Int) - 1 < t.hours.length := by omega
  have hrh2 : (t.hours.map Hr.c).getD (i - 1) [] = Hr.c (t.hours.getD (i - 1) default) := Go.E.row_at (by omega)
  have hh3 := tt_hour ht (i := i - 1) (by omega)
  by_cases e7 : (t.hours.getD i default).day = (t.hours.getD (i - 1) default).day
  case neg =>
    have e7b : ((t.hours.getD i default).day == (t.hours.getD (i - 1) default).day) = false := by simpa using e7
    rw [if_neg (fun h => e7 h.1)] at hW
    refine PF_nil (PF_start (O := O58) Ct58_ok hmix ho58 Try.func58 c58 rfl Try.ntmps58 Try.results58 ?_)
    simp (maxSteps := 4000000) +contextual (disch := first | omega | exact qdb_ok (by kernel_rfl) | exact okb_ok (by kernel_rfl)) only [bw1,bw2,bw3,bw4,bw5,bw6,bw7,sv,gif_eq,binV,binS,binIs,addF,AV.isPtr,idxV,AV.isSl,AV.rows,loadV,loadS,D.part,AV.part,ps,pv,resAll,resV,resS,AV.outs,outL,AV.outF,packD,AV.cells?,setR,Sto.get,Sto.ins,Sto.kill,Sto.upd,AV.kill,AV.men,AV.mens,AV.mencs,AV.menc,Sto.mencs,AV.one,D.one,Value.oneCell',AV.no,beq_self_eq_true,Bool.false_eq_true,↓reduceIte,reduceCtorEq,List.getElem?_cons_zero,List.getElem?_cons_succ,List.map_cons,List.map_nil,List.nil_append,List.cons_append,List.length_cons,List.length_nil,Option.bind_some,Option.getD_some,Option.isSome_some,true_and,and_true,and_self,Nat.reduceAdd,Nat.reduceSub,List.reduceReplicate,List.toList_toArray,Nat.zero_add,Nat.add_zero,List.drop_zero,List.take_succ_cons,List.take_nil,Nat.reduceLeDiff,Nat.reduceLT,Nat.reduceBEq,Nat.reduceEqDiff,Int.reduceNeg,Bool.not_true,ne_eq,not_false_eq_true,List.all_cons,List.all_nil,Bool.and_self,List.not_mem_nil,Bool.or_self,decide_false,tfb,bi_sub,bi_and,bi_shr,bi_eql,bi_lss,bi_gtr,q58_0,q58_1,q58_2,q58_3,q58_4,q58_5,q58_6,q58_7,q58_8,q58_9,q58_10,q58_11,q58_12,q58_13,q58_14,q58_15,q58_16,q58_17,q58_18,q58_19,q58_20,q58_21,q58_22,q58_23,q58_24,q58_25,q58_26,q58_27,q58_28,q58_29,q58_30,q58_31,q58_32,q58_33,q58_34,q58_35,q58_36,q58_37,q58_38,q58_39,q58_40,q58_41,q58_42,q58_43,q58_44,q58_45,q58_46,q58_47,q58_48,q58_49,q58_50,q58_51,q58_52,q58_53,q58_54,q58_55,q58_56,O58_3,O58_6,O58_10,O58_11,hk, hi, hke, hk0, hkn', hrg, hi0, hin', hrh, hdy, hdy1, e2b, e3b, hat, hk5, hmul, e4b, e5b, e6b, y1, y2, y3, hrh2, e7b, hW]
    try (and_intros <;> first | omega | rfl)
  have e7b : ((t.hours.getD i default).day == (t.hours.getD (i - 1) default).day) = true := by simpa using e7
  by_cases e8 : (t.hours.getD i default).b - (t.hours.getD (i - 1) default).e < t.res
  · rw [if_pos ⟨e7, e8⟩] at hW
    refine PF_nil (PF_start (O := O58) Ct58_ok hmix ho58 Try.func58 c58 rfl Try.ntmps58 Try.results58 ?_)
    simp (maxSteps := 4000000) +contextual (disch := first | omega | exact qdb_ok (by kernel_rfl) | exact okb_ok (by kernel_rfl)) only [bw1,bw2,bw3,bw4,bw5,bw6,bw7,sv,gif_eq,binV,binS,binIs,addF,AV.isPtr,idxV,AV.isSl,AV.rows,loadV,loadS,D.part,AV.part,ps,pv,resAll,resV,resS,AV.outs,outL,AV.outF,packD,AV.cells?,setR,Sto.get,Sto.ins,Sto.kill,Sto.upd,AV.kill,AV.men,AV.mens,AV.mencs,AV.menc,Sto.mencs,AV.one,D.one,Value.oneCell',AV.no,beq_self_eq_true,Bool.false_eq_true,↓reduceIte,reduceCtorEq,List.getElem?_cons_zero,List.getElem?_cons_succ,List.map_cons,List.map_nil,List.nil_append,List.cons_append,List.length_cons,List.length_nil,Option.bind_some,Option.getD_some,Option.isSome_some,true_and,and_true,and_self,Nat.reduceAdd,Nat.reduceSub,List.reduceReplicate,List.toList_toArray,Nat.zero_add,Nat.add_zero,List.drop_zero,List.take_succ_cons,List.take_nil,Nat.reduceLeDiff,Nat.reduceLT,Nat.reduceBEq,Nat.reduceEqDiff,Int.reduceNeg,ne_eq,not_false_eq_true,List.all_cons,List.all_nil,Bool.and_self,List.not_mem_nil,Bool.or_self,decide_true,decide_false,tfb,bi_sub,bi_and,bi_shr,bi_eql,bi_lss,bi_gtr,q58_0,q58_1,q58_2,q58_3,q58_4,q58_5,q58_6,q58_7,q58_8,q58_9,q58_10,q58_11,q58_12,q58_13,q58_14,q58_15,q58_16,q58_17,q58_18,q58_19,q58_20,q58_21,q58_22,q58_23,q58_24,q58_25,q58_26,q58_27,q58_28,q58_29,q58_30,q58_31,q58_32,q58_33,q58_34,q58_35,q58_36,q58_37,q58_38,q58_39,q58_40,q58_41,q58_42,q58_43,q58_44,q58_45,q58_46,q58_47,q58_48,q58_49,q58_50,q58_51,q58_52,q58_53,q58_54,q58_55,q58_56,O58_3,O58_6,O58_10,O58_11,hk, hi, hke, hk0, hkn', hrg, hi0, hin', hrh, hdy, hdy1, e2b, e3b, hat, hk5, hmul, e4b, e5b, e6b, y1, y2, y3, hrh2, e7b, e8, hW]
    try (and_intros <;> first | omega | rfl)
  · rw [if_neg (fun h => e8 h.2)] at hW
    refine PF_nil (PF_start (O := O58) Ct58_ok hmix ho58 Try.func58 c58 rfl Try.ntmps58 Try.results58 ?_)
    simp (maxSteps := 4000000) +contextual (disch := first | omega | exact qdb_ok (by kernel_rfl) | exact okb_ok (by kernel_rfl)) only [bw1,bw2,bw3,bw4,bw5,bw6,bw7,sv,gif_eq,binV,binS,binIs,addF,AV.isPtr,idxV,AV.isSl,AV.rows,loadV,loadS,D.part,AV.part,ps,pv,resAll,resV,resS,AV.outs,outL,AV.outF,packD,AV.cells?,setR,Sto.get,Sto.ins,Sto.kill,Sto.upd,AV.kill,AV.men,AV.mens,AV.mencs,AV.menc,Sto.mencs,AV.one,D.one,Value.oneCell',AV.no,beq_self_eq_true,Bool.false_eq_true,↓reduceIte,reduceCtorEq,List.getElem?_cons_zero,List.getElem?_cons_succ,List.map_cons,List.map_nil,List.nil_append,List.cons_append,List.length_cons,List.length_nil,Option.bind_some,Option.getD_some,Option.isSome_some,true_and,and_true,and_self,Nat.reduceAdd,Nat.reduceSub,List.reduceReplicate,List.toList_toArray,Nat.zero_add,Nat.add_zero,List.drop_zero,List.take_succ_cons,List.take_nil,Nat.reduceLeDiff,Nat.reduceLT,Nat.reduceBEq,Nat.reduceEqDiff,Int.reduceNeg,ne_eq,not_false_eq_true,List.all_cons,List.all_nil,Bool.and_self,List.not_mem_nil,Bool.or_self,decide_false,tfb,bi_sub,bi_and,bi_shr,bi_eql,bi_lss,bi_gtr,q58_0,q58_1,q58_2,q58_3,q58_4,q58_5,q58_6,q58_7,q58_8,q58_9,q58_10,q58_11,q58_12,q58_13,q58_14,q58_15,q58_16,q58_17,q58_18,q58_19,q58_20,q58_21,q58_22,q58_23,q58_24,q58_25,q58_26,q58_27,q58_28,q58_29,q58_30,q58_31,q58_32,q58_33,q58_34,q58_35,q58_36,q58_37,q58_38,q58_39,q58_40,q58_41,q58_42,q58_43,q58_44,q58_45,q58_46,q58_47,q58_48,q58_49,q58_50,q58_51,q58_52,q58_53,q58_54,q58_55,q58_56,O58_3,O58_6,O58_10,O58_11,hk, hi, hke, hk0, hkn', hrg, hi0, hin', hrh, hdy, hdy1, e2b, e3b, hat, hk5, hmul, e4b, e5b, e6b, y1, y2, y3, hrh2, e7b, e8, hW]
    try (and_intros <;> first | omega | rfl)
def ent58 (o : Option (List D)) (K : AV → List AV → Sto → Prop) (i : At K) (e : List AV) (s : Sto) : Prop := entS (α := (Tt) × (Sd) × (Int)) (fun aa => [.ptr aa.1.c 0, .agg aa.2.1.v, .i aa.2.2]) (fun aa => (ttOk aa.1 = true ∧ (-1 ≤ aa.2.2 ∧ aa.2.2 < aa.1.groups.length)) ∧ (0 ≤ aa.2.1.h ∧ aa.2.1.h < aa.1.hours.length) ∧ (aa.2.1.l = -1 ∨ 1 ≤ aa.2.1.h)) (fun aa => .i (erS aa.1 aa.2.1 aa.2.2)) o K i e s
theorem ent58_ok {args : List AV} {K : AV → List AV → Sto → Prop} {Q : Kt} {e : List AV} {s : Sto} (h : ent58 (AV.outs s args) K (mk _) e s) : pcall Try.prog 58 args K Q e s := entS_ok (fun aa h => pf58 aa.1 aa.2.1 aa.2.2 h) h
theorem eq58 {t : Tt} {s : Sd} {g : Int} {KK : AV → List AV → Sto → Prop} {ii : At KK} {ee : List AV} {ss : Sto} : ent58 (some [.ptr t.c 0, .agg s.v, .i g]) KK ii ee ss = (((ttOk t = true ∧ (-1 ≤ g ∧ g < t.groups.length)) ∧ (0 ≤ s.h ∧ s.h < t.hours.length) ∧ (s.l = -1 ∨ 1 ≤ s.h)) ∧ (.i (erS t s g) : D).flat = true ∧ KK (.d (.i (erS t s g))) ee ss) := by
  unfold ent58; rw [entS_iff (t, s, g) (by intro b h; simpa [Prod.ext_iff, and_assoc, Int.ofNat_inj, ints_inj, hrs_inj, grs_inj, hr_inj, gr_inj, tt_inj, bcs_inj, cn_inj, sd_inj] using h)] <;> simp
end Go.Proofs.Ytofbbkacihnjdaa
