/- A part of the proof that the last text ends: what functions of the program do, told by plain data. -/
import Derived.Test.YtohkngiflfkjjaaRG
set_option linter.unusedVariables false
set_option linter.unusedSimpArgs false
namespace Go.Proofs.Ytohkngiflfkjjaa
open Go Go.E
set_option maxRecDepth 100000
set_option maxHeartbeats 16000000
/-! ### The document: an event -/
def finR (s : St) (x : Ev) (r : List Mem × Int) : St × Int := if r.2 = 0 then (⟨r.1, s.evs ++ [x]⟩, 0) else (s, r.2)
def doR (s : St) (x : Ev) : St × Int :=
  if x.kind = 0 then finR s x (joinR s x) else if x.kind = 6 then finR s x (matchR s x)
  else if fnd s.mem x.person < 0 then (s, 4) else finR s x (s.mem.set (fnd s.mem x.person).toNat (oneR (s.mem.getD (fnd s.mem x.person).toNat default) x).1, (oneR (s.mem.getD (fnd s.mem x.person).toNat default) x).2)
theorem evs_app {l : List Ev} {x : Ev} : (l ++ [x]).map Ev.c = l.map Ev.c ++ [[.i x.day, .i x.kind, .i x.person, .i x.n, .sl 1 (x.sheet.map ic)]] := by rw [List.map_append]; rfl
def O58 : Nat → Sch := fun id => if id = 8 then .one 0 (.one 1 (.one 2 (.one 3 (.one 4 (.one 5 (.one 6 (.one 7 (.one 8 (.one 9 (.one 10 (.one 11 (.one 12 (.one 13 (.done)))))))))))))) else if id = 15 then .one 0 (.one 2 (.alt (.one 1 (.alt (.one 3 (.alt (.one 4 (.one 5 (.one 6 (.one 7 (.one 8 (.one 9 (.one 10 (.done)))))))) (.one 5 (.alt (.one 4 (.one 6 (.one 7 (.one 8 (.one 9 (.one 10 (.done))))))) (.one 6 (.one 4 (.one 7 (.one 8 (.one 9 (.one 10 (.done))))))))))) (.one 5 (.alt (.one 3 (.alt (.one 4 (.one 6 (.one 7 (.one 8 (.one 9 (.one 10 (.done))))))) (.one 6 (.one 4 (.one 7 (.one 8 (.one 9 (.one 10 (.done))))))))) (.one 6 (.one 3 (.one 4 (.one 7 (.one 8 (.one 9 (.one 10 (.done)))))))))))) (.alt (.one 3 (.alt (.one 1 (.alt (.one 4 (.one 5 (.one 6 (.one 7 (.one 8 (.one 9 (.one 10 (.done)))))))) (.one 5 (.alt (.one 4 (.one 6 (.one 7 (.one 8 (.one 9 (.one 10 (.done))))))) (.one 6 (.one 4 (.one 7 (.one 8 (.one 9 (.one 10 (.done))))))))))) (.one 5 (.alt (.one 1 (.alt (.one 4 (.one 6 (.one 7 (.one 8 (.one 9 (.one 10 (.done))))))) (.one 6 (.one 4 (.one 7 (.one 8 (.one 9 (.one 10 (.done))))))))) (.one 6 (.one 1 (.one 4 (.one 7 (.one 8 (.one 9 (.one 10 (.done)))))))))))) (.one 5 (.alt (.one 1 (.alt (.one 3 (.alt (.one 4 (.one 6 (.one 7 (.one 8 (.one 9 (.one 10 (.done))))))) (.one 6 (.one 4 (.one 7 (.one 8 (.one 9 (.one 10 (.done))))))))) (.one 6 (.one 3 (.one 4 (.one 7 (.one 8 (.one 9 (.one 10 (.done)))))))))) (.alt (.one 3 (.alt (.one 1 (.alt (.one 4 (.one 6 (.one 7 (.one 8 (.one 9 (.one 10 (.done))))))) (.one 6 (.one 4 (.one 7 (.one 8 (.one 9 (.one 10 (.done))))))))) (.one 6 (.one 1 (.one 4 (.one 7 (.one 8 (.one 9 (.one 10 (.done)))))))))) (.one 6 (.alt (.one 1 (.one 3 (.one 4 (.one 7 (.one 8 (.one 9 (.one 10 (.done)))))))) (.one 3 (.one 1 (.one 4 (.one 7 (.one 8 (.one 9 (.one 10 (.done)))))))))))))))) else .done
theorem O58_8 : O58 8 = .one 0 (.one 1 (.one 2 (.one 3 (.one 4 (.one 5 (.one 6 (.one 7 (.one 8 (.one 9 (.one 10 (.one 11 (.one 12 (.one 13 (.done)))))))))))))) := rfl
theorem O58_15 : O58 15 = .one 0 (.one 2 (.alt (.one 1 (.alt (.one 3 (.alt (.one 4 (.one 5 (.one 6 (.one 7 (.one 8 (.one 9 (.one 10 (.done)))))))) (.one 5 (.alt (.one 4 (.one 6 (.one 7 (.one 8 (.one 9 (.one 10 (.done))))))) (.one 6 (.one 4 (.one 7 (.one 8 (.one 9 (.one 10 (.done))))))))))) (.one 5 (.alt (.one 3 (.alt (.one 4 (.one 6 (.one 7 (.one 8 (.one 9 (.one 10 (.done))))))) (.one 6 (.one 4 (.one 7 (.one 8 (.one 9 (.one 10 (.done))))))))) (.one 6 (.one 3 (.one 4 (.one 7 (.one 8 (.one 9 (.one 10 (.done)))))))))))) (.alt (.one 3 (.alt (.one 1 (.alt (.one 4 (.one 5 (.one 6 (.one 7 (.one 8 (.one 9 (.one 10 (.done)))))))) (.one 5 (.alt (.one 4 (.one 6 (.one 7 (.one 8 (.one 9 (.one 10 (.done))))))) (.one 6 (.one 4 (.one 7 (.one 8 (.one 9 (.one 10 (.done))))))))))) (.one 5 (.alt (.one 1 (.alt (.one 4 (.one 6 (.one 7 (.one 8 (.one 9 (.one 10 (.done))))))) (.one 6 (.one 4 (.one 7 (.one 8 (.one 9 (.one 10 (.done))))))))) (.one 6 (.one 1 (.one 4 (.one 7 (.one 8 (.one 9 (.one 10 (.done)))))))))))) (.one 5 (.alt (.one 1 (.alt (.one 3 (.alt (.one 4 (.one 6 (.one 7 (.one 8 (.one 9 (.one 10 (.done))))))) (.one 6 (.one 4 (.one 7 (.one 8 (.one 9 (.one 10 (.done))))))))) (.one 6 (.one 3 (.one 4 (.one 7 (.one 8 (.one 9 (.one 10 (.done)))))))))) (.alt (.one 3 (.alt (.one 1 (.alt (.one 4 (.one 6 (.one 7 (.one 8 (.one 9 (.one 10 (.done))))))) (.one 6 (.one 4 (.one 7 (.one 8 (.one 9 (.one 10 (.done))))))))) (.one 6 (.one 1 (.one 4 (.one 7 (.one 8 (.one 9 (.one 10 (.done)))))))))) (.one 6 (.alt (.one 1 (.one 3 (.one 4 (.one 7 (.one 8 (.one 9 (.one 10 (.done)))))))) (.one 3 (.one 1 (.one 4 (.one 7 (.one 8 (.one 9 (.one 10 (.done)))))))))))))))) := rfl
theorem ho58 : Try.f58.body.map (okO O58) = some true := by kernel_rfl
def Cf58 : Nat → List AV → (AV → List AV → Sto → Prop) → Kt → List AV → Sto → Prop := fun f args K Q e s => match f with
  | 38 => ent38 args K e s
  | 77 => ent77 args K e s
  | 78 => ent78 args K e s
  | 79 => ent79 args K e s
  | _ => False
def Ct58 : CT := { f := Cf58, y := noYld, z := fun d => false }
theorem ctz58 {d : Nat} : CT.z Ct58 d = (false) := id rfl
theorem Ct58_ok : Ct58.ok Try.prog := ok_of_f (fun f args K Q e s h => by
  have h : Cf58 f args K Q e s := h
  unfold Cf58 at h; split at h
  · exact ent38_ok h
  · exact ent77_ok h
  · exact ent78_ok h
  · exact ent79_ok h
  · exact h.elim) (fun _ _ _ _ _ _ _ _ _ h => h)
theorem x58_38 {l : List Mem} {p : Int} {KK : AV → List AV → Sto → Prop} {QQ : Kt} {ii : At KK} {jj : At QQ} {ee : List AV} {ss : Sto} : xC Ct58 38 [.d (.sl 5 (l.map Mem.c)), .d (.i p)] KK QQ ii jj ee ss = ((l.length ≤ 100000) ∧ KK (.d (.i (fnd l p))) ee ss) := eq38
theorem x58_38_m1 {l : List Mem} {p : Int} {g1 el1 : Nat} {KK : AV → List AV → Sto → Prop} {QQ : Kt} {ii : At KK} {jj : At QQ} {ee : List AV} {ss : Sto} : xC Ct58 38 [.own g1 el1 5 (l.map Mem.c), .d (.i p)] KK QQ ii jj ee ss = ((l.length ≤ 100000) ∧ (.i (fnd l p) : D).flat = true ∧ KK (.d (.i (fnd l p))) ee ss) := eqo38
theorem x58_77 {s : St} {x : Ev} {KK : AV → List AV → Sto → Prop} {QQ : Kt} {ii : At KK} {jj : At QQ} {ee : List AV} {ss : Sto} : xC Ct58 77 [.d (.agg s.c), .d (.agg x.c)] KK QQ ii jj ee ss = ((s.mem.length ≤ 1000) ∧ KK (.d (.tup [.sl 5 ((joinR s x).1.map Mem.c), .i (joinR s x).2])) ee ss) := eq77
theorem x58_78 {s : St} {x : Ev} {KK : AV → List AV → Sto → Prop} {QQ : Kt} {ii : At KK} {jj : At QQ} {ee : List AV} {ss : Sto} : xC Ct58 78 [.d (.agg s.c), .d (.agg x.c)] KK QQ ii jj ee ss = ((MemsOk s.mem ∧ EvsOk s.evs ∧ x.sheet.length ≤ 100000) ∧ KK (.d (.tup [.sl 5 ((matchR s x).1.map Mem.c), .i (matchR s x).2])) ee ss) := eq78
theorem x58_79 {m : Mem} {x : Ev} {KK : AV → List AV → Sto → Prop} {QQ : Kt} {ii : At KK} {jj : At QQ} {ee : List AV} {ss : Sto} : xC Ct58 79 [.d (.agg m.c), .d (.agg x.c)] KK QQ ii jj ee ss = (((-100000 ≤ m.ban ∧ m.ban ≤ 1000000 ∧ -1000 ≤ m.stage ∧ m.stage ≤ 1000) ∧ (0 ≤ x.n ∧ x.n ≤ 1000)) ∧ KK (.d (.tup [.agg (oneR m x).1.c, .i (oneR m x).2])) ee ss) := eq79
theorem c58 : callable Try.prog 58 = true := by kernel_rfl
theorem pf58 (s : St) (x : Ev) (h : MemsOk s.mem ∧ EvsOk s.evs ∧ x.sheet.length ≤ 100000 ∧ 0 ≤ x.n ∧ x.n ≤ 1000) : PF Try.prog 58 [.agg s.c, .agg x.c] (fun zz => zz = .ret (.tup [.agg (doR s x).1.c, .i (doR s x).2])) := by
  obtain ⟨hm, he, hx, hn1, hn2⟩ := h
  have hl1 := hm.1
  have hl5 : s.mem.length ≤ 100000 := by omega
  have he1 := he.1
  unfold doR
  by_cases k0 : x.kind = 0
  · rw [if_pos k0]
    have k0b : (x.kind == 0) = true := by simpa using k0
    unfold finR
    by_cases c : (joinR s x).2 = 0
    · rw [if_pos c]
      refine PF_nil (PF_start (O := O58) Ct58_ok hmix ho58 Try.func58 c58 rfl Try.ntmps58 Try.results58 ?_)
      simp (maxSteps := 4000000) +contextual (disch := first | omega | exact qdb_ok (by kernel_rfl) | exact okb_ok (by kernel_rfl)) only [bw1,bw2,bw3,bw4,bw5,bw6,bw7,bc0,bc1,bc2,bc3,bc4,bc5,bc6,bc7,bb0,setPs,AV.owns,AV.datF,AV.frz,AV.cpy,ifV,isEqB,nilV,nilX,AV.isNilS,AV.isNoRows,wk,dclo,datOf,binIs,addF,AV.isPtr,idxV,AV.isSl,AV.isSlice,AV.rows,ps,pv,extV,extS,AV.outs,AV.outF,packD,AV.dl,fieldV,fieldS,AV.cells?,AV.upr,AV.menc,AV.one,D.one,Value.oneCell',tagOf,AV.isApp,strV,strS,bolV,bolS,slcV,AV.isSlD,asrtS,AV.dcells,D.cells?,stcV,stcS,leafOk,eqDs,eqD,packA,D.val?,↓reduceIte,reduceCtorEq,Nat.reduceAdd,Nat.reduceSub,Nat.reduceMul,List.reduceReplicate,Nat.reduceLeDiff,Nat.reduceLT,Nat.reduceBEq,Nat.reduceEqDiff,Int.reduceNeg,Int.reduceEq,Int.reduceLE,Int.reduceLT,tfb,ctz58,O58_8,O58_15,x58_38,x58_38_m1,x58_77,x58_78,x58_79,k0b, hl1, c, bne_self_eq_false, evs_app, List.length_map]
      try (and_intros <;> first | omega | rfl)
    · rw [if_neg c]
      have cb : ((joinR s x).2 != 0) = true := by simpa using c
      refine PF_nil (PF_start (O := O58) Ct58_ok hmix ho58 Try.func58 c58 rfl Try.ntmps58 Try.results58 ?_)
      simp (maxSteps := 4000000) +contextual (disch := first | omega | exact qdb_ok (by kernel_rfl) | exact okb_ok (by kernel_rfl)) only [bw1,bw2,bw3,bw4,bw5,bw6,bw7,bc0,bc1,bc2,bc3,bc4,bc5,bc6,bc7,bb0,setPs,AV.owns,AV.datF,AV.frz,AV.cpy,ifV,isEqB,nilV,nilX,AV.isNilS,AV.isNoRows,wk,dclo,datOf,binIs,addF,AV.isPtr,idxV,AV.isSl,AV.isSlice,AV.rows,ps,pv,extV,extS,AV.outs,AV.outF,packD,AV.dl,fieldV,fieldS,AV.cells?,AV.upr,AV.menc,AV.one,D.one,Value.oneCell',tagOf,AV.isApp,strV,strS,bolV,bolS,slcV,AV.isSlD,asrtS,AV.dcells,D.cells?,stcV,stcS,leafOk,eqDs,eqD,packA,D.val?,↓reduceIte,reduceCtorEq,Nat.reduceAdd,Nat.reduceSub,Nat.reduceMul,List.reduceReplicate,Nat.reduceLeDiff,Nat.reduceLT,Nat.reduceBEq,Nat.reduceEqDiff,Int.reduceNeg,Int.reduceEq,Int.reduceLE,Int.reduceLT,tfb,ctz58,O58_8,O58_15,x58_38,x58_38_m1,x58_77,x58_78,x58_79,k0b, hl1, c, cb]
  rw [if_neg k0]
  have k0b : (x.kind == 0) = false := by simpa using k0
  by_cases k6 : x.kind = 6
  · rw [if_pos k6]
    have k6b : (x.kind == 6) = true := by simpa using k6
    unfold finR
    by_cases c : (matchR s x).2 = 0
    · rw [if_pos c]
      refine PF_nil (PF_start (O := O58) Ct58_ok hmix ho58 Try.func58 c58 rfl Try.ntmps58 Try.results58 ?_)
      simp (maxSteps := 4000000) +contextual (disch := first | omega | exact qdb_ok (by kernel_rfl) | exact okb_ok (by kernel_rfl)) only [bw1,bw2,bw3,bw4,bw5,bw6,bw7,bc0,bc1,bc2,bc3,bc4,bc5,bc6,bc7,bb0,setPs,AV.owns,AV.datF,AV.frz,AV.cpy,ifV,isEqB,nilV,nilX,AV.isNilS,AV.isNoRows,wk,dclo,datOf,binIs,addF,AV.isPtr,idxV,AV.isSl,AV.isSlice,AV.rows,ps,pv,extV,extS,AV.outs,AV.outF,packD,AV.dl,fieldV,fieldS,AV.cells?,AV.upr,AV.menc,AV.one,D.one,Value.oneCell',tagOf,AV.isApp,strV,strS,bolV,bolS,slcV,AV.isSlD,asrtS,AV.dcells,D.cells?,stcV,stcS,leafOk,eqDs,eqD,packA,D.val?,↓reduceIte,reduceCtorEq,Nat.reduceAdd,Nat.reduceSub,Nat.reduceMul,List.reduceReplicate,Nat.reduceLeDiff,Nat.reduceLT,Nat.reduceBEq,Nat.reduceEqDiff,Int.reduceNeg,Int.reduceEq,Int.reduceLE,Int.reduceLT,tfb,ctz58,O58_8,O58_15,x58_38,x58_38_m1,x58_77,x58_78,x58_79,k0b, k6b, hm, he, hx, c, bne_self_eq_false, evs_app, List.length_map]
      try (and_intros <;> first | omega | rfl)
    · rw [if_neg c]
      have cb : ((matchR s x).2 != 0) = true := by simpa using c
      refine PF_nil (PF_start (O := O58) Ct58_ok hmix ho58 Try.func58 c58 rfl Try.ntmps58 Try.results58 ?_)
      simp (maxSteps := 4000000) +contextual (disch := first | omega | exact qdb_ok (by kernel_rfl) | exact okb_ok (by kernel_rfl)) only [bw1,bw2,bw3,bw4,bw5,bw6,bw7,bc0,bc1,bc2,bc3,bc4,bc5,bc6,bc7,bb0,setPs,AV.owns,AV.datF,AV.frz,AV.cpy,ifV,isEqB,nilV,nilX,AV.isNilS,AV.isNoRows,wk,dclo,datOf,binIs,addF,AV.isPtr,idxV,AV.isSl,AV.isSlice,AV.rows,ps,pv,extV,extS,AV.outs,AV.outF,packD,AV.dl,fieldV,fieldS,AV.cells?,AV.upr,AV.menc,AV.one,D.one,Value.oneCell',tagOf,AV.isApp,strV,strS,bolV,bolS,slcV,AV.isSlD,asrtS,AV.dcells,D.cells?,stcV,stcS,leafOk,eqDs,eqD,packA,D.val?,↓reduceIte,reduceCtorEq,Nat.reduceAdd,Nat.reduceSub,Nat.reduceMul,List.reduceReplicate,Nat.reduceLeDiff,Nat.reduceLT,Nat.reduceBEq,Nat.reduceEqDiff,Int.reduceNeg,Int.reduceEq,Int.reduceLE,Int.reduceLT,tfb,ctz58,O58_8,O58_15,x58_38,x58_38_m1,x58_77,x58_78,x58_79,k0b, k6b, hm, he, hx, c, cb]
  rw [if_neg k6]
  have k6b : (x.kind == 6) = false := by simpa using k6
  rcases fnd_cases s.mem x.person with ⟨h1, _⟩ | ⟨j, hj, h1, _⟩
  · rw [h1, if_pos (by omega)]
    refine PF_nil (PF_start (O := O58) Ct58_ok hmix ho58 Try.func58 c58 rfl Try.ntmps58 Try.results58 ?_)
    simp (maxSteps := 4000000) +contextual (disch := first | omega | exact qdb_ok (by kernel_rfl) | exact okb_ok (by kernel_rfl)) only [bw1,bw2,bw3,bw4,bw5,bw6,bw7,bc0,bc1,bc2,bc3,bc4,bc5,bc6,bc7,bb0,setPs,AV.owns,AV.datF,AV.frz,AV.cpy,ifV,isEqB,nilV,nilX,AV.isNilS,AV.isNoRows,wk,dclo,datOf,binIs,addF,AV.isPtr,idxV,AV.isSl,AV.isSlice,AV.rows,ps,pv,extV,extS,AV.outs,AV.outF,packD,AV.dl,fieldV,fieldS,AV.cells?,AV.upr,AV.menc,AV.one,D.one,Value.oneCell',tagOf,AV.isApp,strV,strS,bolV,bolS,slcV,AV.isSlD,asrtS,AV.dcells,D.cells?,stcV,stcS,leafOk,eqDs,eqD,packA,D.val?,↓reduceIte,reduceCtorEq,Nat.reduceAdd,Nat.reduceSub,Nat.reduceMul,List.reduceReplicate,Nat.reduceLeDiff,Nat.reduceLT,Nat.reduceBEq,Nat.reduceEqDiff,Int.reduceNeg,Int.reduceEq,Int.reduceLE,Int.reduceLT,tfb,ctz58,O58_8,O58_15,x58_38,x58_38_m1,x58_77,x58_78,x58_79,k0b, k6b, hl5, h1]
  rw [h1, if_neg (by omega), Int.toNat_natCast]
  have hj' : (j : Int) < s.mem.length := by omega
  have hjn : ¬ (j : Int) < 0 := by omega
  have hb := hm.2 (s.mem.getD j default) (by rw [at_lt hj]; exact List.getElem_mem _)
  have hst : ∀ m : Mem, (s.mem.map Mem.c).set j [.i m.person, .i m.club, .i m.ban, .i m.stage, .i m.since] = (s.mem.set j m).map Mem.c := fun m => by rw [List.map_set]
  unfold finR
  simp only
  by_cases c : (oneR (s.mem.getD j default) x).2 = 0
  · rw [if_pos c]
    refine PF_nil (PF_start (O := O58) Ct58_ok hmix ho58 Try.func58 c58 rfl Try.ntmps58 Try.results58 ?_)
    simp (maxSteps := 4000000) +contextual (disch := first | omega | exact qdb_ok (by kernel_rfl) | exact okb_ok (by kernel_rfl)) only [bw1,bw2,bw3,bw4,bw5,bw6,bw7,bc0,bc1,bc2,bc3,bc4,bc5,bc6,bc7,bb0,setPs,AV.owns,AV.datF,AV.frz,AV.cpy,ifV,isEqB,nilV,nilX,AV.isNilS,AV.isNoRows,wk,dclo,datOf,binIs,addF,AV.isPtr,idxV,AV.isSl,AV.isSlice,AV.rows,ps,pv,extV,extS,AV.outs,AV.outF,packD,AV.dl,fieldV,fieldS,AV.cells?,AV.upr,AV.menc,AV.one,D.one,Value.oneCell',tagOf,AV.isApp,strV,strS,bolV,bolS,slcV,AV.isSlD,asrtS,AV.dcells,D.cells?,stcV,stcS,leafOk,eqDs,eqD,packA,D.val?,↓reduceIte,reduceCtorEq,Nat.reduceAdd,Nat.reduceSub,Nat.reduceMul,List.reduceReplicate,Nat.reduceLeDiff,Nat.reduceLT,Nat.reduceBEq,Nat.reduceEqDiff,Int.reduceNeg,Int.reduceEq,Int.reduceLE,Int.reduceLT,tfb,ctz58,O58_8,O58_15,x58_38,x58_38_m1,x58_77,x58_78,x58_79,k0b, k6b, hl5, h1, hj', hjn, hb, c, bne_self_eq_false, evs_app, hst, List.length_map]
    and_intros <;> omega
  · rw [if_neg c]
    have cb : ((oneR (s.mem.getD j default) x).2 != 0) = true := by simpa using c
    refine PF_nil (PF_start (O := O58) Ct58_ok hmix ho58 Try.func58 c58 rfl Try.ntmps58 Try.results58 ?_)
    simp (maxSteps := 4000000) +contextual (disch := first | omega | exact qdb_ok (by kernel_rfl) | exact okb_ok (by kernel_rfl)) only [bw1,bw2,bw3,bw4,bw5,bw6,bw7,bc0,bc1,bc2,bc3,bc4,bc5,bc6,bc7,bb0,setPs,AV.owns,AV.datF,AV.frz,AV.cpy,ifV,isEqB,nilV,nilX,AV.isNilS,AV.isNoRows,wk,dclo,datOf,binIs,addF,AV.isPtr,idxV,AV.isSl,AV.isSlice,AV.rows,ps,pv,extV,extS,AV.outs,AV.outF,packD,AV.dl,fieldV,fieldS,AV.cells?,AV.upr,AV.menc,AV.one,D.one,Value.oneCell',tagOf,AV.isApp,strV,strS,bolV,bolS,slcV,AV.isSlD,asrtS,AV.dcells,D.cells?,stcV,stcS,leafOk,eqDs,eqD,packA,D.val?,↓reduceIte,reduceCtorEq,Nat.reduceAdd,Nat.reduceSub,Nat.reduceMul,List.reduceReplicate,Nat.reduceLeDiff,Nat.reduceLT,Nat.reduceBEq,Nat.reduceEqDiff,Int.reduceNeg,Int.reduceEq,Int.reduceLE,Int.reduceLT,tfb,ctz58,O58_8,O58_15,x58_38,x58_38_m1,x58_77,x58_78,x58_79,k0b, k6b, hl5, h1, hj', hjn, hb, c, cb, List.length_map]
    and_intros <;> omega
def ent58 (args : List AV) (K : AV → List AV → Sto → Prop) (e : List AV) (s : Sto) : Prop := ent (α := (St) × (Ev)) (fun aa => [.agg aa.1.c, .agg aa.2.c]) (fun aa => MemsOk aa.1.mem ∧ EvsOk aa.1.evs ∧ aa.2.sheet.length ≤ 100000 ∧ 0 ≤ aa.2.n ∧ aa.2.n ≤ 1000) (fun aa => .tup [.agg (doR aa.1 aa.2).1.c, .i (doR aa.1 aa.2).2]) args K e s
theorem ent58_ok {args : List AV} {K : AV → List AV → Sto → Prop} {Q : Kt} {e : List AV} {s : Sto} (h : ent58 args K e s) : pcall Try.prog 58 args K Q e s := ent_ok (fun aa h => pf58 aa.1 aa.2 h) h
theorem eq58 {s : St} {x : Ev} {KK : AV → List AV → Sto → Prop} {ee : List AV} {ss : Sto} : ent58 [.d (.agg s.c), .d (.agg x.c)] KK ee ss = ((MemsOk s.mem ∧ EvsOk s.evs ∧ x.sheet.length ≤ 100000 ∧ 0 ≤ x.n ∧ x.n ≤ 1000) ∧ KK (.d (.tup [.agg (doR s x).1.c, .i (doR s x).2])) ee ss) := by
  unfold ent58; rw [ent_iff (s, x) (by intro b h; simpa [Prod.ext_iff, and_assoc, Int.ofNat_inj, ints_inj, evs_inj, mems_inj, ev_inj, mem_inj, st_inj] using h) rfl]; simp
end Go.Proofs.Ytohkngiflfkjjaa
