/- A part of the proof that the last text ends: what functions of the program do, told by plain data. -/
import Derived.Test.YtohkngiflfkjjaaRI
set_option linter.unusedVariables false
set_option linter.unusedSimpArgs false
namespace Go.Proofs.Ytohkngiflfkjjaa
open Go Go.E
set_option maxRecDepth 100000
set_option maxHeartbeats 16000000
/-! ### The document's answers -/
def lateB (l : List Ev) (d : Int) : Bool := inB d 0 16384 && (decide ((l.length : Int) = 0) || decide ((l.getD (l.length - 1) default).day ≤ d))
def playR (l : List Ev) : List Mem × Int × Int := if (runR l).2.2 = 0 then ((runR l).1.mem, ((runR l).2.1 : Int), 0) else ([], ((runR l).2.1 : Int), (runR l).2.2)
def whyR (l : List Ev) (p d : Int) : List Int × Int := if (runR l).2.2 = 0 then (if fnd (runR l).1.mem p < 0 then ([], 4) else if lateB l d = true then (why (runR l).1.evs ((runR l).1.mem.getD (fnd (runR l).1.mem p).toNat default) d, 0) else ([], 2)) else ([], (runR l).2.2)
def ableP (evs : List Ev) (c d : Int) (m : Mem) : Bool := decide (m.club = c) && decide (why evs m d = [])
def ableN (s : St) (c d : Int) (k : Nat) : List Int := ((s.mem.take k).filter (ableP s.evs c d)).map (·.person)
def ableR (l : List Ev) (c d : Int) : List Int × Int := if (runR l).2.2 = 0 then (if inB c 0 255 = true ∧ lateB l d = true then (ableN (runR l).1 c d (runR l).1.mem.length, 0) else ([], 2)) else ([], (runR l).2.2)
def backM (m : Mem) : Int × Int := (m.ban, if m.stage = 0 then 0 else m.since + 6 - m.stage + 1)
def backR (l : List Ev) (p : Int) : (Int × Int) × Int := if (runR l).2.2 = 0 then (if fnd (runR l).1.mem p < 0 then ((0, 0), 4) else (backM ((runR l).1.mem.getD (fnd (runR l).1.mem p).toNat default), 0)) else ((0, 0), (runR l).2.2)
theorem fnd_at {l : List Mem} {p : Int} (h : ¬ fnd l p < 0) : ∃ j : Nat, j < l.length ∧ fnd l p = (j : Int) ∧ (l.getD j default).person = p := by
  rcases fnd_cases l p with ⟨h1, _⟩ | h1
  · omega
  · exact h1
def O39 : Nat → Sch := fun id => .done
theorem ho39 : Try.f39.body.map (okO O39) = some true := by kernel_rfl
def Cf39 : Nat → List AV → (AV → List AV → Sto → Prop) → Kt → List AV → Sto → Prop := fun f args K Q e s => match f with
  | 41 => ent41 args K e s
  | _ => False
def Ct39 : CT := { f := Cf39, y := noYld, z := fun d => false }
theorem ctz39 {d : Nat} : CT.z Ct39 d = (false) := id rfl
theorem Ct39_ok : Ct39.ok Try.prog := ok_of_f (fun f args K Q e s h => by
  have h : Cf39 f args K Q e s := h
  unfold Cf39 at h; split at h
  · exact ent41_ok h
  · exact h.elim) (fun _ _ _ _ _ _ _ _ _ h => h)
theorem x39_41 {n : Int} {lo : Int} {hi : Int} {KK : AV → List AV → Sto → Prop} {QQ : Kt} {ii : At KK} {jj : At QQ} {ee : List AV} {ss : Sto} : xC Ct39 41 [.d (.i n), .d (.i lo), .d (.i hi)] KK QQ ii jj ee ss = (KK (.d (.b (inB n lo hi))) ee ss) := eq41
theorem c39 : callable Try.prog 39 = true := by kernel_rfl
theorem pf39 (l : List Ev) (d : Int) (h : l.length ≤ 100000) : PF Try.prog 39 [.sl 5 (l.map Ev.c), .i d] (fun zz => zz = .ret (.b (lateB l d))) := by
  unfold lateB
  by_cases c1 : inB d 0 16384 = true
  case neg =>
    refine PF_nil (PF_start (O := O39) Ct39_ok hmix ho39 Try.func39 c39 rfl Try.ntmps39 Try.results39 ?_)
    simp (maxSteps := 4000000) +contextual (disch := first | omega | exact qdb_ok (by kernel_rfl) | exact okb_ok (by kernel_rfl)) only [bw1,bw2,bw3,bw4,bw5,bw6,bw7,bc0,bc1,bc2,bc3,bc4,bc5,bc6,bc7,bb0,setPs,AV.owns,AV.datF,AV.frz,AV.cpy,ifV,isEqB,nilV,nilX,AV.isNilS,AV.isNoRows,wk,dclo,datOf,binIs,addF,AV.isPtr,idxV,AV.isSl,AV.isSlice,AV.rows,ps,pv,extV,extS,AV.outs,AV.outF,packD,AV.dl,fieldV,fieldS,AV.cells?,AV.upr,AV.menc,AV.one,D.one,Value.oneCell',tagOf,AV.isApp,strV,strS,bolV,bolS,slcV,AV.isSlD,asrtS,AV.dcells,D.cells?,stcV,stcS,leafOk,eqDs,eqD,packA,D.val?,↓reduceIte,reduceCtorEq,Nat.reduceAdd,Nat.reduceSub,Nat.reduceMul,List.reduceReplicate,Nat.reduceLeDiff,Nat.reduceLT,Nat.reduceBEq,Nat.reduceEqDiff,Int.reduceNeg,Int.reduceEq,Int.reduceLE,Int.reduceLT,tfb,ctz39,x39_41,c1]
    simp [c1]
  by_cases c2 : (l.length : Int) = 0
  · refine PF_nil (PF_start (O := O39) Ct39_ok hmix ho39 Try.func39 c39 rfl Try.ntmps39 Try.results39 ?_)
    simp (maxSteps := 4000000) +contextual (disch := first | omega | exact qdb_ok (by kernel_rfl) | exact okb_ok (by kernel_rfl)) only [bw1,bw2,bw3,bw4,bw5,bw6,bw7,bc0,bc1,bc2,bc3,bc4,bc5,bc6,bc7,bb0,setPs,AV.owns,AV.datF,AV.frz,AV.cpy,ifV,isEqB,nilV,nilX,AV.isNilS,AV.isNoRows,wk,dclo,datOf,binIs,addF,AV.isPtr,idxV,AV.isSl,AV.isSlice,AV.rows,ps,pv,extV,extS,AV.outs,AV.outF,packD,AV.dl,fieldV,fieldS,AV.cells?,AV.upr,AV.menc,AV.one,D.one,Value.oneCell',tagOf,AV.isApp,strV,strS,bolV,bolS,slcV,AV.isSlD,asrtS,AV.dcells,D.cells?,stcV,stcS,leafOk,eqDs,eqD,packA,D.val?,↓reduceIte,reduceCtorEq,Nat.reduceAdd,Nat.reduceSub,Nat.reduceMul,List.reduceReplicate,Nat.reduceLeDiff,Nat.reduceLT,Nat.reduceBEq,Nat.reduceEqDiff,Int.reduceNeg,Int.reduceEq,Int.reduceLE,Int.reduceLT,tfb,ctz39,x39_41,c1, c2]
    simp
  · have c2b : ((l.length : Int) == 0) = false := by simpa using c2
    have e1 : (l.length : Int) - 1 = ((l.length - 1 : Nat) : Int) := by omega
    have hlt : l.length - 1 < l.length := by omega
    refine PF_nil (PF_start (O := O39) Ct39_ok hmix ho39 Try.func39 c39 rfl Try.ntmps39 Try.results39 ?_)
    simp (maxSteps := 4000000) +contextual (disch := first | omega | exact qdb_ok (by kernel_rfl) | exact okb_ok (by kernel_rfl)) only [bw1,bw2,bw3,bw4,bw5,bw6,bw7,bc0,bc1,bc2,bc3,bc4,bc5,bc6,bc7,bb0,setPs,AV.owns,AV.datF,AV.frz,AV.cpy,ifV,isEqB,nilV,nilX,AV.isNilS,AV.isNoRows,wk,dclo,datOf,binIs,addF,AV.isPtr,idxV,AV.isSl,AV.isSlice,AV.rows,ps,pv,extV,extS,AV.outs,AV.outF,packD,AV.dl,fieldV,fieldS,AV.cells?,AV.upr,AV.menc,AV.one,D.one,Value.oneCell',tagOf,AV.isApp,strV,strS,bolV,bolS,slcV,AV.isSlD,asrtS,AV.dcells,D.cells?,stcV,stcS,leafOk,eqDs,eqD,packA,D.val?,↓reduceIte,reduceCtorEq,Nat.reduceAdd,Nat.reduceSub,Nat.reduceMul,List.reduceReplicate,Nat.reduceLeDiff,Nat.reduceLT,Nat.reduceBEq,Nat.reduceEqDiff,Int.reduceNeg,Int.reduceEq,Int.reduceLE,Int.reduceLT,tfb,ctz39,x39_41,c1, c2, c2b, e1]
    exact ⟨by omega, by omega⟩
/-- The state behind all events. -/
theorem runR_ok {l : List Ev} (h : ShsOk l) : (MemsOk (runR l).1.mem ∧ EvsOk (runR l).1.evs) ∧ ∀ m ∈ (runR l).1.mem, MOk 5120 m := by
  obtain ⟨j, hj, hI⟩ := runR_inv h
  refine ⟨⟨hI.ms (by omega), hI.es (by omega)⟩, fun m hm => ?_⟩
  have := hI.2.1 m hm
  unfold MOk at this ⊢
  omega
theorem ableN_yes {s : St} {c d : Int} {k : Nat} (h : k < s.mem.length) (hc : ableP s.evs c d (s.mem.getD k default) = true) : ableN s c d (k + 1) = ableN s c d k ++ [(s.mem.getD k default).person] := by
  unfold ableN
  rw [take_succ h, List.filter_append, List.map_append]
  congr 1
  simp only [List.filter_cons, hc, if_true, List.filter_nil, List.map_cons, List.map_nil]
theorem ableN_no {s : St} {c d : Int} {k : Nat} (h : k < s.mem.length) (hc : ableP s.evs c d (s.mem.getD k default) = false) : ableN s c d (k + 1) = ableN s c d k := by
  unfold ableN
  rw [take_succ h, List.filter_append, List.map_append]
  simp only [List.filter_cons, hc, Bool.false_eq_true, if_false, List.filter_nil, List.map_nil, List.append_nil]
theorem ableN_len {s : St} {c d : Int} {k : Nat} (h : k ≤ s.mem.length) : (ableN s c d k).length ≤ k := by
  unfold ableN
  rw [List.length_map]
  exact Nat.le_trans (List.length_filter_le _ _) (by simp; omega)
def ent39 (args : List AV) (K : AV → List AV → Sto → Prop) (e : List AV) (s : Sto) : Prop := ent (α := (List Ev) × (Int)) (fun aa => [.sl 5 (aa.1.map Ev.c), .i aa.2]) (fun aa => aa.1.length ≤ 100000) (fun aa => .b (lateB aa.1 aa.2)) args K e s
theorem ent39_ok {args : List AV} {K : AV → List AV → Sto → Prop} {Q : Kt} {e : List AV} {s : Sto} (h : ent39 args K e s) : pcall Try.prog 39 args K Q e s := ent_ok (fun aa h => pf39 aa.1 aa.2 h) h
theorem eq39 {l : List Ev} {d : Int} {KK : AV → List AV → Sto → Prop} {ee : List AV} {ss : Sto} : ent39 [.d (.sl 5 (l.map Ev.c)), .d (.i d)] KK ee ss = ((l.length ≤ 100000) ∧ KK (.d (.b (lateB l d))) ee ss) := by
  unfold ent39; rw [ent_iff (l, d) (by intro b h; simpa [Prod.ext_iff, and_assoc, Int.ofNat_inj, ints_inj, evs_inj, mems_inj, ev_inj, mem_inj, st_inj] using h) rfl]; simp
theorem eqo39 {l : List Ev} {d : Int} {g1 el1 : Nat} {KK : AV → List AV → Sto → Prop} {ee : List AV} {ss : Sto} : ent39 [.own g1 el1 5 (l.map Ev.c), .d (.i d)] KK ee ss = ((l.length ≤ 100000) ∧ (.b (lateB l d) : D).flat = true ∧ KK (.d (.b (lateB l d))) ee ss) := by
  unfold ent39; rw [ent_iff (l, d) (by intro b h; simpa [Prod.ext_iff, and_assoc, Int.ofNat_inj, ints_inj, evs_inj, mems_inj, ev_inj, mem_inj, st_inj] using h) rfl]; simp
def O23 : Nat → Sch := fun id => if id = 9 then .one 0 (.one 1 (.one 2 (.one 3 (.one 4 (.one 5 (.one 6 (.one 7 (.one 8 (.one 9 (.done)))))))))) else .done
theorem O23_9 : O23 9 = .one 0 (.one 1 (.one 2 (.one 3 (.one 4 (.one 5 (.one 6 (.one 7 (.one 8 (.one 9 (.done)))))))))) := rfl
theorem ho23 : Try.f23.body.map (okO O23) = some true := by kernel_rfl
def Cf23 : Nat → List AV → (AV → List AV → Sto → Prop) → Kt → List AV → Sto → Prop := fun f args K Q e s => match f with
  | 37 => ent37 args K e s
  | 38 => ent38 args K e s
  | 39 => ent39 args K e s
  | 40 => ent40 args K e s
  | _ => False
def Ct23 : CT := { f := Cf23, y := noYld, z := fun d => false }
theorem ctz23 {d : Nat} : CT.z Ct23 d = (false) := id rfl
theorem Ct23_ok : Ct23.ok Try.prog := ok_of_f (fun f args K Q e s h => by
  have h : Cf23 f args K Q e s := h
  unfold Cf23 at h; split at h
  · exact ent37_ok h
  · exact ent38_ok h
  · exact ent39_ok h
  · exact ent40_ok h
  · exact h.elim) (fun _ _ _ _ _ _ _ _ _ h => h)
theorem x23_37 {l : List Ev} {KK : AV → List AV → Sto → Prop} {QQ : Kt} {ii : At KK} {jj : At QQ} {ee : List AV} {ss : Sto} : xC Ct23 37 [.d (.sl 5 (l.map Ev.c))] KK QQ ii jj ee ss = ((ShsOk l) ∧ KK (.d (.tup [.agg (runR l).1.c, .i ((runR l).2.1 : Int), .i (runR l).2.2])) ee ss) := eq37
theorem x23_37_m1 {l : List Ev} {g1 el1 : Nat} {KK : AV → List AV → Sto → Prop} {QQ : Kt} {ii : At KK} {jj : At QQ} {ee : List AV} {ss : Sto} : xC Ct23 37 [.own g1 el1 5 (l.map Ev.c)] KK QQ ii jj ee ss = ((ShsOk l) ∧ (.tup [.agg (runR l).1.c, .i ((runR l).2.1 : Int), .i (runR l).2.2] : D).flat = true ∧ KK (.d (.tup [.agg (runR l).1.c, .i ((runR l).2.1 : Int), .i (runR l).2.2])) ee ss) := eqo37
theorem x23_38 {l : List Mem} {p : Int} {KK : AV → List AV → Sto → Prop} {QQ : Kt} {ii : At KK} {jj : At QQ} {ee : List AV} {ss : Sto} : xC Ct23 38 [.d (.sl 5 (l.map Mem.c)), .d (.i p)] KK QQ ii jj ee ss = ((l.length ≤ 100000) ∧ KK (.d (.i (fnd l p))) ee ss) := eq38
theorem x23_38_m1 {l : List Mem} {p : Int} {g1 el1 : Nat} {KK : AV → List AV → Sto → Prop} {QQ : Kt} {ii : At KK} {jj : At QQ} {ee : List AV} {ss : Sto} : xC Ct23 38 [.own g1 el1 5 (l.map Mem.c), .d (.i p)] KK QQ ii jj ee ss = ((l.length ≤ 100000) ∧ (.i (fnd l p) : D).flat = true ∧ KK (.d (.i (fnd l p))) ee ss) := eqo38
theorem x23_39 {l : List Ev} {d : Int} {KK : AV → List AV → Sto → Prop} {QQ : Kt} {ii : At KK} {jj : At QQ} {ee : List AV} {ss : Sto} : xC Ct23 39 [.d (.sl 5 (l.map Ev.c)), .d (.i d)] KK QQ ii jj ee ss = ((l.length ≤ 100000) ∧ KK (.d (.b (lateB l d))) ee ss) := eq39
theorem x23_39_m1 {l : List Ev} {d : Int} {g1 el1 : Nat} {KK : AV → List AV → Sto → Prop} {QQ : Kt} {ii : At KK} {jj : At QQ} {ee : List AV} {ss : Sto} : xC Ct23 39 [.own g1 el1 5 (l.map Ev.c), .d (.i d)] KK QQ ii jj ee ss = ((l.length ≤ 100000) ∧ (.b (lateB l d) : D).flat = true ∧ KK (.d (.b (lateB l d))) ee ss) := eqo39
theorem x23_40 {s : St} {m : Mem} {d : Int} {KK : AV → List AV → Sto → Prop} {QQ : Kt} {ii : At KK} {jj : At QQ} {ee : List AV} {ss : Sto} : xC Ct23 40 [.d (.agg s.c), .d (.agg m.c), .d (.i d)] KK QQ ii jj ee ss = ((EvsOk s.evs) ∧ KK (.d (.sl 1 ((why s.evs m d).map ic))) ee ss) := eq40
theorem c23 : callable Try.prog 23 = true := by kernel_rfl
theorem pf23 (l : List Ev) (p d : Int) (h : ShsOk l) : PF Try.prog 23 [.sl 5 (l.map Ev.c), .i p, .i d] (fun zz => zz = .ret (.tup [.sl 1 ((whyR l p d).1.map ic), .i (whyR l p d).2])) := by
  have hl := h.1
  obtain ⟨⟨hm, he⟩, _⟩ := runR_ok h
  have hl1 := hm.1
  have hl5 : (runR l).1.mem.length ≤ 100000 := by omega
  unfold whyR
  by_cases c : (runR l).2.2 = 0
  case neg =>
    rw [if_neg c]
    have cb : ((runR l).2.2 != 0) = true := by simpa using c
    refine PF_nil (PF_start (O := O23) Ct23_ok hmix ho23 Try.func23 c23 rfl Try.ntmps23 Try.results23 ?_)
    simp (maxSteps := 4000000) +contextual (disch := first | omega | exact qdb_ok (by kernel_rfl) | exact okb_ok (by kernel_rfl)) only [bw1,bw2,bw3,bw4,bw5,bw6,bw7,bc0,bc1,bc2,bc3,bc4,bc5,bc6,bc7,bb0,setPs,AV.owns,AV.datF,AV.frz,AV.cpy,ifV,isEqB,nilV,nilX,AV.isNilS,AV.isNoRows,wk,dclo,datOf,binIs,addF,AV.isPtr,idxV,AV.isSl,AV.isSlice,AV.rows,ps,pv,extV,extS,AV.outs,AV.outF,packD,AV.dl,fieldV,fieldS,AV.cells?,AV.upr,AV.menc,AV.one,D.one,Value.oneCell',tagOf,AV.isApp,strV,strS,bolV,bolS,slcV,AV.isSlD,asrtS,AV.dcells,D.cells?,stcV,stcS,leafOk,eqDs,eqD,packA,D.val?,↓reduceIte,reduceCtorEq,Nat.reduceAdd,Nat.reduceSub,Nat.reduceMul,List.reduceReplicate,Nat.reduceLeDiff,Nat.reduceLT,Nat.reduceBEq,Nat.reduceEqDiff,Int.reduceNeg,Int.reduceEq,Int.reduceLE,Int.reduceLT,tfb,ctz23,O23_9,x23_37,x23_37_m1,x23_38,x23_38_m1,x23_39,x23_39_m1,x23_40,h, c, cb]
  rw [if_pos c]
  by_cases c1 : fnd (runR l).1.mem p < 0
  · rw [if_pos c1]
    refine PF_nil (PF_start (O := O23) Ct23_ok hmix ho23 Try.func23 c23 rfl Try.ntmps23 Try.results23 ?_)
    simp (maxSteps := 4000000) +contextual (disch := first | omega | exact qdb_ok (by kernel_rfl) | exact okb_ok (by kernel_rfl)) only [bw1,bw2,bw3,bw4,bw5,bw6,bw7,bc0,bc1,bc2,bc3,bc4,bc5,bc6,bc7,bb0,setPs,AV.owns,AV.datF,AV.frz,AV.cpy,ifV,isEqB,nilV,nilX,AV.isNilS,AV.isNoRows,wk,dclo,datOf,binIs,addF,AV.isPtr,idxV,AV.isSl,AV.isSlice,AV.rows,ps,pv,extV,extS,AV.outs,AV.outF,packD,AV.dl,fieldV,fieldS,AV.cells?,AV.upr,AV.menc,AV.one,D.one,Value.oneCell',tagOf,AV.isApp,strV,strS,bolV,bolS,slcV,AV.isSlD,asrtS,AV.dcells,D.cells?,stcV,stcS,leafOk,eqDs,eqD,packA,D.val?,↓reduceIte,reduceCtorEq,Nat.reduceAdd,Nat.reduceSub,Nat.reduceMul,List.reduceReplicate,Nat.reduceLeDiff,Nat.reduceLT,Nat.reduceBEq,Nat.reduceEqDiff,Int.reduceNeg,Int.reduceEq,Int.reduceLE,Int.reduceLT,tfb,ctz23,O23_9,x23_37,x23_37_m1,x23_38,x23_38_m1,x23_39,x23_39_m1,x23_40,h, c, bne_self_eq_false, hl5, c1]
  rw [if_neg c1]
  obtain ⟨j, hj, h1, _⟩ := fnd_at c1
  have hj' : (j : Int) < (runR l).1.mem.length := by omega
  have hjn : ¬ (j : Int) < 0 := by omega
  rw [h1, Int.toNat_natCast]
  by_cases c2 : lateB l d = true
  · rw [if_pos c2]
    refine PF_nil (PF_start (O := O23) Ct23_ok hmix ho23 Try.func23 c23 rfl Try.ntmps23 Try.results23 ?_)
    simp (maxSteps := 4000000) +contextual (disch := first | omega | exact qdb_ok (by kernel_rfl) | exact okb_ok (by kernel_rfl)) only [bw1,bw2,bw3,bw4,bw5,bw6,bw7,bc0,bc1,bc2,bc3,bc4,bc5,bc6,bc7,bb0,setPs,AV.owns,AV.datF,AV.frz,AV.cpy,ifV,isEqB,nilV,nilX,AV.isNilS,AV.isNoRows,wk,dclo,datOf,binIs,addF,AV.isPtr,idxV,AV.isSl,AV.isSlice,AV.rows,ps,pv,extV,extS,AV.outs,AV.outF,packD,AV.dl,fieldV,fieldS,AV.cells?,AV.upr,AV.menc,AV.one,D.one,Value.oneCell',tagOf,AV.isApp,strV,strS,bolV,bolS,slcV,AV.isSlD,asrtS,AV.dcells,D.cells?,stcV,stcS,leafOk,eqDs,eqD,packA,D.val?,↓reduceIte,reduceCtorEq,Nat.reduceAdd,Nat.reduceSub,Nat.reduceMul,List.reduceReplicate,Nat.reduceLeDiff,Nat.reduceLT,Nat.reduceBEq,Nat.reduceEqDiff,Int.reduceNeg,Int.reduceEq,Int.reduceLE,Int.reduceLT,tfb,ctz23,O23_9,x23_37,x23_37_m1,x23_38,x23_38_m1,x23_39,x23_39_m1,x23_40,h, c, bne_self_eq_false, hl5, h1, hjn, hl, c2, hj', he]
    try omega
  · rw [if_neg c2]
    refine PF_nil (PF_start (O := O23) Ct23_ok hmix ho23 Try.func23 c23 rfl Try.ntmps23 Try.results23 ?_)
    simp (maxSteps := 4000000) +contextual (disch := first | omega | exact qdb_ok (by kernel_rfl) | exact okb_ok (by kernel_rfl)) only [bw1,bw2,bw3,bw4,bw5,bw6,bw7,bc0,bc1,bc2,bc3,bc4,bc5,bc6,bc7,bb0,setPs,AV.owns,AV.datF,AV.frz,AV.cpy,ifV,isEqB,nilV,nilX,AV.isNilS,AV.isNoRows,wk,dclo,datOf,binIs,addF,AV.isPtr,idxV,AV.isSl,AV.isSlice,AV.rows,ps,pv,extV,extS,AV.outs,AV.outF,packD,AV.dl,fieldV,fieldS,AV.cells?,AV.upr,AV.menc,AV.one,D.one,Value.oneCell',tagOf,AV.isApp,strV,strS,bolV,bolS,slcV,AV.isSlD,asrtS,AV.dcells,D.cells?,stcV,stcS,leafOk,eqDs,eqD,packA,D.val?,↓reduceIte,reduceCtorEq,Nat.reduceAdd,Nat.reduceSub,Nat.reduceMul,List.reduceReplicate,Nat.reduceLeDiff,Nat.reduceLT,Nat.reduceBEq,Nat.reduceEqDiff,Int.reduceNeg,Int.reduceEq,Int.reduceLE,Int.reduceLT,tfb,ctz23,O23_9,x23_37,x23_37_m1,x23_38,x23_38_m1,x23_39,x23_39_m1,x23_40,h, c, bne_self_eq_false, hl5, h1, hjn, hl, c2]
def ent23 (args : List AV) (K : AV → List AV → Sto → Prop) (e : List AV) (s : Sto) : Prop := ent (α := (List Ev) × (Int) × (Int)) (fun aa => [.sl 5 (aa.1.map Ev.c), .i aa.2.1, .i aa.2.2]) (fun aa => ShsOk aa.1) (fun aa => .tup [.sl 1 ((whyR aa.1 aa.2.1 aa.2.2).1.map ic), .i (whyR aa.1 aa.2.1 aa.2.2).2]) args K e s
theorem ent23_ok {args : List AV} {K : AV → List AV → Sto → Prop} {Q : Kt} {e : List AV} {s : Sto} (h : ent23 args K e s) : pcall Try.prog 23 args K Q e s := ent_ok (fun aa h => pf23 aa.1 aa.2.1 aa.2.2 h) h
theorem eq23 {l : List Ev} {p : Int} {d : Int} {KK : AV → List AV → Sto → Prop} {ee : List AV} {ss : Sto} : ent23 [.d (.sl 5 (l.map Ev.c)), .d (.i p), .d (.i d)] KK ee ss = ((ShsOk l) ∧ KK (.d (.tup [.sl 1 ((whyR l p d).1.map ic), .i (whyR l p d).2])) ee ss) := by
  unfold ent23; rw [ent_iff (l, p, d) (by intro b h; simpa [Prod.ext_iff, and_assoc, Int.ofNat_inj, ints_inj, evs_inj, mems_inj, ev_inj, mem_inj, st_inj] using h) rfl]; simp
theorem eqo23 {l : List Ev} {p : Int} {d : Int} {g1 el1 : Nat} {KK : AV → List AV → Sto → Prop} {ee : List AV} {ss : Sto} : ent23 [.own g1 el1 5 (l.map Ev.c), .d (.i p), .d (.i d)] KK ee ss = ((ShsOk l) ∧ (.tup [.sl 1 ((whyR l p d).1.map ic), .i (whyR l p d).2] : D).flat = true ∧ KK (.d (.tup [.sl 1 ((whyR l p d).1.map ic), .i (whyR l p d).2])) ee ss) := by
  unfold ent23; rw [ent_iff (l, p, d) (by intro b h; simpa [Prod.ext_iff, and_assoc, Int.ofNat_inj, ints_inj, evs_inj, mems_inj, ev_inj, mem_inj, st_inj] using h) rfl]; simp
def O25 : Nat → Sch := fun id => if id = 10 then .one 0 (.one 1 (.one 2 (.one 3 (.one 4 (.one 5 (.one 6 (.one 7 (.one 8 (.one 9 (.one 10 (.one 11 (.done)))))))))))) else .done
theorem O25_10 : O25 10 = .one 0 (.one 1 (.one 2 (.one 3 (.one 4 (.one 5 (.one 6 (.one 7 (.one 8 (.one 9 (.one 10 (.one 11 (.done)))))))))))) := rfl
theorem ho25 : Try.f25.body.map (okO O25) = some true := by kernel_rfl
def Cf25 : Nat → List AV → (AV → List AV → Sto → Prop) → Kt → List AV → Sto → Prop := fun f args K Q e s => match f with
  | 37 => ent37 args K e s
  | 38 => ent38 args K e s
  | _ => False
def Ct25 : CT := { f := Cf25, y := noYld, z := fun d => false }
theorem ctz25 {d : Nat} : CT.z Ct25 d = (false) := id rfl
theorem Ct25_ok : Ct25.ok Try.prog := ok_of_f (fun f args K Q e s h => by
  have h : Cf25 f args K Q e s := h
  unfold Cf25 at h; split at h
  · exact ent37_ok h
  · exact ent38_ok h
  · exact h.elim) (fun _ _ _ _ _ _ _ _ _ h => h)
theorem x25_37 {l : List Ev} {KK : AV → List AV → Sto → Prop} {QQ : Kt} {ii : At KK} {jj : At QQ} {ee : List AV} {ss : Sto} : xC Ct25 37 [.d (.sl 5 (l.map Ev.c))] KK QQ ii jj ee ss = ((ShsOk l) ∧ KK (.d (.tup [.agg (runR l).1.c, .i ((runR l).2.1 : Int), .i (runR l).2.2])) ee ss) := eq37
theorem x25_37_m1 {l : List Ev} {g1 el1 : Nat} {KK : AV → List AV → Sto → Prop} {QQ : Kt} {ii : At KK} {jj : At QQ} {ee : List AV} {ss : Sto} : xC Ct25 37 [.own g1 el1 5 (l.map Ev.c)] KK QQ ii jj ee ss = ((ShsOk l) ∧ (.tup [.agg (runR l).1.c, .i ((runR l).2.1 : Int), .i (runR l).2.2] : D).flat = true ∧ KK (.d (.tup [.agg (runR l).1.c, .i ((runR l).2.1 : Int), .i (runR l).2.2])) ee ss) := eqo37
theorem x25_38 {l : List Mem} {p : Int} {KK : AV → List AV → Sto → Prop} {QQ : Kt} {ii : At KK} {jj : At QQ} {ee : List AV} {ss : Sto} : xC Ct25 38 [.d (.sl 5 (l.map Mem.c)), .d (.i p)] KK QQ ii jj ee ss = ((l.length ≤ 100000) ∧ KK (.d (.i (fnd l p))) ee ss) := eq38
theorem x25_38_m1 {l : List Mem} {p : Int} {g1 el1 : Nat} {KK : AV → List AV → Sto → Prop} {QQ : Kt} {ii : At KK} {jj : At QQ} {ee : List AV} {ss : Sto} : xC Ct25 38 [.own g1 el1 5 (l.map Mem.c), .d (.i p)] KK QQ ii jj ee ss = ((l.length ≤ 100000) ∧ (.i (fnd l p) : D).flat = true ∧ KK (.d (.i (fnd l p))) ee ss) := eqo38
theorem c25 : callable Try.prog 25 = true := by kernel_rfl
theorem pf25 (l : List Ev) (p : Int) (h : ShsOk l) : PF Try.prog 25 [.sl 5 (l.map Ev.c), .i p] (fun zz => zz = .ret (.tup [.i (backR l p).1.1, .i (backR l p).1.2, .i (backR l p).2])) := by
  obtain ⟨⟨hm, he⟩, hM⟩ := runR_ok h
  have hl1 := hm.1
  have hl5 : (runR l).1.mem.length ≤ 100000 := by omega
  unfold backR
  by_cases c : (runR l).2.2 = 0
  case neg =>
    rw [if_neg c]
    have cb : ((runR l).2.2 != 0) = true := by simpa using c
    refine PF_nil (PF_start (O := O25) Ct25_ok hmix ho25 Try.func25 c25 rfl Try.ntmps25 Try.results25 ?_)
    simp (maxSteps := 4000000) +contextual (disch := first | omega | exact qdb_ok (by kernel_rfl) | exact okb_ok (by kernel_rfl)) only [bw1,bw2,bw3,bw4,bw5,bw6,bw7,bc0,bc1,bc2,bc3,bc4,bc5,bc6,bc7,bb0,setPs,AV.owns,AV.datF,AV.frz,AV.cpy,ifV,isEqB,nilV,nilX,AV.isNilS,AV.isNoRows,wk,dclo,datOf,binIs,addF,AV.isPtr,idxV,AV.isSl,AV.isSlice,AV.rows,ps,pv,extV,extS,AV.outs,AV.outF,packD,AV.dl,fieldV,fieldS,AV.cells?,AV.upr,AV.menc,AV.one,D.one,Value.oneCell',tagOf,AV.isApp,strV,strS,bolV,bolS,slcV,AV.isSlD,asrtS,AV.dcells,D.cells?,stcV,stcS,leafOk,eqDs,eqD,packA,D.val?,↓reduceIte,reduceCtorEq,Nat.reduceAdd,Nat.reduceSub,Nat.reduceMul,List.reduceReplicate,Nat.reduceLeDiff,Nat.reduceLT,Nat.reduceBEq,Nat.reduceEqDiff,Int.reduceNeg,Int.reduceEq,Int.reduceLE,Int.reduceLT,tfb,ctz25,O25_10,x25_37,x25_37_m1,x25_38,x25_38_m1,h, c, cb]
  rw [if_pos c]
  by_cases c1 : fnd (runR l).1.mem p < 0
  · rw [if_pos c1]
    refine PF_nil (PF_start (O := O25) Ct25_ok hmix ho25 Try.func25 c25 rfl Try.ntmps25 Try.results25 ?_)
    simp (maxSteps := 4000000) +contextual (disch := first | omega | exact qdb_ok (by kernel_rfl) | exact okb_ok (by kernel_rfl)) only [bw1,bw2,bw3,bw4,bw5,bw6,bw7,bc0,bc1,bc2,bc3,bc4,bc5,bc6,bc7,bb0,setPs,AV.owns,AV.datF,AV.frz,AV.cpy,ifV,isEqB,nilV,nilX,AV.isNilS,AV.isNoRows,wk,dclo,datOf,binIs,addF,AV.isPtr,idxV,AV.isSl,AV.isSlice,AV.rows,ps,pv,extV,extS,AV.outs,AV.outF,packD,AV.dl,fieldV,fieldS,AV.cells?,AV.upr,AV.menc,AV.one,D.one,Value.oneCell',tagOf,AV.isApp,strV,strS,bolV,bolS,slcV,AV.isSlD,asrtS,AV.dcells,D.cells?,stcV,stcS,leafOk,eqDs,eqD,packA,D.val?,↓reduceIte,reduceCtorEq,Nat.reduceAdd,Nat.reduceSub,Nat.reduceMul,List.reduceReplicate,Nat.reduceLeDiff,Nat.reduceLT,Nat.reduceBEq,Nat.reduceEqDiff,Int.reduceNeg,Int.reduceEq,Int.reduceLE,Int.reduceLT,tfb,ctz25,O25_10,x25_37,x25_37_m1,x25_38,x25_38_m1,h, c, bne_self_eq_false, hl5, c1]
  rw [if_neg c1]
  obtain ⟨j, hj, h1, _⟩ := fnd_at c1
  have hj' : (j : Int) < (runR l).1.mem.length := by omega
  have hjn : ¬ (j : Int) < 0 := by omega
  rw [h1, Int.toNat_natCast]
  have hb := hM _ (by rw [at_lt hj]; exact List.getElem_mem _ : (runR l).1.mem.getD j default ∈ (runR l).1.mem)
  unfold MOk at hb
  unfold backM
  by_cases c2 : ((runR l).1.mem.getD j default).stage = 0
  · have c2b : (((runR l).1.mem.getD j default).stage == 0) = true := by simpa using c2
    rw [if_pos c2]
    refine PF_nil (PF_start (O := O25) Ct25_ok hmix ho25 Try.func25 c25 rfl Try.ntmps25 Try.results25 ?_)
    simp (maxSteps := 4000000) +contextual (disch := first | omega | exact qdb_ok (by kernel_rfl) | exact okb_ok (by kernel_rfl)) only [bw1,bw2,bw3,bw4,bw5,bw6,bw7,bc0,bc1,bc2,bc3,bc4,bc5,bc6,bc7,bb0,setPs,AV.owns,AV.datF,AV.frz,AV.cpy,ifV,isEqB,nilV,nilX,AV.isNilS,AV.isNoRows,wk,dclo,datOf,binIs,addF,AV.isPtr,idxV,AV.isSl,AV.isSlice,AV.rows,ps,pv,extV,extS,AV.outs,AV.outF,packD,AV.dl,fieldV,fieldS,AV.cells?,AV.upr,AV.menc,AV.one,D.one,Value.oneCell',tagOf,AV.isApp,strV,strS,bolV,bolS,slcV,AV.isSlD,asrtS,AV.dcells,D.cells?,stcV,stcS,leafOk,eqDs,eqD,packA,D.val?,↓reduceIte,reduceCtorEq,Nat.reduceAdd,Nat.reduceSub,Nat.reduceMul,List.reduceReplicate,Nat.reduceLeDiff,Nat.reduceLT,Nat.reduceBEq,Nat.reduceEqDiff,Int.reduceNeg,Int.reduceEq,Int.reduceLE,Int.reduceLT,tfb,ctz25,O25_10,x25_37,x25_37_m1,x25_38,x25_38_m1,h, c, bne_self_eq_false, hl5, h1, hjn, c2b, hj']
    try omega
  · have c2b : (((runR l).1.mem.getD j default).stage == 0) = false := by simpa using c2
    rw [if_neg c2]
    refine PF_nil (PF_start (O := O25) Ct25_ok hmix ho25 Try.func25 c25 rfl Try.ntmps25 Try.results25 ?_)
    simp (maxSteps := 4000000) +contextual (disch := first | omega | exact qdb_ok (by kernel_rfl) | exact okb_ok (by kernel_rfl)) only [bw1,bw2,bw3,bw4,bw5,bw6,bw7,bc0,bc1,bc2,bc3,bc4,bc5,bc6,bc7,bb0,setPs,AV.owns,AV.datF,AV.frz,AV.cpy,ifV,isEqB,nilV,nilX,AV.isNilS,AV.isNoRows,wk,dclo,datOf,binIs,addF,AV.isPtr,idxV,AV.isSl,AV.isSlice,AV.rows,ps,pv,extV,extS,AV.outs,AV.outF,packD,AV.dl,fieldV,fieldS,AV.cells?,AV.upr,AV.menc,AV.one,D.one,Value.oneCell',tagOf,AV.isApp,strV,strS,bolV,bolS,slcV,AV.isSlD,asrtS,AV.dcells,D.cells?,stcV,stcS,leafOk,eqDs,eqD,packA,D.val?,↓reduceIte,reduceCtorEq,Nat.reduceAdd,Nat.reduceSub,Nat.reduceMul,List.reduceReplicate,Nat.reduceLeDiff,Nat.reduceLT,Nat.reduceBEq,Nat.reduceEqDiff,Int.reduceNeg,Int.reduceEq,Int.reduceLE,Int.reduceLT,tfb,ctz25,O25_10,x25_37,x25_37_m1,x25_38,x25_38_m1,h, c, bne_self_eq_false, hl5, h1, hjn, c2b, hj', hb]
    try omega
def ent25 (args : List AV) (K : AV → List AV → Sto → Prop) (e : List AV) (s : Sto) : Prop := ent (α := (List Ev) × (Int)) (fun aa => [.sl 5 (aa.1.map Ev.c), .i aa.2]) (fun aa => ShsOk aa.1) (fun aa => .tup [.i (backR aa.1 aa.2).1.1, .i (backR aa.1 aa.2).1.2, .i (backR aa.1 aa.2).2]) args K e s
theorem ent25_ok {args : List AV} {K : AV → List AV → Sto → Prop} {Q : Kt} {e : List AV} {s : Sto} (h : ent25 args K e s) : pcall Try.prog 25 args K Q e s := ent_ok (fun aa h => pf25 aa.1 aa.2 h) h
theorem eq25 {l : List Ev} {p : Int} {KK : AV → List AV → Sto → Prop} {ee : List AV} {ss : Sto} : ent25 [.d (.sl 5 (l.map Ev.c)), .d (.i p)] KK ee ss = ((ShsOk l) ∧ KK (.d (.tup [.i (backR l p).1.1, .i (backR l p).1.2, .i (backR l p).2])) ee ss) := by
  unfold ent25; rw [ent_iff (l, p) (by intro b h; simpa [Prod.ext_iff, and_assoc, Int.ofNat_inj, ints_inj, evs_inj, mems_inj, ev_inj, mem_inj, st_inj] using h) rfl]; simp
theorem eqo25 {l : List Ev} {p : Int} {g1 el1 : Nat} {KK : AV → List AV → Sto → Prop} {ee : List AV} {ss : Sto} : ent25 [.own g1 el1 5 (l.map Ev.c), .d (.i p)] KK ee ss = ((ShsOk l) ∧ (.tup [.i (backR l p).1.1, .i (backR l p).1.2, .i (backR l p).2] : D).flat = true ∧ KK (.d (.tup [.i (backR l p).1.1, .i (backR l p).1.2, .i (backR l p).2])) ee ss) := by
  unfold ent25; rw [ent_iff (l, p) (by intro b h; simpa [Prod.ext_iff, and_assoc, Int.ofNat_inj, ints_inj, evs_inj, mems_inj, ev_inj, mem_inj, st_inj] using h) rfl]; simp
theorem mem_eq {a b : Mem} : (a.person == b.person && (a.club == b.club && (a.ban == b.ban && (a.stage == b.stage && a.since == b.since)))) = decide (a = b) := by
  rw [Bool.eq_iff_iff]
  simp only [Bool.and_eq_true, decide_eq_true_eq, beq_iff_eq]
  cases a; cases b; simp
def O26 : Nat → Sch := fun id => if id = 6 then .one 0 (.one 1 (.one 2 (.one 3 (.one 4 (.one 5 (.one 6 (.one 7 (.one 8 (.done))))))))) else .done
theorem O26_6 : O26 6 = .one 0 (.one 1 (.one 2 (.one 3 (.one 4 (.one 5 (.one 6 (.one 7 (.one 8 (.done))))))))) := rfl
theorem ho26 : Try.f26.body.map (okO O26) = some true := by kernel_rfl
def Cf26 : Nat → List AV → (AV → List AV → Sto → Prop) → Kt → List AV → Sto → Prop := fun f args K Q e s => match f with
  | _ => False
def Ct26 : CT := { f := Cf26, y := noYld, z := fun d => false }
theorem ctz26 {d : Nat} : CT.z Ct26 d = (false) := id rfl
theorem Ct26_ok : Ct26.ok Try.prog := ok_of_f (fun f args K Q e s h => by
  have h : Cf26 f args K Q e s := h
  unfold Cf26 at h; split at h
  · exact h.elim) (fun _ _ _ _ _ _ _ _ _ h => h)
theorem c26 : callable Try.prog 26 = true := by kernel_rfl
theorem pf26 (a b : List Int) (h : a.length ≤ 1000000) : PF Try.prog 26 [.sl 1 (a.map ic), .sl 1 (b.map ic)] (fun zz => zz = .ret (.b (decide (a = b)))) := by
  by_cases c : a.length = b.length
  case neg =>
    have c' : ¬ (a.length : Int) = b.length := by omega
    have hw : decide (a = b) = false := decide_eq_false fun h => c (by rw [h])
    rw [hw]
    refine PF_nil (PF_start (O := O26) Ct26_ok hmix ho26 Try.func26 c26 rfl Try.ntmps26 Try.results26 ?_)
    simp (maxSteps := 4000000) +contextual (disch := first | omega | exact qdb_ok (by kernel_rfl) | exact okb_ok (by kernel_rfl)) only [bw1,bw2,bw3,bw4,bw5,bw6,bw7,bc0,bc1,bc2,bc3,bc4,bc5,bc6,bc7,bb0,setPs,AV.owns,AV.datF,AV.frz,AV.cpy,ifV,isEqB,nilV,nilX,AV.isNilS,AV.isNoRows,wk,dclo,datOf,binIs,addF,AV.isPtr,idxV,AV.isSl,AV.isSlice,AV.rows,ps,pv,extV,extS,AV.outs,AV.outF,packD,AV.dl,fieldV,fieldS,AV.cells?,AV.upr,AV.menc,AV.one,D.one,Value.oneCell',tagOf,AV.isApp,strV,strS,bolV,bolS,slcV,AV.isSlD,asrtS,AV.dcells,D.cells?,stcV,stcS,leafOk,eqDs,eqD,packA,D.val?,↓reduceIte,reduceCtorEq,Nat.reduceAdd,Nat.reduceSub,Nat.reduceMul,List.reduceReplicate,Nat.reduceLeDiff,Nat.reduceLT,Nat.reduceBEq,Nat.reduceEqDiff,Int.reduceNeg,Int.reduceEq,Int.reduceLE,Int.reduceLT,tfb,ctz26,O26_6,c']
  have c' : (a.length : Int) = b.length := by omega
  refine PF_nil (PF_start (O := O26) Ct26_ok hmix ho26 Try.func26 c26 rfl Try.ntmps26 Try.results26 ?_)
  simp (maxSteps := 4000000) +contextual (disch := first | omega | exact qdb_ok (by kernel_rfl) | exact okb_ok (by kernel_rfl)) only [bw1,bw2,bw3,bw4,bw5,bw6,bw7,bc0,bc1,bc2,bc3,bc4,bc5,bc6,bc7,bb0,setPs,AV.owns,AV.datF,AV.frz,AV.cpy,ifV,isEqB,nilV,nilX,AV.isNilS,AV.isNoRows,wk,dclo,datOf,binIs,addF,AV.isPtr,idxV,AV.isSl,AV.isSlice,AV.rows,ps,pv,extV,extS,AV.outs,AV.outF,packD,AV.dl,fieldV,fieldS,AV.cells?,AV.upr,AV.menc,AV.one,D.one,Value.oneCell',tagOf,AV.isApp,strV,strS,bolV,bolS,slcV,AV.isSlD,asrtS,AV.dcells,D.cells?,stcV,stcS,leafOk,eqDs,eqD,packA,D.val?,↓reduceIte,reduceCtorEq,Nat.reduceAdd,Nat.reduceSub,Nat.reduceMul,List.reduceReplicate,Nat.reduceLeDiff,Nat.reduceLT,Nat.reduceBEq,Nat.reduceEqDiff,Int.reduceNeg,Int.reduceEq,Int.reduceLE,Int.reduceLT,tfb,ctz26,O26_6,c']
  refine loop_s (O := O26) (tb := 0) Ct26_ok hmix (by kernel_rfl) (σ := Nat) (fun i => [(5, .i i)]) (fun i => i ≤ a.length ∧ ∀ j, j < i → a.getD j default = b.getD j default) (fun i => a.length - i) (fun i => i + 1) 0 ⟨by omega, fun j h => by omega⟩ ?_ ?_
  · simp (maxSteps := 4000000) +contextual (disch := first | omega | exact qdb_ok (by kernel_rfl) | exact okb_ok (by kernel_rfl)) only [bw1,bw2,bw3,bw4,bw5,bw6,bw7,bc0,bc1,bc2,bc3,bc4,bc5,bc6,bc7,bb0,setPs,AV.owns,AV.datF,AV.frz,AV.cpy,ifV,isEqB,nilV,nilX,AV.isNilS,AV.isNoRows,wk,dclo,datOf,binIs,addF,AV.isPtr,idxV,AV.isSl,AV.isSlice,AV.rows,ps,pv,extV,extS,AV.outs,AV.outF,packD,AV.dl,fieldV,fieldS,AV.cells?,AV.upr,AV.menc,AV.one,D.one,Value.oneCell',tagOf,AV.isApp,strV,strS,bolV,bolS,slcV,AV.isSlD,asrtS,AV.dcells,D.cells?,stcV,stcS,leafOk,eqDs,eqD,packA,D.val?,↓reduceIte,reduceCtorEq,Nat.reduceAdd,Nat.reduceSub,Nat.reduceMul,List.reduceReplicate,Nat.reduceLeDiff,Nat.reduceLT,Nat.reduceBEq,Nat.reduceEqDiff,Int.reduceNeg,Int.reduceEq,Int.reduceLE,Int.reduceLT,tfb,ctz26,O26_6]
  rintro i ⟨hi, hf⟩
  by_cases hlt : i < a.length
  · have hlt' : (i : Int) < b.length := by omega
    have hlt2 : (i : Int) < a.length := by omega
    by_cases d : a.getD i default = b.getD i default
    · have hf' := upto_succ (p := fun j => a.getD j default = b.getD j default) hf d
      simp (maxSteps := 4000000) +contextual (disch := first | omega | exact qdb_ok (by kernel_rfl) | exact okb_ok (by kernel_rfl)) only [bw1,bw2,bw3,bw4,bw5,bw6,bw7,bc0,bc1,bc2,bc3,bc4,bc5,bc6,bc7,bb0,setPs,AV.owns,AV.datF,AV.frz,AV.cpy,ifV,isEqB,nilV,nilX,AV.isNilS,AV.isNoRows,wk,dclo,datOf,binIs,addF,AV.isPtr,idxV,AV.isSl,AV.isSlice,AV.rows,ps,pv,extV,extS,AV.outs,AV.outF,packD,AV.dl,fieldV,fieldS,AV.cells?,AV.upr,AV.menc,AV.one,D.one,Value.oneCell',tagOf,AV.isApp,strV,strS,bolV,bolS,slcV,AV.isSlD,asrtS,AV.dcells,D.cells?,stcV,stcS,leafOk,eqDs,eqD,packA,D.val?,↓reduceIte,reduceCtorEq,Nat.reduceAdd,Nat.reduceSub,Nat.reduceMul,List.reduceReplicate,Nat.reduceLeDiff,Nat.reduceLT,Nat.reduceBEq,Nat.reduceEqDiff,Int.reduceNeg,Int.reduceEq,Int.reduceLE,Int.reduceLT,tfb,ctz26,O26_6,eq_self, hlt', hlt2, c', d]
      and_intros <;> first | omega | exact hf'
    · have hw : decide (a = b) = false := decide_eq_false fun h => d (by rw [h])
      simp (maxSteps := 4000000) +contextual (disch := first | omega | exact qdb_ok (by kernel_rfl) | exact okb_ok (by kernel_rfl)) only [bw1,bw2,bw3,bw4,bw5,bw6,bw7,bc0,bc1,bc2,bc3,bc4,bc5,bc6,bc7,bb0,setPs,AV.owns,AV.datF,AV.frz,AV.cpy,ifV,isEqB,nilV,nilX,AV.isNilS,AV.isNoRows,wk,dclo,datOf,binIs,addF,AV.isPtr,idxV,AV.isSl,AV.isSlice,AV.rows,ps,pv,extV,extS,AV.outs,AV.outF,packD,AV.dl,fieldV,fieldS,AV.cells?,AV.upr,AV.menc,AV.one,D.one,Value.oneCell',tagOf,AV.isApp,strV,strS,bolV,bolS,slcV,AV.isSlD,asrtS,AV.dcells,D.cells?,stcV,stcS,leafOk,eqDs,eqD,packA,D.val?,↓reduceIte,reduceCtorEq,Nat.reduceAdd,Nat.reduceSub,Nat.reduceMul,List.reduceReplicate,Nat.reduceLeDiff,Nat.reduceLT,Nat.reduceBEq,Nat.reduceEqDiff,Int.reduceNeg,Int.reduceEq,Int.reduceLE,Int.reduceLT,tfb,ctz26,O26_6,eq_self, hlt', hlt2, c', d, hw]
      and_intros <;> first | omega | rfl
  · have hlt' : ¬ (i : Int) < b.length := by omega
    have hlt2 : ¬ (i : Int) < a.length := by omega
    have hw : decide (a = b) = true := decide_eq_true (List.ext_getElem c fun j h1 h2 => by
      have := hf j (by omega)
      rwa [at_lt h1, at_lt h2] at this)
    simp (maxSteps := 4000000) +contextual (disch := first | omega | exact qdb_ok (by kernel_rfl) | exact okb_ok (by kernel_rfl)) only [bw1,bw2,bw3,bw4,bw5,bw6,bw7,bc0,bc1,bc2,bc3,bc4,bc5,bc6,bc7,bb0,setPs,AV.owns,AV.datF,AV.frz,AV.cpy,ifV,isEqB,nilV,nilX,AV.isNilS,AV.isNoRows,wk,dclo,datOf,binIs,addF,AV.isPtr,idxV,AV.isSl,AV.isSlice,AV.rows,ps,pv,extV,extS,AV.outs,AV.outF,packD,AV.dl,fieldV,fieldS,AV.cells?,AV.upr,AV.menc,AV.one,D.one,Value.oneCell',tagOf,AV.isApp,strV,strS,bolV,bolS,slcV,AV.isSlD,asrtS,AV.dcells,D.cells?,stcV,stcS,leafOk,eqDs,eqD,packA,D.val?,↓reduceIte,reduceCtorEq,Nat.reduceAdd,Nat.reduceSub,Nat.reduceMul,List.reduceReplicate,Nat.reduceLeDiff,Nat.reduceLT,Nat.reduceBEq,Nat.reduceEqDiff,Int.reduceNeg,Int.reduceEq,Int.reduceLE,Int.reduceLT,tfb,ctz26,O26_6,eq_self, hlt', hlt2, c', hw]
def ent26 (args : List AV) (K : AV → List AV → Sto → Prop) (e : List AV) (s : Sto) : Prop := ent (α := (List Int) × (List Int)) (fun aa => [.sl 1 (aa.1.map ic), .sl 1 (aa.2.map ic)]) (fun aa => aa.1.length ≤ 1000000) (fun aa => .b (decide (aa.1 = aa.2))) args K e s
theorem ent26_ok {args : List AV} {K : AV → List AV → Sto → Prop} {Q : Kt} {e : List AV} {s : Sto} (h : ent26 args K e s) : pcall Try.prog 26 args K Q e s := ent_ok (fun aa h => pf26 aa.1 aa.2 h) h
theorem eq26 {a : List Int} {b : List Int} {KK : AV → List AV → Sto → Prop} {ee : List AV} {ss : Sto} : ent26 [.d (.sl 1 (a.map ic)), .d (.sl 1 (b.map ic))] KK ee ss = ((a.length ≤ 1000000) ∧ KK (.d (.b (decide (a = b)))) ee ss) := by
  unfold ent26; rw [ent_iff (a, b) (by intro b h; simpa [Prod.ext_iff, and_assoc, Int.ofNat_inj, ints_inj, evs_inj, mems_inj, ev_inj, mem_inj, st_inj] using h) rfl]; simp
theorem eqo26 {a : List Int} {b : List Int} {g1 el1 : Nat} {g2 el2 : Nat} {KK : AV → List AV → Sto → Prop} {ee : List AV} {ss : Sto} : ent26 [.own g1 el1 1 (a.map ic), .own g2 el2 1 (b.map ic)] KK ee ss = ((a.length ≤ 1000000) ∧ (.b (decide (a = b)) : D).flat = true ∧ KK (.d (.b (decide (a = b)))) ee ss) := by
  unfold ent26; rw [ent_iff (a, b) (by intro b h; simpa [Prod.ext_iff, and_assoc, Int.ofNat_inj, ints_inj, evs_inj, mems_inj, ev_inj, mem_inj, st_inj] using h) rfl]; simp
def O21 : Nat → Sch := fun id => if id = 6 then .one 0 (.one 1 (.one 2 (.one 3 (.one 4 (.one 5 (.one 6 (.one 7 (.one 8 (.done))))))))) else .done
theorem O21_6 : O21 6 = .one 0 (.one 1 (.one 2 (.one 3 (.one 4 (.one 5 (.one 6 (.one 7 (.one 8 (.done))))))))) := rfl
theorem ho21 : Try.f21.body.map (okO O21) = some true := by kernel_rfl
def Cf21 : Nat → List AV → (AV → List AV → Sto → Prop) → Kt → List AV → Sto → Prop := fun f args K Q e s => match f with
  | _ => False
def Ct21 : CT := { f := Cf21, y := noYld, z := fun d => false }
theorem ctz21 {d : Nat} : CT.z Ct21 d = (false) := id rfl
theorem Ct21_ok : Ct21.ok Try.prog := ok_of_f (fun f args K Q e s h => by
  have h : Cf21 f args K Q e s := h
  unfold Cf21 at h; split at h
  · exact h.elim) (fun _ _ _ _ _ _ _ _ _ h => h)
theorem c21 : callable Try.prog 21 = true := by kernel_rfl
theorem pf21 (a b : List Mem) (h : a.length ≤ 1000000) : PF Try.prog 21 [.sl 5 (a.map Mem.c), .sl 5 (b.map Mem.c)] (fun zz => zz = .ret (.b (decide (a = b)))) := by
  by_cases c : a.length = b.length
  case neg =>
    have c' : ¬ (a.length : Int) = b.length := by omega
    have hw : decide (a = b) = false := decide_eq_false fun h => c (by rw [h])
    rw [hw]
    refine PF_nil (PF_start (O := O21) Ct21_ok hmix ho21 Try.func21 c21 rfl Try.ntmps21 Try.results21 ?_)
    simp (maxSteps := 4000000) +contextual (disch := first | omega | exact qdb_ok (by kernel_rfl) | exact okb_ok (by kernel_rfl)) only [bw1,bw2,bw3,bw4,bw5,bw6,bw7,bc0,bc1,bc2,bc3,bc4,bc5,bc6,bc7,bb0,setPs,AV.owns,AV.datF,AV.frz,AV.cpy,ifV,isEqB,nilV,nilX,AV.isNilS,AV.isNoRows,wk,dclo,datOf,binIs,addF,AV.isPtr,idxV,AV.isSl,AV.isSlice,AV.rows,ps,pv,extV,extS,AV.outs,AV.outF,packD,AV.dl,fieldV,fieldS,AV.cells?,AV.upr,AV.menc,AV.one,D.one,Value.oneCell',tagOf,AV.isApp,strV,strS,bolV,bolS,slcV,AV.isSlD,asrtS,AV.dcells,D.cells?,stcV,stcS,leafOk,eqDs,eqD,packA,D.val?,↓reduceIte,reduceCtorEq,Nat.reduceAdd,Nat.reduceSub,Nat.reduceMul,List.reduceReplicate,Nat.reduceLeDiff,Nat.reduceLT,Nat.reduceBEq,Nat.reduceEqDiff,Int.reduceNeg,Int.reduceEq,Int.reduceLE,Int.reduceLT,tfb,ctz21,O21_6,c']
  have c' : (a.length : Int) = b.length := by omega
  refine PF_nil (PF_start (O := O21) Ct21_ok hmix ho21 Try.func21 c21 rfl Try.ntmps21 Try.results21 ?_)
  simp (maxSteps := 4000000) +contextual (disch := first | omega | exact qdb_ok (by kernel_rfl) | exact okb_ok (by kernel_rfl)) only [bw1,bw2,bw3,bw4,bw5,bw6,bw7,bc0,bc1,bc2,bc3,bc4,bc5,bc6,bc7,bb0,setPs,AV.owns,AV.datF,AV.frz,AV.cpy,ifV,isEqB,nilV,nilX,AV.isNilS,AV.isNoRows,wk,dclo,datOf,binIs,addF,AV.isPtr,idxV,AV.isSl,AV.isSlice,AV.rows,ps,pv,extV,extS,AV.outs,AV.outF,packD,AV.dl,fieldV,fieldS,AV.cells?,AV.upr,AV.menc,AV.one,D.one,Value.oneCell',tagOf,AV.isApp,strV,strS,bolV,bolS,slcV,AV.isSlD,asrtS,AV.dcells,D.cells?,stcV,stcS,leafOk,eqDs,eqD,packA,D.val?,↓reduceIte,reduceCtorEq,Nat.reduceAdd,Nat.reduceSub,Nat.reduceMul,List.reduceReplicate,Nat.reduceLeDiff,Nat.reduceLT,Nat.reduceBEq,Nat.reduceEqDiff,Int.reduceNeg,Int.reduceEq,Int.reduceLE,Int.reduceLT,tfb,ctz21,O21_6,c']
  refine loop_s (O := O21) (tb := 0) Ct21_ok hmix (by kernel_rfl) (σ := Nat) (fun i => [(5, .i i)]) (fun i => i ≤ a.length ∧ ∀ j, j < i → a.getD j default = b.getD j default) (fun i => a.length - i) (fun i => i + 1) 0 ⟨by omega, fun j h => by omega⟩ ?_ ?_
  · simp (maxSteps := 4000000) +contextual (disch := first | omega | exact qdb_ok (by kernel_rfl) | exact okb_ok (by kernel_rfl)) only [bw1,bw2,bw3,bw4,bw5,bw6,bw7,bc0,bc1,bc2,bc3,bc4,bc5,bc6,bc7,bb0,setPs,AV.owns,AV.datF,AV.frz,AV.cpy,ifV,isEqB,nilV,nilX,AV.isNilS,AV.isNoRows,wk,dclo,datOf,binIs,addF,AV.isPtr,idxV,AV.isSl,AV.isSlice,AV.rows,ps,pv,extV,extS,AV.outs,AV.outF,packD,AV.dl,fieldV,fieldS,AV.cells?,AV.upr,AV.menc,AV.one,D.one,Value.oneCell',tagOf,AV.isApp,strV,strS,bolV,bolS,slcV,AV.isSlD,asrtS,AV.dcells,D.cells?,stcV,stcS,leafOk,eqDs,eqD,packA,D.val?,↓reduceIte,reduceCtorEq,Nat.reduceAdd,Nat.reduceSub,Nat.reduceMul,List.reduceReplicate,Nat.reduceLeDiff,Nat.reduceLT,Nat.reduceBEq,Nat.reduceEqDiff,Int.reduceNeg,Int.reduceEq,Int.reduceLE,Int.reduceLT,tfb,ctz21,O21_6]
  rintro i ⟨hi, hf⟩
  by_cases hlt : i < a.length
  · have hlt' : (i : Int) < b.length := by omega
    have hlt2 : (i : Int) < a.length := by omega
    by_cases d : a.getD i default = b.getD i default
    · have hf' := upto_succ (p := fun j => a.getD j default = b.getD j default) hf d
      have e1 := mem_eq (a := a.getD i default) (b := b.getD i default)
      rw [decide_eq_true d] at e1
      simp (maxSteps := 4000000) +contextual (disch := first | omega | exact qdb_ok (by kernel_rfl) | exact okb_ok (by kernel_rfl)) only [bw1,bw2,bw3,bw4,bw5,bw6,bw7,bc0,bc1,bc2,bc3,bc4,bc5,bc6,bc7,bb0,setPs,AV.owns,AV.datF,AV.frz,AV.cpy,ifV,isEqB,nilV,nilX,AV.isNilS,AV.isNoRows,wk,dclo,datOf,binIs,addF,AV.isPtr,idxV,AV.isSl,AV.isSlice,AV.rows,ps,pv,extV,extS,AV.outs,AV.outF,packD,AV.dl,fieldV,fieldS,AV.cells?,AV.upr,AV.menc,AV.one,D.one,Value.oneCell',tagOf,AV.isApp,strV,strS,bolV,bolS,slcV,AV.isSlD,asrtS,AV.dcells,D.cells?,stcV,stcS,leafOk,eqDs,eqD,packA,D.val?,↓reduceIte,reduceCtorEq,Nat.reduceAdd,Nat.reduceSub,Nat.reduceMul,List.reduceReplicate,Nat.reduceLeDiff,Nat.reduceLT,Nat.reduceBEq,Nat.reduceEqDiff,Int.reduceNeg,Int.reduceEq,Int.reduceLE,Int.reduceLT,tfb,ctz21,O21_6,eq_self, hlt', hlt2, c', e1, d]
      and_intros <;> first | omega | exact hf'
    · have hw : decide (a = b) = false := decide_eq_false fun h => d (by rw [h])
      have e1 := mem_eq (a := a.getD i default) (b := b.getD i default)
      rw [decide_eq_false d] at e1
      simp (maxSteps := 4000000) +contextual (disch := first | omega | exact qdb_ok (by kernel_rfl) | exact okb_ok (by kernel_rfl)) only [bw1,bw2,bw3,bw4,bw5,bw6,bw7,bc0,bc1,bc2,bc3,bc4,bc5,bc6,bc7,bb0,setPs,AV.owns,AV.datF,AV.frz,AV.cpy,ifV,isEqB,nilV,nilX,AV.isNilS,AV.isNoRows,wk,dclo,datOf,binIs,addF,AV.isPtr,idxV,AV.isSl,AV.isSlice,AV.rows,ps,pv,extV,extS,AV.outs,AV.outF,packD,AV.dl,fieldV,fieldS,AV.cells?,AV.upr,AV.menc,AV.one,D.one,Value.oneCell',tagOf,AV.isApp,strV,strS,bolV,bolS,slcV,AV.isSlD,asrtS,AV.dcells,D.cells?,stcV,stcS,leafOk,eqDs,eqD,packA,D.val?,↓reduceIte,reduceCtorEq,Nat.reduceAdd,Nat.reduceSub,Nat.reduceMul,List.reduceReplicate,Nat.reduceLeDiff,Nat.reduceLT,Nat.reduceBEq,Nat.reduceEqDiff,Int.reduceNeg,Int.reduceEq,Int.reduceLE,Int.reduceLT,tfb,ctz21,O21_6,eq_self, hlt', hlt2, c', e1, hw]
      and_intros <;> first | omega | rfl
  · have hlt' : ¬ (i : Int) < b.length := by omega
    have hlt2 : ¬ (i : Int) < a.length := by omega
    have hw : decide (a = b) = true := decide_eq_true (List.ext_getElem c fun j h1 h2 => by
      have := hf j (by omega)
      rwa [at_lt h1, at_lt h2] at this)
    simp (maxSteps := 4000000) +contextual (disch := first | omega | exact qdb_ok (by kernel_rfl) | exact okb_ok (by kernel_rfl)) only [bw1,bw2,bw3,bw4,bw5,bw6,bw7,bc0,bc1,bc2,bc3,bc4,bc5,bc6,bc7,bb0,setPs,AV.owns,AV.datF,AV.frz,AV.cpy,ifV,isEqB,nilV,nilX,AV.isNilS,AV.isNoRows,wk,dclo,datOf,binIs,addF,AV.isPtr,idxV,AV.isSl,AV.isSlice,AV.rows,ps,pv,extV,extS,AV.outs,AV.outF,packD,AV.dl,fieldV,fieldS,AV.cells?,AV.upr,AV.menc,AV.one,D.one,Value.oneCell',tagOf,AV.isApp,strV,strS,bolV,bolS,slcV,AV.isSlD,asrtS,AV.dcells,D.cells?,stcV,stcS,leafOk,eqDs,eqD,packA,D.val?,↓reduceIte,reduceCtorEq,Nat.reduceAdd,Nat.reduceSub,Nat.reduceMul,List.reduceReplicate,Nat.reduceLeDiff,Nat.reduceLT,Nat.reduceBEq,Nat.reduceEqDiff,Int.reduceNeg,Int.reduceEq,Int.reduceLE,Int.reduceLT,tfb,ctz21,O21_6,eq_self, hlt', hlt2, c', hw]
def ent21 (args : List AV) (K : AV → List AV → Sto → Prop) (e : List AV) (s : Sto) : Prop := ent (α := (List Mem) × (List Mem)) (fun aa => [.sl 5 (aa.1.map Mem.c), .sl 5 (aa.2.map Mem.c)]) (fun aa => aa.1.length ≤ 1000000) (fun aa => .b (decide (aa.1 = aa.2))) args K e s
theorem ent21_ok {args : List AV} {K : AV → List AV → Sto → Prop} {Q : Kt} {e : List AV} {s : Sto} (h : ent21 args K e s) : pcall Try.prog 21 args K Q e s := ent_ok (fun aa h => pf21 aa.1 aa.2 h) h
theorem eq21 {a : List Mem} {b : List Mem} {KK : AV → List AV → Sto → Prop} {ee : List AV} {ss : Sto} : ent21 [.d (.sl 5 (a.map Mem.c)), .d (.sl 5 (b.map Mem.c))] KK ee ss = ((a.length ≤ 1000000) ∧ KK (.d (.b (decide (a = b)))) ee ss) := by
  unfold ent21; rw [ent_iff (a, b) (by intro b h; simpa [Prod.ext_iff, and_assoc, Int.ofNat_inj, ints_inj, evs_inj, mems_inj, ev_inj, mem_inj, st_inj] using h) rfl]; simp
theorem eqo21 {a : List Mem} {b : List Mem} {g1 el1 : Nat} {g2 el2 : Nat} {KK : AV → List AV → Sto → Prop} {ee : List AV} {ss : Sto} : ent21 [.own g1 el1 5 (a.map Mem.c), .own g2 el2 5 (b.map Mem.c)] KK ee ss = ((a.length ≤ 1000000) ∧ (.b (decide (a = b)) : D).flat = true ∧ KK (.d (.b (decide (a = b)))) ee ss) := by
  unfold ent21; rw [ent_iff (a, b) (by intro b h; simpa [Prod.ext_iff, and_assoc, Int.ofNat_inj, ints_inj, evs_inj, mems_inj, ev_inj, mem_inj, st_inj] using h) rfl]; simp
def O24 : Nat → Sch := fun id => .done
theorem ho24 : Try.f24.body.map (okO O24) = some true := by kernel_rfl
def Cf24 : Nat → List AV → (AV → List AV → Sto → Prop) → Kt → List AV → Sto → Prop := fun f args K Q e s => match f with
  | 37 => ent37 args K e s
  | 39 => ent39 args K e s
  | 40 => ent40 args K e s
  | 41 => ent41 args K e s
  | _ => False
def Ct24 : CT := { f := Cf24, y := noYld, z := fun d => false }
theorem ctz24 {d : Nat} : CT.z Ct24 d = (false) := id rfl
theorem Ct24_ok : Ct24.ok Try.prog := ok_of_f (fun f args K Q e s h => by
  have h : Cf24 f args K Q e s := h
  unfold Cf24 at h; split at h
  · exact ent37_ok h
  · exact ent39_ok h
  · exact ent40_ok h
  · exact ent41_ok h
  · exact h.elim) (fun _ _ _ _ _ _ _ _ _ h => h)
theorem x24_37 {l : List Ev} {KK : AV → List AV → Sto → Prop} {QQ : Kt} {ii : At KK} {jj : At QQ} {ee : List AV} {ss : Sto} : xC Ct24 37 [.d (.sl 5 (l.map Ev.c))] KK QQ ii jj ee ss = ((ShsOk l) ∧ KK (.d (.tup [.agg (runR l).1.c, .i ((runR l).2.1 : Int), .i (runR l).2.2])) ee ss) := eq37
theorem x24_37_m1 {l : List Ev} {g1 el1 : Nat} {KK : AV → List AV → Sto → Prop} {QQ : Kt} {ii : At KK} {jj : At QQ} {ee : List AV} {ss : Sto} : xC Ct24 37 [.own g1 el1 5 (l.map Ev.c)] KK QQ ii jj ee ss = ((ShsOk l) ∧ (.tup [.agg (runR l).1.c, .i ((runR l).2.1 : Int), .i (runR l).2.2] : D).flat = true ∧ KK (.d (.tup [.agg (runR l).1.c, .i ((runR l).2.1 : Int), .i (runR l).2.2])) ee ss) := eqo37
theorem x24_39 {l : List Ev} {d : Int} {KK : AV → List AV → Sto → Prop} {QQ : Kt} {ii : At KK} {jj : At QQ} {ee : List AV} {ss : Sto} : xC Ct24 39 [.d (.sl 5 (l.map Ev.c)), .d (.i d)] KK QQ ii jj ee ss = ((l.length ≤ 100000) ∧ KK (.d (.b (lateB l d))) ee ss) := eq39
theorem x24_39_m1 {l : List Ev} {d : Int} {g1 el1 : Nat} {KK : AV → List AV → Sto → Prop} {QQ : Kt} {ii : At KK} {jj : At QQ} {ee : List AV} {ss : Sto} : xC Ct24 39 [.own g1 el1 5 (l.map Ev.c), .d (.i d)] KK QQ ii jj ee ss = ((l.length ≤ 100000) ∧ (.b (lateB l d) : D).flat = true ∧ KK (.d (.b (lateB l d))) ee ss) := eqo39
theorem x24_40 {s : St} {m : Mem} {d : Int} {KK : AV → List AV → Sto → Prop} {QQ : Kt} {ii : At KK} {jj : At QQ} {ee : List AV} {ss : Sto} : xC Ct24 40 [.d (.agg s.c), .d (.agg m.c), .d (.i d)] KK QQ ii jj ee ss = ((EvsOk s.evs) ∧ KK (.d (.sl 1 ((why s.evs m d).map ic))) ee ss) := eq40
theorem x24_41 {n : Int} {lo : Int} {hi : Int} {KK : AV → List AV → Sto → Prop} {QQ : Kt} {ii : At KK} {jj : At QQ} {ee : List AV} {ss : Sto} : xC Ct24 41 [.d (.i n), .d (.i lo), .d (.i hi)] KK QQ ii jj ee ss = (KK (.d (.b (inB n lo hi))) ee ss) := eq41
theorem c24 : callable Try.prog 24 = true := by kernel_rfl
theorem pf24 (l : List Ev) (c d : Int) (h : ShsOk l) : PF Try.prog 24 [.sl 5 (l.map Ev.c), .i c, .i d] (fun zz => zz = .ret (.tup [.sl 1 ((ableR l c d).1.map ic), .i (ableR l c d).2])) := by
  have hl := h.1
  obtain ⟨⟨hm, he⟩, _⟩ := runR_ok h
  have hl1 := hm.1
  unfold ableR
  by_cases c0 : (runR l).2.2 = 0
  case neg =>
    rw [if_neg c0]
    have cb : ((runR l).2.2 != 0) = true := by simpa using c0
    refine PF_nil (PF_start (O := O24) Ct24_ok hmix ho24 Try.func24 c24 rfl Try.ntmps24 Try.results24 ?_)
    simp (maxSteps := 4000000) +contextual (disch := first | omega | exact qdb_ok (by kernel_rfl) | exact okb_ok (by kernel_rfl)) only [bw1,bw2,bw3,bw4,bw5,bw6,bw7,bc0,bc1,bc2,bc3,bc4,bc5,bc6,bc7,bb0,setPs,AV.owns,AV.datF,AV.frz,AV.cpy,ifV,isEqB,nilV,nilX,AV.isNilS,AV.isNoRows,wk,dclo,datOf,binIs,addF,AV.isPtr,idxV,AV.isSl,AV.isSlice,AV.rows,ps,pv,extV,extS,AV.outs,AV.outF,packD,AV.dl,fieldV,fieldS,AV.cells?,AV.upr,AV.menc,AV.one,D.one,Value.oneCell',tagOf,AV.isApp,strV,strS,bolV,bolS,slcV,AV.isSlD,asrtS,AV.dcells,D.cells?,stcV,stcS,leafOk,eqDs,eqD,packA,D.val?,↓reduceIte,reduceCtorEq,Nat.reduceAdd,Nat.reduceSub,Nat.reduceMul,List.reduceReplicate,Nat.reduceLeDiff,Nat.reduceLT,Nat.reduceBEq,Nat.reduceEqDiff,Int.reduceNeg,Int.reduceEq,Int.reduceLE,Int.reduceLT,tfb,ctz24,x24_37,x24_37_m1,x24_39,x24_39_m1,x24_40,x24_41,h, c0, cb]
  rw [if_pos c0]
  by_cases c1 : inB c 0 255 = true
  case neg =>
    rw [if_neg (fun h => c1 h.1)]
    refine PF_nil (PF_start (O := O24) Ct24_ok hmix ho24 Try.func24 c24 rfl Try.ntmps24 Try.results24 ?_)
    simp (maxSteps := 4000000) +contextual (disch := first | omega | exact qdb_ok (by kernel_rfl) | exact okb_ok (by kernel_rfl)) only [bw1,bw2,bw3,bw4,bw5,bw6,bw7,bc0,bc1,bc2,bc3,bc4,bc5,bc6,bc7,bb0,setPs,AV.owns,AV.datF,AV.frz,AV.cpy,ifV,isEqB,nilV,nilX,AV.isNilS,AV.isNoRows,wk,dclo,datOf,binIs,addF,AV.isPtr,idxV,AV.isSl,AV.isSlice,AV.rows,ps,pv,extV,extS,AV.outs,AV.outF,packD,AV.dl,fieldV,fieldS,AV.cells?,AV.upr,AV.menc,AV.one,D.one,Value.oneCell',tagOf,AV.isApp,strV,strS,bolV,bolS,slcV,AV.isSlD,asrtS,AV.dcells,D.cells?,stcV,stcS,leafOk,eqDs,eqD,packA,D.val?,↓reduceIte,reduceCtorEq,Nat.reduceAdd,Nat.reduceSub,Nat.reduceMul,List.reduceReplicate,Nat.reduceLeDiff,Nat.reduceLT,Nat.reduceBEq,Nat.reduceEqDiff,Int.reduceNeg,Int.reduceEq,Int.reduceLE,Int.reduceLT,tfb,ctz24,x24_37,x24_37_m1,x24_39,x24_39_m1,x24_40,x24_41,h, c0, bne_self_eq_false, c1]
  by_cases c2 : lateB l d = true
  case neg =>
    rw [if_neg (fun h => c2 h.2)]
    refine PF_nil (PF_start (O := O24) Ct24_ok hmix ho24 Try.func24 c24 rfl Try.ntmps24 Try.results24 ?_)
    simp (maxSteps := 4000000) +contextual (disch := first | omega | exact qdb_ok (by kernel_rfl) | exact okb_ok (by kernel_rfl)) only [bw1,bw2,bw3,bw4,bw5,bw6,bw7,bc0,bc1,bc2,bc3,bc4,bc5,bc6,bc7,bb0,setPs,AV.owns,AV.datF,AV.frz,AV.cpy,ifV,isEqB,nilV,nilX,AV.isNilS,AV.isNoRows,wk,dclo,datOf,binIs,addF,AV.isPtr,idxV,AV.isSl,AV.isSlice,AV.rows,ps,pv,extV,extS,AV.outs,AV.outF,packD,AV.dl,fieldV,fieldS,AV.cells?,AV.upr,AV.menc,AV.one,D.one,Value.oneCell',tagOf,AV.isApp,strV,strS,bolV,bolS,slcV,AV.isSlD,asrtS,AV.dcells,D.cells?,stcV,stcS,leafOk,eqDs,eqD,packA,D.val?,↓reduceIte,reduceCtorEq,Nat.reduceAdd,Nat.reduceSub,Nat.reduceMul,List.reduceReplicate,Nat.reduceLeDiff,Nat.reduceLT,Nat.reduceBEq,Nat.reduceEqDiff,Int.reduceNeg,Int.reduceEq,Int.reduceLE,Int.reduceLT,tfb,ctz24,x24_37,x24_37_m1,x24_39,x24_39_m1,x24_40,x24_41,h, c0, bne_self_eq_false, c1, hl, c2]
  rw [if_pos ⟨c1, c2⟩]
  generalize hs : (runR l).1 = s at hm he hl1 ⊢
  have hn0 : ableN s c d 0 = [] := rfl
  have hny := fun k => ableN_yes (s := s) (c := c) (d := d) (k := k)
  have hnn := fun k => ableN_no (s := s) (c := c) (d := d) (k := k)
  have hnl := fun k (h : k ≤ s.mem.length) => ableN_len (s := s) (c := c) (d := d) h
  generalize ableN s c d = N at hn0 hny hnn hnl ⊢
  refine PF_nil (PF_start (O := O24) Ct24_ok hmix ho24 Try.func24 c24 rfl Try.ntmps24 Try.results24 ?_)
  simp (maxSteps := 4000000) +contextual (disch := first | omega | exact qdb_ok (by kernel_rfl) | exact okb_ok (by kernel_rfl)) only [bw1,bw2,bw3,bw4,bw5,bw6,bw7,bc0,bc1,bc2,bc3,bc4,bc5,bc6,bc7,bb0,setPs,AV.owns,AV.datF,AV.frz,AV.cpy,ifV,isEqB,nilV,nilX,AV.isNilS,AV.isNoRows,wk,dclo,datOf,binIs,addF,AV.isPtr,idxV,AV.isSl,AV.isSlice,AV.rows,ps,pv,extV,extS,AV.outs,AV.outF,packD,AV.dl,fieldV,fieldS,AV.cells?,AV.upr,AV.menc,AV.one,D.one,Value.oneCell',tagOf,AV.isApp,strV,strS,bolV,bolS,slcV,AV.isSlD,asrtS,AV.dcells,D.cells?,stcV,stcS,leafOk,eqDs,eqD,packA,D.val?,↓reduceIte,reduceCtorEq,Nat.reduceAdd,Nat.reduceSub,Nat.reduceMul,List.reduceReplicate,Nat.reduceLeDiff,Nat.reduceLT,Nat.reduceBEq,Nat.reduceEqDiff,Int.reduceNeg,Int.reduceEq,Int.reduceLE,Int.reduceLT,tfb,ctz24,x24_37,x24_37_m1,x24_39,x24_39_m1,x24_40,x24_41,h, hs, c0, bne_self_eq_false, c1, hl, c2]
  obtain ⟨mem, evs⟩ := s
  simp only at hm he hl1 hny hnn hnl ⊢
  refine seed (m1 := mk _) (m2 := mk _) 11 61 3 1 (by decide) rfl rfl (by simp [Sto.mens, AV.mens, AV.men]) rfl ?_
  refine loop_u (O := O24) (tb := 0) Ct24_ok hmix (by kernel_rfl) (σ := Nat) (fun k => [(11, .own 61 3 1 ((N k).map ic)), (13, .any), (60, .any), (12, .i k)]) (fun k => [(9, [.d (.sl 5 (mem.map Mem.c)), .d (.sl 5 (evs.map Ev.c))])]) (fun k => k ≤ mem.length) (fun k => mem.length - k) (fun k => k + 1) 0 (by omega) ?_ ?_
  · simp (maxSteps := 4000000) +contextual (disch := first | omega | exact qdb_ok (by kernel_rfl) | exact okb_ok (by kernel_rfl)) only [bw1,bw2,bw3,bw4,bw5,bw6,bw7,bc0,bc1,bc2,bc3,bc4,bc5,bc6,bc7,bb0,setPs,AV.owns,AV.datF,AV.frz,AV.cpy,ifV,isEqB,nilV,nilX,AV.isNilS,AV.isNoRows,wk,dclo,datOf,binIs,addF,AV.isPtr,idxV,AV.isSl,AV.isSlice,AV.rows,ps,pv,extV,extS,AV.outs,AV.outF,packD,AV.dl,fieldV,fieldS,AV.cells?,AV.upr,AV.menc,AV.one,D.one,Value.oneCell',tagOf,AV.isApp,strV,strS,bolV,bolS,slcV,AV.isSlD,asrtS,AV.dcells,D.cells?,stcV,stcS,leafOk,eqDs,eqD,packA,D.val?,↓reduceIte,reduceCtorEq,Nat.reduceAdd,Nat.reduceSub,Nat.reduceMul,List.reduceReplicate,Nat.reduceLeDiff,Nat.reduceLT,Nat.reduceBEq,Nat.reduceEqDiff,Int.reduceNeg,Int.reduceEq,Int.reduceLE,Int.reduceLT,tfb,ctz24,x24_37,x24_37_m1,x24_39,x24_39_m1,x24_40,x24_41,hn0]
  intro k hk
  have hnlk := hnl k hk
  by_cases hlt : k < mem.length
  · have hlt' : (k : Int) < mem.length := by omega
    have hx40 : ∀ {KK : AV → List AV → Sto → Prop} {QQ : Kt} {ii : At KK} {jj : At QQ} {ee : List AV} {ss : Sto}, xC Ct24 40 [.d (.agg [.sl 5 (mem.map Mem.c), .sl 5 (evs.map Ev.c)]), .d (.agg [.i (mem.getD k default).person, .i (mem.getD k default).club, .i (mem.getD k default).ban, .i (mem.getD k default).stage, .i (mem.getD k default).since]), .d (.i d)] KK QQ ii jj ee ss = KK (.d (.sl 1 ((why evs (mem.getD k default) d).map ic))) ee ss := by
      intro KK QQ ii jj ee ss
      have := x24_40 (s := ⟨mem, evs⟩) (m := mem.getD k default) (d := d) (KK := KK) (QQ := QQ) (ii := ii) (jj := jj) (ee := ee) (ss := ss)
      exact this.trans (propext ⟨fun h => h.2, fun k => ⟨he, k⟩⟩)
    by_cases q1 : (mem.getD k default).club = c
    case neg =>
      have q1b : ((mem.getD k default).club == c) = false := by simpa using q1
      have hs := hnn k hlt (by unfold ableP; rw [decide_eq_false q1]; rfl)
      simp (maxSteps := 4000000) +contextual (disch := first | omega | exact qdb_ok (by kernel_rfl) | exact okb_ok (by kernel_rfl)) only [bw1,bw2,bw3,bw4,bw5,bw6,bw7,bc0,bc1,bc2,bc3,bc4,bc5,bc6,bc7,bb0,setPs,AV.owns,AV.datF,AV.frz,AV.cpy,ifV,isEqB,nilV,nilX,AV.isNilS,AV.isNoRows,wk,dclo,datOf,binIs,addF,AV.isPtr,idxV,AV.isSl,AV.isSlice,AV.rows,ps,pv,extV,extS,AV.outs,AV.outF,packD,AV.dl,fieldV,fieldS,AV.cells?,AV.upr,AV.menc,AV.one,D.one,Value.oneCell',tagOf,AV.isApp,strV,strS,bolV,bolS,slcV,AV.isSlD,asrtS,AV.dcells,D.cells?,stcV,stcS,leafOk,eqDs,eqD,packA,D.val?,↓reduceIte,reduceCtorEq,Nat.reduceAdd,Nat.reduceSub,Nat.reduceMul,List.reduceReplicate,Nat.reduceLeDiff,Nat.reduceLT,Nat.reduceBEq,Nat.reduceEqDiff,Int.reduceNeg,Int.reduceEq,Int.reduceLE,Int.reduceLT,tfb,ctz24,x24_37,x24_37_m1,x24_39,x24_39_m1,x24_40,x24_41,eq_self, hlt', q1b, hs]
      and_intros <;> omega
    have q1b : ((mem.getD k default).club == c) = true := by simpa using q1
    by_cases q2 : why evs (mem.getD k default) d = []
    · have hs := hny k hlt (by unfold ableP; rw [decide_eq_true q1, decide_eq_true q2]; rfl)
      simp (maxSteps := 4000000) +contextual (disch := first | omega | exact qdb_ok (by kernel_rfl) | exact okb_ok (by kernel_rfl)) only [bw1,bw2,bw3,bw4,bw5,bw6,bw7,bc0,bc1,bc2,bc3,bc4,bc5,bc6,bc7,bb0,setPs,AV.owns,AV.datF,AV.frz,AV.cpy,ifV,isEqB,nilV,nilX,AV.isNilS,AV.isNoRows,wk,dclo,datOf,binIs,addF,AV.isPtr,idxV,AV.isSl,AV.isSlice,AV.rows,ps,pv,extV,extS,AV.outs,AV.outF,packD,AV.dl,fieldV,fieldS,AV.cells?,AV.upr,AV.menc,AV.one,D.one,Value.oneCell',tagOf,AV.isApp,strV,strS,bolV,bolS,slcV,AV.isSlD,asrtS,AV.dcells,D.cells?,stcV,stcS,leafOk,eqDs,eqD,packA,D.val?,↓reduceIte,reduceCtorEq,Nat.reduceAdd,Nat.reduceSub,Nat.reduceMul,List.reduceReplicate,Nat.reduceLeDiff,Nat.reduceLT,Nat.reduceBEq,Nat.reduceEqDiff,Int.reduceNeg,Int.reduceEq,Int.reduceLE,Int.reduceLT,tfb,ctz24,x24_37,x24_37_m1,x24_39,x24_39_m1,x24_40,x24_41,eq_self, hlt', q1b, hx40, q2, List.length_nil, List.map_nil, List.length_map]
      and_intros <;> first | omega | (rw [hs, List.map_append]; rfl)
    · have hs := hnn k hlt (by unfold ableP; rw [decide_eq_false q2]; simp)
      have q2b : (((why evs (mem.getD k default) d).length : Int) == 0) = false := by
        cases hwy : why evs (mem.getD k default) d with
        | nil => exact absurd hwy q2
        | cons a b => simp only [List.length_cons]; exact beq_false_of_ne (by omega)
      simp (maxSteps := 4000000) +contextual (disch := first | omega | exact qdb_ok (by kernel_rfl) | exact okb_ok (by kernel_rfl)) only [bw1,bw2,bw3,bw4,bw5,bw6,bw7,bc0,bc1,bc2,bc3,bc4,bc5,bc6,bc7,bb0,setPs,AV.owns,AV.datF,AV.frz,AV.cpy,ifV,isEqB,nilV,nilX,AV.isNilS,AV.isNoRows,wk,dclo,datOf,binIs,addF,AV.isPtr,idxV,AV.isSl,AV.isSlice,AV.rows,ps,pv,extV,extS,AV.outs,AV.outF,packD,AV.dl,fieldV,fieldS,AV.cells?,AV.upr,AV.menc,AV.one,D.one,Value.oneCell',tagOf,AV.isApp,strV,strS,bolV,bolS,slcV,AV.isSlD,asrtS,AV.dcells,D.cells?,stcV,stcS,leafOk,eqDs,eqD,packA,D.val?,↓reduceIte,reduceCtorEq,Nat.reduceAdd,Nat.reduceSub,Nat.reduceMul,List.reduceReplicate,Nat.reduceLeDiff,Nat.reduceLT,Nat.reduceBEq,Nat.reduceEqDiff,Int.reduceNeg,Int.reduceEq,Int.reduceLE,Int.reduceLT,tfb,ctz24,x24_37,x24_37_m1,x24_39,x24_39_m1,x24_40,x24_41,eq_self, hlt', q1b, hx40, q2b, hs]
      and_intros <;> omega
  · have hlt' : ¬ (k : Int) < mem.length := by omega
    obtain rfl : k = mem.length := by omega
    simp (maxSteps := 4000000) +contextual (disch := first | omega | exact qdb_ok (by kernel_rfl) | exact okb_ok (by kernel_rfl)) only [bw1,bw2,bw3,bw4,bw5,bw6,bw7,bc0,bc1,bc2,bc3,bc4,bc5,bc6,bc7,bb0,setPs,AV.owns,AV.datF,AV.frz,AV.cpy,ifV,isEqB,nilV,nilX,AV.isNilS,AV.isNoRows,wk,dclo,datOf,binIs,addF,AV.isPtr,idxV,AV.isSl,AV.isSlice,AV.rows,ps,pv,extV,extS,AV.outs,AV.outF,packD,AV.dl,fieldV,fieldS,AV.cells?,AV.upr,AV.menc,AV.one,D.one,Value.oneCell',tagOf,AV.isApp,strV,strS,bolV,bolS,slcV,AV.isSlD,asrtS,AV.dcells,D.cells?,stcV,stcS,leafOk,eqDs,eqD,packA,D.val?,↓reduceIte,reduceCtorEq,Nat.reduceAdd,Nat.reduceSub,Nat.reduceMul,List.reduceReplicate,Nat.reduceLeDiff,Nat.reduceLT,Nat.reduceBEq,Nat.reduceEqDiff,Int.reduceNeg,Int.reduceEq,Int.reduceLE,Int.reduceLT,tfb,ctz24,x24_37,x24_37_m1,x24_39,x24_39_m1,x24_40,x24_41,eq_self, hlt', Int.lt_irrefl]
def ent24 (args : List AV) (K : AV → List AV → Sto → Prop) (e : List AV) (s : Sto) : Prop := ent (α := (List Ev) × (Int) × (Int)) (fun aa => [.sl 5 (aa.1.map Ev.c), .i aa.2.1, .i aa.2.2]) (fun aa => ShsOk aa.1) (fun aa => .tup [.sl 1 ((ableR aa.1 aa.2.1 aa.2.2).1.map ic), .i (ableR aa.1 aa.2.1 aa.2.2).2]) args K e s
theorem ent24_ok {args : List AV} {K : AV → List AV → Sto → Prop} {Q : Kt} {e : List AV} {s : Sto} (h : ent24 args K e s) : pcall Try.prog 24 args K Q e s := ent_ok (fun aa h => pf24 aa.1 aa.2.1 aa.2.2 h) h
theorem eq24 {l : List Ev} {c : Int} {d : Int} {KK : AV → List AV → Sto → Prop} {ee : List AV} {ss : Sto} : ent24 [.d (.sl 5 (l.map Ev.c)), .d (.i c), .d (.i d)] KK ee ss = ((ShsOk l) ∧ KK (.d (.tup [.sl 1 ((ableR l c d).1.map ic), .i (ableR l c d).2])) ee ss) := by
  unfold ent24; rw [ent_iff (l, c, d) (by intro b h; simpa [Prod.ext_iff, and_assoc, Int.ofNat_inj, ints_inj, evs_inj, mems_inj, ev_inj, mem_inj, st_inj] using h) rfl]; simp
theorem eqo24 {l : List Ev} {c : Int} {d : Int} {g1 el1 : Nat} {KK : AV → List AV → Sto → Prop} {ee : List AV} {ss : Sto} : ent24 [.own g1 el1 5 (l.map Ev.c), .d (.i c), .d (.i d)] KK ee ss = ((ShsOk l) ∧ (.tup [.sl 1 ((ableR l c d).1.map ic), .i (ableR l c d).2] : D).flat = true ∧ KK (.d (.tup [.sl 1 ((ableR l c d).1.map ic), .i (ableR l c d).2])) ee ss) := by
  unfold ent24; rw [ent_iff (l, c, d) (by intro b h; simpa [Prod.ext_iff, and_assoc, Int.ofNat_inj, ints_inj, evs_inj, mems_inj, ev_inj, mem_inj, st_inj] using h) rfl]; simp
end Go.Proofs.Ytohkngiflfkjjaa
