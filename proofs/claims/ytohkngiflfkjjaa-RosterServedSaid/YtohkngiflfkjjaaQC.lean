/- A part of the proof that the last text ends: what functions of the program do, told by plain data. -/
import Derived.Test.YtohkngiflfkjjaaQB
import Derived.Test.YtohkngiflfkjjaaRW
set_option linter.unusedVariables false
set_option linter.unusedSimpArgs false
namespace Go.Proofs.Ytohkngiflfkjjaa
open Go Go.E Go.Maps
set_option maxRecDepth 100000
set_option maxHeartbeats 16000000
/-! ### RosterServed -/
theorem play_err {l : List Ev} (h : (runR l).2.2 ≠ 0) : playR l = ([], ((runR l).2.1 : Int), (runR l).2.2) := by unfold playR; rw [if_neg h]
theorem play_ok {l : List Ev} (h : (runR l).2.2 = 0) : playR l = ((runR l).1.mem, ((runR l).2.1 : Int), 0) := by unfold playR; rw [if_pos h]
def O7 : Nat → Sch := fun id => if id = 17 then .one 0 (.one 1 (.one 2 (.one 3 (.one 4 (.one 5 (.one 6 (.one 7 (.one 8 (.one 9 (.one 10 (.one 11 (.one 12 (.one 13 (.one 14 (.one 15 (.done)))))))))))))))) else if id = 27 then .one 0 (.one 1 (.one 2 (.one 3 (.one 4 (.one 5 (.one 6 (.one 7 (.done)))))))) else if id = 41 then .one 0 (.one 1 (.one 2 (.one 3 (.one 4 (.one 5 (.one 6 (.one 7 (.one 8 (.one 9 (.one 10 (.one 11 (.one 12 (.one 13 (.one 14 (.done))))))))))))))) else .done
theorem O7_17 : O7 17 = .one 0 (.one 1 (.one 2 (.one 3 (.one 4 (.one 5 (.one 6 (.one 7 (.one 8 (.one 9 (.one 10 (.one 11 (.one 12 (.one 13 (.one 14 (.one 15 (.done)))))))))))))))) := rfl
theorem O7_27 : O7 27 = .one 0 (.one 1 (.one 2 (.one 3 (.one 4 (.one 5 (.one 6 (.one 7 (.done)))))))) := rfl
theorem O7_41 : O7 41 = .one 0 (.one 1 (.one 2 (.one 3 (.one 4 (.one 5 (.one 6 (.one 7 (.one 8 (.one 9 (.one 10 (.one 11 (.one 12 (.one 13 (.one 14 (.done))))))))))))))) := rfl
theorem ho7 : Try.f7.body.map (okO O7) = some true := by kernel_rfl
def Cf7 : Nat → List AV → (AV → List AV → Sto → Prop) → Kt → List AV → Sto → Prop := fun f args K Q e s => match f with
  | 12 => ent12 args K e s
  | 18 => ent18 args K e s
  | 19 => ent19 args K e s
  | _ => False
def Ct7 : CT := { f := Cf7, y := noYld, z := fun d => false }
theorem ctz7 {d : Nat} : CT.z Ct7 d = (false) := id rfl
theorem Ct7_ok : Ct7.ok Try.prog := ok_of_f (fun f args K Q e s h => by
  have h : Cf7 f args K Q e s := h
  unfold Cf7 at h; split at h
  · exact ent12_ok h
  · exact ent18_ok h
  · exact ent19_ok h
  · exact h.elim) (fun _ _ _ _ _ _ _ _ _ h => h)
theorem x7_12 {l : List Ev} {KK : AV → List AV → Sto → Prop} {QQ : Kt} {ii : At KK} {jj : At QQ} {ee : List AV} {ss : Sto} : xC Ct7 12 [.d (.sl 5 (l.map Ev.c))] KK QQ ii jj ee ss = ((ShsOk l) ∧ KK (.d (.tup [.sl 5 ((playR l).1.map Mem.c), .i (playR l).2.1, .i (playR l).2.2])) ee ss) := eq12
theorem x7_12_m1 {l : List Ev} {g1 el1 : Nat} {KK : AV → List AV → Sto → Prop} {QQ : Kt} {ii : At KK} {jj : At QQ} {ee : List AV} {ss : Sto} : xC Ct7 12 [.own g1 el1 5 (l.map Ev.c)] KK QQ ii jj ee ss = ((ShsOk l) ∧ KK (.d (.tup [.sl 5 ((playR l).1.map Mem.c), .i (playR l).2.1, .i (playR l).2.2])) ee ss) := eqo12
theorem x7_18 {l : List Ev} {m : Int} {KK : AV → List AV → Sto → Prop} {QQ : Kt} {ii : At KK} {jj : At QQ} {ee : List AV} {ss : Sto} : xC Ct7 18 [.d (.sl 5 (l.map Ev.c)), .d (.i m)] KK QQ ii jj ee ss = (KK (.d (.b (manyB l m))) ee ss) := eq18
theorem x7_18_m1 {l : List Ev} {m : Int} {g1 el1 : Nat} {KK : AV → List AV → Sto → Prop} {QQ : Kt} {ii : At KK} {jj : At QQ} {ee : List AV} {ss : Sto} : xC Ct7 18 [.own g1 el1 5 (l.map Ev.c), .d (.i m)] KK QQ ii jj ee ss = ((.b (manyB l m) : D).flat = true ∧ KK (.d (.b (manyB l m))) ee ss) := eqo18
theorem x7_19  {KK : AV → List AV → Sto → Prop} {QQ : Kt} {ii : At KK} {jj : At QQ} {ee : List AV} {ss : Sto} : xC Ct7 19 [] KK QQ ii jj ee ss = (KK (.d (.b true)) ee ss) := eq19
theorem c7 : callable Try.prog 7 = true := by kernel_rfl
theorem pf7 (l : List Ev) : PF Try.prog 7 [.sl 5 (l.map Ev.c)] (fun zz => zz = .ret (.b true)) := by
  by_cases c : manyB l 60 = true
  · refine PF_nil (PF_start (O := O7) Ct7_ok hmix ho7 Try.func7 c7 rfl Try.ntmps7 Try.results7 ?_)
    simp (maxSteps := 4000000) +contextual (disch := first | omega | exact qdb_ok (by kernel_rfl) | exact okb_ok (by kernel_rfl)) only [bw1,bw2,bw3,bw4,bw5,bw6,bw7,bc0,bc1,bc2,bc3,bc4,bc5,bc6,bc7,bb0,setPs,AV.owns,AV.datF,AV.frz,AV.cpy,ifV,isEqB,nilV,nilX,AV.isNilS,AV.isNoRows,wk,dclo,datOf,binIs,addF,AV.isPtr,idxV,AV.isSl,AV.isSlice,AV.rows,ps,pv,extV,extS,AV.outs,AV.outF,packD,AV.dl,fieldV,fieldS,AV.cells?,AV.upr,AV.menc,AV.one,D.one,Value.oneCell',tagOf,AV.isApp,strV,strS,bolV,bolS,slcV,AV.isSlD,asrtS,AV.dcells,D.cells?,stcV,stcS,leafOk,eqDs,eqD,packA,D.val?,↓reduceIte,reduceCtorEq,Nat.reduceAdd,Nat.reduceSub,Nat.reduceMul,List.reduceReplicate,Nat.reduceLeDiff,Nat.reduceLT,Nat.reduceBEq,Nat.reduceEqDiff,Int.reduceNeg,Int.reduceEq,Int.reduceLE,Int.reduceLT,tfb,ctz7,O7_17,O7_27,O7_41,x7_12,x7_12_m1,x7_18,x7_18_m1,x7_19,c]
  obtain ⟨hl, hl2, hsh, _⟩ := many_no c
  by_cases he : (runR l).2.2 = 0
  case neg =>
    have hp := play_err he
    have heb : ((runR l).2.2 != 0) = true := by simpa using he
    refine PF_nil (PF_start (O := O7) Ct7_ok hmix ho7 Try.func7 c7 rfl Try.ntmps7 Try.results7 ?_)
    simp (maxSteps := 4000000) +contextual (disch := first | omega | exact qdb_ok (by kernel_rfl) | exact okb_ok (by kernel_rfl)) only [bw1,bw2,bw3,bw4,bw5,bw6,bw7,bc0,bc1,bc2,bc3,bc4,bc5,bc6,bc7,bb0,setPs,AV.owns,AV.datF,AV.frz,AV.cpy,ifV,isEqB,nilV,nilX,AV.isNilS,AV.isNoRows,wk,dclo,datOf,binIs,addF,AV.isPtr,idxV,AV.isSl,AV.isSlice,AV.rows,ps,pv,extV,extS,AV.outs,AV.outF,packD,AV.dl,fieldV,fieldS,AV.cells?,AV.upr,AV.menc,AV.one,D.one,Value.oneCell',tagOf,AV.isApp,strV,strS,bolV,bolS,slcV,AV.isSlD,asrtS,AV.dcells,D.cells?,stcV,stcS,leafOk,eqDs,eqD,packA,D.val?,↓reduceIte,reduceCtorEq,Nat.reduceAdd,Nat.reduceSub,Nat.reduceMul,List.reduceReplicate,Nat.reduceLeDiff,Nat.reduceLT,Nat.reduceBEq,Nat.reduceEqDiff,Int.reduceNeg,Int.reduceEq,Int.reduceLE,Int.reduceLT,tfb,ctz7,O7_17,O7_27,O7_41,x7_12,x7_12_m1,x7_18,x7_18_m1,x7_19,c, hl, hp, heb, List.length_nil]
    try trace_state
  have hp := play_ok he
  obtain ⟨hr, hl3, hacc⟩ := run_ok he
  have hsl := hl.2
  have hS := stJ_srt (l := l) (j := l.length) hacc
  have hml := mem_jn (l := l) (Nat.le_refl _) hacc
  have hj0 : jnN l 0 = 0 := by simp [jnN]
  rw [hr] at hp
  simp only at hp
  refine PF_nil (PF_start (O := O7) Ct7_ok hmix ho7 Try.func7 c7 rfl Try.ntmps7 Try.results7 ?_)
  simp (maxSteps := 4000000) +contextual (disch := first | omega | exact qdb_ok (by kernel_rfl) | exact okb_ok (by kernel_rfl)) only [bw1,bw2,bw3,bw4,bw5,bw6,bw7,bc0,bc1,bc2,bc3,bc4,bc5,bc6,bc7,bb0,setPs,AV.owns,AV.datF,AV.frz,AV.cpy,ifV,isEqB,nilV,nilX,AV.isNilS,AV.isNoRows,wk,dclo,datOf,binIs,addF,AV.isPtr,idxV,AV.isSl,AV.isSlice,AV.rows,ps,pv,extV,extS,AV.outs,AV.outF,packD,AV.dl,fieldV,fieldS,AV.cells?,AV.upr,AV.menc,AV.one,D.one,Value.oneCell',tagOf,AV.isApp,strV,strS,bolV,bolS,slcV,AV.isSlD,asrtS,AV.dcells,D.cells?,stcV,stcS,leafOk,eqDs,eqD,packA,D.val?,↓reduceIte,reduceCtorEq,Nat.reduceAdd,Nat.reduceSub,Nat.reduceMul,List.reduceReplicate,Nat.reduceLeDiff,Nat.reduceLT,Nat.reduceBEq,Nat.reduceEqDiff,Int.reduceNeg,Int.reduceEq,Int.reduceLE,Int.reduceLT,tfb,ctz7,O7_17,O7_27,O7_41,x7_12,x7_12_m1,x7_18,x7_18_m1,x7_19,c, hl, hp, bne_self_eq_false]
  refine loop_s (O := O7) (tb := 0) Ct7_ok hmix (by kernel_rfl) (σ := Nat) (fun i => [(6, .i (jnN l i : Int)), (7, .i i)]) (fun i => i ≤ l.length) (fun i => l.length - i) (fun i => i + 1) 0 (Nat.zero_le _) ?_ ?_
  · simp (maxSteps := 4000000) +contextual (disch := first | omega | exact qdb_ok (by kernel_rfl) | exact okb_ok (by kernel_rfl)) only [bw1,bw2,bw3,bw4,bw5,bw6,bw7,bc0,bc1,bc2,bc3,bc4,bc5,bc6,bc7,bb0,setPs,AV.owns,AV.datF,AV.frz,AV.cpy,ifV,isEqB,nilV,nilX,AV.isNilS,AV.isNoRows,wk,dclo,datOf,binIs,addF,AV.isPtr,idxV,AV.isSl,AV.isSlice,AV.rows,ps,pv,extV,extS,AV.outs,AV.outF,packD,AV.dl,fieldV,fieldS,AV.cells?,AV.upr,AV.menc,AV.one,D.one,Value.oneCell',tagOf,AV.isApp,strV,strS,bolV,bolS,slcV,AV.isSlD,asrtS,AV.dcells,D.cells?,stcV,stcS,leafOk,eqDs,eqD,packA,D.val?,↓reduceIte,reduceCtorEq,Nat.reduceAdd,Nat.reduceSub,Nat.reduceMul,List.reduceReplicate,Nat.reduceLeDiff,Nat.reduceLT,Nat.reduceBEq,Nat.reduceEqDiff,Int.reduceNeg,Int.reduceEq,Int.reduceLE,Int.reduceLT,tfb,ctz7,O7_17,O7_27,O7_41,x7_12,x7_12_m1,x7_18,x7_18_m1,x7_19,hj0]
    try rfl
  intro i hi
  by_cases hlt : i < l.length
  · have hlt' : (i : Int) < l.length := by omega
    have hjl := jnN_le (l := l) (j := i)
    by_cases k0 : (l.getD i default).kind = 0
    · have k0b : ((l.getD i default).kind == 0) = true := by simpa using k0
      have hy := jnN_yes hlt k0
      simp (maxSteps := 4000000) +contextual (disch := first | omega | exact qdb_ok (by kernel_rfl) | exact okb_ok (by kernel_rfl)) only [bw1,bw2,bw3,bw4,bw5,bw6,bw7,bc0,bc1,bc2,bc3,bc4,bc5,bc6,bc7,bb0,setPs,AV.owns,AV.datF,AV.frz,AV.cpy,ifV,isEqB,nilV,nilX,AV.isNilS,AV.isNoRows,wk,dclo,datOf,binIs,addF,AV.isPtr,idxV,AV.isSl,AV.isSlice,AV.rows,ps,pv,extV,extS,AV.outs,AV.outF,packD,AV.dl,fieldV,fieldS,AV.cells?,AV.upr,AV.menc,AV.one,D.one,Value.oneCell',tagOf,AV.isApp,strV,strS,bolV,bolS,slcV,AV.isSlD,asrtS,AV.dcells,D.cells?,stcV,stcS,leafOk,eqDs,eqD,packA,D.val?,↓reduceIte,reduceCtorEq,Nat.reduceAdd,Nat.reduceSub,Nat.reduceMul,List.reduceReplicate,Nat.reduceLeDiff,Nat.reduceLT,Nat.reduceBEq,Nat.reduceEqDiff,Int.reduceNeg,Int.reduceEq,Int.reduceLE,Int.reduceLT,tfb,ctz7,O7_17,O7_27,O7_41,x7_12,x7_12_m1,x7_18,x7_18_m1,x7_19,eq_self, hlt', k0b]
      exact ⟨by omega, ⟨by omega, by omega⟩, by rw [hy]; rfl⟩
    · have k0b : ((l.getD i default).kind == 0) = false := by simpa using k0
      have hy := jnN_no hlt k0
      simp (maxSteps := 4000000) +contextual (disch := first | omega | exact qdb_ok (by kernel_rfl) | exact okb_ok (by kernel_rfl)) only [bw1,bw2,bw3,bw4,bw5,bw6,bw7,bc0,bc1,bc2,bc3,bc4,bc5,bc6,bc7,bb0,setPs,AV.owns,AV.datF,AV.frz,AV.cpy,ifV,isEqB,nilV,nilX,AV.isNilS,AV.isNoRows,wk,dclo,datOf,binIs,addF,AV.isPtr,idxV,AV.isSl,AV.isSlice,AV.rows,ps,pv,extV,extS,AV.outs,AV.outF,packD,AV.dl,fieldV,fieldS,AV.cells?,AV.upr,AV.menc,AV.one,D.one,Value.oneCell',tagOf,AV.isApp,strV,strS,bolV,bolS,slcV,AV.isSlD,asrtS,AV.dcells,D.cells?,stcV,stcS,leafOk,eqDs,eqD,packA,D.val?,↓reduceIte,reduceCtorEq,Nat.reduceAdd,Nat.reduceSub,Nat.reduceMul,List.reduceReplicate,Nat.reduceLeDiff,Nat.reduceLT,Nat.reduceBEq,Nat.reduceEqDiff,Int.reduceNeg,Int.reduceEq,Int.reduceLE,Int.reduceLT,tfb,ctz7,O7_17,O7_27,O7_41,x7_12,x7_12_m1,x7_18,x7_18_m1,x7_19,eq_self, hlt', k0b]
      exact ⟨by omega, ⟨by omega, by omega⟩, by rw [hy]⟩
  obtain rfl : i = l.length := by omega
  have hmb : ((jnN l l.length : Int) != ((stJ l l.length).mem.length : Int)) = false := by rw [hml]; simp
  simp (maxSteps := 4000000) +contextual (disch := first | omega | exact qdb_ok (by kernel_rfl) | exact okb_ok (by kernel_rfl)) only [bw1,bw2,bw3,bw4,bw5,bw6,bw7,bc0,bc1,bc2,bc3,bc4,bc5,bc6,bc7,bb0,setPs,AV.owns,AV.datF,AV.frz,AV.cpy,ifV,isEqB,nilV,nilX,AV.isNilS,AV.isNoRows,wk,dclo,datOf,binIs,addF,AV.isPtr,idxV,AV.isSl,AV.isSlice,AV.rows,ps,pv,extV,extS,AV.outs,AV.outF,packD,AV.dl,fieldV,fieldS,AV.cells?,AV.upr,AV.menc,AV.one,D.one,Value.oneCell',tagOf,AV.isApp,strV,strS,bolV,bolS,slcV,AV.isSlD,asrtS,AV.dcells,D.cells?,stcV,stcS,leafOk,eqDs,eqD,packA,D.val?,↓reduceIte,reduceCtorEq,Nat.reduceAdd,Nat.reduceSub,Nat.reduceMul,List.reduceReplicate,Nat.reduceLeDiff,Nat.reduceLT,Nat.reduceBEq,Nat.reduceEqDiff,Int.reduceNeg,Int.reduceEq,Int.reduceLE,Int.reduceLT,tfb,ctz7,O7_17,O7_27,O7_41,x7_12,x7_12_m1,x7_18,x7_18_m1,x7_19,eq_self, Int.lt_irrefl, hmb]
  have hM : ∀ k, k < (stJ l l.length).mem.length → vwJ l ((stJ l l.length).mem.getD k default).person l.length = (((stJ l l.length).mem.getD k default).ban, ((stJ l l.length).mem.getD k default).stage, ((stJ l l.length).mem.getD k default).since, ((stJ l l.length).mem.getD k default).club) := fun k hk => by
    unfold vwJ
    rw [(mo_some hS).2 ⟨by rw [at_lt hk]; exact List.getElem_mem _, rfl⟩]; rfl
  have hord : ∀ k, 0 < k → k < (stJ l l.length).mem.length → ((stJ l l.length).mem.getD (k - 1) default).person < ((stJ l l.length).mem.getD k default).person := fun k h0 hk => by
    rw [at_lt hk, at_lt (by omega)]
    exact List.pairwise_iff_getElem.1 hS (k - 1) k (by omega) hk (by omega)
  have hlen : (stJ l l.length).mem.length ≤ 256 := by have := jnN_le (l := l) (j := l.length); omega
  generalize (stJ l l.length).mem = M at hM hord hlen
  refine loop_s (O := O7) (tb := 0) Ct7_ok hmix (by kernel_rfl) (σ := Nat) (fun k => [(8, .i k)]) (fun k => k ≤ M.length) (fun k => M.length - k) (fun k => k + 1) 0 (Nat.zero_le _) ?_ ?_
  · simp (maxSteps := 4000000) +contextual (disch := first | omega | exact qdb_ok (by kernel_rfl) | exact okb_ok (by kernel_rfl)) only [bw1,bw2,bw3,bw4,bw5,bw6,bw7,bc0,bc1,bc2,bc3,bc4,bc5,bc6,bc7,bb0,setPs,AV.owns,AV.datF,AV.frz,AV.cpy,ifV,isEqB,nilV,nilX,AV.isNilS,AV.isNoRows,wk,dclo,datOf,binIs,addF,AV.isPtr,idxV,AV.isSl,AV.isSlice,AV.rows,ps,pv,extV,extS,AV.outs,AV.outF,packD,AV.dl,fieldV,fieldS,AV.cells?,AV.upr,AV.menc,AV.one,D.one,Value.oneCell',tagOf,AV.isApp,strV,strS,bolV,bolS,slcV,AV.isSlD,asrtS,AV.dcells,D.cells?,stcV,stcS,leafOk,eqDs,eqD,packA,D.val?,↓reduceIte,reduceCtorEq,Nat.reduceAdd,Nat.reduceSub,Nat.reduceMul,List.reduceReplicate,Nat.reduceLeDiff,Nat.reduceLT,Nat.reduceBEq,Nat.reduceEqDiff,Int.reduceNeg,Int.reduceEq,Int.reduceLE,Int.reduceLT,tfb,ctz7,O7_17,O7_27,O7_41,x7_12,x7_12_m1,x7_18,x7_18_m1,x7_19]
    try rfl
  intro k hk
  by_cases hlt : k < M.length
  case neg =>
    obtain rfl : k = M.length := by omega
    simp (maxSteps := 4000000) +contextual (disch := first | omega | exact qdb_ok (by kernel_rfl) | exact okb_ok (by kernel_rfl)) only [bw1,bw2,bw3,bw4,bw5,bw6,bw7,bc0,bc1,bc2,bc3,bc4,bc5,bc6,bc7,bb0,setPs,AV.owns,AV.datF,AV.frz,AV.cpy,ifV,isEqB,nilV,nilX,AV.isNilS,AV.isNoRows,wk,dclo,datOf,binIs,addF,AV.isPtr,idxV,AV.isSl,AV.isSlice,AV.rows,ps,pv,extV,extS,AV.outs,AV.outF,packD,AV.dl,fieldV,fieldS,AV.cells?,AV.upr,AV.menc,AV.one,D.one,Value.oneCell',tagOf,AV.isApp,strV,strS,bolV,bolS,slcV,AV.isSlD,asrtS,AV.dcells,D.cells?,stcV,stcS,leafOk,eqDs,eqD,packA,D.val?,↓reduceIte,reduceCtorEq,Nat.reduceAdd,Nat.reduceSub,Nat.reduceMul,List.reduceReplicate,Nat.reduceLeDiff,Nat.reduceLT,Nat.reduceBEq,Nat.reduceEqDiff,Int.reduceNeg,Int.reduceEq,Int.reduceLE,Int.reduceLT,tfb,ctz7,O7_17,O7_27,O7_41,x7_12,x7_12_m1,x7_18,x7_18_m1,x7_19,eq_self, Int.lt_irrefl]
  have hlt' : (k : Int) < M.length := by omega
  have hMk := hM k hlt
  have e1 : 0 < k → (k : Int) - 1 = ((k - 1 : Nat) : Int) := fun h => by omega
  have hok : 0 < k → ¬ (M.getD k default).person ≤ (M.getD (k - 1) default).person := fun h => by have := hord k h hlt; omega
  obtain ⟨W, hW0, hWs, hWr, hWl⟩ : ∃ W : Nat → Int × Int × Int × Int, W 0 = (0, 0, 0, -1) ∧ (∀ j, j < l.length → W (j + 1) = stepV (l.getD j default) (M.getD k default).person (W j)) ∧ (∀ j, j ≤ l.length → (0 ≤ (W j).1 ∧ (W j).1 ≤ 20 * (j : Int)) ∧ (0 ≤ (W j).2.1 ∧ (W j).2.1 ≤ 6)) ∧ W l.length = ((M.getD k default).ban, (M.getD k default).stage, (M.getD k default).since, (M.getD k default).club) :=
    ⟨vwJ l (M.getD k default).person, vwJ_zero, fun j hj => vwJ_step fun i hi => hacc i (by omega), fun j hj => vwJ_rng hsl hj fun i hi => hacc i (by omega), hMk⟩
  have hevk : ∀ j, j < l.length → evOk (l.getD j default) = true := fun j hj => (hacc j hj).1
  have hin : ∀ (Q : Prop), Q → Q := fun _ h => h
  clear hM hMk hacc hS hr hp hord
  by_cases z : 0 < k
  case' pos =>
    have z' : (0 : Int) < k := by omega
    have e1 := e1 z
    have hok := hok z
  case' neg =>
    have z' : ¬ (0 : Int) < k := by omega
    have e1 := z'
    have hok := z'
  all_goals
    simp (maxSteps := 4000000) +contextual (disch := first | omega | exact qdb_ok (by kernel_rfl) | exact okb_ok (by kernel_rfl)) only [bw1,bw2,bw3,bw4,bw5,bw6,bw7,bc0,bc1,bc2,bc3,bc4,bc5,bc6,bc7,bb0,setPs,AV.owns,AV.datF,AV.frz,AV.cpy,ifV,isEqB,nilV,nilX,AV.isNilS,AV.isNoRows,wk,dclo,datOf,binIs,addF,AV.isPtr,idxV,AV.isSl,AV.isSlice,AV.rows,ps,pv,extV,extS,AV.outs,AV.outF,packD,AV.dl,fieldV,fieldS,AV.cells?,AV.upr,AV.menc,AV.one,D.one,Value.oneCell',tagOf,AV.isApp,strV,strS,bolV,bolS,slcV,AV.isSlD,asrtS,AV.dcells,D.cells?,stcV,stcS,leafOk,eqDs,eqD,packA,D.val?,↓reduceIte,reduceCtorEq,Nat.reduceAdd,Nat.reduceSub,Nat.reduceMul,List.reduceReplicate,Nat.reduceLeDiff,Nat.reduceLT,Nat.reduceBEq,Nat.reduceEqDiff,Int.reduceNeg,Int.reduceEq,Int.reduceLE,Int.reduceLT,tfb,ctz7,O7_17,O7_27,O7_41,x7_12,x7_12_m1,x7_18,x7_18_m1,x7_19,eq_self, hlt', z', e1, hok]
    try refine ⟨by omega, ⟨by omega, by omega⟩, ?_⟩
    refine loop_s (O := O7) (tb := 0) Ct7_ok hmix (by kernel_rfl) (σ := Nat) (fun j => [(9, .i (W j).1), (10, .i (W j).2.1), (11, .i (W j).2.2.1), (12, .i (W j).2.2.2), (13, .i j)]) (fun j => j ≤ l.length) (fun j => l.length - j) (fun j => j + 1) 0 (Nat.zero_le _) ?_ ?_
    · simp (maxSteps := 4000000) +contextual (disch := first | omega | exact qdb_ok (by kernel_rfl) | exact okb_ok (by kernel_rfl)) only [bw1,bw2,bw3,bw4,bw5,bw6,bw7,bc0,bc1,bc2,bc3,bc4,bc5,bc6,bc7,bb0,setPs,AV.owns,AV.datF,AV.frz,AV.cpy,ifV,isEqB,nilV,nilX,AV.isNilS,AV.isNoRows,wk,dclo,datOf,binIs,addF,AV.isPtr,idxV,AV.isSl,AV.isSlice,AV.rows,ps,pv,extV,extS,AV.outs,AV.outF,packD,AV.dl,fieldV,fieldS,AV.cells?,AV.upr,AV.menc,AV.one,D.one,Value.oneCell',tagOf,AV.isApp,strV,strS,bolV,bolS,slcV,AV.isSlD,asrtS,AV.dcells,D.cells?,stcV,stcS,leafOk,eqDs,eqD,packA,D.val?,↓reduceIte,reduceCtorEq,Nat.reduceAdd,Nat.reduceSub,Nat.reduceMul,List.reduceReplicate,Nat.reduceLeDiff,Nat.reduceLT,Nat.reduceBEq,Nat.reduceEqDiff,Int.reduceNeg,Int.reduceEq,Int.reduceLE,Int.reduceLT,tfb,ctz7,O7_17,O7_27,O7_41,x7_12,x7_12_m1,x7_18,x7_18_m1,x7_19,hW0]
      try rfl
    intro j hj
    by_cases hlj : j < l.length
    case neg =>
      obtain rfl : j = l.length := by omega
      simp (maxSteps := 4000000) +contextual (disch := first | omega | exact qdb_ok (by kernel_rfl) | exact okb_ok (by kernel_rfl)) only [bw1,bw2,bw3,bw4,bw5,bw6,bw7,bc0,bc1,bc2,bc3,bc4,bc5,bc6,bc7,bb0,setPs,AV.owns,AV.datF,AV.frz,AV.cpy,ifV,isEqB,nilV,nilX,AV.isNilS,AV.isNoRows,wk,dclo,datOf,binIs,addF,AV.isPtr,idxV,AV.isSl,AV.isSlice,AV.rows,ps,pv,extV,extS,AV.outs,AV.outF,packD,AV.dl,fieldV,fieldS,AV.cells?,AV.upr,AV.menc,AV.one,D.one,Value.oneCell',tagOf,AV.isApp,strV,strS,bolV,bolS,slcV,AV.isSlD,asrtS,AV.dcells,D.cells?,stcV,stcS,leafOk,eqDs,eqD,packA,D.val?,↓reduceIte,reduceCtorEq,Nat.reduceAdd,Nat.reduceSub,Nat.reduceMul,List.reduceReplicate,Nat.reduceLeDiff,Nat.reduceLT,Nat.reduceBEq,Nat.reduceEqDiff,Int.reduceNeg,Int.reduceEq,Int.reduceLE,Int.reduceLT,tfb,ctz7,O7_17,O7_27,O7_41,x7_12,x7_12_m1,x7_18,x7_18_m1,x7_19,eq_self, Int.lt_irrefl, hWl, hlt']
      exact ⟨by omega, by omega, by omega, by omega⟩
    have hlj' : (j : Int) < l.length := by omega
    have hstp := hWs j hlj
    have hrg := hWr j hj
    have hx := hevk j hlj
    have hxr := ev_rng hx
    have hxk := ev_kind hx
    have hxd := ev_day hx
    by_cases k6 : (l.getD j default).kind = 6
    · have k6b : ((l.getD j default).kind == 6) = true := by simpa using k6
      by_cases q : (l.getD j default).n = (W j).2.2.2
      · have qb : ((l.getD j default).n == (W j).2.2.2) = true := by simpa using q
        have hst : stepV (l.getD j default) (M.getD k default).person (W j) = (max 0 ((W j).1 - 1), (W j).2) := by unfold stepV; rw [if_pos k6, if_pos q]
        rw [hst] at hstp
        simp (maxSteps := 4000000) +contextual (disch := first | omega | exact qdb_ok (by kernel_rfl) | exact okb_ok (by kernel_rfl)) only [bw1,bw2,bw3,bw4,bw5,bw6,bw7,bc0,bc1,bc2,bc3,bc4,bc5,bc6,bc7,bb0,setPs,AV.owns,AV.datF,AV.frz,AV.cpy,ifV,isEqB,nilV,nilX,AV.isNilS,AV.isNoRows,wk,dclo,datOf,binIs,addF,AV.isPtr,idxV,AV.isSl,AV.isSlice,AV.rows,ps,pv,extV,extS,AV.outs,AV.outF,packD,AV.dl,fieldV,fieldS,AV.cells?,AV.upr,AV.menc,AV.one,D.one,Value.oneCell',tagOf,AV.isApp,strV,strS,bolV,bolS,slcV,AV.isSlD,asrtS,AV.dcells,D.cells?,stcV,stcS,leafOk,eqDs,eqD,packA,D.val?,↓reduceIte,reduceCtorEq,Nat.reduceAdd,Nat.reduceSub,Nat.reduceMul,List.reduceReplicate,Nat.reduceLeDiff,Nat.reduceLT,Nat.reduceBEq,Nat.reduceEqDiff,Int.reduceNeg,Int.reduceEq,Int.reduceLE,Int.reduceLT,tfb,ctz7,O7_17,O7_27,O7_41,x7_12,x7_12_m1,x7_18,x7_18_m1,x7_19,eq_self, hlj', hlt', k6b, qb]
        try simp only [hstp]
        and_intros <;> first | omega | rfl | trivial
      · have qb : ((l.getD j default).n == (W j).2.2.2) = false := by simpa using q
        have hst : stepV (l.getD j default) (M.getD k default).person (W j) = W j := by unfold stepV; rw [if_pos k6, if_neg q]
        rw [hst] at hstp
        simp (maxSteps := 4000000) +contextual (disch := first | omega | exact qdb_ok (by kernel_rfl) | exact okb_ok (by kernel_rfl)) only [bw1,bw2,bw3,bw4,bw5,bw6,bw7,bc0,bc1,bc2,bc3,bc4,bc5,bc6,bc7,bb0,setPs,AV.owns,AV.datF,AV.frz,AV.cpy,ifV,isEqB,nilV,nilX,AV.isNilS,AV.isNoRows,wk,dclo,datOf,binIs,addF,AV.isPtr,idxV,AV.isSl,AV.isSlice,AV.rows,ps,pv,extV,extS,AV.outs,AV.outF,packD,AV.dl,fieldV,fieldS,AV.cells?,AV.upr,AV.menc,AV.one,D.one,Value.oneCell',tagOf,AV.isApp,strV,strS,bolV,bolS,slcV,AV.isSlD,asrtS,AV.dcells,D.cells?,stcV,stcS,leafOk,eqDs,eqD,packA,D.val?,↓reduceIte,reduceCtorEq,Nat.reduceAdd,Nat.reduceSub,Nat.reduceMul,List.reduceReplicate,Nat.reduceLeDiff,Nat.reduceLT,Nat.reduceBEq,Nat.reduceEqDiff,Int.reduceNeg,Int.reduceEq,Int.reduceLE,Int.reduceLT,tfb,ctz7,O7_17,O7_27,O7_41,x7_12,x7_12_m1,x7_18,x7_18_m1,x7_19,eq_self, hlj', hlt', k6b, qb]
        try simp only [hstp]
        and_intros <;> first | omega | rfl | trivial
    have k6b : ((l.getD j default).kind == 6) = false := by simpa using k6
    by_cases hp : (l.getD j default).person = (M.getD k default).person
    case neg =>
      have hpb : ((l.getD j default).person != (M.getD k default).person) = true := by simpa using hp
      have hst : stepV (l.getD j default) (M.getD k default).person (W j) = W j := by unfold stepV; rw [if_neg k6, if_neg hp]
      rw [hst] at hstp
      simp (maxSteps := 4000000) +contextual (disch := first | omega | exact qdb_ok (by kernel_rfl) | exact okb_ok (by kernel_rfl)) only [bw1,bw2,bw3,bw4,bw5,bw6,bw7,bc0,bc1,bc2,bc3,bc4,bc5,bc6,bc7,bb0,setPs,AV.owns,AV.datF,AV.frz,AV.cpy,ifV,isEqB,nilV,nilX,AV.isNilS,AV.isNoRows,wk,dclo,datOf,binIs,addF,AV.isPtr,idxV,AV.isSl,AV.isSlice,AV.rows,ps,pv,extV,extS,AV.outs,AV.outF,packD,AV.dl,fieldV,fieldS,AV.cells?,AV.upr,AV.menc,AV.one,D.one,Value.oneCell',tagOf,AV.isApp,strV,strS,bolV,bolS,slcV,AV.isSlD,asrtS,AV.dcells,D.cells?,stcV,stcS,leafOk,eqDs,eqD,packA,D.val?,↓reduceIte,reduceCtorEq,Nat.reduceAdd,Nat.reduceSub,Nat.reduceMul,List.reduceReplicate,Nat.reduceLeDiff,Nat.reduceLT,Nat.reduceBEq,Nat.reduceEqDiff,Int.reduceNeg,Int.reduceEq,Int.reduceLE,Int.reduceLT,tfb,ctz7,O7_17,O7_27,O7_41,x7_12,x7_12_m1,x7_18,x7_18_m1,x7_19,eq_self, hlj', hlt', k6b, hpb]
      try simp only [hstp]
      and_intros <;> first | omega | rfl | trivial
    have hpb : ((l.getD j default).person != (M.getD k default).person) = false := by simpa using hp
    by_cases k0 : (l.getD j default).kind = 0
    · have k0b : ((l.getD j default).kind == 0) = true := by simpa using k0
      have hst : stepV (l.getD j default) (M.getD k default).person (W j) = ((W j).1, (W j).2.1, (W j).2.2.1, (l.getD j default).n) := by unfold stepV; rw [if_neg k6, if_pos hp, if_pos k0]
      rw [hst] at hstp
      simp (maxSteps := 4000000) +contextual (disch := first | omega | exact qdb_ok (by kernel_rfl) | exact okb_ok (by kernel_rfl)) only [bw1,bw2,bw3,bw4,bw5,bw6,bw7,bc0,bc1,bc2,bc3,bc4,bc5,bc6,bc7,bb0,setPs,AV.owns,AV.datF,AV.frz,AV.cpy,ifV,isEqB,nilV,nilX,AV.isNilS,AV.isNoRows,wk,dclo,datOf,binIs,addF,AV.isPtr,idxV,AV.isSl,AV.isSlice,AV.rows,ps,pv,extV,extS,AV.outs,AV.outF,packD,AV.dl,fieldV,fieldS,AV.cells?,AV.upr,AV.menc,AV.one,D.one,Value.oneCell',tagOf,AV.isApp,strV,strS,bolV,bolS,slcV,AV.isSlD,asrtS,AV.dcells,D.cells?,stcV,stcS,leafOk,eqDs,eqD,packA,D.val?,↓reduceIte,reduceCtorEq,Nat.reduceAdd,Nat.reduceSub,Nat.reduceMul,List.reduceReplicate,Nat.reduceLeDiff,Nat.reduceLT,Nat.reduceBEq,Nat.reduceEqDiff,Int.reduceNeg,Int.reduceEq,Int.reduceLE,Int.reduceLT,tfb,ctz7,O7_17,O7_27,O7_41,x7_12,x7_12_m1,x7_18,x7_18_m1,x7_19,eq_self, hlj', hlt', k6b, hpb, k0b]
      try simp only [hstp]
      and_intros <;> first | omega | rfl | trivial
    have k0b : ((l.getD j default).kind == 0) = false := by simpa using k0
    by_cases k1 : (l.getD j default).kind = 1
    · have k1b : ((l.getD j default).kind == 1) = true := by simpa using k1
      have hst : stepV (l.getD j default) (M.getD k default).person (W j) = ((W j).1 + (l.getD j default).n, (W j).2) := by unfold stepV; rw [if_neg k6, if_pos hp, if_neg k0, if_pos k1]
      rw [hst] at hstp
      simp (maxSteps := 4000000) +contextual (disch := first | omega | exact qdb_ok (by kernel_rfl) | exact okb_ok (by kernel_rfl)) only [bw1,bw2,bw3,bw4,bw5,bw6,bw7,bc0,bc1,bc2,bc3,bc4,bc5,bc6,bc7,bb0,setPs,AV.owns,AV.datF,AV.frz,AV.cpy,ifV,isEqB,nilV,nilX,AV.isNilS,AV.isNoRows,wk,dclo,datOf,binIs,addF,AV.isPtr,idxV,AV.isSl,AV.isSlice,AV.rows,ps,pv,extV,extS,AV.outs,AV.outF,packD,AV.dl,fieldV,fieldS,AV.cells?,AV.upr,AV.menc,AV.one,D.one,Value.oneCell',tagOf,AV.isApp,strV,strS,bolV,bolS,slcV,AV.isSlD,asrtS,AV.dcells,D.cells?,stcV,stcS,leafOk,eqDs,eqD,packA,D.val?,↓reduceIte,reduceCtorEq,Nat.reduceAdd,Nat.reduceSub,Nat.reduceMul,List.reduceReplicate,Nat.reduceLeDiff,Nat.reduceLT,Nat.reduceBEq,Nat.reduceEqDiff,Int.reduceNeg,Int.reduceEq,Int.reduceLE,Int.reduceLT,tfb,ctz7,O7_17,O7_27,O7_41,x7_12,x7_12_m1,x7_18,x7_18_m1,x7_19,eq_self, hlj', hlt', k6b, hpb, k0b, k1b]
      try simp only [hstp]
      and_intros <;> first | omega | rfl | trivial
    have k1b : ((l.getD j default).kind == 1) = false := by simpa using k1
    by_cases k4 : (l.getD j default).kind = 4
    · have k4b : ((l.getD j default).kind == 4) = true := by simpa using k4
      have hst : stepV (l.getD j default) (M.getD k default).person (W j) = ((W j).1, (W j).2.1 + 1, (l.getD j default).day, (W j).2.2.2) := by unfold stepV; rw [if_neg k6, if_pos hp, if_neg k0, if_neg k1, if_pos k4]
      rw [hst] at hstp
      simp (maxSteps := 4000000) +contextual (disch := first | omega | exact qdb_ok (by kernel_rfl) | exact okb_ok (by kernel_rfl)) only [bw1,bw2,bw3,bw4,bw5,bw6,bw7,bc0,bc1,bc2,bc3,bc4,bc5,bc6,bc7,bb0,setPs,AV.owns,AV.datF,AV.frz,AV.cpy,ifV,isEqB,nilV,nilX,AV.isNilS,AV.isNoRows,wk,dclo,datOf,binIs,addF,AV.isPtr,idxV,AV.isSl,AV.isSlice,AV.rows,ps,pv,extV,extS,AV.outs,AV.outF,packD,AV.dl,fieldV,fieldS,AV.cells?,AV.upr,AV.menc,AV.one,D.one,Value.oneCell',tagOf,AV.isApp,strV,strS,bolV,bolS,slcV,AV.isSlD,asrtS,AV.dcells,D.cells?,stcV,stcS,leafOk,eqDs,eqD,packA,D.val?,↓reduceIte,reduceCtorEq,Nat.reduceAdd,Nat.reduceSub,Nat.reduceMul,List.reduceReplicate,Nat.reduceLeDiff,Nat.reduceLT,Nat.reduceBEq,Nat.reduceEqDiff,Int.reduceNeg,Int.reduceEq,Int.reduceLE,Int.reduceLT,tfb,ctz7,O7_17,O7_27,O7_41,x7_12,x7_12_m1,x7_18,x7_18_m1,x7_19,eq_self, hlj', hlt', k6b, hpb, k0b, k1b, k4b]
      try simp only [hstp]
      and_intros <;> first | omega | rfl | trivial
    have k4b : ((l.getD j default).kind == 4) = false := by simpa using k4
    by_cases k5 : (l.getD j default).kind = 5
    · have k5b : ((l.getD j default).kind == 5) = true := by simpa using k5
      have hst : stepV (l.getD j default) (M.getD k default).person (W j) = ((W j).1, 0, (l.getD j default).day, (W j).2.2.2) := by unfold stepV; rw [if_neg k6, if_pos hp, if_neg k0, if_neg k1, if_neg k4, if_pos k5]
      rw [hst] at hstp
      simp (maxSteps := 4000000) +contextual (disch := first | omega | exact qdb_ok (by kernel_rfl) | exact okb_ok (by kernel_rfl)) only [bw1,bw2,bw3,bw4,bw5,bw6,bw7,bc0,bc1,bc2,bc3,bc4,bc5,bc6,bc7,bb0,setPs,AV.owns,AV.datF,AV.frz,AV.cpy,ifV,isEqB,nilV,nilX,AV.isNilS,AV.isNoRows,wk,dclo,datOf,binIs,addF,AV.isPtr,idxV,AV.isSl,AV.isSlice,AV.rows,ps,pv,extV,extS,AV.outs,AV.outF,packD,AV.dl,fieldV,fieldS,AV.cells?,AV.upr,AV.menc,AV.one,D.one,Value.oneCell',tagOf,AV.isApp,strV,strS,bolV,bolS,slcV,AV.isSlD,asrtS,AV.dcells,D.cells?,stcV,stcS,leafOk,eqDs,eqD,packA,D.val?,↓reduceIte,reduceCtorEq,Nat.reduceAdd,Nat.reduceSub,Nat.reduceMul,List.reduceReplicate,Nat.reduceLeDiff,Nat.reduceLT,Nat.reduceBEq,Nat.reduceEqDiff,Int.reduceNeg,Int.reduceEq,Int.reduceLE,Int.reduceLT,tfb,ctz7,O7_17,O7_27,O7_41,x7_12,x7_12_m1,x7_18,x7_18_m1,x7_19,eq_self, hlj', hlt', k6b, hpb, k0b, k1b, k4b, k5b]
      try simp only [hstp]
      and_intros <;> first | omega | rfl | trivial
    have k5b : ((l.getD j default).kind == 5) = false := by simpa using k5
    have hst : stepV (l.getD j default) (M.getD k default).person (W j) = ((W j).1, 1, (l.getD j default).day, (W j).2.2.2) := by unfold stepV; rw [if_neg k6, if_pos hp, if_neg k0, if_neg k1, if_neg k4, if_neg k5]
    rw [hst] at hstp
    simp (maxSteps := 4000000) +contextual (disch := first | omega | exact qdb_ok (by kernel_rfl) | exact okb_ok (by kernel_rfl)) only [bw1,bw2,bw3,bw4,bw5,bw6,bw7,bc0,bc1,bc2,bc3,bc4,bc5,bc6,bc7,bb0,setPs,AV.owns,AV.datF,AV.frz,AV.cpy,ifV,isEqB,nilV,nilX,AV.isNilS,AV.isNoRows,wk,dclo,datOf,binIs,addF,AV.isPtr,idxV,AV.isSl,AV.isSlice,AV.rows,ps,pv,extV,extS,AV.outs,AV.outF,packD,AV.dl,fieldV,fieldS,AV.cells?,AV.upr,AV.menc,AV.one,D.one,Value.oneCell',tagOf,AV.isApp,strV,strS,bolV,bolS,slcV,AV.isSlD,asrtS,AV.dcells,D.cells?,stcV,stcS,leafOk,eqDs,eqD,packA,D.val?,↓reduceIte,reduceCtorEq,Nat.reduceAdd,Nat.reduceSub,Nat.reduceMul,List.reduceReplicate,Nat.reduceLeDiff,Nat.reduceLT,Nat.reduceBEq,Nat.reduceEqDiff,Int.reduceNeg,Int.reduceEq,Int.reduceLE,Int.reduceLT,tfb,ctz7,O7_17,O7_27,O7_41,x7_12,x7_12_m1,x7_18,x7_18_m1,x7_19,eq_self, hlj', hlt', k6b, hpb, k0b, k1b, k4b, k5b]
    try simp only [hstp]
    and_intros <;> first | omega | rfl | trivial
end Go.Proofs.Ytohkngiflfkjjaa
