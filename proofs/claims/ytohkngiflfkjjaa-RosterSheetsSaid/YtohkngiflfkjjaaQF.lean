/- A part of the proof that the last text ends: what functions of the program do, told by plain data. -/
import Derived.Test.YtohkngiflfkjjaaQE
import Derived.Test.YtohkngiflfkjjaaQC
set_option linter.unusedVariables false
set_option linter.unusedSimpArgs false
namespace Go.Proofs.Ytohkngiflfkjjaa
open Go Go.E Go.Maps
set_option maxRecDepth 100000
set_option maxHeartbeats 16000000
/-! ### RosterSheets -/
theorem why_nil {evs : List Ev} {m : Mem} {d : Int} (h : why evs m d = []) : ¬ 0 < m.ban ∧ ¬ 0 < m.stage ∧ plB evs m.person d = false := by
  unfold why at h
  refine ⟨fun c => ?_, fun c => ?_, ?_⟩
  · rw [if_pos c] at h; simp at h
  · rw [if_pos c] at h; simp at h
  · cases hp : plB evs m.person d with
    | false => rfl
    | true => rw [hp] at h; simp at h
theorem pl_take {l : List Ev} {i : Nat} {p d : Int} (h : plB (l.take i) p d = false) {j : Nat} (hj : j < i) (hl : j < l.length) (k : (l.getD j default).kind = 6) (e : (l.getD j default).day = d) : ∀ z, z < (l.getD j default).sheet.length → (l.getD j default).sheet.getD z default ≠ p := fun z hz he => by
  unfold plB at h
  rw [List.any_eq_false] at h
  refine h (l.getD j default) ?_ ?_
  · rw [at_lt hl]; exact List.mem_iff_getElem.2 ⟨j, by simp; omega, by simp⟩
  · unfold hitE
    rw [decide_eq_true k, decide_eq_true e]
    simp only [Bool.true_and, List.any_eq_true]
    exact ⟨_, by rw [at_lt hz] at he; exact List.getElem_mem hz, by rw [at_lt hz] at he; exact decide_eq_true he⟩
/-- All that the loops need, for one player of one match. -/
theorem sheet_ctx {l : List Ev} (hsl : ∀ x ∈ l, x.sheet.length ≤ 100000) (hacc : ∀ j, j < l.length → Acc l j) {i k : Nat} (hi : i < l.length) (k6 : (l.getD i default).kind = 6) (hk : k < (l.getD i default).sheet.length) :
    ∃ LL : Nat → UU → Prop, LL 0 (false, 0, false, 0) ∧ (∀ j u, j < i → LL j u → LL (j + 1) (stepU (l.getD j default) (l.getD i default).n ((l.getD i default).sheet.getD k default) u) ∧ ((l.getD j default).kind = 5 → (l.getD j default).person = (l.getD i default).sheet.getD k default → u.2.2.2 + 6 ≤ (l.getD j default).day)) ∧
      (∀ j u, LL j u → (0 ≤ u.2.1 ∧ u.2.1 ≤ 20 * (j : Int)) ∧ (0 ≤ u.2.2.2 ∧ u.2.2.2 ≤ 16384)) ∧ (∀ u, LL i u → u.1 = true ∧ ¬ 0 < u.2.1 ∧ u.2.2.1 = false) ∧
      ∀ j, j < i → (l.getD j default).kind = 6 → (l.getD j default).day = (l.getD i default).day → ∀ z, z < (l.getD j default).sheet.length → (l.getD j default).sheet.getD z default ≠ (l.getD i default).sheet.getD k default := by
  have ha := doR_zero.1 (hacc i hi).2.2
  unfold AccD at ha
  rw [if_neg (by omega), if_pos k6] at ha
  obtain ⟨m, hm, hc, hw⟩ := ha.2 ((l.getD i default).sheet.getD k default) (by rw [at_lt hk]; exact List.getElem_mem _)
  have hS : ∀ j, j ≤ i → Srt (stJ l j).mem := fun j hj => stJ_srt fun q hq => hacc q (by omega)
  rw [stJ_evs (by omega) fun q hq => hacc q (by omega)] at hw
  obtain ⟨w1, w2, w3⟩ := why_nil hw
  have hmp := ((mo_some (hS i (Nat.le_refl _))).1 hm).2
  rw [hmp] at w3
  refine ⟨fun j u => Lk (l.getD i default).n j (mo (stJ l j) ((l.getD i default).sheet.getD k default)) u, ?_, fun j u hj h => ?_, fun j u h => h.1, fun u h => ?_, fun j hj kj e => pl_take w3 hj (by omega) kj e⟩
  · show Lk _ 0 (mo (stJ l 0) _) _
    rw [mo_none.2 (by simp [stJ])]
    exact ⟨⟨⟨Int.le_refl _, by decide⟩, Int.le_refl _, by decide⟩, rfl, rfl, rfl⟩
  · have hj' := hacc j (by omega)
    exact lk_step (hS j (by omega)) hj'.1 hj'.2.2 (fun m hm => by have := (stJ_inv hsl (by omega) fun q hq => hacc q (by omega)).2.1 m hm; unfold MOk at this; exact this.2.1.1) h
  · have h : Lk (l.getD i default).n i (mo (stJ l i) ((l.getD i default).sheet.getD k default)) u := h
    rw [hm] at h
    obtain ⟨_, g1, g2, g3, _⟩ := h
    have hmo := (stJ_inv hsl (by omega) fun q hq => hacc q (by omega)).2.1 m ((mo_some (hS i (Nat.le_refl _))).1 hm).1
    unfold MOk at hmo
    have hst0 : m.stage = 0 := by omega
    exact ⟨by rw [g1]; exact decide_eq_true hc, by rw [g2 hc]; exact w1, by rw [g3]; simp [hst0]⟩
def O6 : Nat → Sch := fun id => if id = 20 then .one 0 (.one 1 (.one 2 (.one 3 (.one 4 (.one 5 (.one 6 (.one 7 (.one 8 (.one 9 (.one 10 (.one 11 (.one 12 (.one 13 (.one 14 (.one 15 (.one 16 (.one 17 (.one 18 (.one 19 (.done)))))))))))))))))))) else if id = 30 then .one 0 (.one 1 (.one 2 (.one 3 (.one 4 (.one 5 (.one 6 (.one 7 (.one 8 (.one 9 (.one 10 (.one 11 (.one 12 (.one 13 (.one 14 (.one 15 (.done)))))))))))))))) else if id = 32 then .one 0 (.one 1 (.one 2 (.one 3 (.one 4 (.one 5 (.one 6 (.one 7 (.one 8 (.one 9 (.one 10 (.one 11 (.one 12 (.done))))))))))))) else .done
theorem O6_20 : O6 20 = .one 0 (.one 1 (.one 2 (.one 3 (.one 4 (.one 5 (.one 6 (.one 7 (.one 8 (.one 9 (.one 10 (.one 11 (.one 12 (.one 13 (.one 14 (.one 15 (.one 16 (.one 17 (.one 18 (.one 19 (.done)))))))))))))))))))) := rfl
theorem O6_30 : O6 30 = .one 0 (.one 1 (.one 2 (.one 3 (.one 4 (.one 5 (.one 6 (.one 7 (.one 8 (.one 9 (.one 10 (.one 11 (.one 12 (.one 13 (.one 14 (.one 15 (.done)))))))))))))))) := rfl
theorem O6_32 : O6 32 = .one 0 (.one 1 (.one 2 (.one 3 (.one 4 (.one 5 (.one 6 (.one 7 (.one 8 (.one 9 (.one 10 (.one 11 (.one 12 (.done))))))))))))) := rfl
theorem ho6 : Try.f6.body.map (okO O6) = some true := by kernel_rfl
def Cf6 : Nat → List AV → (AV → List AV → Sto → Prop) → Kt → List AV → Sto → Prop := fun f args K Q e s => match f with
  | 12 => ent12 args K e s
  | 18 => ent18 args K e s
  | 19 => ent19 args K e s
  | _ => False
def Ct6 : CT := { f := Cf6, y := noYld, z := fun d => false }
theorem ctz6 {d : Nat} : CT.z Ct6 d = (false) := id rfl
theorem Ct6_ok : Ct6.ok Try.prog := ok_of_f (fun f args K Q e s h => by
  have h : Cf6 f args K Q e s := h
  unfold Cf6 at h; split at h
  · exact ent12_ok h
  · exact ent18_ok h
  · exact ent19_ok h
  · exact h.elim) (fun _ _ _ _ _ _ _ _ _ h => h)
theorem x6_12 {l : List Ev} {KK : AV → List AV → Sto → Prop} {QQ : Kt} {ii : At KK} {jj : At QQ} {ee : List AV} {ss : Sto} : xC Ct6 12 [.d (.sl 5 (l.map Ev.c))] KK QQ ii jj ee ss = ((ShsOk l) ∧ KK (.d (.tup [.sl 5 ((playR l).1.map Mem.c), .i (playR l).2.1, .i (playR l).2.2])) ee ss) := eq12
theorem x6_12_m1 {l : List Ev} {g1 el1 : Nat} {KK : AV → List AV → Sto → Prop} {QQ : Kt} {ii : At KK} {jj : At QQ} {ee : List AV} {ss : Sto} : xC Ct6 12 [.own g1 el1 5 (l.map Ev.c)] KK QQ ii jj ee ss = ((ShsOk l) ∧ KK (.d (.tup [.sl 5 ((playR l).1.map Mem.c), .i (playR l).2.1, .i (playR l).2.2])) ee ss) := eqo12
theorem x6_18 {l : List Ev} {m : Int} {KK : AV → List AV → Sto → Prop} {QQ : Kt} {ii : At KK} {jj : At QQ} {ee : List AV} {ss : Sto} : xC Ct6 18 [.d (.sl 5 (l.map Ev.c)), .d (.i m)] KK QQ ii jj ee ss = (KK (.d (.b (manyB l m))) ee ss) := eq18
theorem x6_18_m1 {l : List Ev} {m : Int} {g1 el1 : Nat} {KK : AV → List AV → Sto → Prop} {QQ : Kt} {ii : At KK} {jj : At QQ} {ee : List AV} {ss : Sto} : xC Ct6 18 [.own g1 el1 5 (l.map Ev.c), .d (.i m)] KK QQ ii jj ee ss = ((.b (manyB l m) : D).flat = true ∧ KK (.d (.b (manyB l m))) ee ss) := eqo18
theorem x6_19  {KK : AV → List AV → Sto → Prop} {QQ : Kt} {ii : At KK} {jj : At QQ} {ee : List AV} {ss : Sto} : xC Ct6 19 [] KK QQ ii jj ee ss = (KK (.d (.b true)) ee ss) := eq19
theorem c6 : callable Try.prog 6 = true := by kernel_rfl
theorem pf6 (l : List Ev) : PF Try.prog 6 [.sl 5 (l.map Ev.c)] (fun zz => zz = .ret (.b true)) := by
  by_cases c : manyB l 60 = true
  · refine PF_nil (PF_start (O := O6) Ct6_ok hmix ho6 Try.func6 c6 rfl Try.ntmps6 Try.results6 ?_)
    simp (maxSteps := 4000000) +contextual (disch := first | omega | exact qdb_ok (by kernel_rfl) | exact okb_ok (by kernel_rfl)) only [bw1,bw2,bw3,bw4,bw5,bw6,bw7,bc0,bc1,bc2,bc3,bc4,bc5,bc6,bc7,bb0,setPs,AV.owns,AV.datF,AV.frz,AV.cpy,ifV,isEqB,nilV,nilX,AV.isNilS,AV.isNoRows,wk,dclo,datOf,binIs,addF,AV.isPtr,idxV,AV.isSl,AV.isSlice,AV.rows,ps,pv,extV,extS,AV.outs,AV.outF,packD,AV.dl,fieldV,fieldS,AV.cells?,AV.upr,AV.menc,AV.one,D.one,Value.oneCell',tagOf,AV.isApp,strV,strS,bolV,bolS,slcV,AV.isSlD,asrtS,AV.dcells,D.cells?,stcV,stcS,leafOk,eqDs,eqD,packA,D.val?,↓reduceIte,reduceCtorEq,Nat.reduceAdd,Nat.reduceSub,Nat.reduceMul,List.reduceReplicate,Nat.reduceLeDiff,Nat.reduceLT,Nat.reduceBEq,Nat.reduceEqDiff,Int.reduceNeg,Int.reduceEq,Int.reduceLE,Int.reduceLT,tfb,ctz6,O6_20,O6_30,O6_32,x6_12,x6_12_m1,x6_18,x6_18_m1,x6_19,c]
  obtain ⟨hl, hl2, hsh, _⟩ := many_no c
  by_cases he : (runR l).2.2 = 0
  case neg =>
    have hp := play_err he
    have heb : ((runR l).2.2 != 0) = true := by simpa using he
    obtain ⟨n, hn⟩ : ∃ n : Nat, (runR l).2.1 = n := ⟨_, rfl⟩
    have hnl : n ≤ l.length := by
      by_cases h256 : l.length ≤ 256
      · obtain ⟨q, hq, hq2, _⟩ := run_spec h256
        rw [hq] at hn; simp only at hn; omega
      · have : runR l = (⟨[], []⟩, 0, 3) := by unfold runR; rw [if_pos (by omega)]
        rw [this] at hn; simp only at hn; omega
    rw [hn] at hp
    have hn1 : (0 : Int) ≤ n := by omega
    have hn2 : (n : Int) ≤ l.length := by omega
    refine PF_nil (PF_start (O := O6) Ct6_ok hmix ho6 Try.func6 c6 rfl Try.ntmps6 Try.results6 ?_)
    simp (maxSteps := 4000000) +contextual (disch := first | omega | exact qdb_ok (by kernel_rfl) | exact okb_ok (by kernel_rfl)) only [bw1,bw2,bw3,bw4,bw5,bw6,bw7,bc0,bc1,bc2,bc3,bc4,bc5,bc6,bc7,bb0,setPs,AV.owns,AV.datF,AV.frz,AV.cpy,ifV,isEqB,nilV,nilX,AV.isNilS,AV.isNoRows,wk,dclo,datOf,binIs,addF,AV.isPtr,idxV,AV.isSl,AV.isSlice,AV.rows,ps,pv,extV,extS,AV.outs,AV.outF,packD,AV.dl,fieldV,fieldS,AV.cells?,AV.upr,AV.menc,AV.one,D.one,Value.oneCell',tagOf,AV.isApp,strV,strS,bolV,bolS,slcV,AV.isSlD,asrtS,AV.dcells,D.cells?,stcV,stcS,leafOk,eqDs,eqD,packA,D.val?,↓reduceIte,reduceCtorEq,Nat.reduceAdd,Nat.reduceSub,Nat.reduceMul,List.reduceReplicate,Nat.reduceLeDiff,Nat.reduceLT,Nat.reduceBEq,Nat.reduceEqDiff,Int.reduceNeg,Int.reduceEq,Int.reduceLE,Int.reduceLT,tfb,ctz6,O6_20,O6_30,O6_32,x6_12,x6_12_m1,x6_18,x6_18_m1,x6_19,c, hl, hp, heb, List.length_nil, hn1, hn2]
  have hp := play_ok he
  obtain ⟨hr, hl3, hacc⟩ := run_ok he
  have hsl := hl.2
  rw [hr] at hp
  simp only at hp
  refine PF_nil (PF_start (O := O6) Ct6_ok hmix ho6 Try.func6 c6 rfl Try.ntmps6 Try.results6 ?_)
  simp (maxSteps := 4000000) +contextual (disch := first | omega | exact qdb_ok (by kernel_rfl) | exact okb_ok (by kernel_rfl)) only [bw1,bw2,bw3,bw4,bw5,bw6,bw7,bc0,bc1,bc2,bc3,bc4,bc5,bc6,bc7,bb0,setPs,AV.owns,AV.datF,AV.frz,AV.cpy,ifV,isEqB,nilV,nilX,AV.isNilS,AV.isNoRows,wk,dclo,datOf,binIs,addF,AV.isPtr,idxV,AV.isSl,AV.isSlice,AV.rows,ps,pv,extV,extS,AV.outs,AV.outF,packD,AV.dl,fieldV,fieldS,AV.cells?,AV.upr,AV.menc,AV.one,D.one,Value.oneCell',tagOf,AV.isApp,strV,strS,bolV,bolS,slcV,AV.isSlD,asrtS,AV.dcells,D.cells?,stcV,stcS,leafOk,eqDs,eqD,packA,D.val?,↓reduceIte,reduceCtorEq,Nat.reduceAdd,Nat.reduceSub,Nat.reduceMul,List.reduceReplicate,Nat.reduceLeDiff,Nat.reduceLT,Nat.reduceBEq,Nat.reduceEqDiff,Int.reduceNeg,Int.reduceEq,Int.reduceLE,Int.reduceLT,tfb,ctz6,O6_20,O6_30,O6_32,x6_12,x6_12_m1,x6_18,x6_18_m1,x6_19,c, hl, hp, bne_self_eq_false]
  refine loop_s (O := O6) (tb := 0) Ct6_ok hmix (by kernel_rfl) (σ := Nat) (fun i => [(6, .i i)]) (fun i => i ≤ l.length) (fun i => l.length - i) (fun i => i + 1) 0 (Nat.zero_le _) ?_ ?_
  · simp (maxSteps := 4000000) +contextual (disch := first | omega | exact qdb_ok (by kernel_rfl) | exact okb_ok (by kernel_rfl)) only [bw1,bw2,bw3,bw4,bw5,bw6,bw7,bc0,bc1,bc2,bc3,bc4,bc5,bc6,bc7,bb0,setPs,AV.owns,AV.datF,AV.frz,AV.cpy,ifV,isEqB,nilV,nilX,AV.isNilS,AV.isNoRows,wk,dclo,datOf,binIs,addF,AV.isPtr,idxV,AV.isSl,AV.isSlice,AV.rows,ps,pv,extV,extS,AV.outs,AV.outF,packD,AV.dl,fieldV,fieldS,AV.cells?,AV.upr,AV.menc,AV.one,D.one,Value.oneCell',tagOf,AV.isApp,strV,strS,bolV,bolS,slcV,AV.isSlD,asrtS,AV.dcells,D.cells?,stcV,stcS,leafOk,eqDs,eqD,packA,D.val?,↓reduceIte,reduceCtorEq,Nat.reduceAdd,Nat.reduceSub,Nat.reduceMul,List.reduceReplicate,Nat.reduceLeDiff,Nat.reduceLT,Nat.reduceBEq,Nat.reduceEqDiff,Int.reduceNeg,Int.reduceEq,Int.reduceLE,Int.reduceLT,tfb,ctz6,O6_20,O6_30,O6_32,x6_12,x6_12_m1,x6_18,x6_18_m1,x6_19]
    try rfl
  intro i hi
  by_cases hlt : i < l.length
  case neg =>
    obtain rfl : i = l.length := by omega
    simp (maxSteps := 4000000) +contextual (disch := first | omega | exact qdb_ok (by kernel_rfl) | exact okb_ok (by kernel_rfl)) only [bw1,bw2,bw3,bw4,bw5,bw6,bw7,bc0,bc1,bc2,bc3,bc4,bc5,bc6,bc7,bb0,setPs,AV.owns,AV.datF,AV.frz,AV.cpy,ifV,isEqB,nilV,nilX,AV.isNilS,AV.isNoRows,wk,dclo,datOf,binIs,addF,AV.isPtr,idxV,AV.isSl,AV.isSlice,AV.rows,ps,pv,extV,extS,AV.outs,AV.outF,packD,AV.dl,fieldV,fieldS,AV.cells?,AV.upr,AV.menc,AV.one,D.one,Value.oneCell',tagOf,AV.isApp,strV,strS,bolV,bolS,slcV,AV.isSlD,asrtS,AV.dcells,D.cells?,stcV,stcS,leafOk,eqDs,eqD,packA,D.val?,↓reduceIte,reduceCtorEq,Nat.reduceAdd,Nat.reduceSub,Nat.reduceMul,List.reduceReplicate,Nat.reduceLeDiff,Nat.reduceLT,Nat.reduceBEq,Nat.reduceEqDiff,Int.reduceNeg,Int.reduceEq,Int.reduceLE,Int.reduceLT,tfb,ctz6,O6_20,O6_30,O6_32,x6_12,x6_12_m1,x6_18,x6_18_m1,x6_19,eq_self, Int.lt_irrefl]
  have hlt' : (i : Int) < l.length := by omega
  by_cases k6 : (l.getD i default).kind = 6
  case neg =>
    have k6b : ((l.getD i default).kind != 6) = true := by simpa using k6
    simp (maxSteps := 4000000) +contextual (disch := first | omega | exact qdb_ok (by kernel_rfl) | exact okb_ok (by kernel_rfl)) only [bw1,bw2,bw3,bw4,bw5,bw6,bw7,bc0,bc1,bc2,bc3,bc4,bc5,bc6,bc7,bb0,setPs,AV.owns,AV.datF,AV.frz,AV.cpy,ifV,isEqB,nilV,nilX,AV.isNilS,AV.isNoRows,wk,dclo,datOf,binIs,addF,AV.isPtr,idxV,AV.isSl,AV.isSlice,AV.rows,ps,pv,extV,extS,AV.outs,AV.outF,packD,AV.dl,fieldV,fieldS,AV.cells?,AV.upr,AV.menc,AV.one,D.one,Value.oneCell',tagOf,AV.isApp,strV,strS,bolV,bolS,slcV,AV.isSlD,asrtS,AV.dcells,D.cells?,stcV,stcS,leafOk,eqDs,eqD,packA,D.val?,↓reduceIte,reduceCtorEq,Nat.reduceAdd,Nat.reduceSub,Nat.reduceMul,List.reduceReplicate,Nat.reduceLeDiff,Nat.reduceLT,Nat.reduceBEq,Nat.reduceEqDiff,Int.reduceNeg,Int.reduceEq,Int.reduceLE,Int.reduceLT,tfb,ctz6,O6_20,O6_30,O6_32,x6_12,x6_12_m1,x6_18,x6_18_m1,x6_19,eq_self, hlt', k6b]
    exact ⟨by omega, by omega, by omega⟩
  have k6b : ((l.getD i default).kind != 6) = false := by simpa using k6
  have hctx := fun k hk => sheet_ctx hsl hacc (k := k) hlt k6 hk
  have hsz := hsh (l.getD i default) (by rw [at_lt hlt]; exact List.getElem_mem _)
  have hevk : ∀ j, j < l.length → evOk (l.getD j default) = true := fun j hj => (hacc j hj).1
  clear hacc hr hp
  simp (maxSteps := 4000000) +contextual (disch := first | omega | exact qdb_ok (by kernel_rfl) | exact okb_ok (by kernel_rfl)) only [bw1,bw2,bw3,bw4,bw5,bw6,bw7,bc0,bc1,bc2,bc3,bc4,bc5,bc6,bc7,bb0,setPs,AV.owns,AV.datF,AV.frz,AV.cpy,ifV,isEqB,nilV,nilX,AV.isNilS,AV.isNoRows,wk,dclo,datOf,binIs,addF,AV.isPtr,idxV,AV.isSl,AV.isSlice,AV.rows,ps,pv,extV,extS,AV.outs,AV.outF,packD,AV.dl,fieldV,fieldS,AV.cells?,AV.upr,AV.menc,AV.one,D.one,Value.oneCell',tagOf,AV.isApp,strV,strS,bolV,bolS,slcV,AV.isSlD,asrtS,AV.dcells,D.cells?,stcV,stcS,leafOk,eqDs,eqD,packA,D.val?,↓reduceIte,reduceCtorEq,Nat.reduceAdd,Nat.reduceSub,Nat.reduceMul,List.reduceReplicate,Nat.reduceLeDiff,Nat.reduceLT,Nat.reduceBEq,Nat.reduceEqDiff,Int.reduceNeg,Int.reduceEq,Int.reduceLE,Int.reduceLT,tfb,ctz6,O6_20,O6_30,O6_32,x6_12,x6_12_m1,x6_18,x6_18_m1,x6_19,eq_self, hlt', k6b]
  refine ⟨by omega, ?_⟩
  refine loop_s (O := O6) (tb := 0) Ct6_ok hmix (by kernel_rfl) (σ := Nat) (fun k => [(7, .i k)]) (fun k => k ≤ (l.getD i default).sheet.length) (fun k => (l.getD i default).sheet.length - k) (fun k => k + 1) 0 (Nat.zero_le _) ?_ ?_
  · simp (maxSteps := 4000000) +contextual (disch := first | omega | exact qdb_ok (by kernel_rfl) | exact okb_ok (by kernel_rfl)) only [bw1,bw2,bw3,bw4,bw5,bw6,bw7,bc0,bc1,bc2,bc3,bc4,bc5,bc6,bc7,bb0,setPs,AV.owns,AV.datF,AV.frz,AV.cpy,ifV,isEqB,nilV,nilX,AV.isNilS,AV.isNoRows,wk,dclo,datOf,binIs,addF,AV.isPtr,idxV,AV.isSl,AV.isSlice,AV.rows,ps,pv,extV,extS,AV.outs,AV.outF,packD,AV.dl,fieldV,fieldS,AV.cells?,AV.upr,AV.menc,AV.one,D.one,Value.oneCell',tagOf,AV.isApp,strV,strS,bolV,bolS,slcV,AV.isSlD,asrtS,AV.dcells,D.cells?,stcV,stcS,leafOk,eqDs,eqD,packA,D.val?,↓reduceIte,reduceCtorEq,Nat.reduceAdd,Nat.reduceSub,Nat.reduceMul,List.reduceReplicate,Nat.reduceLeDiff,Nat.reduceLT,Nat.reduceBEq,Nat.reduceEqDiff,Int.reduceNeg,Int.reduceEq,Int.reduceLE,Int.reduceLT,tfb,ctz6,O6_20,O6_30,O6_32,x6_12,x6_12_m1,x6_18,x6_18_m1,x6_19]
    try rfl
  intro k hk
  by_cases hkl : k < (l.getD i default).sheet.length
  case neg =>
    obtain rfl : k = (l.getD i default).sheet.length := by omega
    simp (maxSteps := 4000000) +contextual (disch := first | omega | exact qdb_ok (by kernel_rfl) | exact okb_ok (by kernel_rfl)) only [bw1,bw2,bw3,bw4,bw5,bw6,bw7,bc0,bc1,bc2,bc3,bc4,bc5,bc6,bc7,bb0,setPs,AV.owns,AV.datF,AV.frz,AV.cpy,ifV,isEqB,nilV,nilX,AV.isNilS,AV.isNoRows,wk,dclo,datOf,binIs,addF,AV.isPtr,idxV,AV.isSl,AV.isSlice,AV.rows,ps,pv,extV,extS,AV.outs,AV.outF,packD,AV.dl,fieldV,fieldS,AV.cells?,AV.upr,AV.menc,AV.one,D.one,Value.oneCell',tagOf,AV.isApp,strV,strS,bolV,bolS,slcV,AV.isSlD,asrtS,AV.dcells,D.cells?,stcV,stcS,leafOk,eqDs,eqD,packA,D.val?,↓reduceIte,reduceCtorEq,Nat.reduceAdd,Nat.reduceSub,Nat.reduceMul,List.reduceReplicate,Nat.reduceLeDiff,Nat.reduceLT,Nat.reduceBEq,Nat.reduceEqDiff,Int.reduceNeg,Int.reduceEq,Int.reduceLE,Int.reduceLT,tfb,ctz6,O6_20,O6_30,O6_32,x6_12,x6_12_m1,x6_18,x6_18_m1,x6_19,eq_self, Int.lt_irrefl, hlt']
    exact ⟨by omega, by omega, by omega⟩
  have hkl' : (k : Int) < (l.getD i default).sheet.length := by omega
  obtain ⟨LL, hL0, hLs, hLr, hLe, hno⟩ := hctx k hkl
  clear hctx
  simp (maxSteps := 4000000) +contextual (disch := first | omega | exact qdb_ok (by kernel_rfl) | exact okb_ok (by kernel_rfl)) only [bw1,bw2,bw3,bw4,bw5,bw6,bw7,bc0,bc1,bc2,bc3,bc4,bc5,bc6,bc7,bb0,setPs,AV.owns,AV.datF,AV.frz,AV.cpy,ifV,isEqB,nilV,nilX,AV.isNilS,AV.isNoRows,wk,dclo,datOf,binIs,addF,AV.isPtr,idxV,AV.isSl,AV.isSlice,AV.rows,ps,pv,extV,extS,AV.outs,AV.outF,packD,AV.dl,fieldV,fieldS,AV.cells?,AV.upr,AV.menc,AV.one,D.one,Value.oneCell',tagOf,AV.isApp,strV,strS,bolV,bolS,slcV,AV.isSlD,asrtS,AV.dcells,D.cells?,stcV,stcS,leafOk,eqDs,eqD,packA,D.val?,↓reduceIte,reduceCtorEq,Nat.reduceAdd,Nat.reduceSub,Nat.reduceMul,List.reduceReplicate,Nat.reduceLeDiff,Nat.reduceLT,Nat.reduceBEq,Nat.reduceEqDiff,Int.reduceNeg,Int.reduceEq,Int.reduceLE,Int.reduceLT,tfb,ctz6,O6_20,O6_30,O6_32,x6_12,x6_12_m1,x6_18,x6_18_m1,x6_19,eq_self, hlt', hkl']
  refine ⟨by omega, by omega, by omega, ?_⟩
  refine loop_xu (O := O6) (tb := 0) Ct6_ok hmix (by kernel_rfl) (σ := Nat × UU) (fun y => [(9, .b y.2.1), (10, .i y.2.2.1), (11, .b y.2.2.2.1), (12, .i y.2.2.2.2), (13, .i y.1)]) (fun _ => []) (fun y => y.1 ≤ i ∧ LL y.1 y.2) (fun y => i - y.1) (0, false, 0, false, 0) ⟨Nat.zero_le _, hL0⟩ ?_ ?_
  · simp (maxSteps := 4000000) +contextual (disch := first | omega | exact qdb_ok (by kernel_rfl) | exact okb_ok (by kernel_rfl)) only [bw1,bw2,bw3,bw4,bw5,bw6,bw7,bc0,bc1,bc2,bc3,bc4,bc5,bc6,bc7,bb0,setPs,AV.owns,AV.datF,AV.frz,AV.cpy,ifV,isEqB,nilV,nilX,AV.isNilS,AV.isNoRows,wk,dclo,datOf,binIs,addF,AV.isPtr,idxV,AV.isSl,AV.isSlice,AV.rows,ps,pv,extV,extS,AV.outs,AV.outF,packD,AV.dl,fieldV,fieldS,AV.cells?,AV.upr,AV.menc,AV.one,D.one,Value.oneCell',tagOf,AV.isApp,strV,strS,bolV,bolS,slcV,AV.isSlD,asrtS,AV.dcells,D.cells?,stcV,stcS,leafOk,eqDs,eqD,packA,D.val?,↓reduceIte,reduceCtorEq,Nat.reduceAdd,Nat.reduceSub,Nat.reduceMul,List.reduceReplicate,Nat.reduceLeDiff,Nat.reduceLT,Nat.reduceBEq,Nat.reduceEqDiff,Int.reduceNeg,Int.reduceEq,Int.reduceLE,Int.reduceLT,tfb,ctz6,O6_20,O6_30,O6_32,x6_12,x6_12_m1,x6_18,x6_18_m1,x6_19,eq_self]
  rintro ⟨j, jd, ban, hurt, last⟩ ⟨hji, hL⟩
  simp only at hji hL
  have hrg := hLr j _ hL
  simp only at hrg
  by_cases hlj : j < i
  case neg =>
    obtain rfl : j = i := by omega
    obtain ⟨rfl, e2, rfl⟩ := hLe _ hL
    simp only at e2
    simp (maxSteps := 4000000) +contextual (disch := first | omega | exact qdb_ok (by kernel_rfl) | exact okb_ok (by kernel_rfl)) only [bw1,bw2,bw3,bw4,bw5,bw6,bw7,bc0,bc1,bc2,bc3,bc4,bc5,bc6,bc7,bb0,setPs,AV.owns,AV.datF,AV.frz,AV.cpy,ifV,isEqB,nilV,nilX,AV.isNilS,AV.isNoRows,wk,dclo,datOf,binIs,addF,AV.isPtr,idxV,AV.isSl,AV.isSlice,AV.rows,ps,pv,extV,extS,AV.outs,AV.outF,packD,AV.dl,fieldV,fieldS,AV.cells?,AV.upr,AV.menc,AV.one,D.one,Value.oneCell',tagOf,AV.isApp,strV,strS,bolV,bolS,slcV,AV.isSlD,asrtS,AV.dcells,D.cells?,stcV,stcS,leafOk,eqDs,eqD,packA,D.val?,↓reduceIte,reduceCtorEq,Nat.reduceAdd,Nat.reduceSub,Nat.reduceMul,List.reduceReplicate,Nat.reduceLeDiff,Nat.reduceLT,Nat.reduceBEq,Nat.reduceEqDiff,Int.reduceNeg,Int.reduceEq,Int.reduceLE,Int.reduceLT,tfb,ctz6,O6_20,O6_30,O6_32,x6_12,x6_12_m1,x6_18,x6_18_m1,x6_19,eq_self, Int.lt_irrefl, hlt', hkl', e2]
    and_intros <;> omega
  have hji' : (j : Int) < i := by omega
  have hjl : j < l.length := by omega
  have hlj' : (j : Int) < l.length := by omega
  have hx := hevk j hjl
  have hxr := ev_rng hx
  have hxd := ev_day hx
  have hxk := ev_kind hx
  obtain ⟨hL, h5⟩ := hLs j _ hlj hL
  simp only at h5
  obtain rfl | rfl : jd = false ∨ jd = true := by cases jd <;> simp
  · skip
    by_cases kj6 : (l.getD j default).kind = 6
    case neg =>
      have kj6b : ((l.getD j default).kind == 6) = false := by simpa using kj6
      have kj6n : ((l.getD j default).kind != 6) = true := by simpa using kj6
      by_cases hp : (l.getD j default).person = (l.getD i default).sheet.getD k default
      case neg =>
        have hpb : ((l.getD j default).person == (l.getD i default).sheet.getD k default) = false := by simpa using hp
        have hst : stepU (l.getD j default) (l.getD i default).n ((l.getD i default).sheet.getD k default) (false, ban, hurt, last) = (false, ban, hurt, last) := by unfold stepU; rw [if_neg kj6, if_neg hp]
        rw [hst] at hL
        simp (maxSteps := 4000000) +contextual (disch := first | omega | exact qdb_ok (by kernel_rfl) | exact okb_ok (by kernel_rfl)) only [bw1,bw2,bw3,bw4,bw5,bw6,bw7,bc0,bc1,bc2,bc3,bc4,bc5,bc6,bc7,bb0,setPs,AV.owns,AV.datF,AV.frz,AV.cpy,ifV,isEqB,nilV,nilX,AV.isNilS,AV.isNoRows,wk,dclo,datOf,binIs,addF,AV.isPtr,idxV,AV.isSl,AV.isSlice,AV.rows,ps,pv,extV,extS,AV.outs,AV.outF,packD,AV.dl,fieldV,fieldS,AV.cells?,AV.upr,AV.menc,AV.one,D.one,Value.oneCell',tagOf,AV.isApp,strV,strS,bolV,bolS,slcV,AV.isSlD,asrtS,AV.dcells,D.cells?,stcV,stcS,leafOk,eqDs,eqD,packA,D.val?,↓reduceIte,reduceCtorEq,Nat.reduceAdd,Nat.reduceSub,Nat.reduceMul,List.reduceReplicate,Nat.reduceLeDiff,Nat.reduceLT,Nat.reduceBEq,Nat.reduceEqDiff,Int.reduceNeg,Int.reduceEq,Int.reduceLE,Int.reduceLT,tfb,ctz6,O6_20,O6_30,O6_32,x6_12,x6_12_m1,x6_18,x6_18_m1,x6_19,eq_self, hlj', hlt', hkl', hji', kj6b, kj6n, hpb]
        and_intros <;> first | omega | exact ⟨(j + 1, (false, ban, hurt, last)), ⟨⟨by omega, hL⟩, by omega⟩, rfl, rfl, rfl, rfl, rfl⟩
      have hpb : ((l.getD j default).person == (l.getD i default).sheet.getD k default) = true := by simpa using hp
      have ha : (l.getD j default).kind = 0 ∨ (l.getD j default).kind = 1 ∨ (l.getD j default).kind = 2 ∨ (l.getD j default).kind = 3 ∨ (l.getD j default).kind = 4 ∨ (l.getD j default).kind = 5 := by omega
      rcases ha with kk | kk | kk | kk | kk | kk
      · have c0 : ((l.getD j default).kind == 0) = true := by simpa using kk
        have c1 : ((l.getD j default).kind == 1) = false := by rw [kk]; rfl
        have c2 : ((l.getD j default).kind == 2) = false := by rw [kk]; rfl
        have c3 : ((l.getD j default).kind == 3) = false := by rw [kk]; rfl
        have c5 : ((l.getD j default).kind == 5) = false := by rw [kk]; rfl
        by_cases q : (l.getD j default).n = (l.getD i default).n
        · have qb : ((l.getD j default).n == (l.getD i default).n) = true := by simpa using q
          have hst : stepU (l.getD j default) (l.getD i default).n ((l.getD i default).sheet.getD k default) (false, ban, hurt, last) = (true, ban, hurt, last) := by unfold stepU; rw [if_neg kj6, if_pos hp, if_pos kk, decide_eq_true q]; rfl
          rw [hst] at hL
          simp (maxSteps := 4000000) +contextual (disch := first | omega | exact qdb_ok (by kernel_rfl) | exact okb_ok (by kernel_rfl)) only [bw1,bw2,bw3,bw4,bw5,bw6,bw7,bc0,bc1,bc2,bc3,bc4,bc5,bc6,bc7,bb0,setPs,AV.owns,AV.datF,AV.frz,AV.cpy,ifV,isEqB,nilV,nilX,AV.isNilS,AV.isNoRows,wk,dclo,datOf,binIs,addF,AV.isPtr,idxV,AV.isSl,AV.isSlice,AV.rows,ps,pv,extV,extS,AV.outs,AV.outF,packD,AV.dl,fieldV,fieldS,AV.cells?,AV.upr,AV.menc,AV.one,D.one,Value.oneCell',tagOf,AV.isApp,strV,strS,bolV,bolS,slcV,AV.isSlD,asrtS,AV.dcells,D.cells?,stcV,stcS,leafOk,eqDs,eqD,packA,D.val?,↓reduceIte,reduceCtorEq,Nat.reduceAdd,Nat.reduceSub,Nat.reduceMul,List.reduceReplicate,Nat.reduceLeDiff,Nat.reduceLT,Nat.reduceBEq,Nat.reduceEqDiff,Int.reduceNeg,Int.reduceEq,Int.reduceLE,Int.reduceLT,tfb,ctz6,O6_20,O6_30,O6_32,x6_12,x6_12_m1,x6_18,x6_18_m1,x6_19,eq_self, hlj', hlt', hkl', hji', kj6b, kj6n, hpb, c0, c1, c2, c3, c5, qb]
          and_intros <;> first | omega | exact ⟨(j + 1, (true, ban, hurt, last)), ⟨⟨by omega, hL⟩, by omega⟩, rfl, rfl, rfl, rfl, rfl⟩
        · have qb : ((l.getD j default).n == (l.getD i default).n) = false := by simpa using q
          have hst : stepU (l.getD j default) (l.getD i default).n ((l.getD i default).sheet.getD k default) (false, ban, hurt, last) = (false, ban, hurt, last) := by unfold stepU; rw [if_neg kj6, if_pos hp, if_pos kk, decide_eq_false q]; rfl
          rw [hst] at hL
          simp (maxSteps := 4000000) +contextual (disch := first | omega | exact qdb_ok (by kernel_rfl) | exact okb_ok (by kernel_rfl)) only [bw1,bw2,bw3,bw4,bw5,bw6,bw7,bc0,bc1,bc2,bc3,bc4,bc5,bc6,bc7,bb0,setPs,AV.owns,AV.datF,AV.frz,AV.cpy,ifV,isEqB,nilV,nilX,AV.isNilS,AV.isNoRows,wk,dclo,datOf,binIs,addF,AV.isPtr,idxV,AV.isSl,AV.isSlice,AV.rows,ps,pv,extV,extS,AV.outs,AV.outF,packD,AV.dl,fieldV,fieldS,AV.cells?,AV.upr,AV.menc,AV.one,D.one,Value.oneCell',tagOf,AV.isApp,strV,strS,bolV,bolS,slcV,AV.isSlD,asrtS,AV.dcells,D.cells?,stcV,stcS,leafOk,eqDs,eqD,packA,D.val?,↓reduceIte,reduceCtorEq,Nat.reduceAdd,Nat.reduceSub,Nat.reduceMul,List.reduceReplicate,Nat.reduceLeDiff,Nat.reduceLT,Nat.reduceBEq,Nat.reduceEqDiff,Int.reduceNeg,Int.reduceEq,Int.reduceLE,Int.reduceLT,tfb,ctz6,O6_20,O6_30,O6_32,x6_12,x6_12_m1,x6_18,x6_18_m1,x6_19,eq_self, hlj', hlt', hkl', hji', kj6b, kj6n, hpb, c0, c1, c2, c3, c5, qb]
          and_intros <;> first | omega | exact ⟨(j + 1, (false, ban, hurt, last)), ⟨⟨by omega, hL⟩, by omega⟩, rfl, rfl, rfl, rfl, rfl⟩
      · have c0 : ((l.getD j default).kind == 0) = false := by rw [kk]; rfl
        have c1 : ((l.getD j default).kind == 1) = true := by simpa using kk
        have c2 : ((l.getD j default).kind == 2) = false := by rw [kk]; rfl
        have c3 : ((l.getD j default).kind == 3) = false := by rw [kk]; rfl
        have c5 : ((l.getD j default).kind == 5) = false := by rw [kk]; rfl
        have hst : stepU (l.getD j default) (l.getD i default).n ((l.getD i default).sheet.getD k default) (false, ban, hurt, last) = (false, ban + (l.getD j default).n, hurt, last) := by unfold stepU; rw [if_neg kj6, if_pos hp, if_neg (by omega), if_pos kk]
        rw [hst] at hL
        simp (maxSteps := 4000000) +contextual (disch := first | omega | exact qdb_ok (by kernel_rfl) | exact okb_ok (by kernel_rfl)) only [bw1,bw2,bw3,bw4,bw5,bw6,bw7,bc0,bc1,bc2,bc3,bc4,bc5,bc6,bc7,bb0,setPs,AV.owns,AV.datF,AV.frz,AV.cpy,ifV,isEqB,nilV,nilX,AV.isNilS,AV.isNoRows,wk,dclo,datOf,binIs,addF,AV.isPtr,idxV,AV.isSl,AV.isSlice,AV.rows,ps,pv,extV,extS,AV.outs,AV.outF,packD,AV.dl,fieldV,fieldS,AV.cells?,AV.upr,AV.menc,AV.one,D.one,Value.oneCell',tagOf,AV.isApp,strV,strS,bolV,bolS,slcV,AV.isSlD,asrtS,AV.dcells,D.cells?,stcV,stcS,leafOk,eqDs,eqD,packA,D.val?,↓reduceIte,reduceCtorEq,Nat.reduceAdd,Nat.reduceSub,Nat.reduceMul,List.reduceReplicate,Nat.reduceLeDiff,Nat.reduceLT,Nat.reduceBEq,Nat.reduceEqDiff,Int.reduceNeg,Int.reduceEq,Int.reduceLE,Int.reduceLT,tfb,ctz6,O6_20,O6_30,O6_32,x6_12,x6_12_m1,x6_18,x6_18_m1,x6_19,eq_self, hlj', hlt', hkl', hji', kj6b, kj6n, hpb, c0, c1, c2, c3, c5]
        and_intros <;> first | omega | exact ⟨(j + 1, (false, ban + (l.getD j default).n, hurt, last)), ⟨⟨by omega, hL⟩, by omega⟩, rfl, rfl, rfl, rfl, rfl⟩
      · have c0 : ((l.getD j default).kind == 0) = false := by rw [kk]; rfl
        have c1 : ((l.getD j default).kind == 1) = false := by rw [kk]; rfl
        have c2 : ((l.getD j default).kind == 2) = true := by simpa using kk
        have c5 : ((l.getD j default).kind == 5) = false := by rw [kk]; rfl
        have hst : stepU (l.getD j default) (l.getD i default).n ((l.getD i default).sheet.getD k default) (false, ban, hurt, last) = (false, ban, true, (l.getD j default).day) := by unfold stepU; rw [if_neg kj6, if_pos hp, if_neg (by omega), if_neg (by omega), if_pos (.inl kk)]
        rw [hst] at hL
        simp (maxSteps := 4000000) +contextual (disch := first | omega | exact qdb_ok (by kernel_rfl) | exact okb_ok (by kernel_rfl)) only [bw1,bw2,bw3,bw4,bw5,bw6,bw7,bc0,bc1,bc2,bc3,bc4,bc5,bc6,bc7,bb0,setPs,AV.owns,AV.datF,AV.frz,AV.cpy,ifV,isEqB,nilV,nilX,AV.isNilS,AV.isNoRows,wk,dclo,datOf,binIs,addF,AV.isPtr,idxV,AV.isSl,AV.isSlice,AV.rows,ps,pv,extV,extS,AV.outs,AV.outF,packD,AV.dl,fieldV,fieldS,AV.cells?,AV.upr,AV.menc,AV.one,D.one,Value.oneCell',tagOf,AV.isApp,strV,strS,bolV,bolS,slcV,AV.isSlD,asrtS,AV.dcells,D.cells?,stcV,stcS,leafOk,eqDs,eqD,packA,D.val?,↓reduceIte,reduceCtorEq,Nat.reduceAdd,Nat.reduceSub,Nat.reduceMul,List.reduceReplicate,Nat.reduceLeDiff,Nat.reduceLT,Nat.reduceBEq,Nat.reduceEqDiff,Int.reduceNeg,Int.reduceEq,Int.reduceLE,Int.reduceLT,tfb,ctz6,O6_20,O6_30,O6_32,x6_12,x6_12_m1,x6_18,x6_18_m1,x6_19,eq_self, hlj', hlt', hkl', hji', kj6b, kj6n, hpb, c0, c1, c2, c5]
        and_intros <;> first | omega | exact ⟨(j + 1, (false, ban, true, (l.getD j default).day)), ⟨⟨by omega, hL⟩, by omega⟩, rfl, rfl, rfl, rfl, rfl⟩
      · have c0 : ((l.getD j default).kind == 0) = false := by rw [kk]; rfl
        have c1 : ((l.getD j default).kind == 1) = false := by rw [kk]; rfl
        have c2 : ((l.getD j default).kind == 2) = false := by rw [kk]; rfl
        have c3 : ((l.getD j default).kind == 3) = true := by simpa using kk
        have c5 : ((l.getD j default).kind == 5) = false := by rw [kk]; rfl
        have hst : stepU (l.getD j default) (l.getD i default).n ((l.getD i default).sheet.getD k default) (false, ban, hurt, last) = (false, ban, true, (l.getD j default).day) := by unfold stepU; rw [if_neg kj6, if_pos hp, if_neg (by omega), if_neg (by omega), if_pos (.inr kk)]
        rw [hst] at hL
        simp (maxSteps := 4000000) +contextual (disch := first | omega | exact qdb_ok (by kernel_rfl) | exact okb_ok (by kernel_rfl)) only [bw1,bw2,bw3,bw4,bw5,bw6,bw7,bc0,bc1,bc2,bc3,bc4,bc5,bc6,bc7,bb0,setPs,AV.owns,AV.datF,AV.frz,AV.cpy,ifV,isEqB,nilV,nilX,AV.isNilS,AV.isNoRows,wk,dclo,datOf,binIs,addF,AV.isPtr,idxV,AV.isSl,AV.isSlice,AV.rows,ps,pv,extV,extS,AV.outs,AV.outF,packD,AV.dl,fieldV,fieldS,AV.cells?,AV.upr,AV.menc,AV.one,D.one,Value.oneCell',tagOf,AV.isApp,strV,strS,bolV,bolS,slcV,AV.isSlD,asrtS,AV.dcells,D.cells?,stcV,stcS,leafOk,eqDs,eqD,packA,D.val?,↓reduceIte,reduceCtorEq,Nat.reduceAdd,Nat.reduceSub,Nat.reduceMul,List.reduceReplicate,Nat.reduceLeDiff,Nat.reduceLT,Nat.reduceBEq,Nat.reduceEqDiff,Int.reduceNeg,Int.reduceEq,Int.reduceLE,Int.reduceLT,tfb,ctz6,O6_20,O6_30,O6_32,x6_12,x6_12_m1,x6_18,x6_18_m1,x6_19,eq_self, hlj', hlt', hkl', hji', kj6b, kj6n, hpb, c0, c1, c2, c3, c5]
        and_intros <;> first | omega | exact ⟨(j + 1, (false, ban, true, (l.getD j default).day)), ⟨⟨by omega, hL⟩, by omega⟩, rfl, rfl, rfl, rfl, rfl⟩
      · have c0 : ((l.getD j default).kind == 0) = false := by rw [kk]; rfl
        have c1 : ((l.getD j default).kind == 1) = false := by rw [kk]; rfl
        have c2 : ((l.getD j default).kind == 2) = false := by rw [kk]; rfl
        have c3 : ((l.getD j default).kind == 3) = false := by rw [kk]; rfl
        have c5 : ((l.getD j default).kind == 5) = false := by rw [kk]; rfl
        have hst : stepU (l.getD j default) (l.getD i default).n ((l.getD i default).sheet.getD k default) (false, ban, hurt, last) = (false, ban, hurt, last) := by unfold stepU; rw [if_neg kj6, if_pos hp, if_neg (by omega), if_neg (by omega), if_neg (by omega), if_neg (by omega)]
        rw [hst] at hL
        simp (maxSteps := 4000000) +contextual (disch := first | omega | exact qdb_ok (by kernel_rfl) | exact okb_ok (by kernel_rfl)) only [bw1,bw2,bw3,bw4,bw5,bw6,bw7,bc0,bc1,bc2,bc3,bc4,bc5,bc6,bc7,bb0,setPs,AV.owns,AV.datF,AV.frz,AV.cpy,ifV,isEqB,nilV,nilX,AV.isNilS,AV.isNoRows,wk,dclo,datOf,binIs,addF,AV.isPtr,idxV,AV.isSl,AV.isSlice,AV.rows,ps,pv,extV,extS,AV.outs,AV.outF,packD,AV.dl,fieldV,fieldS,AV.cells?,AV.upr,AV.menc,AV.one,D.one,Value.oneCell',tagOf,AV.isApp,strV,strS,bolV,bolS,slcV,AV.isSlD,asrtS,AV.dcells,D.cells?,stcV,stcS,leafOk,eqDs,eqD,packA,D.val?,↓reduceIte,reduceCtorEq,Nat.reduceAdd,Nat.reduceSub,Nat.reduceMul,List.reduceReplicate,Nat.reduceLeDiff,Nat.reduceLT,Nat.reduceBEq,Nat.reduceEqDiff,Int.reduceNeg,Int.reduceEq,Int.reduceLE,Int.reduceLT,tfb,ctz6,O6_20,O6_30,O6_32,x6_12,x6_12_m1,x6_18,x6_18_m1,x6_19,eq_self, hlj', hlt', hkl', hji', kj6b, kj6n, hpb, c0, c1, c2, c3, c5]
        and_intros <;> first | omega | exact ⟨(j + 1, (false, ban, hurt, last)), ⟨⟨by omega, hL⟩, by omega⟩, rfl, rfl, rfl, rfl, rfl⟩
      · have c0 : ((l.getD j default).kind == 0) = false := by rw [kk]; rfl
        have c1 : ((l.getD j default).kind == 1) = false := by rw [kk]; rfl
        have c2 : ((l.getD j default).kind == 2) = false := by rw [kk]; rfl
        have c3 : ((l.getD j default).kind == 3) = false := by rw [kk]; rfl
        have c5 : ((l.getD j default).kind == 5) = true := by simpa using kk
        have h6 := h5 kk hp
        have h6' : ¬ (l.getD j default).day < last + 6 := by omega
        have hst : stepU (l.getD j default) (l.getD i default).n ((l.getD i default).sheet.getD k default) (false, ban, hurt, last) = (false, ban, false, last) := by unfold stepU; rw [if_neg kj6, if_pos hp, if_neg (by omega), if_neg (by omega), if_neg (by omega), if_pos kk]
        rw [hst] at hL
        simp (maxSteps := 4000000) +contextual (disch := first | omega | exact qdb_ok (by kernel_rfl) | exact okb_ok (by kernel_rfl)) only [bw1,bw2,bw3,bw4,bw5,bw6,bw7,bc0,bc1,bc2,bc3,bc4,bc5,bc6,bc7,bb0,setPs,AV.owns,AV.datF,AV.frz,AV.cpy,ifV,isEqB,nilV,nilX,AV.isNilS,AV.isNoRows,wk,dclo,datOf,binIs,addF,AV.isPtr,idxV,AV.isSl,AV.isSlice,AV.rows,ps,pv,extV,extS,AV.outs,AV.outF,packD,AV.dl,fieldV,fieldS,AV.cells?,AV.upr,AV.menc,AV.one,D.one,Value.oneCell',tagOf,AV.isApp,strV,strS,bolV,bolS,slcV,AV.isSlD,asrtS,AV.dcells,D.cells?,stcV,stcS,leafOk,eqDs,eqD,packA,D.val?,↓reduceIte,reduceCtorEq,Nat.reduceAdd,Nat.reduceSub,Nat.reduceMul,List.reduceReplicate,Nat.reduceLeDiff,Nat.reduceLT,Nat.reduceBEq,Nat.reduceEqDiff,Int.reduceNeg,Int.reduceEq,Int.reduceLE,Int.reduceLT,tfb,ctz6,O6_20,O6_30,O6_32,x6_12,x6_12_m1,x6_18,x6_18_m1,x6_19,eq_self, hlj', hlt', hkl', hji', kj6b, kj6n, hpb, c0, c1, c2, c3, c5, h6']
        and_intros <;> first | omega | exact ⟨(j + 1, (false, ban, false, last)), ⟨⟨by omega, hL⟩, by omega⟩, rfl, rfl, rfl, rfl, rfl⟩
    have kj6b : ((l.getD j default).kind == 6) = true := by simpa using kj6
    have kj6n : ((l.getD j default).kind != 6) = false := by simpa using kj6
    have hno := hno j hlj kj6
    have hszj := hsh (l.getD j default) (by rw [at_lt hjl]; exact List.getElem_mem _)
    by_cases q : (l.getD j default).n = (l.getD i default).n
    case' pos =>
      have qb : ((l.getD j default).n == (l.getD i default).n) = true := by simpa using q
      have hst : stepU (l.getD j default) (l.getD i default).n ((l.getD i default).sheet.getD k default) (false, ban, hurt, last) = (false, ban, hurt, last) := by unfold stepU; rw [if_pos kj6]; first | rw [if_pos ⟨q, rfl⟩] | rw [if_neg (by simp)]
    case' neg =>
      have qb : ((l.getD j default).n == (l.getD i default).n) = false := by simpa using q
      have hst : stepU (l.getD j default) (l.getD i default).n ((l.getD i default).sheet.getD k default) (false, ban, hurt, last) = (false, ban, hurt, last) := by unfold stepU; rw [if_pos kj6, if_neg fun h => q h.1]
    all_goals
      rw [hst] at hL
      by_cases e : (l.getD j default).day = (l.getD i default).day
      case neg =>
        have eb : ((l.getD j default).day != (l.getD i default).day) = true := by simpa using e
        simp (maxSteps := 4000000) +contextual (disch := first | omega | exact qdb_ok (by kernel_rfl) | exact okb_ok (by kernel_rfl)) only [bw1,bw2,bw3,bw4,bw5,bw6,bw7,bc0,bc1,bc2,bc3,bc4,bc5,bc6,bc7,bb0,setPs,AV.owns,AV.datF,AV.frz,AV.cpy,ifV,isEqB,nilV,nilX,AV.isNilS,AV.isNoRows,wk,dclo,datOf,binIs,addF,AV.isPtr,idxV,AV.isSl,AV.isSlice,AV.rows,ps,pv,extV,extS,AV.outs,AV.outF,packD,AV.dl,fieldV,fieldS,AV.cells?,AV.upr,AV.menc,AV.one,D.one,Value.oneCell',tagOf,AV.isApp,strV,strS,bolV,bolS,slcV,AV.isSlD,asrtS,AV.dcells,D.cells?,stcV,stcS,leafOk,eqDs,eqD,packA,D.val?,↓reduceIte,reduceCtorEq,Nat.reduceAdd,Nat.reduceSub,Nat.reduceMul,List.reduceReplicate,Nat.reduceLeDiff,Nat.reduceLT,Nat.reduceBEq,Nat.reduceEqDiff,Int.reduceNeg,Int.reduceEq,Int.reduceLE,Int.reduceLT,tfb,ctz6,O6_20,O6_30,O6_32,x6_12,x6_12_m1,x6_18,x6_18_m1,x6_19,eq_self, hlj', hlt', hkl', hji', kj6b, kj6n, qb, eb]
        and_intros <;> first | omega | exact ⟨(j + 1, _), ⟨⟨by omega, hL⟩, by omega⟩, rfl, rfl, rfl, rfl, rfl⟩
      have eb : ((l.getD j default).day != (l.getD i default).day) = false := by simpa using e
      have hno := hno e
      simp (maxSteps := 4000000) +contextual (disch := first | omega | exact qdb_ok (by kernel_rfl) | exact okb_ok (by kernel_rfl)) only [bw1,bw2,bw3,bw4,bw5,bw6,bw7,bc0,bc1,bc2,bc3,bc4,bc5,bc6,bc7,bb0,setPs,AV.owns,AV.datF,AV.frz,AV.cpy,ifV,isEqB,nilV,nilX,AV.isNilS,AV.isNoRows,wk,dclo,datOf,binIs,addF,AV.isPtr,idxV,AV.isSl,AV.isSlice,AV.rows,ps,pv,extV,extS,AV.outs,AV.outF,packD,AV.dl,fieldV,fieldS,AV.cells?,AV.upr,AV.menc,AV.one,D.one,Value.oneCell',tagOf,AV.isApp,strV,strS,bolV,bolS,slcV,AV.isSlD,asrtS,AV.dcells,D.cells?,stcV,stcS,leafOk,eqDs,eqD,packA,D.val?,↓reduceIte,reduceCtorEq,Nat.reduceAdd,Nat.reduceSub,Nat.reduceMul,List.reduceReplicate,Nat.reduceLeDiff,Nat.reduceLT,Nat.reduceBEq,Nat.reduceEqDiff,Int.reduceNeg,Int.reduceEq,Int.reduceLE,Int.reduceLT,tfb,ctz6,O6_20,O6_30,O6_32,x6_12,x6_12_m1,x6_18,x6_18_m1,x6_19,eq_self, hlj', hlt', hkl', hji', kj6b, kj6n, qb, eb]
      refine ⟨by omega, by omega, by omega, ?_⟩
      refine loop_xu (O := O6) (tb := 0) Ct6_ok hmix (by kernel_rfl) (σ := Nat) (fun z => [(16, .i z)]) (fun _ => []) (fun z => z ≤ (l.getD j default).sheet.length) (fun z => (l.getD j default).sheet.length - z) 0 (Nat.zero_le _) ?_ ?_
      · simp (maxSteps := 4000000) +contextual (disch := first | omega | exact qdb_ok (by kernel_rfl) | exact okb_ok (by kernel_rfl)) only [bw1,bw2,bw3,bw4,bw5,bw6,bw7,bc0,bc1,bc2,bc3,bc4,bc5,bc6,bc7,bb0,setPs,AV.owns,AV.datF,AV.frz,AV.cpy,ifV,isEqB,nilV,nilX,AV.isNilS,AV.isNoRows,wk,dclo,datOf,binIs,addF,AV.isPtr,idxV,AV.isSl,AV.isSlice,AV.rows,ps,pv,extV,extS,AV.outs,AV.outF,packD,AV.dl,fieldV,fieldS,AV.cells?,AV.upr,AV.menc,AV.one,D.one,Value.oneCell',tagOf,AV.isApp,strV,strS,bolV,bolS,slcV,AV.isSlD,asrtS,AV.dcells,D.cells?,stcV,stcS,leafOk,eqDs,eqD,packA,D.val?,↓reduceIte,reduceCtorEq,Nat.reduceAdd,Nat.reduceSub,Nat.reduceMul,List.reduceReplicate,Nat.reduceLeDiff,Nat.reduceLT,Nat.reduceBEq,Nat.reduceEqDiff,Int.reduceNeg,Int.reduceEq,Int.reduceLE,Int.reduceLT,tfb,ctz6,O6_20,O6_30,O6_32,x6_12,x6_12_m1,x6_18,x6_18_m1,x6_19,eq_self]
        try rfl
      intro z hz
      by_cases hzl : z < (l.getD j default).sheet.length
      · have hzl' : (z : Int) < (l.getD j default).sheet.length := by omega
        have hnz : ((l.getD j default).sheet.getD z default == (l.getD i default).sheet.getD k default) = false := by simpa using hno z hzl
        simp (maxSteps := 4000000) +contextual (disch := first | omega | exact qdb_ok (by kernel_rfl) | exact okb_ok (by kernel_rfl)) only [bw1,bw2,bw3,bw4,bw5,bw6,bw7,bc0,bc1,bc2,bc3,bc4,bc5,bc6,bc7,bb0,setPs,AV.owns,AV.datF,AV.frz,AV.cpy,ifV,isEqB,nilV,nilX,AV.isNilS,AV.isNoRows,wk,dclo,datOf,binIs,addF,AV.isPtr,idxV,AV.isSl,AV.isSlice,AV.rows,ps,pv,extV,extS,AV.outs,AV.outF,packD,AV.dl,fieldV,fieldS,AV.cells?,AV.upr,AV.menc,AV.one,D.one,Value.oneCell',tagOf,AV.isApp,strV,strS,bolV,bolS,slcV,AV.isSlD,asrtS,AV.dcells,D.cells?,stcV,stcS,leafOk,eqDs,eqD,packA,D.val?,↓reduceIte,reduceCtorEq,Nat.reduceAdd,Nat.reduceSub,Nat.reduceMul,List.reduceReplicate,Nat.reduceLeDiff,Nat.reduceLT,Nat.reduceBEq,Nat.reduceEqDiff,Int.reduceNeg,Int.reduceEq,Int.reduceLE,Int.reduceLT,tfb,ctz6,O6_20,O6_30,O6_32,x6_12,x6_12_m1,x6_18,x6_18_m1,x6_19,eq_self, hzl', hnz]
        and_intros <;> first | omega | exact ⟨z + 1, ⟨by omega, by omega⟩, rfl⟩
      · have hzl' : ¬ (z : Int) < (l.getD j default).sheet.length := by omega
        simp (maxSteps := 4000000) +contextual (disch := first | omega | exact qdb_ok (by kernel_rfl) | exact okb_ok (by kernel_rfl)) only [bw1,bw2,bw3,bw4,bw5,bw6,bw7,bc0,bc1,bc2,bc3,bc4,bc5,bc6,bc7,bb0,setPs,AV.owns,AV.datF,AV.frz,AV.cpy,ifV,isEqB,nilV,nilX,AV.isNilS,AV.isNoRows,wk,dclo,datOf,binIs,addF,AV.isPtr,idxV,AV.isSl,AV.isSlice,AV.rows,ps,pv,extV,extS,AV.outs,AV.outF,packD,AV.dl,fieldV,fieldS,AV.cells?,AV.upr,AV.menc,AV.one,D.one,Value.oneCell',tagOf,AV.isApp,strV,strS,bolV,bolS,slcV,AV.isSlD,asrtS,AV.dcells,D.cells?,stcV,stcS,leafOk,eqDs,eqD,packA,D.val?,↓reduceIte,reduceCtorEq,Nat.reduceAdd,Nat.reduceSub,Nat.reduceMul,List.reduceReplicate,Nat.reduceLeDiff,Nat.reduceLT,Nat.reduceBEq,Nat.reduceEqDiff,Int.reduceNeg,Int.reduceEq,Int.reduceLE,Int.reduceLT,tfb,ctz6,O6_20,O6_30,O6_32,x6_12,x6_12_m1,x6_18,x6_18_m1,x6_19,eq_self, hzl']
        and_intros <;> first | omega | exact ⟨(j + 1, _), ⟨⟨by omega, hL⟩, by omega⟩, rfl, rfl, rfl, rfl, rfl⟩
  · skip
    by_cases kj6 : (l.getD j default).kind = 6
    case neg =>
      have kj6b : ((l.getD j default).kind == 6) = false := by simpa using kj6
      have kj6n : ((l.getD j default).kind != 6) = true := by simpa using kj6
      by_cases hp : (l.getD j default).person = (l.getD i default).sheet.getD k default
      case neg =>
        have hpb : ((l.getD j default).person == (l.getD i default).sheet.getD k default) = false := by simpa using hp
        have hst : stepU (l.getD j default) (l.getD i default).n ((l.getD i default).sheet.getD k default) (true, ban, hurt, last) = (true, ban, hurt, last) := by unfold stepU; rw [if_neg kj6, if_neg hp]
        rw [hst] at hL
        simp (maxSteps := 4000000) +contextual (disch := first | omega | exact qdb_ok (by kernel_rfl) | exact okb_ok (by kernel_rfl)) only [bw1,bw2,bw3,bw4,bw5,bw6,bw7,bc0,bc1,bc2,bc3,bc4,bc5,bc6,bc7,bb0,setPs,AV.owns,AV.datF,AV.frz,AV.cpy,ifV,isEqB,nilV,nilX,AV.isNilS,AV.isNoRows,wk,dclo,datOf,binIs,addF,AV.isPtr,idxV,AV.isSl,AV.isSlice,AV.rows,ps,pv,extV,extS,AV.outs,AV.outF,packD,AV.dl,fieldV,fieldS,AV.cells?,AV.upr,AV.menc,AV.one,D.one,Value.oneCell',tagOf,AV.isApp,strV,strS,bolV,bolS,slcV,AV.isSlD,asrtS,AV.dcells,D.cells?,stcV,stcS,leafOk,eqDs,eqD,packA,D.val?,↓reduceIte,reduceCtorEq,Nat.reduceAdd,Nat.reduceSub,Nat.reduceMul,List.reduceReplicate,Nat.reduceLeDiff,Nat.reduceLT,Nat.reduceBEq,Nat.reduceEqDiff,Int.reduceNeg,Int.reduceEq,Int.reduceLE,Int.reduceLT,tfb,ctz6,O6_20,O6_30,O6_32,x6_12,x6_12_m1,x6_18,x6_18_m1,x6_19,eq_self, hlj', hlt', hkl', hji', kj6b, kj6n, hpb]
        and_intros <;> first | omega | exact ⟨(j + 1, (true, ban, hurt, last)), ⟨⟨by omega, hL⟩, by omega⟩, rfl, rfl, rfl, rfl, rfl⟩
      have hpb : ((l.getD j default).person == (l.getD i default).sheet.getD k default) = true := by simpa using hp
      have ha : (l.getD j default).kind = 0 ∨ (l.getD j default).kind = 1 ∨ (l.getD j default).kind = 2 ∨ (l.getD j default).kind = 3 ∨ (l.getD j default).kind = 4 ∨ (l.getD j default).kind = 5 := by omega
      rcases ha with kk | kk | kk | kk | kk | kk
      · have c0 : ((l.getD j default).kind == 0) = true := by simpa using kk
        have c1 : ((l.getD j default).kind == 1) = false := by rw [kk]; rfl
        have c2 : ((l.getD j default).kind == 2) = false := by rw [kk]; rfl
        have c3 : ((l.getD j default).kind == 3) = false := by rw [kk]; rfl
        have c5 : ((l.getD j default).kind == 5) = false := by rw [kk]; rfl
        by_cases q : (l.getD j default).n = (l.getD i default).n
        · have qb : ((l.getD j default).n == (l.getD i default).n) = true := by simpa using q
          have hst : stepU (l.getD j default) (l.getD i default).n ((l.getD i default).sheet.getD k default) (true, ban, hurt, last) = (true, ban, hurt, last) := by unfold stepU; rw [if_neg kj6, if_pos hp, if_pos kk, decide_eq_true q]; rfl
          rw [hst] at hL
          simp (maxSteps := 4000000) +contextual (disch := first | omega | exact qdb_ok (by kernel_rfl) | exact okb_ok (by kernel_rfl)) only [bw1,bw2,bw3,bw4,bw5,bw6,bw7,bc0,bc1,bc2,bc3,bc4,bc5,bc6,bc7,bb0,setPs,AV.owns,AV.datF,AV.frz,AV.cpy,ifV,isEqB,nilV,nilX,AV.isNilS,AV.isNoRows,wk,dclo,datOf,binIs,addF,AV.isPtr,idxV,AV.isSl,AV.isSlice,AV.rows,ps,pv,extV,extS,AV.outs,AV.outF,packD,AV.dl,fieldV,fieldS,AV.cells?,AV.upr,AV.menc,AV.one,D.one,Value.oneCell',tagOf,AV.isApp,strV,strS,bolV,bolS,slcV,AV.isSlD,asrtS,AV.dcells,D.cells?,stcV,stcS,leafOk,eqDs,eqD,packA,D.val?,↓reduceIte,reduceCtorEq,Nat.reduceAdd,Nat.reduceSub,Nat.reduceMul,List.reduceReplicate,Nat.reduceLeDiff,Nat.reduceLT,Nat.reduceBEq,Nat.reduceEqDiff,Int.reduceNeg,Int.reduceEq,Int.reduceLE,Int.reduceLT,tfb,ctz6,O6_20,O6_30,O6_32,x6_12,x6_12_m1,x6_18,x6_18_m1,x6_19,eq_self, hlj', hlt', hkl', hji', kj6b, kj6n, hpb, c0, c1, c2, c3, c5, qb]
          and_intros <;> first | omega | exact ⟨(j + 1, (true, ban, hurt, last)), ⟨⟨by omega, hL⟩, by omega⟩, rfl, rfl, rfl, rfl, rfl⟩
        · have qb : ((l.getD j default).n == (l.getD i default).n) = false := by simpa using q
          have hst : stepU (l.getD j default) (l.getD i default).n ((l.getD i default).sheet.getD k default) (true, ban, hurt, last) = (true, ban, hurt, last) := by unfold stepU; rw [if_neg kj6, if_pos hp, if_pos kk, decide_eq_false q]; rfl
          rw [hst] at hL
          simp (maxSteps := 4000000) +contextual (disch := first | omega | exact qdb_ok (by kernel_rfl) | exact okb_ok (by kernel_rfl)) only [bw1,bw2,bw3,bw4,bw5,bw6,bw7,bc0,bc1,bc2,bc3,bc4,bc5,bc6,bc7,bb0,setPs,AV.owns,AV.datF,AV.frz,AV.cpy,ifV,isEqB,nilV,nilX,AV.isNilS,AV.isNoRows,wk,dclo,datOf,binIs,addF,AV.isPtr,idxV,AV.isSl,AV.isSlice,AV.rows,ps,pv,extV,extS,AV.outs,AV.outF,packD,AV.dl,fieldV,fieldS,AV.cells?,AV.upr,AV.menc,AV.one,D.one,Value.oneCell',tagOf,AV.isApp,strV,strS,bolV,bolS,slcV,AV.isSlD,asrtS,AV.dcells,D.cells?,stcV,stcS,leafOk,eqDs,eqD,packA,D.val?,↓reduceIte,reduceCtorEq,Nat.reduceAdd,Nat.reduceSub,Nat.reduceMul,List.reduceReplicate,Nat.reduceLeDiff,Nat.reduceLT,Nat.reduceBEq,Nat.reduceEqDiff,Int.reduceNeg,Int.reduceEq,Int.reduceLE,Int.reduceLT,tfb,ctz6,O6_20,O6_30,O6_32,x6_12,x6_12_m1,x6_18,x6_18_m1,x6_19,eq_self, hlj', hlt', hkl', hji', kj6b, kj6n, hpb, c0, c1, c2, c3, c5, qb]
          and_intros <;> first | omega | exact ⟨(j + 1, (true, ban, hurt, last)), ⟨⟨by omega, hL⟩, by omega⟩, rfl, rfl, rfl, rfl, rfl⟩
      · have c0 : ((l.getD j default).kind == 0) = false := by rw [kk]; rfl
        have c1 : ((l.getD j default).kind == 1) = true := by simpa using kk
        have c2 : ((l.getD j default).kind == 2) = false := by rw [kk]; rfl
        have c3 : ((l.getD j default).kind == 3) = false := by rw [kk]; rfl
        have c5 : ((l.getD j default).kind == 5) = false := by rw [kk]; rfl
        have hst : stepU (l.getD j default) (l.getD i default).n ((l.getD i default).sheet.getD k default) (true, ban, hurt, last) = (true, ban + (l.getD j default).n, hurt, last) := by unfold stepU; rw [if_neg kj6, if_pos hp, if_neg (by omega), if_pos kk]
        rw [hst] at hL
        simp (maxSteps := 4000000) +contextual (disch := first | omega | exact qdb_ok (by kernel_rfl) | exact okb_ok (by kernel_rfl)) only [bw1,bw2,bw3,bw4,bw5,bw6,bw7,bc0,bc1,bc2,bc3,bc4,bc5,bc6,bc7,bb0,setPs,AV.owns,AV.datF,AV.frz,AV.cpy,ifV,isEqB,nilV,nilX,AV.isNilS,AV.isNoRows,wk,dclo,datOf,binIs,addF,AV.isPtr,idxV,AV.isSl,AV.isSlice,AV.rows,ps,pv,extV,extS,AV.outs,AV.outF,packD,AV.dl,fieldV,fieldS,AV.cells?,AV.upr,AV.menc,AV.one,D.one,Value.oneCell',tagOf,AV.isApp,strV,strS,bolV,bolS,slcV,AV.isSlD,asrtS,AV.dcells,D.cells?,stcV,stcS,leafOk,eqDs,eqD,packA,D.val?,↓reduceIte,reduceCtorEq,Nat.reduceAdd,Nat.reduceSub,Nat.reduceMul,List.reduceReplicate,Nat.reduceLeDiff,Nat.reduceLT,Nat.reduceBEq,Nat.reduceEqDiff,Int.reduceNeg,Int.reduceEq,Int.reduceLE,Int.reduceLT,tfb,ctz6,O6_20,O6_30,O6_32,x6_12,x6_12_m1,x6_18,x6_18_m1,x6_19,eq_self, hlj', hlt', hkl', hji', kj6b, kj6n, hpb, c0, c1, c2, c3, c5]
        and_intros <;> first | omega | exact ⟨(j + 1, (true, ban + (l.getD j default).n, hurt, last)), ⟨⟨by omega, hL⟩, by omega⟩, rfl, rfl, rfl, rfl, rfl⟩
      · have c0 : ((l.getD j default).kind == 0) = false := by rw [kk]; rfl
        have c1 : ((l.getD j default).kind == 1) = false := by rw [kk]; rfl
        have c2 : ((l.getD j default).kind == 2) = true := by simpa using kk
        have c5 : ((l.getD j default).kind == 5) = false := by rw [kk]; rfl
        have hst : stepU (l.getD j default) (l.getD i default).n ((l.getD i default).sheet.getD k default) (true, ban, hurt, last) = (true, ban, true, (l.getD j default).day) := by unfold stepU; rw [if_neg kj6, if_pos hp, if_neg (by omega), if_neg (by omega), if_pos (.inl kk)]
        rw [hst] at hL
        simp (maxSteps := 4000000) +contextual (disch := first | omega | exact qdb_ok (by kernel_rfl) | exact okb_ok (by kernel_rfl)) only [bw1,bw2,bw3,bw4,bw5,bw6,bw7,bc0,bc1,bc2,bc3,bc4,bc5,bc6,bc7,bb0,setPs,AV.owns,AV.datF,AV.frz,AV.cpy,ifV,isEqB,nilV,nilX,AV.isNilS,AV.isNoRows,wk,dclo,datOf,binIs,addF,AV.isPtr,idxV,AV.isSl,AV.isSlice,AV.rows,ps,pv,extV,extS,AV.outs,AV.outF,packD,AV.dl,fieldV,fieldS,AV.cells?,AV.upr,AV.menc,AV.one,D.one,Value.oneCell',tagOf,AV.isApp,strV,strS,bolV,bolS,slcV,AV.isSlD,asrtS,AV.dcells,D.cells?,stcV,stcS,leafOk,eqDs,eqD,packA,D.val?,↓reduceIte,reduceCtorEq,Nat.reduceAdd,Nat.reduceSub,Nat.reduceMul,List.reduceReplicate,Nat.reduceLeDiff,Nat.reduceLT,Nat.reduceBEq,Nat.reduceEqDiff,Int.reduceNeg,Int.reduceEq,Int.reduceLE,Int.reduceLT,tfb,ctz6,O6_20,O6_30,O6_32,x6_12,x6_12_m1,x6_18,x6_18_m1,x6_19,eq_self, hlj', hlt', hkl', hji', kj6b, kj6n, hpb, c0, c1, c2, c5]
        and_intros <;> first | omega | exact ⟨(j + 1, (true, ban, true, (l.getD j default).day)), ⟨⟨by omega, hL⟩, by omega⟩, rfl, rfl, rfl, rfl, rfl⟩
      · have c0 : ((l.getD j default).kind == 0) = false := by rw [kk]; rfl
        have c1 : ((l.getD j default).kind == 1) = false := by rw [kk]; rfl
        have c2 : ((l.getD j default).kind == 2) = false := by rw [kk]; rfl
        have c3 : ((l.getD j default).kind == 3) = true := by simpa using kk
        have c5 : ((l.getD j default).kind == 5) = false := by rw [kk]; rfl
        have hst : stepU (l.getD j default) (l.getD i default).n ((l.getD i default).sheet.getD k default) (true, ban, hurt, last) = (true, ban, true, (l.getD j default).day) := by unfold stepU; rw [if_neg kj6, if_pos hp, if_neg (by omega), if_neg (by omega), if_pos (.inr kk)]
        rw [hst] at hL
        simp (maxSteps := 4000000) +contextual (disch := first | omega | exact qdb_ok (by kernel_rfl) | exact okb_ok (by kernel_rfl)) only [bw1,bw2,bw3,bw4,bw5,bw6,bw7,bc0,bc1,bc2,bc3,bc4,bc5,bc6,bc7,bb0,setPs,AV.owns,AV.datF,AV.frz,AV.cpy,ifV,isEqB,nilV,nilX,AV.isNilS,AV.isNoRows,wk,dclo,datOf,binIs,addF,AV.isPtr,idxV,AV.isSl,AV.isSlice,AV.rows,ps,pv,extV,extS,AV.outs,AV.outF,packD,AV.dl,fieldV,fieldS,AV.cells?,AV.upr,AV.menc,AV.one,D.one,Value.oneCell',tagOf,AV.isApp,strV,strS,bolV,bolS,slcV,AV.isSlD,asrtS,AV.dcells,D.cells?,stcV,stcS,leafOk,eqDs,eqD,packA,D.val?,↓reduceIte,reduceCtorEq,Nat.reduceAdd,Nat.reduceSub,Nat.reduceMul,List.reduceReplicate,Nat.reduceLeDiff,Nat.reduceLT,Nat.reduceBEq,Nat.reduceEqDiff,Int.reduceNeg,Int.reduceEq,Int.reduceLE,Int.reduceLT,tfb,ctz6,O6_20,O6_30,O6_32,x6_12,x6_12_m1,x6_18,x6_18_m1,x6_19,eq_self, hlj', hlt', hkl', hji', kj6b, kj6n, hpb, c0, c1, c2, c3, c5]
        and_intros <;> first | omega | exact ⟨(j + 1, (true, ban, true, (l.getD j default).day)), ⟨⟨by omega, hL⟩, by omega⟩, rfl, rfl, rfl, rfl, rfl⟩
      · have c0 : ((l.getD j default).kind == 0) = false := by rw [kk]; rfl
        have c1 : ((l.getD j default).kind == 1) = false := by rw [kk]; rfl
        have c2 : ((l.getD j default).kind == 2) = false := by rw [kk]; rfl
        have c3 : ((l.getD j default).kind == 3) = false := by rw [kk]; rfl
        have c5 : ((l.getD j default).kind == 5) = false := by rw [kk]; rfl
        have hst : stepU (l.getD j default) (l.getD i default).n ((l.getD i default).sheet.getD k default) (true, ban, hurt, last) = (true, ban, hurt, last) := by unfold stepU; rw [if_neg kj6, if_pos hp, if_neg (by omega), if_neg (by omega), if_neg (by omega), if_neg (by omega)]
        rw [hst] at hL
        simp (maxSteps := 4000000) +contextual (disch := first | omega | exact qdb_ok (by kernel_rfl) | exact okb_ok (by kernel_rfl)) only [bw1,bw2,bw3,bw4,bw5,bw6,bw7,bc0,bc1,bc2,bc3,bc4,bc5,bc6,bc7,bb0,setPs,AV.owns,AV.datF,AV.frz,AV.cpy,ifV,isEqB,nilV,nilX,AV.isNilS,AV.isNoRows,wk,dclo,datOf,binIs,addF,AV.isPtr,idxV,AV.isSl,AV.isSlice,AV.rows,ps,pv,extV,extS,AV.outs,AV.outF,packD,AV.dl,fieldV,fieldS,AV.cells?,AV.upr,AV.menc,AV.one,D.one,Value.oneCell',tagOf,AV.isApp,strV,strS,bolV,bolS,slcV,AV.isSlD,asrtS,AV.dcells,D.cells?,stcV,stcS,leafOk,eqDs,eqD,packA,D.val?,↓reduceIte,reduceCtorEq,Nat.reduceAdd,Nat.reduceSub,Nat.reduceMul,List.reduceReplicate,Nat.reduceLeDiff,Nat.reduceLT,Nat.reduceBEq,Nat.reduceEqDiff,Int.reduceNeg,Int.reduceEq,Int.reduceLE,Int.reduceLT,tfb,ctz6,O6_20,O6_30,O6_32,x6_12,x6_12_m1,x6_18,x6_18_m1,x6_19,eq_self, hlj', hlt', hkl', hji', kj6b, kj6n, hpb, c0, c1, c2, c3, c5]
        and_intros <;> first | omega | exact ⟨(j + 1, (true, ban, hurt, last)), ⟨⟨by omega, hL⟩, by omega⟩, rfl, rfl, rfl, rfl, rfl⟩
      · have c0 : ((l.getD j default).kind == 0) = false := by rw [kk]; rfl
        have c1 : ((l.getD j default).kind == 1) = false := by rw [kk]; rfl
        have c2 : ((l.getD j default).kind == 2) = false := by rw [kk]; rfl
        have c3 : ((l.getD j default).kind == 3) = false := by rw [kk]; rfl
        have c5 : ((l.getD j default).kind == 5) = true := by simpa using kk
        have h6 := h5 kk hp
        have h6' : ¬ (l.getD j default).day < last + 6 := by omega
        have hst : stepU (l.getD j default) (l.getD i default).n ((l.getD i default).sheet.getD k default) (true, ban, hurt, last) = (true, ban, false, last) := by unfold stepU; rw [if_neg kj6, if_pos hp, if_neg (by omega), if_neg (by omega), if_neg (by omega), if_pos kk]
        rw [hst] at hL
        simp (maxSteps := 4000000) +contextual (disch := first | omega | exact qdb_ok (by kernel_rfl) | exact okb_ok (by kernel_rfl)) only [bw1,bw2,bw3,bw4,bw5,bw6,bw7,bc0,bc1,bc2,bc3,bc4,bc5,bc6,bc7,bb0,setPs,AV.owns,AV.datF,AV.frz,AV.cpy,ifV,isEqB,nilV,nilX,AV.isNilS,AV.isNoRows,wk,dclo,datOf,binIs,addF,AV.isPtr,idxV,AV.isSl,AV.isSlice,AV.rows,ps,pv,extV,extS,AV.outs,AV.outF,packD,AV.dl,fieldV,fieldS,AV.cells?,AV.upr,AV.menc,AV.one,D.one,Value.oneCell',tagOf,AV.isApp,strV,strS,bolV,bolS,slcV,AV.isSlD,asrtS,AV.dcells,D.cells?,stcV,stcS,leafOk,eqDs,eqD,packA,D.val?,↓reduceIte,reduceCtorEq,Nat.reduceAdd,Nat.reduceSub,Nat.reduceMul,List.reduceReplicate,Nat.reduceLeDiff,Nat.reduceLT,Nat.reduceBEq,Nat.reduceEqDiff,Int.reduceNeg,Int.reduceEq,Int.reduceLE,Int.reduceLT,tfb,ctz6,O6_20,O6_30,O6_32,x6_12,x6_12_m1,x6_18,x6_18_m1,x6_19,eq_self, hlj', hlt', hkl', hji', kj6b, kj6n, hpb, c0, c1, c2, c3, c5, h6']
        and_intros <;> first | omega | exact ⟨(j + 1, (true, ban, false, last)), ⟨⟨by omega, hL⟩, by omega⟩, rfl, rfl, rfl, rfl, rfl⟩
    have kj6b : ((l.getD j default).kind == 6) = true := by simpa using kj6
    have kj6n : ((l.getD j default).kind != 6) = false := by simpa using kj6
    have hno := hno j hlj kj6
    have hszj := hsh (l.getD j default) (by rw [at_lt hjl]; exact List.getElem_mem _)
    by_cases q : (l.getD j default).n = (l.getD i default).n
    case' pos =>
      have qb : ((l.getD j default).n == (l.getD i default).n) = true := by simpa using q
      have hst : stepU (l.getD j default) (l.getD i default).n ((l.getD i default).sheet.getD k default) (true, ban, hurt, last) = (true, max 0 (ban - 1), hurt, last) := by unfold stepU; rw [if_pos kj6]; first | rw [if_pos ⟨q, rfl⟩] | rw [if_neg (by simp)]
    case' neg =>
      have qb : ((l.getD j default).n == (l.getD i default).n) = false := by simpa using q
      have hst : stepU (l.getD j default) (l.getD i default).n ((l.getD i default).sheet.getD k default) (true, ban, hurt, last) = (true, ban, hurt, last) := by unfold stepU; rw [if_pos kj6, if_neg fun h => q h.1]
    all_goals
      rw [hst] at hL
      by_cases e : (l.getD j default).day = (l.getD i default).day
      case neg =>
        have eb : ((l.getD j default).day != (l.getD i default).day) = true := by simpa using e
        simp (maxSteps := 4000000) +contextual (disch := first | omega | exact qdb_ok (by kernel_rfl) | exact okb_ok (by kernel_rfl)) only [bw1,bw2,bw3,bw4,bw5,bw6,bw7,bc0,bc1,bc2,bc3,bc4,bc5,bc6,bc7,bb0,setPs,AV.owns,AV.datF,AV.frz,AV.cpy,ifV,isEqB,nilV,nilX,AV.isNilS,AV.isNoRows,wk,dclo,datOf,binIs,addF,AV.isPtr,idxV,AV.isSl,AV.isSlice,AV.rows,ps,pv,extV,extS,AV.outs,AV.outF,packD,AV.dl,fieldV,fieldS,AV.cells?,AV.upr,AV.menc,AV.one,D.one,Value.oneCell',tagOf,AV.isApp,strV,strS,bolV,bolS,slcV,AV.isSlD,asrtS,AV.dcells,D.cells?,stcV,stcS,leafOk,eqDs,eqD,packA,D.val?,↓reduceIte,reduceCtorEq,Nat.reduceAdd,Nat.reduceSub,Nat.reduceMul,List.reduceReplicate,Nat.reduceLeDiff,Nat.reduceLT,Nat.reduceBEq,Nat.reduceEqDiff,Int.reduceNeg,Int.reduceEq,Int.reduceLE,Int.reduceLT,tfb,ctz6,O6_20,O6_30,O6_32,x6_12,x6_12_m1,x6_18,x6_18_m1,x6_19,eq_self, hlj', hlt', hkl', hji', kj6b, kj6n, qb, eb]
        and_intros <;> first | omega | exact ⟨(j + 1, _), ⟨⟨by omega, hL⟩, by omega⟩, rfl, rfl, rfl, rfl, rfl⟩
      have eb : ((l.getD j default).day != (l.getD i default).day) = false := by simpa using e
      have hno := hno e
      simp (maxSteps := 4000000) +contextual (disch := first | omega | exact qdb_ok (by kernel_rfl) | exact okb_ok (by kernel_rfl)) only [bw1,bw2,bw3,bw4,bw5,bw6,bw7,bc0,bc1,bc2,bc3,bc4,bc5,bc6,bc7,bb0,setPs,AV.owns,AV.datF,AV.frz,AV.cpy,ifV,isEqB,nilV,nilX,AV.isNilS,AV.isNoRows,wk,dclo,datOf,binIs,addF,AV.isPtr,idxV,AV.isSl,AV.isSlice,AV.rows,ps,pv,extV,extS,AV.outs,AV.outF,packD,AV.dl,fieldV,fieldS,AV.cells?,AV.upr,AV.menc,AV.one,D.one,Value.oneCell',tagOf,AV.isApp,strV,strS,bolV,bolS,slcV,AV.isSlD,asrtS,AV.dcells,D.cells?,stcV,stcS,leafOk,eqDs,eqD,packA,D.val?,↓reduceIte,reduceCtorEq,Nat.reduceAdd,Nat.reduceSub,Nat.reduceMul,List.reduceReplicate,Nat.reduceLeDiff,Nat.reduceLT,Nat.reduceBEq,Nat.reduceEqDiff,Int.reduceNeg,Int.reduceEq,Int.reduceLE,Int.reduceLT,tfb,ctz6,O6_20,O6_30,O6_32,x6_12,x6_12_m1,x6_18,x6_18_m1,x6_19,eq_self, hlj', hlt', hkl', hji', kj6b, kj6n, qb, eb]
      refine ⟨by omega, by omega, by omega, ?_⟩
      refine loop_xu (O := O6) (tb := 0) Ct6_ok hmix (by kernel_rfl) (σ := Nat) (fun z => [(16, .i z)]) (fun _ => []) (fun z => z ≤ (l.getD j default).sheet.length) (fun z => (l.getD j default).sheet.length - z) 0 (Nat.zero_le _) ?_ ?_
      · simp (maxSteps := 4000000) +contextual (disch := first | omega | exact qdb_ok (by kernel_rfl) | exact okb_ok (by kernel_rfl)) only [bw1,bw2,bw3,bw4,bw5,bw6,bw7,bc0,bc1,bc2,bc3,bc4,bc5,bc6,bc7,bb0,setPs,AV.owns,AV.datF,AV.frz,AV.cpy,ifV,isEqB,nilV,nilX,AV.isNilS,AV.isNoRows,wk,dclo,datOf,binIs,addF,AV.isPtr,idxV,AV.isSl,AV.isSlice,AV.rows,ps,pv,extV,extS,AV.outs,AV.outF,packD,AV.dl,fieldV,fieldS,AV.cells?,AV.upr,AV.menc,AV.one,D.one,Value.oneCell',tagOf,AV.isApp,strV,strS,bolV,bolS,slcV,AV.isSlD,asrtS,AV.dcells,D.cells?,stcV,stcS,leafOk,eqDs,eqD,packA,D.val?,↓reduceIte,reduceCtorEq,Nat.reduceAdd,Nat.reduceSub,Nat.reduceMul,List.reduceReplicate,Nat.reduceLeDiff,Nat.reduceLT,Nat.reduceBEq,Nat.reduceEqDiff,Int.reduceNeg,Int.reduceEq,Int.reduceLE,Int.reduceLT,tfb,ctz6,O6_20,O6_30,O6_32,x6_12,x6_12_m1,x6_18,x6_18_m1,x6_19,eq_self]
        try rfl
      intro z hz
      by_cases hzl : z < (l.getD j default).sheet.length
      · have hzl' : (z : Int) < (l.getD j default).sheet.length := by omega
        have hnz : ((l.getD j default).sheet.getD z default == (l.getD i default).sheet.getD k default) = false := by simpa using hno z hzl
        simp (maxSteps := 4000000) +contextual (disch := first | omega | exact qdb_ok (by kernel_rfl) | exact okb_ok (by kernel_rfl)) only [bw1,bw2,bw3,bw4,bw5,bw6,bw7,bc0,bc1,bc2,bc3,bc4,bc5,bc6,bc7,bb0,setPs,AV.owns,AV.datF,AV.frz,AV.cpy,ifV,isEqB,nilV,nilX,AV.isNilS,AV.isNoRows,wk,dclo,datOf,binIs,addF,AV.isPtr,idxV,AV.isSl,AV.isSlice,AV.rows,ps,pv,extV,extS,AV.outs,AV.outF,packD,AV.dl,fieldV,fieldS,AV.cells?,AV.upr,AV.menc,AV.one,D.one,Value.oneCell',tagOf,AV.isApp,strV,strS,bolV,bolS,slcV,AV.isSlD,asrtS,AV.dcells,D.cells?,stcV,stcS,leafOk,eqDs,eqD,packA,D.val?,↓reduceIte,reduceCtorEq,Nat.reduceAdd,Nat.reduceSub,Nat.reduceMul,List.reduceReplicate,Nat.reduceLeDiff,Nat.reduceLT,Nat.reduceBEq,Nat.reduceEqDiff,Int.reduceNeg,Int.reduceEq,Int.reduceLE,Int.reduceLT,tfb,ctz6,O6_20,O6_30,O6_32,x6_12,x6_12_m1,x6_18,x6_18_m1,x6_19,eq_self, hzl', hnz]
        and_intros <;> first | omega | exact ⟨z + 1, ⟨by omega, by omega⟩, rfl⟩
      · have hzl' : ¬ (z : Int) < (l.getD j default).sheet.length := by omega
        simp (maxSteps := 4000000) +contextual (disch := first | omega | exact qdb_ok (by kernel_rfl) | exact okb_ok (by kernel_rfl)) only [bw1,bw2,bw3,bw4,bw5,bw6,bw7,bc0,bc1,bc2,bc3,bc4,bc5,bc6,bc7,bb0,setPs,AV.owns,AV.datF,AV.frz,AV.cpy,ifV,isEqB,nilV,nilX,AV.isNilS,AV.isNoRows,wk,dclo,datOf,binIs,addF,AV.isPtr,idxV,AV.isSl,AV.isSlice,AV.rows,ps,pv,extV,extS,AV.outs,AV.outF,packD,AV.dl,fieldV,fieldS,AV.cells?,AV.upr,AV.menc,AV.one,D.one,Value.oneCell',tagOf,AV.isApp,strV,strS,bolV,bolS,slcV,AV.isSlD,asrtS,AV.dcells,D.cells?,stcV,stcS,leafOk,eqDs,eqD,packA,D.val?,↓reduceIte,reduceCtorEq,Nat.reduceAdd,Nat.reduceSub,Nat.reduceMul,List.reduceReplicate,Nat.reduceLeDiff,Nat.reduceLT,Nat.reduceBEq,Nat.reduceEqDiff,Int.reduceNeg,Int.reduceEq,Int.reduceLE,Int.reduceLT,tfb,ctz6,O6_20,O6_30,O6_32,x6_12,x6_12_m1,x6_18,x6_18_m1,x6_19,eq_self, hzl']
        and_intros <;> first | omega | exact ⟨(j + 1, _), ⟨⟨by omega, hL⟩, by omega⟩, rfl, rfl, rfl, rfl, rfl⟩
end Go.Proofs.Ytohkngiflfkjjaa
