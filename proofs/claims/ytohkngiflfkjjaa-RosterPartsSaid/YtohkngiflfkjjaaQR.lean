/- A part of the proof that the last text ends: what functions of the program do, told by plain data. -/
import Derived.Test.YtohkngiflfkjjaaQP
import Derived.Test.YtohkngiflfkjjaaQJ0
set_option linter.unusedVariables false
set_option linter.unusedSimpArgs false
namespace Go.Proofs.Ytohkngiflfkjjaa
open Go Go.E Go.Maps
set_option maxRecDepth 100000
set_option maxHeartbeats 16000000
/-! ### RosterParts -/
theorem play3p (l : List Ev) : (playR l).2.2 = (runR l).2.2 := by
  unfold playR
  split
  · rename_i h; rw [h]
  · rfl
theorem play2n (l : List Ev) : (playR l).2.1 = ((runR l).2.1 : Int) := by
  unfold playR
  split <;> rfl
theorem err_ne3 {l : List Ev} {j : Nat} : errJ l j ≠ 3 := by
  unfold errJ
  split
  · split
    · decide
    · unfold doR
      have hf : ∀ (s : St) (x : Ev) (r : List Mem × Int), r.2 ≠ 3 → (finR s x r).2 ≠ 3 := fun s x r h => by
        unfold finR; split
        · simp
        · exact h
      split
      · refine hf _ _ _ ?_
        unfold joinR; split
        · decide
        · split <;> simp
      · split
        · refine hf _ _ _ ?_
          unfold matchR
          have hc : ∀ (m : List Mem) (e : List Ev) (n d : Int) (sh : List Int) (k i : Nat), chkN m e n d sh k i ≠ 3 := fun m e n d sh k => by
            induction k with
            | zero => intro i; simp [chkN]
            | succ k ih =>
              intro i
              unfold chkN
              repeat' split
              all_goals first | exact ih _ | decide
          repeat' split
          all_goals first | exact hc _ _ _ _ _ _ _ | simp
        · split
          · simp
          · refine hf _ _ _ ?_
            unfold oneR
            repeat' split
            all_goals simp
  · decide
theorem take_run {l : List Ev} (hl : l.length ≤ 256) {n : Nat} (hn : n ≤ l.length) (ha : ∀ j, j < n → Acc l j) {k : Nat} (hk : k ≤ n) : runR (l.take k) = (stJ (l.take k) k, k, 0) := by
  have hlen : (l.take k).length = k := by rw [List.length_take]; omega
  have := run_all (l := l.take k) (by omega) (fun j hj => by
    have := ha j (by omega)
    rw [← List.take_append_drop k l] at this
    exact (acc_app hj).1 this)
  rw [this, hlen]
def O10 : Nat → Sch := fun id => if id = 21 then .one 0 (.one 1 (.one 2 (.one 3 (.one 4 (.one 5 (.one 6 (.one 7 (.one 8 (.one 9 (.one 10 (.one 11 (.one 12 (.one 13 (.one 14 (.one 15 (.one 16 (.one 17 (.one 18 (.one 19 (.one 20 (.one 21 (.one 22 (.one 23 (.done)))))))))))))))))))))))) else .done
theorem O10_21 : O10 21 = .one 0 (.one 1 (.one 2 (.one 3 (.one 4 (.one 5 (.one 6 (.one 7 (.one 8 (.one 9 (.one 10 (.one 11 (.one 12 (.one 13 (.one 14 (.one 15 (.one 16 (.one 17 (.one 18 (.one 19 (.one 20 (.one 21 (.one 22 (.one 23 (.done)))))))))))))))))))))))) := rfl
theorem ho10 : Try.f10.body.map (okO O10) = some true := by kernel_rfl
def Cf10 : Nat → List AV → (AV → List AV → Sto → Prop) → Kt → List AV → Sto → Prop := fun f args K Q e s => match f with
  | 12 => ent12 args K e s
  | 18 => ent18 args K e s
  | 19 => ent19 args K e s
  | 21 => ent21 args K e s
  | _ => False
def Ct10 : CT := { f := Cf10, y := noYld, z := fun d => false }
theorem ctz10 {d : Nat} : CT.z Ct10 d = (false) := id rfl
theorem Ct10_ok : Ct10.ok Try.prog := ok_of_f (fun f args K Q e s h => by
  have h : Cf10 f args K Q e s := h
  unfold Cf10 at h; split at h
  · exact ent12_ok h
  · exact ent18_ok h
  · exact ent19_ok h
  · exact ent21_ok h
  · exact h.elim) (fun _ _ _ _ _ _ _ _ _ h => h)
theorem x10_12 {l : List Ev} {KK : AV → List AV → Sto → Prop} {QQ : Kt} {ii : At KK} {jj : At QQ} {ee : List AV} {ss : Sto} : xC Ct10 12 [.d (.sl 5 (l.map Ev.c))] KK QQ ii jj ee ss = ((ShsOk l) ∧ KK (.d (.tup [.sl 5 ((playR l).1.map Mem.c), .i (playR l).2.1, .i (playR l).2.2])) ee ss) := eq12
theorem x10_12_m1 {l : List Ev} {g1 el1 : Nat} {KK : AV → List AV → Sto → Prop} {QQ : Kt} {ii : At KK} {jj : At QQ} {ee : List AV} {ss : Sto} : xC Ct10 12 [.own g1 el1 5 (l.map Ev.c)] KK QQ ii jj ee ss = ((ShsOk l) ∧ KK (.d (.tup [.sl 5 ((playR l).1.map Mem.c), .i (playR l).2.1, .i (playR l).2.2])) ee ss) := eqo12
theorem x10_18 {l : List Ev} {m : Int} {KK : AV → List AV → Sto → Prop} {QQ : Kt} {ii : At KK} {jj : At QQ} {ee : List AV} {ss : Sto} : xC Ct10 18 [.d (.sl 5 (l.map Ev.c)), .d (.i m)] KK QQ ii jj ee ss = (KK (.d (.b (manyB l m))) ee ss) := eq18
theorem x10_18_m1 {l : List Ev} {m : Int} {g1 el1 : Nat} {KK : AV → List AV → Sto → Prop} {QQ : Kt} {ii : At KK} {jj : At QQ} {ee : List AV} {ss : Sto} : xC Ct10 18 [.own g1 el1 5 (l.map Ev.c), .d (.i m)] KK QQ ii jj ee ss = ((.b (manyB l m) : D).flat = true ∧ KK (.d (.b (manyB l m))) ee ss) := eqo18
theorem x10_19  {KK : AV → List AV → Sto → Prop} {QQ : Kt} {ii : At KK} {jj : At QQ} {ee : List AV} {ss : Sto} : xC Ct10 19 [] KK QQ ii jj ee ss = (KK (.d (.b true)) ee ss) := eq19
theorem x10_21 {a : List Mem} {b : List Mem} {KK : AV → List AV → Sto → Prop} {QQ : Kt} {ii : At KK} {jj : At QQ} {ee : List AV} {ss : Sto} : xC Ct10 21 [.d (.sl 5 (a.map Mem.c)), .d (.sl 5 (b.map Mem.c))] KK QQ ii jj ee ss = ((a.length ≤ 1000000) ∧ KK (.d (.b (decide (a = b)))) ee ss) := eq21
theorem x10_21_m1 {a : List Mem} {b : List Mem} {g1 el1 : Nat} {KK : AV → List AV → Sto → Prop} {QQ : Kt} {ii : At KK} {jj : At QQ} {ee : List AV} {ss : Sto} : xC Ct10 21 [.own g1 el1 5 (a.map Mem.c), .d (.sl 5 (b.map Mem.c))] KK QQ ii jj ee ss = ((a.length ≤ 1000000) ∧ (.b (decide (a = b)) : D).flat = true ∧ KK (.d (.b (decide (a = b)))) ee ss) := by
  show ent21 _ _ _ _ = _
  unfold ent21; rw [ent_iff (a, b) (by intro b h; simpa [Prod.ext_iff, and_assoc, Int.ofNat_inj, ints_inj, evs_inj, mems_inj, ev_inj, mem_inj, st_inj] using h) rfl]; simp
theorem x10_21_m2 {a : List Mem} {b : List Mem} {g1 el1 : Nat} {KK : AV → List AV → Sto → Prop} {QQ : Kt} {ii : At KK} {jj : At QQ} {ee : List AV} {ss : Sto} : xC Ct10 21 [.d (.sl 5 (a.map Mem.c)), .own g1 el1 5 (b.map Mem.c)] KK QQ ii jj ee ss = ((a.length ≤ 1000000) ∧ (.b (decide (a = b)) : D).flat = true ∧ KK (.d (.b (decide (a = b)))) ee ss) := by
  show ent21 _ _ _ _ = _
  unfold ent21; rw [ent_iff (a, b) (by intro b h; simpa [Prod.ext_iff, and_assoc, Int.ofNat_inj, ints_inj, evs_inj, mems_inj, ev_inj, mem_inj, st_inj] using h) rfl]; simp
theorem x10_21_m3 {a : List Mem} {b : List Mem} {g1 el1 : Nat} {g2 el2 : Nat} {KK : AV → List AV → Sto → Prop} {QQ : Kt} {ii : At KK} {jj : At QQ} {ee : List AV} {ss : Sto} : xC Ct10 21 [.own g1 el1 5 (a.map Mem.c), .own g2 el2 5 (b.map Mem.c)] KK QQ ii jj ee ss = ((a.length ≤ 1000000) ∧ (.b (decide (a = b)) : D).flat = true ∧ KK (.d (.b (decide (a = b)))) ee ss) := eqo21
theorem c10 : callable Try.prog 10 = true := by kernel_rfl
theorem pf10 (l : List Ev) (cut cl : Int) (h : 0 ≤ cut ∧ cut ≤ 255) : PF Try.prog 10 [.sl 5 (l.map Ev.c), .v (.int .u8 cut), .i cl] (fun zz => zz = .ret (.b true)) := by
  have hcut := h
  by_cases cm : manyB l 60 = true
  · refine PF_nil (PF_start (O := O10) Ct10_ok hmix ho10 Try.func10 c10 rfl Try.ntmps10 Try.results10 ?_)
    simp (maxSteps := 4000000) +contextual (disch := first | omega | exact qdb_ok (by kernel_rfl) | exact okb_ok (by kernel_rfl)) only [bw1,bw2,bw3,bw4,bw5,bw6,bw7,bc0,bc1,bc2,bc3,bc4,bc5,bc6,bc7,bb0,setPs,AV.owns,AV.datF,AV.frz,AV.cpy,ifV,isEqB,nilV,nilX,AV.isNilS,AV.isNoRows,wk,dclo,datOf,binIs,addF,AV.isPtr,idxV,AV.isSl,AV.isSlice,AV.rows,ps,pv,extV,extS,AV.outs,AV.outF,packD,AV.dl,fieldV,fieldS,AV.cells?,AV.upr,AV.menc,AV.one,D.one,Value.oneCell',tagOf,AV.isApp,strV,strS,bolV,bolS,slcV,AV.isSlD,asrtS,AV.dcells,D.cells?,stcV,stcS,leafOk,eqDs,eqD,packA,D.val?,↓reduceIte,reduceCtorEq,Nat.reduceAdd,Nat.reduceSub,Nat.reduceMul,List.reduceReplicate,Nat.reduceLeDiff,Nat.reduceLT,Nat.reduceBEq,Nat.reduceEqDiff,Int.reduceNeg,Int.reduceEq,Int.reduceLE,Int.reduceLT,tfb,ctz10,O10_21,x10_12,x10_12_m1,x10_18,x10_18_m1,x10_19,x10_21,x10_21_m1,x10_21_m2,x10_21_m3,cm]
  obtain ⟨hl, hl2, hsh, h60⟩ := many_no cm
  by_cases h256 : l.length ≤ 256
  case neg =>
    have hr : runR l = (⟨[], []⟩, 0, 3) := by unfold runR; rw [if_pos (by omega)]
    have hp : playR l = ([], 0, 3) := by rw [play_err (by rw [hr]; decide), hr]; rfl
    refine PF_nil (PF_start (O := O10) Ct10_ok hmix ho10 Try.func10 c10 rfl Try.ntmps10 Try.results10 ?_)
    simp (maxSteps := 4000000) +contextual (disch := first | omega | exact qdb_ok (by kernel_rfl) | exact okb_ok (by kernel_rfl)) only [bw1,bw2,bw3,bw4,bw5,bw6,bw7,bc0,bc1,bc2,bc3,bc4,bc5,bc6,bc7,bb0,setPs,AV.owns,AV.datF,AV.frz,AV.cpy,ifV,isEqB,nilV,nilX,AV.isNilS,AV.isNoRows,wk,dclo,datOf,binIs,addF,AV.isPtr,idxV,AV.isSl,AV.isSlice,AV.rows,ps,pv,extV,extS,AV.outs,AV.outF,packD,AV.dl,fieldV,fieldS,AV.cells?,AV.upr,AV.menc,AV.one,D.one,Value.oneCell',tagOf,AV.isApp,strV,strS,bolV,bolS,slcV,AV.isSlD,asrtS,AV.dcells,D.cells?,stcV,stcS,leafOk,eqDs,eqD,packA,D.val?,↓reduceIte,reduceCtorEq,Nat.reduceAdd,Nat.reduceSub,Nat.reduceMul,List.reduceReplicate,Nat.reduceLeDiff,Nat.reduceLT,Nat.reduceBEq,Nat.reduceEqDiff,Int.reduceNeg,Int.reduceEq,Int.reduceLE,Int.reduceLT,tfb,ctz10,O10_21,x10_12,x10_12_m1,x10_18,x10_18_m1,x10_19,x10_21,x10_21_m1,x10_21_m2,x10_21_m3,cm, hl, hp, List.length_nil]
  have hl60 : l.length ≤ 60 := by omega
  obtain ⟨n, hr, hn, hacc, hstop⟩ := run_spec h256
  have he3 : (runR l).2.2 ≠ 3 := by
    rw [hr]; simp only
    split
    · decide
    · exact err_ne3
  have he3b : ((playR l).2.2 == 3) = false := by rw [play3p]; exact beq_false_of_ne he3
  have hpn : (playR l).2.1 = (n : Int) := by rw [play2n, hr]
  have hiff : ((playR l).2.2 == 0) = ((n : Int) == (l.length : Int)) := by
    rw [play3p, Bool.eq_iff_iff, beq_iff_eq, beq_iff_eq, hr]
    simp only
    split
    · rename_i q; exact ⟨fun _ => by omega, fun _ => rfl⟩
    · rename_i q; exact ⟨fun h0 => absurd (acc_err.2 h0) (hstop (by omega)), fun h0 => by omega⟩
  have hii : ((((n : Int) == (l.length : Int))) != (((n : Int) == (l.length : Int)))) = false := by simp
  obtain ⟨k, hk1, hk2⟩ : ∃ k : Nat, cut % ((n : Int) + 1) = (k : Int) ∧ k ≤ n := by
    have h1 := Int.emod_nonneg cut (show ((n : Int) + 1) ≠ 0 by omega)
    have h2 := Int.emod_lt_of_pos cut (show (0 : Int) < (n : Int) + 1 by omega)
    exact ⟨(cut % ((n : Int) + 1)).toNat, by omega, by omega⟩
  have htake := take_run h256 hn hacc hk2
  have hsht : ShsOk (l.take k) := ⟨by rw [List.length_take]; omega, fun x hx => hl.2 x (List.mem_of_mem_take hx)⟩
  have hp2 := play_ok (l := l.take k) (by rw [htake])
  rw [htake] at hp2
  simp only at hp2
  have hn0 : ¬ (n : Int) < 0 := by omega
  have hnl : ¬ (l.length : Int) < n := by omega
  refine PF_nil (PF_start (O := O10) Ct10_ok hmix ho10 Try.func10 c10 rfl Try.ntmps10 Try.results10 ?_)
  by_cases he : (runR l).2.2 = 0
  case neg =>
    have heb : ((playR l).2.2 != 0) = true := by rw [play3p]; simpa using he
    simp (maxSteps := 4000000) +contextual (disch := first | omega | exact qdb_ok (by kernel_rfl) | exact okb_ok (by kernel_rfl)) only [bw1,bw2,bw3,bw4,bw5,bw6,bw7,bc0,bc1,bc2,bc3,bc4,bc5,bc6,bc7,bb0,setPs,AV.owns,AV.datF,AV.frz,AV.cpy,ifV,isEqB,nilV,nilX,AV.isNilS,AV.isNoRows,wk,dclo,datOf,binIs,addF,AV.isPtr,idxV,AV.isSl,AV.isSlice,AV.rows,ps,pv,extV,extS,AV.outs,AV.outF,packD,AV.dl,fieldV,fieldS,AV.cells?,AV.upr,AV.menc,AV.one,D.one,Value.oneCell',tagOf,AV.isApp,strV,strS,bolV,bolS,slcV,AV.isSlD,asrtS,AV.dcells,D.cells?,stcV,stcS,leafOk,eqDs,eqD,packA,D.val?,↓reduceIte,reduceCtorEq,Nat.reduceAdd,Nat.reduceSub,Nat.reduceMul,List.reduceReplicate,Nat.reduceLeDiff,Nat.reduceLT,Nat.reduceBEq,Nat.reduceEqDiff,Int.reduceNeg,Int.reduceEq,Int.reduceLE,Int.reduceLT,tfb,ctz10,O10_21,x10_12,x10_12_m1,x10_18,x10_18_m1,x10_19,x10_21,x10_21_m1,x10_21_m2,x10_21_m3,cm, hl, he3b, hpn, hiff, hii, hn0, hnl, hk1, Int.toNat_natCast, Int.toNat_zero, List.drop_zero, ← List.map_take, hp2, hsht, heb, bne_self_eq_false]
    and_intros <;> omega
  have heb : ((playR l).2.2 != 0) = false := by rw [play3p]; simpa using he
  have hG := good_of he
  have hpM : (playR l).1 = (runR l).1.mem := by rw [play_ok he]
  have hlenM : (runR l).1.mem.length ≤ 256 := by have := (hG.inv hl.2).1.1; omega
  simp (maxSteps := 4000000) +contextual (disch := first | omega | exact qdb_ok (by kernel_rfl) | exact okb_ok (by kernel_rfl)) only [bw1,bw2,bw3,bw4,bw5,bw6,bw7,bc0,bc1,bc2,bc3,bc4,bc5,bc6,bc7,bb0,setPs,AV.owns,AV.datF,AV.frz,AV.cpy,ifV,isEqB,nilV,nilX,AV.isNilS,AV.isNoRows,wk,dclo,datOf,binIs,addF,AV.isPtr,idxV,AV.isSl,AV.isSlice,AV.rows,ps,pv,extV,extS,AV.outs,AV.outF,packD,AV.dl,fieldV,fieldS,AV.cells?,AV.upr,AV.menc,AV.one,D.one,Value.oneCell',tagOf,AV.isApp,strV,strS,bolV,bolS,slcV,AV.isSlD,asrtS,AV.dcells,D.cells?,stcV,stcS,leafOk,eqDs,eqD,packA,D.val?,↓reduceIte,reduceCtorEq,Nat.reduceAdd,Nat.reduceSub,Nat.reduceMul,List.reduceReplicate,Nat.reduceLeDiff,Nat.reduceLT,Nat.reduceBEq,Nat.reduceEqDiff,Int.reduceNeg,Int.reduceEq,Int.reduceLE,Int.reduceLT,tfb,ctz10,O10_21,x10_12,x10_12_m1,x10_18,x10_18_m1,x10_19,x10_21,x10_21_m1,x10_21_m2,x10_21_m3,cm, hl, he3b, hpn, hiff, hii, hn0, hnl, hk1, Int.toNat_natCast, Int.toNat_zero, List.drop_zero, ← List.map_take, hp2, hsht, heb, bne_self_eq_false, hpM]
  refine ⟨by omega, ⟨by omega, by omega⟩, by omega, ?_⟩
  obtain ⟨hG2, hH⟩ := parts_run hG (by omega) cl (j := l.length) (Nat.le_refl _)
  rw [List.take_length] at hG2 hH
  have hMf : (runR (l.filter (mineP (runR l).1.mem cl))).1.mem = (runR l).1.mem.filter (isC cl) := by
    have hlast : (runR l).1 = stJ l l.length := by rw [(run_ok he).1]
    have e := half_mem (stJ_srt hG.acc) hG2.srt hH
    rw [e, ← hlast]
  have hpo := play_ok hG2.ok
  rw [hMf] at hpo
  generalize (runR l).1.mem = M at *
  refine seed (m1 := mk _) (m2 := mk _) 13 152 30 5 (by decide) rfl rfl rfl rfl ?_
  refine loop_u (O := O10) (tb := 0) Ct10_ok hmix (by kernel_rfl) (σ := Nat) (fun i => [(13, .own 152 30 5 (((l.take i).filter (mineP M cl)).map Ev.c)), (14, .i i), (145, .any), (151, .any)]) (fun _ => []) (fun i => i ≤ l.length) (fun i => l.length - i) (fun i => i + 1) 0 (Nat.zero_le _) ?_ ?_
  · simp (maxSteps := 4000000) +contextual (disch := first | omega | exact qdb_ok (by kernel_rfl) | exact okb_ok (by kernel_rfl)) only [bw1,bw2,bw3,bw4,bw5,bw6,bw7,bc0,bc1,bc2,bc3,bc4,bc5,bc6,bc7,bb0,setPs,AV.owns,AV.datF,AV.frz,AV.cpy,ifV,isEqB,nilV,nilX,AV.isNilS,AV.isNoRows,wk,dclo,datOf,binIs,addF,AV.isPtr,idxV,AV.isSl,AV.isSlice,AV.rows,ps,pv,extV,extS,AV.outs,AV.outF,packD,AV.dl,fieldV,fieldS,AV.cells?,AV.upr,AV.menc,AV.one,D.one,Value.oneCell',tagOf,AV.isApp,strV,strS,bolV,bolS,slcV,AV.isSlD,asrtS,AV.dcells,D.cells?,stcV,stcS,leafOk,eqDs,eqD,packA,D.val?,↓reduceIte,reduceCtorEq,Nat.reduceAdd,Nat.reduceSub,Nat.reduceMul,List.reduceReplicate,Nat.reduceLeDiff,Nat.reduceLT,Nat.reduceBEq,Nat.reduceEqDiff,Int.reduceNeg,Int.reduceEq,Int.reduceLE,Int.reduceLT,tfb,ctz10,O10_21,x10_12,x10_12_m1,x10_18,x10_18_m1,x10_19,x10_21,x10_21_m1,x10_21_m2,x10_21_m3,eq_self]
    rfl
  intro i hi
  by_cases hlt : i < l.length
  · have hlt' : (i : Int) < l.length := by omega
    have hfy : mineP M cl (l.getD i default) = true → ((l.take (i + 1)).filter (mineP M cl)).map Ev.c = ((l.take i).filter (mineP M cl)).map Ev.c ++ [(l.getD i default).c] := fun h => by
      rw [take_succ hlt, List.filter_append, List.map_append, List.filter_cons, if_pos h]; rfl
    have hfn : mineP M cl (l.getD i default) = false → ((l.take (i + 1)).filter (mineP M cl)).map Ev.c = ((l.take i).filter (mineP M cl)).map Ev.c := fun h => by
      rw [take_succ hlt, List.filter_append, List.filter_cons, if_neg (by rw [h]; simp)]; simp
    have hlf : (((l.take i).filter (mineP M cl)).map Ev.c).length ≤ 60 := by
      rw [List.length_map]; exact Nat.le_trans (List.length_filter_le _ _) (by simp; omega)
    generalize ((l.take i).filter (mineP M cl)).map Ev.c = R at hfy hfn hlf
    by_cases k6 : (l.getD i default).kind = 6
    · have k6b : ((l.getD i default).kind == 6) = true := by simpa using k6
      have k6n : ((l.getD i default).kind != 6) = false := by simpa using k6
      by_cases q : (l.getD i default).n = cl
      · have qb : ((l.getD i default).n == cl) = true := by simpa using q
        have hf := hfy (by unfold mineP; rw [if_pos k6]; exact decide_eq_true q)
        simp (maxSteps := 4000000) +contextual (disch := first | omega | exact qdb_ok (by kernel_rfl) | exact okb_ok (by kernel_rfl)) only [bw1,bw2,bw3,bw4,bw5,bw6,bw7,bc0,bc1,bc2,bc3,bc4,bc5,bc6,bc7,bb0,setPs,AV.owns,AV.datF,AV.frz,AV.cpy,ifV,isEqB,nilV,nilX,AV.isNilS,AV.isNoRows,wk,dclo,datOf,binIs,addF,AV.isPtr,idxV,AV.isSl,AV.isSlice,AV.rows,ps,pv,extV,extS,AV.outs,AV.outF,packD,AV.dl,fieldV,fieldS,AV.cells?,AV.upr,AV.menc,AV.one,D.one,Value.oneCell',tagOf,AV.isApp,strV,strS,bolV,bolS,slcV,AV.isSlD,asrtS,AV.dcells,D.cells?,stcV,stcS,leafOk,eqDs,eqD,packA,D.val?,↓reduceIte,reduceCtorEq,Nat.reduceAdd,Nat.reduceSub,Nat.reduceMul,List.reduceReplicate,Nat.reduceLeDiff,Nat.reduceLT,Nat.reduceBEq,Nat.reduceEqDiff,Int.reduceNeg,Int.reduceEq,Int.reduceLE,Int.reduceLT,tfb,ctz10,O10_21,x10_12,x10_12_m1,x10_18,x10_18_m1,x10_19,x10_21,x10_21_m1,x10_21_m2,x10_21_m3,eq_self, hlt', k6b, qb]
        refine ⟨by omega, by omega, ?_⟩
        refine loop_xu (O := O10) (tb := 0) Ct10_ok hmix (by kernel_rfl) (σ := Unit) (fun _ => []) (fun _ => []) (fun _ => True) (fun _ => 0) () trivial ?_ ?_
        · simp (maxSteps := 4000000) +contextual (disch := first | omega | exact qdb_ok (by kernel_rfl) | exact okb_ok (by kernel_rfl)) only [bw1,bw2,bw3,bw4,bw5,bw6,bw7,bc0,bc1,bc2,bc3,bc4,bc5,bc6,bc7,bb0,setPs,AV.owns,AV.datF,AV.frz,AV.cpy,ifV,isEqB,nilV,nilX,AV.isNilS,AV.isNoRows,wk,dclo,datOf,binIs,addF,AV.isPtr,idxV,AV.isSl,AV.isSlice,AV.rows,ps,pv,extV,extS,AV.outs,AV.outF,packD,AV.dl,fieldV,fieldS,AV.cells?,AV.upr,AV.menc,AV.one,D.one,Value.oneCell',tagOf,AV.isApp,strV,strS,bolV,bolS,slcV,AV.isSlD,asrtS,AV.dcells,D.cells?,stcV,stcS,leafOk,eqDs,eqD,packA,D.val?,↓reduceIte,reduceCtorEq,Nat.reduceAdd,Nat.reduceSub,Nat.reduceMul,List.reduceReplicate,Nat.reduceLeDiff,Nat.reduceLT,Nat.reduceBEq,Nat.reduceEqDiff,Int.reduceNeg,Int.reduceEq,Int.reduceLE,Int.reduceLT,tfb,ctz10,O10_21,x10_12,x10_12_m1,x10_18,x10_18_m1,x10_19,x10_21,x10_21_m1,x10_21_m2,x10_21_m3,eq_self]
        intro _ _
        by_cases hM0 : (0 : Int) < M.length
        · simp (maxSteps := 4000000) +contextual (disch := first | omega | exact qdb_ok (by kernel_rfl) | exact okb_ok (by kernel_rfl)) only [bw1,bw2,bw3,bw4,bw5,bw6,bw7,bc0,bc1,bc2,bc3,bc4,bc5,bc6,bc7,bb0,setPs,AV.owns,AV.datF,AV.frz,AV.cpy,ifV,isEqB,nilV,nilX,AV.isNilS,AV.isNoRows,wk,dclo,datOf,binIs,addF,AV.isPtr,idxV,AV.isSl,AV.isSlice,AV.rows,ps,pv,extV,extS,AV.outs,AV.outF,packD,AV.dl,fieldV,fieldS,AV.cells?,AV.upr,AV.menc,AV.one,D.one,Value.oneCell',tagOf,AV.isApp,strV,strS,bolV,bolS,slcV,AV.isSlD,asrtS,AV.dcells,D.cells?,stcV,stcS,leafOk,eqDs,eqD,packA,D.val?,↓reduceIte,reduceCtorEq,Nat.reduceAdd,Nat.reduceSub,Nat.reduceMul,List.reduceReplicate,Nat.reduceLeDiff,Nat.reduceLT,Nat.reduceBEq,Nat.reduceEqDiff,Int.reduceNeg,Int.reduceEq,Int.reduceLE,Int.reduceLT,tfb,ctz10,O10_21,x10_12,x10_12_m1,x10_18,x10_18_m1,x10_19,x10_21,x10_21_m1,x10_21_m2,x10_21_m3,eq_self, hM0, k6n, hlt', hf]
          and_intros <;> first | omega | rfl | trivial
        · simp (maxSteps := 4000000) +contextual (disch := first | omega | exact qdb_ok (by kernel_rfl) | exact okb_ok (by kernel_rfl)) only [bw1,bw2,bw3,bw4,bw5,bw6,bw7,bc0,bc1,bc2,bc3,bc4,bc5,bc6,bc7,bb0,setPs,AV.owns,AV.datF,AV.frz,AV.cpy,ifV,isEqB,nilV,nilX,AV.isNilS,AV.isNoRows,wk,dclo,datOf,binIs,addF,AV.isPtr,idxV,AV.isSl,AV.isSlice,AV.rows,ps,pv,extV,extS,AV.outs,AV.outF,packD,AV.dl,fieldV,fieldS,AV.cells?,AV.upr,AV.menc,AV.one,D.one,Value.oneCell',tagOf,AV.isApp,strV,strS,bolV,bolS,slcV,AV.isSlD,asrtS,AV.dcells,D.cells?,stcV,stcS,leafOk,eqDs,eqD,packA,D.val?,↓reduceIte,reduceCtorEq,Nat.reduceAdd,Nat.reduceSub,Nat.reduceMul,List.reduceReplicate,Nat.reduceLeDiff,Nat.reduceLT,Nat.reduceBEq,Nat.reduceEqDiff,Int.reduceNeg,Int.reduceEq,Int.reduceLE,Int.reduceLT,tfb,ctz10,O10_21,x10_12,x10_12_m1,x10_18,x10_18_m1,x10_19,x10_21,x10_21_m1,x10_21_m2,x10_21_m3,eq_self, hM0, hlt', hf]
          and_intros <;> first | omega | exact ⟨j + 1, ⟨by omega, by omega⟩, by rw [hs] <;> rfl, rfl⟩ | rfl | trivial
      · have qb : ((l.getD i default).n == cl) = false := by simpa using q
        have hf := hfn (by unfold mineP; rw [if_pos k6]; exact decide_eq_false q)
        simp (maxSteps := 4000000) +contextual (disch := first | omega | exact qdb_ok (by kernel_rfl) | exact okb_ok (by kernel_rfl)) only [bw1,bw2,bw3,bw4,bw5,bw6,bw7,bc0,bc1,bc2,bc3,bc4,bc5,bc6,bc7,bb0,setPs,AV.owns,AV.datF,AV.frz,AV.cpy,ifV,isEqB,nilV,nilX,AV.isNilS,AV.isNoRows,wk,dclo,datOf,binIs,addF,AV.isPtr,idxV,AV.isSl,AV.isSlice,AV.rows,ps,pv,extV,extS,AV.outs,AV.outF,packD,AV.dl,fieldV,fieldS,AV.cells?,AV.upr,AV.menc,AV.one,D.one,Value.oneCell',tagOf,AV.isApp,strV,strS,bolV,bolS,slcV,AV.isSlD,asrtS,AV.dcells,D.cells?,stcV,stcS,leafOk,eqDs,eqD,packA,D.val?,↓reduceIte,reduceCtorEq,Nat.reduceAdd,Nat.reduceSub,Nat.reduceMul,List.reduceReplicate,Nat.reduceLeDiff,Nat.reduceLT,Nat.reduceBEq,Nat.reduceEqDiff,Int.reduceNeg,Int.reduceEq,Int.reduceLE,Int.reduceLT,tfb,ctz10,O10_21,x10_12,x10_12_m1,x10_18,x10_18_m1,x10_19,x10_21,x10_21_m1,x10_21_m2,x10_21_m3,eq_self, hlt', k6b, qb]
        refine ⟨by omega, by omega, ?_⟩
        refine loop_xu (O := O10) (tb := 0) Ct10_ok hmix (by kernel_rfl) (σ := Unit) (fun _ => []) (fun _ => []) (fun _ => True) (fun _ => 0) () trivial ?_ ?_
        · simp (maxSteps := 4000000) +contextual (disch := first | omega | exact qdb_ok (by kernel_rfl) | exact okb_ok (by kernel_rfl)) only [bw1,bw2,bw3,bw4,bw5,bw6,bw7,bc0,bc1,bc2,bc3,bc4,bc5,bc6,bc7,bb0,setPs,AV.owns,AV.datF,AV.frz,AV.cpy,ifV,isEqB,nilV,nilX,AV.isNilS,AV.isNoRows,wk,dclo,datOf,binIs,addF,AV.isPtr,idxV,AV.isSl,AV.isSlice,AV.rows,ps,pv,extV,extS,AV.outs,AV.outF,packD,AV.dl,fieldV,fieldS,AV.cells?,AV.upr,AV.menc,AV.one,D.one,Value.oneCell',tagOf,AV.isApp,strV,strS,bolV,bolS,slcV,AV.isSlD,asrtS,AV.dcells,D.cells?,stcV,stcS,leafOk,eqDs,eqD,packA,D.val?,↓reduceIte,reduceCtorEq,Nat.reduceAdd,Nat.reduceSub,Nat.reduceMul,List.reduceReplicate,Nat.reduceLeDiff,Nat.reduceLT,Nat.reduceBEq,Nat.reduceEqDiff,Int.reduceNeg,Int.reduceEq,Int.reduceLE,Int.reduceLT,tfb,ctz10,O10_21,x10_12,x10_12_m1,x10_18,x10_18_m1,x10_19,x10_21,x10_21_m1,x10_21_m2,x10_21_m3,eq_self]
        intro _ _
        by_cases hM0 : (0 : Int) < M.length
        · simp (maxSteps := 4000000) +contextual (disch := first | omega | exact qdb_ok (by kernel_rfl) | exact okb_ok (by kernel_rfl)) only [bw1,bw2,bw3,bw4,bw5,bw6,bw7,bc0,bc1,bc2,bc3,bc4,bc5,bc6,bc7,bb0,setPs,AV.owns,AV.datF,AV.frz,AV.cpy,ifV,isEqB,nilV,nilX,AV.isNilS,AV.isNoRows,wk,dclo,datOf,binIs,addF,AV.isPtr,idxV,AV.isSl,AV.isSlice,AV.rows,ps,pv,extV,extS,AV.outs,AV.outF,packD,AV.dl,fieldV,fieldS,AV.cells?,AV.upr,AV.menc,AV.one,D.one,Value.oneCell',tagOf,AV.isApp,strV,strS,bolV,bolS,slcV,AV.isSlD,asrtS,AV.dcells,D.cells?,stcV,stcS,leafOk,eqDs,eqD,packA,D.val?,↓reduceIte,reduceCtorEq,Nat.reduceAdd,Nat.reduceSub,Nat.reduceMul,List.reduceReplicate,Nat.reduceLeDiff,Nat.reduceLT,Nat.reduceBEq,Nat.reduceEqDiff,Int.reduceNeg,Int.reduceEq,Int.reduceLE,Int.reduceLT,tfb,ctz10,O10_21,x10_12,x10_12_m1,x10_18,x10_18_m1,x10_19,x10_21,x10_21_m1,x10_21_m2,x10_21_m3,eq_self, hM0, k6n, hlt', hf]
          and_intros <;> first | omega | rfl | trivial
        · simp (maxSteps := 4000000) +contextual (disch := first | omega | exact qdb_ok (by kernel_rfl) | exact okb_ok (by kernel_rfl)) only [bw1,bw2,bw3,bw4,bw5,bw6,bw7,bc0,bc1,bc2,bc3,bc4,bc5,bc6,bc7,bb0,setPs,AV.owns,AV.datF,AV.frz,AV.cpy,ifV,isEqB,nilV,nilX,AV.isNilS,AV.isNoRows,wk,dclo,datOf,binIs,addF,AV.isPtr,idxV,AV.isSl,AV.isSlice,AV.rows,ps,pv,extV,extS,AV.outs,AV.outF,packD,AV.dl,fieldV,fieldS,AV.cells?,AV.upr,AV.menc,AV.one,D.one,Value.oneCell',tagOf,AV.isApp,strV,strS,bolV,bolS,slcV,AV.isSlD,asrtS,AV.dcells,D.cells?,stcV,stcS,leafOk,eqDs,eqD,packA,D.val?,↓reduceIte,reduceCtorEq,Nat.reduceAdd,Nat.reduceSub,Nat.reduceMul,List.reduceReplicate,Nat.reduceLeDiff,Nat.reduceLT,Nat.reduceBEq,Nat.reduceEqDiff,Int.reduceNeg,Int.reduceEq,Int.reduceLE,Int.reduceLT,tfb,ctz10,O10_21,x10_12,x10_12_m1,x10_18,x10_18_m1,x10_19,x10_21,x10_21_m1,x10_21_m2,x10_21_m3,eq_self, hM0, hlt', hf]
          and_intros <;> first | omega | exact ⟨j + 1, ⟨by omega, by omega⟩, by rw [hs] <;> rfl, rfl⟩ | rfl | trivial
    have k6b : ((l.getD i default).kind == 6) = false := by simpa using k6
    have k6n : ((l.getD i default).kind != 6) = true := by simpa using k6
    simp (maxSteps := 4000000) +contextual (disch := first | omega | exact qdb_ok (by kernel_rfl) | exact okb_ok (by kernel_rfl)) only [bw1,bw2,bw3,bw4,bw5,bw6,bw7,bc0,bc1,bc2,bc3,bc4,bc5,bc6,bc7,bb0,setPs,AV.owns,AV.datF,AV.frz,AV.cpy,ifV,isEqB,nilV,nilX,AV.isNilS,AV.isNoRows,wk,dclo,datOf,binIs,addF,AV.isPtr,idxV,AV.isSl,AV.isSlice,AV.rows,ps,pv,extV,extS,AV.outs,AV.outF,packD,AV.dl,fieldV,fieldS,AV.cells?,AV.upr,AV.menc,AV.one,D.one,Value.oneCell',tagOf,AV.isApp,strV,strS,bolV,bolS,slcV,AV.isSlD,asrtS,AV.dcells,D.cells?,stcV,stcS,leafOk,eqDs,eqD,packA,D.val?,↓reduceIte,reduceCtorEq,Nat.reduceAdd,Nat.reduceSub,Nat.reduceMul,List.reduceReplicate,Nat.reduceLeDiff,Nat.reduceLT,Nat.reduceBEq,Nat.reduceEqDiff,Int.reduceNeg,Int.reduceEq,Int.reduceLE,Int.reduceLT,tfb,ctz10,O10_21,x10_12,x10_12_m1,x10_18,x10_18_m1,x10_19,x10_21,x10_21_m1,x10_21_m2,x10_21_m3,eq_self, hlt', k6b]
    obtain ⟨an, han⟩ : ∃ an : Nat → Bool, ∀ j, an j = (M.take j).any fun m => decide (m.person = (l.getD i default).person) && decide (m.club = cl) := ⟨_, fun _ => rfl⟩
    have ha0 : an 0 = false := by rw [han]; simp
    have has : ∀ j, j < M.length → an (j + 1) = (an j || (decide ((M.getD j default).person = (l.getD i default).person) && decide ((M.getD j default).club = cl))) := fun j hj => by rw [han, han, take_succ hj, List.any_append]; simp
    have hae : mineP M cl (l.getD i default) = an M.length := by rw [han, List.take_length]; unfold mineP; rw [if_neg k6]
    refine ⟨by omega, ?_⟩
    refine loop_xu (O := O10) (tb := 0) Ct10_ok hmix (by kernel_rfl) (σ := Nat) (fun j => [(15, .b (an j)), (16, .i j)]) (fun _ => []) (fun j => j ≤ M.length) (fun j => M.length - j) 0 (Nat.zero_le _) ?_ ?_
    · simp (maxSteps := 4000000) +contextual (disch := first | omega | exact qdb_ok (by kernel_rfl) | exact okb_ok (by kernel_rfl)) only [bw1,bw2,bw3,bw4,bw5,bw6,bw7,bc0,bc1,bc2,bc3,bc4,bc5,bc6,bc7,bb0,setPs,AV.owns,AV.datF,AV.frz,AV.cpy,ifV,isEqB,nilV,nilX,AV.isNilS,AV.isNoRows,wk,dclo,datOf,binIs,addF,AV.isPtr,idxV,AV.isSl,AV.isSlice,AV.rows,ps,pv,extV,extS,AV.outs,AV.outF,packD,AV.dl,fieldV,fieldS,AV.cells?,AV.upr,AV.menc,AV.one,D.one,Value.oneCell',tagOf,AV.isApp,strV,strS,bolV,bolS,slcV,AV.isSlD,asrtS,AV.dcells,D.cells?,stcV,stcS,leafOk,eqDs,eqD,packA,D.val?,↓reduceIte,reduceCtorEq,Nat.reduceAdd,Nat.reduceSub,Nat.reduceMul,List.reduceReplicate,Nat.reduceLeDiff,Nat.reduceLT,Nat.reduceBEq,Nat.reduceEqDiff,Int.reduceNeg,Int.reduceEq,Int.reduceLE,Int.reduceLT,tfb,ctz10,O10_21,x10_12,x10_12_m1,x10_18,x10_18_m1,x10_19,x10_21,x10_21_m1,x10_21_m2,x10_21_m3,eq_self, ha0]
    intro j hj
    by_cases hjl : j < M.length
    · have hjl' : (j : Int) < M.length := by omega
      have hs := has j hjl
      by_cases a1 : an j = true
      · rw [a1, Bool.true_or] at hs
        simp (maxSteps := 4000000) +contextual (disch := first | omega | exact qdb_ok (by kernel_rfl) | exact okb_ok (by kernel_rfl)) only [bw1,bw2,bw3,bw4,bw5,bw6,bw7,bc0,bc1,bc2,bc3,bc4,bc5,bc6,bc7,bb0,setPs,AV.owns,AV.datF,AV.frz,AV.cpy,ifV,isEqB,nilV,nilX,AV.isNilS,AV.isNoRows,wk,dclo,datOf,binIs,addF,AV.isPtr,idxV,AV.isSl,AV.isSlice,AV.rows,ps,pv,extV,extS,AV.outs,AV.outF,packD,AV.dl,fieldV,fieldS,AV.cells?,AV.upr,AV.menc,AV.one,D.one,Value.oneCell',tagOf,AV.isApp,strV,strS,bolV,bolS,slcV,AV.isSlD,asrtS,AV.dcells,D.cells?,stcV,stcS,leafOk,eqDs,eqD,packA,D.val?,↓reduceIte,reduceCtorEq,Nat.reduceAdd,Nat.reduceSub,Nat.reduceMul,List.reduceReplicate,Nat.reduceLeDiff,Nat.reduceLT,Nat.reduceBEq,Nat.reduceEqDiff,Int.reduceNeg,Int.reduceEq,Int.reduceLE,Int.reduceLT,tfb,ctz10,O10_21,x10_12,x10_12_m1,x10_18,x10_18_m1,x10_19,x10_21,x10_21_m1,x10_21_m2,x10_21_m3,eq_self, hjl', k6n, hlt', a1, hs]
        and_intros <;> first | omega | exact ⟨j + 1, ⟨by omega, by omega⟩, by rw [hs] <;> rfl, rfl⟩ | rfl | trivial
      have a1b : an j = false := by simpa using a1
      rw [a1b, Bool.false_or] at hs
      by_cases p1 : (M.getD j default).person = (l.getD i default).person
      · have p1b : ((M.getD j default).person == (l.getD i default).person) = true := by simpa using p1
        by_cases c1 : (M.getD j default).club = cl
        · have c1b : ((M.getD j default).club == cl) = true := by simpa using c1
          rw [decide_eq_true p1, decide_eq_true c1] at hs
          simp (maxSteps := 4000000) +contextual (disch := first | omega | exact qdb_ok (by kernel_rfl) | exact okb_ok (by kernel_rfl)) only [bw1,bw2,bw3,bw4,bw5,bw6,bw7,bc0,bc1,bc2,bc3,bc4,bc5,bc6,bc7,bb0,setPs,AV.owns,AV.datF,AV.frz,AV.cpy,ifV,isEqB,nilV,nilX,AV.isNilS,AV.isNoRows,wk,dclo,datOf,binIs,addF,AV.isPtr,idxV,AV.isSl,AV.isSlice,AV.rows,ps,pv,extV,extS,AV.outs,AV.outF,packD,AV.dl,fieldV,fieldS,AV.cells?,AV.upr,AV.menc,AV.one,D.one,Value.oneCell',tagOf,AV.isApp,strV,strS,bolV,bolS,slcV,AV.isSlD,asrtS,AV.dcells,D.cells?,stcV,stcS,leafOk,eqDs,eqD,packA,D.val?,↓reduceIte,reduceCtorEq,Nat.reduceAdd,Nat.reduceSub,Nat.reduceMul,List.reduceReplicate,Nat.reduceLeDiff,Nat.reduceLT,Nat.reduceBEq,Nat.reduceEqDiff,Int.reduceNeg,Int.reduceEq,Int.reduceLE,Int.reduceLT,tfb,ctz10,O10_21,x10_12,x10_12_m1,x10_18,x10_18_m1,x10_19,x10_21,x10_21_m1,x10_21_m2,x10_21_m3,eq_self, hjl', k6n, hlt', a1b, hs, p1b, c1b]
          and_intros <;> first | omega | exact ⟨j + 1, ⟨by omega, by omega⟩, by rw [hs] <;> rfl, rfl⟩ | rfl | trivial
        · have c1b : ((M.getD j default).club == cl) = false := by simpa using c1
          rw [decide_eq_true p1, decide_eq_false c1] at hs
          simp (maxSteps := 4000000) +contextual (disch := first | omega | exact qdb_ok (by kernel_rfl) | exact okb_ok (by kernel_rfl)) only [bw1,bw2,bw3,bw4,bw5,bw6,bw7,bc0,bc1,bc2,bc3,bc4,bc5,bc6,bc7,bb0,setPs,AV.owns,AV.datF,AV.frz,AV.cpy,ifV,isEqB,nilV,nilX,AV.isNilS,AV.isNoRows,wk,dclo,datOf,binIs,addF,AV.isPtr,idxV,AV.isSl,AV.isSlice,AV.rows,ps,pv,extV,extS,AV.outs,AV.outF,packD,AV.dl,fieldV,fieldS,AV.cells?,AV.upr,AV.menc,AV.one,D.one,Value.oneCell',tagOf,AV.isApp,strV,strS,bolV,bolS,slcV,AV.isSlD,asrtS,AV.dcells,D.cells?,stcV,stcS,leafOk,eqDs,eqD,packA,D.val?,↓reduceIte,reduceCtorEq,Nat.reduceAdd,Nat.reduceSub,Nat.reduceMul,List.reduceReplicate,Nat.reduceLeDiff,Nat.reduceLT,Nat.reduceBEq,Nat.reduceEqDiff,Int.reduceNeg,Int.reduceEq,Int.reduceLE,Int.reduceLT,tfb,ctz10,O10_21,x10_12,x10_12_m1,x10_18,x10_18_m1,x10_19,x10_21,x10_21_m1,x10_21_m2,x10_21_m3,eq_self, hjl', k6n, hlt', a1b, hs, p1b, c1b]
          and_intros <;> first | omega | exact ⟨j + 1, ⟨by omega, by omega⟩, by rw [hs] <;> rfl, rfl⟩ | rfl | trivial
      · have p1b : ((M.getD j default).person == (l.getD i default).person) = false := by simpa using p1
        rw [decide_eq_false p1, Bool.false_and] at hs
        simp (maxSteps := 4000000) +contextual (disch := first | omega | exact qdb_ok (by kernel_rfl) | exact okb_ok (by kernel_rfl)) only [bw1,bw2,bw3,bw4,bw5,bw6,bw7,bc0,bc1,bc2,bc3,bc4,bc5,bc6,bc7,bb0,setPs,AV.owns,AV.datF,AV.frz,AV.cpy,ifV,isEqB,nilV,nilX,AV.isNilS,AV.isNoRows,wk,dclo,datOf,binIs,addF,AV.isPtr,idxV,AV.isSl,AV.isSlice,AV.rows,ps,pv,extV,extS,AV.outs,AV.outF,packD,AV.dl,fieldV,fieldS,AV.cells?,AV.upr,AV.menc,AV.one,D.one,Value.oneCell',tagOf,AV.isApp,strV,strS,bolV,bolS,slcV,AV.isSlD,asrtS,AV.dcells,D.cells?,stcV,stcS,leafOk,eqDs,eqD,packA,D.val?,↓reduceIte,reduceCtorEq,Nat.reduceAdd,Nat.reduceSub,Nat.reduceMul,List.reduceReplicate,Nat.reduceLeDiff,Nat.reduceLT,Nat.reduceBEq,Nat.reduceEqDiff,Int.reduceNeg,Int.reduceEq,Int.reduceLE,Int.reduceLT,tfb,ctz10,O10_21,x10_12,x10_12_m1,x10_18,x10_18_m1,x10_19,x10_21,x10_21_m1,x10_21_m2,x10_21_m3,eq_self, hjl', k6n, hlt', a1b, hs, p1b]
        and_intros <;> first | omega | exact ⟨j + 1, ⟨by omega, by omega⟩, by rw [hs] <;> rfl, rfl⟩ | rfl | trivial
    have hjl' : ¬ (j : Int) < M.length := by omega
    obtain rfl : j = M.length := by omega
    by_cases a1 : an M.length = true
    · have hf := hfy (by rw [hae]; exact a1)
      simp (maxSteps := 4000000) +contextual (disch := first | omega | exact qdb_ok (by kernel_rfl) | exact okb_ok (by kernel_rfl)) only [bw1,bw2,bw3,bw4,bw5,bw6,bw7,bc0,bc1,bc2,bc3,bc4,bc5,bc6,bc7,bb0,setPs,AV.owns,AV.datF,AV.frz,AV.cpy,ifV,isEqB,nilV,nilX,AV.isNilS,AV.isNoRows,wk,dclo,datOf,binIs,addF,AV.isPtr,idxV,AV.isSl,AV.isSlice,AV.rows,ps,pv,extV,extS,AV.outs,AV.outF,packD,AV.dl,fieldV,fieldS,AV.cells?,AV.upr,AV.menc,AV.one,D.one,Value.oneCell',tagOf,AV.isApp,strV,strS,bolV,bolS,slcV,AV.isSlD,asrtS,AV.dcells,D.cells?,stcV,stcS,leafOk,eqDs,eqD,packA,D.val?,↓reduceIte,reduceCtorEq,Nat.reduceAdd,Nat.reduceSub,Nat.reduceMul,List.reduceReplicate,Nat.reduceLeDiff,Nat.reduceLT,Nat.reduceBEq,Nat.reduceEqDiff,Int.reduceNeg,Int.reduceEq,Int.reduceLE,Int.reduceLT,tfb,ctz10,O10_21,x10_12,x10_12_m1,x10_18,x10_18_m1,x10_19,x10_21,x10_21_m1,x10_21_m2,x10_21_m3,eq_self, Int.lt_irrefl, hlt', a1, hf]
      and_intros <;> first | omega | exact ⟨j + 1, ⟨by omega, by omega⟩, by rw [hs] <;> rfl, rfl⟩ | rfl | trivial
    · have a1b : an M.length = false := by simpa using a1
      have hf := hfn (by rw [hae]; exact a1b)
      simp (maxSteps := 4000000) +contextual (disch := first | omega | exact qdb_ok (by kernel_rfl) | exact okb_ok (by kernel_rfl)) only [bw1,bw2,bw3,bw4,bw5,bw6,bw7,bc0,bc1,bc2,bc3,bc4,bc5,bc6,bc7,bb0,setPs,AV.owns,AV.datF,AV.frz,AV.cpy,ifV,isEqB,nilV,nilX,AV.isNilS,AV.isNoRows,wk,dclo,datOf,binIs,addF,AV.isPtr,idxV,AV.isSl,AV.isSlice,AV.rows,ps,pv,extV,extS,AV.outs,AV.outF,packD,AV.dl,fieldV,fieldS,AV.cells?,AV.upr,AV.menc,AV.one,D.one,Value.oneCell',tagOf,AV.isApp,strV,strS,bolV,bolS,slcV,AV.isSlD,asrtS,AV.dcells,D.cells?,stcV,stcS,leafOk,eqDs,eqD,packA,D.val?,↓reduceIte,reduceCtorEq,Nat.reduceAdd,Nat.reduceSub,Nat.reduceMul,List.reduceReplicate,Nat.reduceLeDiff,Nat.reduceLT,Nat.reduceBEq,Nat.reduceEqDiff,Int.reduceNeg,Int.reduceEq,Int.reduceLE,Int.reduceLT,tfb,ctz10,O10_21,x10_12,x10_12_m1,x10_18,x10_18_m1,x10_19,x10_21,x10_21_m1,x10_21_m2,x10_21_m3,eq_self, Int.lt_irrefl, hlt', a1b, hf]
      and_intros <;> first | omega | exact ⟨j + 1, ⟨by omega, by omega⟩, by rw [hs] <;> rfl, rfl⟩ | rfl | trivial
  obtain rfl : i = l.length := by omega
  have hso : ShsOk (l.filter (mineP M cl)) := ⟨Nat.le_trans (List.length_filter_le _ _) (by omega), fun x hx => hl.2 x (List.mem_filter.1 hx).1⟩
  rw [List.take_length]
  simp (maxSteps := 4000000) +contextual (disch := first | omega | exact qdb_ok (by kernel_rfl) | exact okb_ok (by kernel_rfl)) only [bw1,bw2,bw3,bw4,bw5,bw6,bw7,bc0,bc1,bc2,bc3,bc4,bc5,bc6,bc7,bb0,setPs,AV.owns,AV.datF,AV.frz,AV.cpy,ifV,isEqB,nilV,nilX,AV.isNilS,AV.isNoRows,wk,dclo,datOf,binIs,addF,AV.isPtr,idxV,AV.isSl,AV.isSlice,AV.rows,ps,pv,extV,extS,AV.outs,AV.outF,packD,AV.dl,fieldV,fieldS,AV.cells?,AV.upr,AV.menc,AV.one,D.one,Value.oneCell',tagOf,AV.isApp,strV,strS,bolV,bolS,slcV,AV.isSlD,asrtS,AV.dcells,D.cells?,stcV,stcS,leafOk,eqDs,eqD,packA,D.val?,↓reduceIte,reduceCtorEq,Nat.reduceAdd,Nat.reduceSub,Nat.reduceMul,List.reduceReplicate,Nat.reduceLeDiff,Nat.reduceLT,Nat.reduceBEq,Nat.reduceEqDiff,Int.reduceNeg,Int.reduceEq,Int.reduceLE,Int.reduceLT,tfb,ctz10,O10_21,x10_12,x10_12_m1,x10_18,x10_18_m1,x10_19,x10_21,x10_21_m1,x10_21_m2,x10_21_m3,eq_self, Int.lt_irrefl, hpo, hso]
  refine seed (m1 := mk _) (m2 := mk _) 20 178 43 5 (by decide) rfl rfl rfl rfl ?_
  refine loop_u (O := O10) (tb := 0) Ct10_ok hmix (by kernel_rfl) (σ := Nat) (fun i => [(20, .own 178 43 5 (((M.take i).filter (isC cl)).map Mem.c)), (21, .i i), (171, .any), (177, .any)]) (fun _ => []) (fun i => i ≤ M.length) (fun i => M.length - i) (fun i => i + 1) 0 (Nat.zero_le _) ?_ ?_
  · simp (maxSteps := 4000000) +contextual (disch := first | omega | exact qdb_ok (by kernel_rfl) | exact okb_ok (by kernel_rfl)) only [bw1,bw2,bw3,bw4,bw5,bw6,bw7,bc0,bc1,bc2,bc3,bc4,bc5,bc6,bc7,bb0,setPs,AV.owns,AV.datF,AV.frz,AV.cpy,ifV,isEqB,nilV,nilX,AV.isNilS,AV.isNoRows,wk,dclo,datOf,binIs,addF,AV.isPtr,idxV,AV.isSl,AV.isSlice,AV.rows,ps,pv,extV,extS,AV.outs,AV.outF,packD,AV.dl,fieldV,fieldS,AV.cells?,AV.upr,AV.menc,AV.one,D.one,Value.oneCell',tagOf,AV.isApp,strV,strS,bolV,bolS,slcV,AV.isSlD,asrtS,AV.dcells,D.cells?,stcV,stcS,leafOk,eqDs,eqD,packA,D.val?,↓reduceIte,reduceCtorEq,Nat.reduceAdd,Nat.reduceSub,Nat.reduceMul,List.reduceReplicate,Nat.reduceLeDiff,Nat.reduceLT,Nat.reduceBEq,Nat.reduceEqDiff,Int.reduceNeg,Int.reduceEq,Int.reduceLE,Int.reduceLT,tfb,ctz10,O10_21,x10_12,x10_12_m1,x10_18,x10_18_m1,x10_19,x10_21,x10_21_m1,x10_21_m2,x10_21_m3,eq_self]
    rfl
  intro i hi
  have hlf : (((M.take i).filter (isC cl)).map Mem.c).length ≤ 256 := by
    rw [List.length_map]; exact Nat.le_trans (List.length_filter_le _ _) (by simp; omega)
  by_cases hlt : i < M.length
  · have hlt' : (i : Int) < M.length := by omega
    by_cases q : (M.getD i default).club = cl
    · have qb : ((M.getD i default).club == cl) = true := by simpa using q
      have hf : ((M.take (i + 1)).filter (isC cl)).map Mem.c = ((M.take i).filter (isC cl)).map Mem.c ++ [(M.getD i default).c] := by
        rw [take_succ hlt, List.filter_append, List.map_append, List.filter_cons, if_pos (by unfold isC; exact decide_eq_true q)]; rfl
      generalize ((M.take i).filter (isC cl)).map Mem.c = R at hf hlf
      simp (maxSteps := 4000000) +contextual (disch := first | omega | exact qdb_ok (by kernel_rfl) | exact okb_ok (by kernel_rfl)) only [bw1,bw2,bw3,bw4,bw5,bw6,bw7,bc0,bc1,bc2,bc3,bc4,bc5,bc6,bc7,bb0,setPs,AV.owns,AV.datF,AV.frz,AV.cpy,ifV,isEqB,nilV,nilX,AV.isNilS,AV.isNoRows,wk,dclo,datOf,binIs,addF,AV.isPtr,idxV,AV.isSl,AV.isSlice,AV.rows,ps,pv,extV,extS,AV.outs,AV.outF,packD,AV.dl,fieldV,fieldS,AV.cells?,AV.upr,AV.menc,AV.one,D.one,Value.oneCell',tagOf,AV.isApp,strV,strS,bolV,bolS,slcV,AV.isSlD,asrtS,AV.dcells,D.cells?,stcV,stcS,leafOk,eqDs,eqD,packA,D.val?,↓reduceIte,reduceCtorEq,Nat.reduceAdd,Nat.reduceSub,Nat.reduceMul,List.reduceReplicate,Nat.reduceLeDiff,Nat.reduceLT,Nat.reduceBEq,Nat.reduceEqDiff,Int.reduceNeg,Int.reduceEq,Int.reduceLE,Int.reduceLT,tfb,ctz10,O10_21,x10_12,x10_12_m1,x10_18,x10_18_m1,x10_19,x10_21,x10_21_m1,x10_21_m2,x10_21_m3,eq_self, hlt', qb, hf]
      and_intros <;> first | omega | rfl | trivial
    · have qb : ((M.getD i default).club == cl) = false := by simpa using q
      have hf : ((M.take (i + 1)).filter (isC cl)).map Mem.c = ((M.take i).filter (isC cl)).map Mem.c := by
        rw [take_succ hlt, List.filter_append, List.filter_cons, if_neg (by unfold isC; simpa using q)]; simp
      generalize ((M.take i).filter (isC cl)).map Mem.c = R at hf hlf
      simp (maxSteps := 4000000) +contextual (disch := first | omega | exact qdb_ok (by kernel_rfl) | exact okb_ok (by kernel_rfl)) only [bw1,bw2,bw3,bw4,bw5,bw6,bw7,bc0,bc1,bc2,bc3,bc4,bc5,bc6,bc7,bb0,setPs,AV.owns,AV.datF,AV.frz,AV.cpy,ifV,isEqB,nilV,nilX,AV.isNilS,AV.isNoRows,wk,dclo,datOf,binIs,addF,AV.isPtr,idxV,AV.isSl,AV.isSlice,AV.rows,ps,pv,extV,extS,AV.outs,AV.outF,packD,AV.dl,fieldV,fieldS,AV.cells?,AV.upr,AV.menc,AV.one,D.one,Value.oneCell',tagOf,AV.isApp,strV,strS,bolV,bolS,slcV,AV.isSlD,asrtS,AV.dcells,D.cells?,stcV,stcS,leafOk,eqDs,eqD,packA,D.val?,↓reduceIte,reduceCtorEq,Nat.reduceAdd,Nat.reduceSub,Nat.reduceMul,List.reduceReplicate,Nat.reduceLeDiff,Nat.reduceLT,Nat.reduceBEq,Nat.reduceEqDiff,Int.reduceNeg,Int.reduceEq,Int.reduceLE,Int.reduceLT,tfb,ctz10,O10_21,x10_12,x10_12_m1,x10_18,x10_18_m1,x10_19,x10_21,x10_21_m1,x10_21_m2,x10_21_m3,eq_self, hlt', qb, hf]
      and_intros <;> first | omega | rfl | trivial
  obtain rfl : i = M.length := by omega
  have hlm : (M.filter (isC cl)).length ≤ 1000000 := Nat.le_trans (List.length_filter_le _ _) (by omega)
  rw [List.take_length]
  simp (maxSteps := 4000000) +contextual (disch := first | omega | exact qdb_ok (by kernel_rfl) | exact okb_ok (by kernel_rfl)) only [bw1,bw2,bw3,bw4,bw5,bw6,bw7,bc0,bc1,bc2,bc3,bc4,bc5,bc6,bc7,bb0,setPs,AV.owns,AV.datF,AV.frz,AV.cpy,ifV,isEqB,nilV,nilX,AV.isNilS,AV.isNoRows,wk,dclo,datOf,binIs,addF,AV.isPtr,idxV,AV.isSl,AV.isSlice,AV.rows,ps,pv,extV,extS,AV.outs,AV.outF,packD,AV.dl,fieldV,fieldS,AV.cells?,AV.upr,AV.menc,AV.one,D.one,Value.oneCell',tagOf,AV.isApp,strV,strS,bolV,bolS,slcV,AV.isSlD,asrtS,AV.dcells,D.cells?,stcV,stcS,leafOk,eqDs,eqD,packA,D.val?,↓reduceIte,reduceCtorEq,Nat.reduceAdd,Nat.reduceSub,Nat.reduceMul,List.reduceReplicate,Nat.reduceLeDiff,Nat.reduceLT,Nat.reduceBEq,Nat.reduceEqDiff,Int.reduceNeg,Int.reduceEq,Int.reduceLE,Int.reduceLT,tfb,ctz10,O10_21,x10_12,x10_12_m1,x10_18,x10_18_m1,x10_19,x10_21,x10_21_m1,x10_21_m2,x10_21_m3,eq_self, Int.lt_irrefl, hlm, Int.reduceBEq, beq_self_eq_true, fl_b]
end Go.Proofs.Ytohkngiflfkjjaa
