/- A part of the proof that the last text ends: what functions of the program do, told by plain data. -/
import Derived.Test.YtmajlffglplcnaaDoorMK
set_option linter.unusedVariables false
set_option linter.unusedSimpArgs false
namespace Go.Proofs.YtmajlffglplcnaaDoor
open Go Go.E
set_option maxRecDepth 100000
set_option maxHeartbeats 16000000
theorem lf_open {l : List Gam} : ∀ {k : Nat}, lfN l (-1) k = openN l k := fun {k} => by
  unfold lfN openN lfB
  congr 1
  funext g
  simp
theorem lea_open {l : Lea} (h : leaOk l = true) : lfF l.games (-1) ≤ 8 := by
  unfold leaOk at h
  simp only [Bool.and_eq_true, decide_eq_true_eq] at h
  unfold lfF
  rw [lf_open]
  omega
theorem outsL_dig : ∀ (k : Nat) (b : List Int), (∀ e ∈ b, 0 ≤ e ∧ e ≤ 3) → ∀ es ∈ outsL k b, ∀ e ∈ es, 0 ≤ e ∧ e ≤ 3
  | 0, b, hb, es, he => by
    simp [outsL] at he; subst he; exact hb
  | k + 1, b, hb, es, he => by
    unfold outsL at he
    obtain ⟨i, hi, he⟩ := List.mem_flatMap.1 he
    have hi := List.mem_range.1 hi
    refine outsL_dig k _ (fun e h => ?_) es he
    rcases List.mem_append.1 h with h | h
    · exact hb e h
    · simp at h; omega
theorem ocG_gs {l : List Gam} {es : List Int} (h : gsOk l) (he : ∀ e ∈ es, 0 ≤ e ∧ e ≤ 3) : gsOk (ocG l es) := by
  refine ⟨by unfold ocG; rw [ocK_len]; exact h.1, fun g hg => ?_⟩
  obtain ⟨i, hi, rfl⟩ := List.getElem_of_mem hg
  have hil : i < l.length := by unfold ocG at hi; rw [ocK_len] at hi; exact hi
  have e1 := ocK_at (es := es) (k := l.length) hil
  rw [if_pos hil] at e1
  rw [← at_lt hi]
  rw [show (ocG l es).getD i default = ocA l es i from e1]
  unfold ocA
  split
  · rename_i hc
    right
    have hb := he (es.getD (openN l i) default) (by rw [at_lt hc.2]; exact List.getElem_mem _)
    unfold ocX
    dsimp only
    omega
  · exact h.at hil
def outO (l : Lea) : List (List Int) := outsL (lfF l.games (-1)) []
theorem outO_len {l : Lea} (h : leaOk l = true) : (outO l).length ≤ 65536 := by
  unfold outO; rw [outsL_len]
  exact Nat.pow_le_pow_right (n := 4) (by decide) (lea_open h)
def isN (l : Lea) (t p : Int) (O : List (List Int)) (k : Nat) : Bool := (O.take k).all fun es => decide (saF (ocL l es) t < p)
def ntN (l : Lea) (t p : Int) (O : List (List Int)) (k : Nat) : Bool := (O.take k).all fun es => decide (p ≤ moF (ocL l es) t)
def clR (l : Lea) (t p : Int) : Bool × Bool × Int := if errR l t p = 0 then (isN l t p (outO l) (outO l).length, ntN l t p (outO l) (outO l).length, 0) else (false, false, errR l t p)
theorem isN_succ {l : Lea} {t p : Int} {O : List (List Int)} {k : Nat} (h : k < O.length) : isN l t p O (k + 1) = (isN l t p O k && decide (saF (ocL l (O.getD k default)) t < p)) := by
  unfold isN; rw [take_succ h, List.all_append]; simp
theorem ntN_succ {l : Lea} {t p : Int} {O : List (List Int)} {k : Nat} (h : k < O.length) : ntN l t p O (k + 1) = (ntN l t p O k && decide (p ≤ moF (ocL l (O.getD k default)) t)) := by
  unfold ntN; rw [take_succ h, List.all_append]; simp
theorem err_ok {l : Lea} {t p : Int} (h : errR l t p = 0) : leaOk l = true ∧ (0 ≤ t ∧ t < l.far.length) ∧ 1 ≤ p ∧ p ≤ l.far.length := by
  unfold errR at h
  split at h
  · rename_i h1
    split at h
    · rename_i h2
      rw [inB_iff, inB_iff] at h2
      exact ⟨h1, by omega, h2.2⟩
    · cases h
  · cases h
def O19 : Nat → Sch := fun id => if id = 9 then .one 0 (.one 1 (.one 2 (.one 3 (.one 4 (.one 6 (.one 5 (.one 7 (.one 8 (.one 9 (.one 10 (.one 11 (.one 12 (.done))))))))))))) else .done
theorem O19_9 : O19 9 = .one 0 (.one 1 (.one 2 (.one 3 (.one 4 (.one 6 (.one 5 (.one 7 (.one 8 (.one 9 (.one 10 (.one 11 (.one 12 (.done))))))))))))) := rfl
theorem ho19 : Tryd.f19.body.map (okO O19) = some true := by kernel_rfl
def Cf19 : Nat → List AV → (AV → List AV → Sto → Prop) → Kt → List AV → Sto → Prop := fun f args K Q e s => match f with
  | 23 => ent23 args K e s
  | 26 => ent26 args K e s
  | 48 => ent48 args K e s
  | 49 => sp49 args K e s
  | 50 => ent50 args K e s
  | _ => False
def Ct19 : CT := { f := Cf19, y := noYld, z := fun d => false }
theorem ctz19 {d : Nat} : CT.z Ct19 d = (false) := id rfl
theorem Ct19_ok : Ct19.ok Tryd.prog := ok_of_f (fun f args K Q e s h => by
  have h : Cf19 f args K Q e s := h
  unfold Cf19 at h; split at h
  · exact ent23_ok h
  · exact ent26_ok h
  · exact ent48_ok h
  · exact sp49_ok h
  · exact ent50_ok h
  · exact h.elim) (fun _ _ _ _ _ _ _ _ _ h => h)
theorem x19_48 {l : Lea} {t : Int} {p : Int} {KK : AV → List AV → Sto → Prop} {QQ : Kt} {ii : At KK} {jj : At QQ} {ee : List AV} {ss : Sto} : xC Ct19 48 [.d (.agg l.c), .d (.i t), .d (.i p)] KK QQ ii jj ee ss = ((l.far.length ≤ 1000) ∧ KK (.d (.i (errR l t p))) ee ss) := eq48
theorem x19_50 {l : Lea} {t : Int} {KK : AV → List AV → Sto → Prop} {QQ : Kt} {ii : At KK} {jj : At QQ} {ee : List AV} {ss : Sto} : xC Ct19 50 [.d (.agg l.c), .d (.i t)] KK QQ ii jj ee ss = ((l.games.length ≤ 1000) ∧ KK (.d (.i (lfF l.games t : Int))) ee ss) := eq50
theorem x19_23 {l : Lea} {es : List Int} {KK : AV → List AV → Sto → Prop} {QQ : Kt} {ii : At KK} {jj : At QQ} {ee : List AV} {ss : Sto} : xC Ct19 23 [.d (.agg l.c), .d (.sl 1 (es.map ic))] KK QQ ii jj ee ss = ((l.games.length ≤ 1000 ∧ ∀ e ∈ es, 0 ≤ e ∧ e ≤ 3) ∧ KK (.d (.agg (ocL l es).c)) ee ss) := eq23
theorem x19_23_m1 {l : Lea} {es : List Int} {g1 el1 : Nat} {KK : AV → List AV → Sto → Prop} {QQ : Kt} {ii : At KK} {jj : At QQ} {ee : List AV} {ss : Sto} : xC Ct19 23 [.d (.agg l.c), .own g1 el1 1 (es.map ic)] KK QQ ii jj ee ss = ((l.games.length ≤ 1000 ∧ ∀ e ∈ es, 0 ≤ e ∧ e ≤ 3) ∧ (.agg (ocL l es).c : D).flat = true ∧ KK (.d (.agg (ocL l es).c)) ee ss) := eqo23
theorem x19_26 {l : Lea} {t : Int} {KK : AV → List AV → Sto → Prop} {QQ : Kt} {ii : At KK} {jj : At QQ} {ee : List AV} {ss : Sto} : xC Ct19 26 [.d (.agg l.c), .d (.i t)] KK QQ ii jj ee ss = ((gsOk l.games ∧ l.far.length ≤ 1000) ∧ KK (.d (.tup [.i (saF l t), .i (moF l t)])) ee ss) := eq26
theorem c19 : callable Tryd.prog 19 = true := by kernel_rfl
theorem pf19 (l : Lea) (t p : Int) (h : l.far.length ≤ 1000) : PF Tryd.prog 19 [.agg l.c, .i t, .i p] (fun zz => zz = .ret (.tup [.b (clR l t p).1, .b (clR l t p).2.1, .i (clR l t p).2.2])) := by
  have hfar := h
  unfold clR
  have hx49 : ∀ {args : List AV} {KK : AV → List AV → Sto → Prop} {QQ : Kt} {ii : At KK} {jj : At QQ} {ee : List AV} {ss : Sto}, xC Ct19 49 args KK QQ ii jj ee ss = sp49 args KK ee ss := id rfl
  by_cases c0 : errR l t p = 0
  case neg =>
    have c0b : (errR l t p != 0) = true := by simpa using c0
    rw [if_neg c0]
    refine PF_nil (PF_start (O := O19) Ct19_ok hmix ho19 Tryd.func19 c19 rfl Tryd.ntmps19 Tryd.results19 ?_)
    simp (maxSteps := 4000000) +contextual (disch := first | omega | exact qdb_ok (by kernel_rfl) | exact okb_ok (by kernel_rfl)) only [bw1,bw2,bw3,bw4,bw5,bw6,bw7,bc0,bc1,bc2,bc3,bc4,bc5,bc6,bc7,bb0,setPs,AV.owns,AV.datF,AV.frz,AV.cpy,ifV,isEqB,nilV,nilX,AV.isNilS,AV.isNoRows,wk,dclo,datOf,binIs,addF,AV.isPtr,idxV,AV.isSl,AV.isSlice,AV.rows,ps,pv,extV,extS,AV.outs,AV.outF,packD,AV.dl,fieldV,fieldS,AV.cells?,AV.upr,AV.menc,AV.one,D.one,Value.oneCell',tagOf,AV.isApp,strV,strS,bolV,bolS,slcV,AV.isSlD,asrtS,AV.dcells,D.cells?,stcV,stcS,leafOk,eqDs,eqD,packA,D.val?,↓reduceIte,reduceCtorEq,Nat.reduceAdd,Nat.reduceSub,Nat.reduceMul,List.reduceReplicate,Nat.reduceLeDiff,Nat.reduceLT,Nat.reduceBEq,Nat.reduceEqDiff,Int.reduceNeg,Int.reduceEq,Int.reduceLE,Int.reduceLT,tfb,ctz19,O19_9,x19_48,x19_50,x19_23,x19_23_m1,x19_26,c0b, hfar]
  have c0b : (errR l t p != 0) = false := by simpa using c0
  rw [if_pos c0]
  obtain ⟨hl, ht, hp⟩ := err_ok c0
  have h64 := lea_games hl
  have hop := lea_open hl
  have hg := lea_gs hl
  have hO : outsL (lfF l.games (-1)) [] = outO l := rfl
  have hdig : ∀ k, k < (outO l).length → ∀ e ∈ (outO l).getD k default, 0 ≤ e ∧ e ≤ 3 := fun k hk => by
    rw [at_lt hk]
    exact outsL_dig _ [] (fun e h => by cases h) _ (List.getElem_mem _)
  refine PF_nil (PF_start (O := O19) Ct19_ok hmix ho19 Tryd.func19 c19 rfl Tryd.ntmps19 Tryd.results19 ?_)
  simp (maxSteps := 4000000) +contextual (disch := first | omega | exact qdb_ok (by kernel_rfl) | exact okb_ok (by kernel_rfl)) only [bw1,bw2,bw3,bw4,bw5,bw6,bw7,bc0,bc1,bc2,bc3,bc4,bc5,bc6,bc7,bb0,setPs,AV.owns,AV.datF,AV.frz,AV.cpy,ifV,isEqB,nilV,nilX,AV.isNilS,AV.isNoRows,wk,dclo,datOf,binIs,addF,AV.isPtr,idxV,AV.isSl,AV.isSlice,AV.rows,ps,pv,extV,extS,AV.outs,AV.outF,packD,AV.dl,fieldV,fieldS,AV.cells?,AV.upr,AV.menc,AV.one,D.one,Value.oneCell',tagOf,AV.isApp,strV,strS,bolV,bolS,slcV,AV.isSlD,asrtS,AV.dcells,D.cells?,stcV,stcS,leafOk,eqDs,eqD,packA,D.val?,↓reduceIte,reduceCtorEq,Nat.reduceAdd,Nat.reduceSub,Nat.reduceMul,List.reduceReplicate,Nat.reduceLeDiff,Nat.reduceLT,Nat.reduceBEq,Nat.reduceEqDiff,Int.reduceNeg,Int.reduceEq,Int.reduceLE,Int.reduceLT,tfb,ctz19,O19_9,x19_48,x19_50,x19_23,x19_23_m1,x19_26,c0b, hfar, hx49]
  refine ⟨by omega, lfF l.games (-1), hop, rfl, ?_⟩
  rw [hO]
  have hOl := outO_len hl
  generalize outO l = O at hdig hOl
  simp (maxSteps := 4000000) +contextual (disch := first | omega | exact qdb_ok (by kernel_rfl) | exact okb_ok (by kernel_rfl)) only [bw1,bw2,bw3,bw4,bw5,bw6,bw7,bc0,bc1,bc2,bc3,bc4,bc5,bc6,bc7,bb0,setPs,AV.owns,AV.datF,AV.frz,AV.cpy,ifV,isEqB,nilV,nilX,AV.isNilS,AV.isNoRows,wk,dclo,datOf,binIs,addF,AV.isPtr,idxV,AV.isSl,AV.isSlice,AV.rows,ps,pv,extV,extS,AV.outs,AV.outF,packD,AV.dl,fieldV,fieldS,AV.cells?,AV.upr,AV.menc,AV.one,D.one,Value.oneCell',tagOf,AV.isApp,strV,strS,bolV,bolS,slcV,AV.isSlD,asrtS,AV.dcells,D.cells?,stcV,stcS,leafOk,eqDs,eqD,packA,D.val?,↓reduceIte,reduceCtorEq,Nat.reduceAdd,Nat.reduceSub,Nat.reduceMul,List.reduceReplicate,Nat.reduceLeDiff,Nat.reduceLT,Nat.reduceBEq,Nat.reduceEqDiff,Int.reduceNeg,Int.reduceEq,Int.reduceLE,Int.reduceLT,tfb,ctz19,O19_9,x19_48,x19_50,x19_23,x19_23_m1,x19_26,eq_self]
  refine loop_xu (O := O19) (tb := 0) Ct19_ok hmix (by kernel_rfl) (σ := Nat) (fun k => [(11, .b (isN l t p O k)), (12, .b (ntN l t p O k)), (13, .i k)]) (fun _ => []) (fun k => k ≤ O.length) (fun k => O.length - k) 0 (Nat.zero_le _) ?_ ?_
  · have hz1 : isN l t p O 0 = true := by simp [isN]
    have hz2 : ntN l t p O 0 = true := by simp [ntN]
    simp (maxSteps := 4000000) +contextual (disch := first | omega | exact qdb_ok (by kernel_rfl) | exact okb_ok (by kernel_rfl)) only [bw1,bw2,bw3,bw4,bw5,bw6,bw7,bc0,bc1,bc2,bc3,bc4,bc5,bc6,bc7,bb0,setPs,AV.owns,AV.datF,AV.frz,AV.cpy,ifV,isEqB,nilV,nilX,AV.isNilS,AV.isNoRows,wk,dclo,datOf,binIs,addF,AV.isPtr,idxV,AV.isSl,AV.isSlice,AV.rows,ps,pv,extV,extS,AV.outs,AV.outF,packD,AV.dl,fieldV,fieldS,AV.cells?,AV.upr,AV.menc,AV.one,D.one,Value.oneCell',tagOf,AV.isApp,strV,strS,bolV,bolS,slcV,AV.isSlD,asrtS,AV.dcells,D.cells?,stcV,stcS,leafOk,eqDs,eqD,packA,D.val?,↓reduceIte,reduceCtorEq,Nat.reduceAdd,Nat.reduceSub,Nat.reduceMul,List.reduceReplicate,Nat.reduceLeDiff,Nat.reduceLT,Nat.reduceBEq,Nat.reduceEqDiff,Int.reduceNeg,Int.reduceEq,Int.reduceLE,Int.reduceLT,tfb,ctz19,O19_9,x19_48,x19_50,x19_23,x19_23_m1,x19_26,eq_self, hz1, hz2]
    try rfl
  rintro k hk
  by_cases hlt : k < O.length
  case neg =>
    obtain rfl : k = O.length := by omega
    simp (maxSteps := 4000000) +contextual (disch := first | omega | exact qdb_ok (by kernel_rfl) | exact okb_ok (by kernel_rfl)) only [bw1,bw2,bw3,bw4,bw5,bw6,bw7,bc0,bc1,bc2,bc3,bc4,bc5,bc6,bc7,bb0,setPs,AV.owns,AV.datF,AV.frz,AV.cpy,ifV,isEqB,nilV,nilX,AV.isNilS,AV.isNoRows,wk,dclo,datOf,binIs,addF,AV.isPtr,idxV,AV.isSl,AV.isSlice,AV.rows,ps,pv,extV,extS,AV.outs,AV.outF,packD,AV.dl,fieldV,fieldS,AV.cells?,AV.upr,AV.menc,AV.one,D.one,Value.oneCell',tagOf,AV.isApp,strV,strS,bolV,bolS,slcV,AV.isSlD,asrtS,AV.dcells,D.cells?,stcV,stcS,leafOk,eqDs,eqD,packA,D.val?,↓reduceIte,reduceCtorEq,Nat.reduceAdd,Nat.reduceSub,Nat.reduceMul,List.reduceReplicate,Nat.reduceLeDiff,Nat.reduceLT,Nat.reduceBEq,Nat.reduceEqDiff,Int.reduceNeg,Int.reduceEq,Int.reduceLE,Int.reduceLT,tfb,ctz19,O19_9,x19_48,x19_50,x19_23,x19_23_m1,x19_26,eq_self, Int.lt_irrefl]
  have hlt' : (k : Int) < O.length := by omega
  have r1 : (O.map pc).getD k [] = pc (O.getD k default) := Go.E.row_at hlt
  have hs1 := isN_succ (l := l) (t := t) (p := p) hlt
  have hs2 := ntN_succ (l := l) (t := t) (p := p) hlt
  have hd := hdig k hlt
  have hgo : gsOk (ocL l (O.getD k default)).games := ocG_gs hg hd
  have hfo : (ocL l (O.getD k default)).far.length ≤ 1000 := hfar
  have hl1 : l.games.length ≤ 1000 := by omega
  generalize O.getD k default = es at *
  by_cases b1 : isN l t p O k = true
  case' neg => have b1 : isN l t p O k = false := by simpa using b1
  all_goals
    by_cases b2 : ntN l t p O k = true
    case' neg => have b2 : ntN l t p O k = false := by simpa using b2
    all_goals
      rw [b1] at hs1
      rw [b2] at hs2
      simp only [Bool.true_and, Bool.false_and] at hs1 hs2
      simp (maxSteps := 4000000) +contextual (disch := first | omega | exact qdb_ok (by kernel_rfl) | exact okb_ok (by kernel_rfl)) only [bw1,bw2,bw3,bw4,bw5,bw6,bw7,bc0,bc1,bc2,bc3,bc4,bc5,bc6,bc7,bb0,setPs,AV.owns,AV.datF,AV.frz,AV.cpy,ifV,isEqB,nilV,nilX,AV.isNilS,AV.isNoRows,wk,dclo,datOf,binIs,addF,AV.isPtr,idxV,AV.isSl,AV.isSlice,AV.rows,ps,pv,extV,extS,AV.outs,AV.outF,packD,AV.dl,fieldV,fieldS,AV.cells?,AV.upr,AV.menc,AV.one,D.one,Value.oneCell',tagOf,AV.isApp,strV,strS,bolV,bolS,slcV,AV.isSlD,asrtS,AV.dcells,D.cells?,stcV,stcS,leafOk,eqDs,eqD,packA,D.val?,↓reduceIte,reduceCtorEq,Nat.reduceAdd,Nat.reduceSub,Nat.reduceMul,List.reduceReplicate,Nat.reduceLeDiff,Nat.reduceLT,Nat.reduceBEq,Nat.reduceEqDiff,Int.reduceNeg,Int.reduceEq,Int.reduceLE,Int.reduceLT,tfb,ctz19,O19_9,x19_48,x19_50,x19_23,x19_23_m1,x19_26,eq_self, hlt', r1, hl1, hd, hgo, hfo, b1, b2]
      repeat (refine And.intro (by first | omega | exact fun _ _ => trivial) ?_)
      exact ⟨k + 1, ⟨by omega, by omega⟩, by rw [hs1], by rw [hs2], rfl⟩
def ndS (l : Lea) (t p : Int) (n : Int) (es : List Int) : Int := if p ≤ saF (ocL l es) t then max n ((stF (ocL l es).games t).pts - (stF l.games t).pts + 1) else n
def ndN (l : Lea) (t p : Int) (O : List (List Int)) (k : Nat) : Int := (O.take k).foldl (ndS l t p) 0
def ndR (l : Lea) (t p : Int) : Int × Int := if errR l t p = 0 then (if 3 * (lfF l.games t : Int) < ndN l t p (outO l) (outO l).length then (0, 4) else (ndN l t p (outO l) (outO l).length, 0)) else (0, errR l t p)
theorem ndN_succ {l : Lea} {t p : Int} {O : List (List Int)} {k : Nat} (h : k < O.length) : ndN l t p O (k + 1) = ndS l t p (ndN l t p O k) (O.getD k default) := by
  unfold ndN; rw [take_succ h, List.foldl_append]; rfl
theorem ndS_b {l : Lea} {t p n : Int} {es : List Int} (hg : gsOk l.games) (hgo : gsOk (ocL l es).games) (hn : 0 ≤ n ∧ n ≤ 193) : 0 ≤ ndS l t p n es ∧ ndS l t p n es ≤ 193 := by
  have h1 := (stF_b (t := t) hg).2.1
  have h2 := (stF_b (t := t) hgo).2.1
  unfold ndS
  split <;> omega
theorem ndN_b {l : Lea} {t p : Int} {O : List (List Int)} (hg : gsOk l.games) (hO : ∀ k, k < O.length → ∀ e ∈ O.getD k default, 0 ≤ e ∧ e ≤ 3) : ∀ k, k ≤ O.length → 0 ≤ ndN l t p O k ∧ ndN l t p O k ≤ 193
  | 0, _ => by simp [ndN]
  | k + 1, h => by
    rw [ndN_succ (by omega)]
    exact ndS_b hg (ocG_gs hg (hO k (by omega))) (ndN_b hg hO k (by omega))
def ent19 (args : List AV) (K : AV → List AV → Sto → Prop) (e : List AV) (s : Sto) : Prop := ent (α := (Lea) × (Int) × (Int)) (fun aa => [.agg aa.1.c, .i aa.2.1, .i aa.2.2]) (fun aa => aa.1.far.length ≤ 1000) (fun aa => .tup [.b (clR aa.1 aa.2.1 aa.2.2).1, .b (clR aa.1 aa.2.1 aa.2.2).2.1, .i (clR aa.1 aa.2.1 aa.2.2).2.2]) args K e s
theorem ent19_ok {args : List AV} {K : AV → List AV → Sto → Prop} {Q : Kt} {e : List AV} {s : Sto} (h : ent19 args K e s) : pcall Tryd.prog 19 args K Q e s := ent_ok (fun aa h => pf19 aa.1 aa.2.1 aa.2.2 h) h
theorem eq19 {l : Lea} {t : Int} {p : Int} {KK : AV → List AV → Sto → Prop} {ee : List AV} {ss : Sto} : ent19 [.d (.agg l.c), .d (.i t), .d (.i p)] KK ee ss = ((l.far.length ≤ 1000) ∧ KK (.d (.tup [.b (clR l t p).1, .b (clR l t p).2.1, .i (clR l t p).2.2])) ee ss) := by
  unfold ent19; rw [ent_iff (l, t, p) (by intro b h; simpa [Prod.ext_iff, and_assoc, Int.ofNat_inj, ints_inj, gams_inj, fars_inj, gam_inj, lea_inj, Int.ofNat_inj, ints_inj, gams_inj, fars_inj, gam_inj, lea_inj, stds_inj, std_inj] using h) rfl]; simp
def O21 : Nat → Sch := fun id => if id = 10 then .one 1 (.one 2 (.one 3 (.alt (.one 0 (.alt (.one 4 (.alt (.one 5 (.one 6 (.one 7 (.done)))) (.one 6 (.one 5 (.one 7 (.done)))))) (.one 6 (.one 4 (.one 5 (.one 7 (.done))))))) (.alt (.one 4 (.alt (.one 0 (.alt (.one 5 (.one 6 (.one 7 (.done)))) (.one 6 (.one 5 (.one 7 (.done)))))) (.one 6 (.one 0 (.one 5 (.one 7 (.done))))))) (.one 6 (.one 0 (.one 4 (.one 5 (.one 7 (.done)))))))))) else .done
theorem O21_10 : O21 10 = .one 1 (.one 2 (.one 3 (.alt (.one 0 (.alt (.one 4 (.alt (.one 5 (.one 6 (.one 7 (.done)))) (.one 6 (.one 5 (.one 7 (.done)))))) (.one 6 (.one 4 (.one 5 (.one 7 (.done))))))) (.alt (.one 4 (.alt (.one 0 (.alt (.one 5 (.one 6 (.one 7 (.done)))) (.one 6 (.one 5 (.one 7 (.done)))))) (.one 6 (.one 0 (.one 5 (.one 7 (.done))))))) (.one 6 (.one 0 (.one 4 (.one 5 (.one 7 (.done)))))))))) := rfl
theorem ho21 : Tryd.f21.body.map (okO O21) = some true := by kernel_rfl
def Cf21 : Nat → List AV → (AV → List AV → Sto → Prop) → Kt → List AV → Sto → Prop := fun f args K Q e s => match f with
  | 23 => ent23 args K e s
  | 26 => ent26 args K e s
  | 44 => ent44 args K e s
  | 48 => ent48 args K e s
  | 49 => sp49 args K e s
  | 50 => ent50 args K e s
  | _ => False
def Ct21 : CT := { f := Cf21, y := noYld, z := fun d => false }
theorem ctz21 {d : Nat} : CT.z Ct21 d = (false) := id rfl
theorem Ct21_ok : Ct21.ok Tryd.prog := ok_of_f (fun f args K Q e s h => by
  have h : Cf21 f args K Q e s := h
  unfold Cf21 at h; split at h
  · exact ent23_ok h
  · exact ent26_ok h
  · exact ent44_ok h
  · exact ent48_ok h
  · exact sp49_ok h
  · exact ent50_ok h
  · exact h.elim) (fun _ _ _ _ _ _ _ _ _ h => h)
theorem x21_48 {l : Lea} {t : Int} {p : Int} {KK : AV → List AV → Sto → Prop} {QQ : Kt} {ii : At KK} {jj : At QQ} {ee : List AV} {ss : Sto} : xC Ct21 48 [.d (.agg l.c), .d (.i t), .d (.i p)] KK QQ ii jj ee ss = ((l.far.length ≤ 1000) ∧ KK (.d (.i (errR l t p))) ee ss) := eq48
theorem x21_50 {l : Lea} {t : Int} {KK : AV → List AV → Sto → Prop} {QQ : Kt} {ii : At KK} {jj : At QQ} {ee : List AV} {ss : Sto} : xC Ct21 50 [.d (.agg l.c), .d (.i t)] KK QQ ii jj ee ss = ((l.games.length ≤ 1000) ∧ KK (.d (.i (lfF l.games t : Int))) ee ss) := eq50
theorem x21_23 {l : Lea} {es : List Int} {KK : AV → List AV → Sto → Prop} {QQ : Kt} {ii : At KK} {jj : At QQ} {ee : List AV} {ss : Sto} : xC Ct21 23 [.d (.agg l.c), .d (.sl 1 (es.map ic))] KK QQ ii jj ee ss = ((l.games.length ≤ 1000 ∧ ∀ e ∈ es, 0 ≤ e ∧ e ≤ 3) ∧ KK (.d (.agg (ocL l es).c)) ee ss) := eq23
theorem x21_23_m1 {l : Lea} {es : List Int} {g1 el1 : Nat} {KK : AV → List AV → Sto → Prop} {QQ : Kt} {ii : At KK} {jj : At QQ} {ee : List AV} {ss : Sto} : xC Ct21 23 [.d (.agg l.c), .own g1 el1 1 (es.map ic)] KK QQ ii jj ee ss = ((l.games.length ≤ 1000 ∧ ∀ e ∈ es, 0 ≤ e ∧ e ≤ 3) ∧ (.agg (ocL l es).c : D).flat = true ∧ KK (.d (.agg (ocL l es).c)) ee ss) := eqo23
theorem x21_26 {l : Lea} {t : Int} {KK : AV → List AV → Sto → Prop} {QQ : Kt} {ii : At KK} {jj : At QQ} {ee : List AV} {ss : Sto} : xC Ct21 26 [.d (.agg l.c), .d (.i t)] KK QQ ii jj ee ss = ((gsOk l.games ∧ l.far.length ≤ 1000) ∧ KK (.d (.tup [.i (saF l t), .i (moF l t)])) ee ss) := eq26
theorem x21_44 {l : Lea} {t : Int} {KK : AV → List AV → Sto → Prop} {QQ : Kt} {ii : At KK} {jj : At QQ} {ee : List AV} {ss : Sto} : xC Ct21 44 [.d (.agg l.c), .d (.i t)] KK QQ ii jj ee ss = ((gsOk l.games) ∧ KK (.d (.agg (stF l.games t).c)) ee ss) := eq44
theorem c21 : callable Tryd.prog 21 = true := by kernel_rfl
theorem pf21 (l : Lea) (t p : Int) (h : l.far.length ≤ 1000) : PF Tryd.prog 21 [.agg l.c, .i t, .i p] (fun zz => zz = .ret (.tup [.i (ndR l t p).1, .i (ndR l t p).2])) := by
  have hfar := h
  unfold ndR
  have hx49 : ∀ {args : List AV} {KK : AV → List AV → Sto → Prop} {QQ : Kt} {ii : At KK} {jj : At QQ} {ee : List AV} {ss : Sto}, xC Ct21 49 args KK QQ ii jj ee ss = sp49 args KK ee ss := id rfl
  by_cases c0 : errR l t p = 0
  case neg =>
    have c0b : (errR l t p != 0) = true := by simpa using c0
    rw [if_neg c0]
    refine PF_nil (PF_start (O := O21) Ct21_ok hmix ho21 Tryd.func21 c21 rfl Tryd.ntmps21 Tryd.results21 ?_)
    simp (maxSteps := 4000000) +contextual (disch := first | omega | exact qdb_ok (by kernel_rfl) | exact okb_ok (by kernel_rfl)) only [bw1,bw2,bw3,bw4,bw5,bw6,bw7,bc0,bc1,bc2,bc3,bc4,bc5,bc6,bc7,bb0,setPs,AV.owns,AV.datF,AV.frz,AV.cpy,ifV,isEqB,nilV,nilX,AV.isNilS,AV.isNoRows,wk,dclo,datOf,binIs,addF,AV.isPtr,idxV,AV.isSl,AV.isSlice,AV.rows,ps,pv,extV,extS,AV.outs,AV.outF,packD,AV.dl,fieldV,fieldS,AV.cells?,AV.upr,AV.menc,AV.one,D.one,Value.oneCell',tagOf,AV.isApp,strV,strS,bolV,bolS,slcV,AV.isSlD,asrtS,AV.dcells,D.cells?,stcV,stcS,leafOk,eqDs,eqD,packA,D.val?,↓reduceIte,reduceCtorEq,Nat.reduceAdd,Nat.reduceSub,Nat.reduceMul,List.reduceReplicate,Nat.reduceLeDiff,Nat.reduceLT,Nat.reduceBEq,Nat.reduceEqDiff,Int.reduceNeg,Int.reduceEq,Int.reduceLE,Int.reduceLT,tfb,ctz21,O21_10,x21_48,x21_50,x21_23,x21_23_m1,x21_26,x21_44,c0b, hfar]
  have c0b : (errR l t p != 0) = false := by simpa using c0
  rw [if_pos c0]
  obtain ⟨hl, ht, hp⟩ := err_ok c0
  have h64 := lea_games hl
  have hl1 : l.games.length ≤ 1000 := by omega
  have hop := lea_open hl
  have hg := lea_gs hl
  have hO : outsL (lfF l.games (-1)) [] = outO l := rfl
  have hdig : ∀ k, k < (outO l).length → ∀ e ∈ (outO l).getD k default, 0 ≤ e ∧ e ≤ 3 := fun k hk => by
    rw [at_lt hk]
    exact outsL_dig _ [] (fun e h => by cases h) _ (List.getElem_mem _)
  refine PF_nil (PF_start (O := O21) Ct21_ok hmix ho21 Tryd.func21 c21 rfl Tryd.ntmps21 Tryd.results21 ?_)
  simp (maxSteps := 4000000) +contextual (disch := first | omega | exact qdb_ok (by kernel_rfl) | exact okb_ok (by kernel_rfl)) only [bw1,bw2,bw3,bw4,bw5,bw6,bw7,bc0,bc1,bc2,bc3,bc4,bc5,bc6,bc7,bb0,setPs,AV.owns,AV.datF,AV.frz,AV.cpy,ifV,isEqB,nilV,nilX,AV.isNilS,AV.isNoRows,wk,dclo,datOf,binIs,addF,AV.isPtr,idxV,AV.isSl,AV.isSlice,AV.rows,ps,pv,extV,extS,AV.outs,AV.outF,packD,AV.dl,fieldV,fieldS,AV.cells?,AV.upr,AV.menc,AV.one,D.one,Value.oneCell',tagOf,AV.isApp,strV,strS,bolV,bolS,slcV,AV.isSlD,asrtS,AV.dcells,D.cells?,stcV,stcS,leafOk,eqDs,eqD,packA,D.val?,↓reduceIte,reduceCtorEq,Nat.reduceAdd,Nat.reduceSub,Nat.reduceMul,List.reduceReplicate,Nat.reduceLeDiff,Nat.reduceLT,Nat.reduceBEq,Nat.reduceEqDiff,Int.reduceNeg,Int.reduceEq,Int.reduceLE,Int.reduceLT,tfb,ctz21,O21_10,x21_48,x21_50,x21_23,x21_23_m1,x21_26,x21_44,c0b, hfar, hx49]
  refine ⟨by omega, lfF l.games (-1), hop, rfl, ?_⟩
  rw [hO]
  have hOl := outO_len hl
  generalize outO l = O at hdig hOl
  have hob := (stF_b (t := t) hg).2.1
  have hlf : lfF l.games t ≤ l.games.length := lfN_le
  simp (maxSteps := 4000000) +contextual (disch := first | omega | exact qdb_ok (by kernel_rfl) | exact okb_ok (by kernel_rfl)) only [bw1,bw2,bw3,bw4,bw5,bw6,bw7,bc0,bc1,bc2,bc3,bc4,bc5,bc6,bc7,bb0,setPs,AV.owns,AV.datF,AV.frz,AV.cpy,ifV,isEqB,nilV,nilX,AV.isNilS,AV.isNoRows,wk,dclo,datOf,binIs,addF,AV.isPtr,idxV,AV.isSl,AV.isSlice,AV.rows,ps,pv,extV,extS,AV.outs,AV.outF,packD,AV.dl,fieldV,fieldS,AV.cells?,AV.upr,AV.menc,AV.one,D.one,Value.oneCell',tagOf,AV.isApp,strV,strS,bolV,bolS,slcV,AV.isSlD,asrtS,AV.dcells,D.cells?,stcV,stcS,leafOk,eqDs,eqD,packA,D.val?,↓reduceIte,reduceCtorEq,Nat.reduceAdd,Nat.reduceSub,Nat.reduceMul,List.reduceReplicate,Nat.reduceLeDiff,Nat.reduceLT,Nat.reduceBEq,Nat.reduceEqDiff,Int.reduceNeg,Int.reduceEq,Int.reduceLE,Int.reduceLT,tfb,ctz21,O21_10,x21_48,x21_50,x21_23,x21_23_m1,x21_26,x21_44,eq_self, hg]
  refine loop_xu (O := O21) (tb := 0) Ct21_ok hmix (by kernel_rfl) (σ := Nat) (fun k => [(11, .i (ndN l t p O k)), (12, .i k), (13, .any), (14, .any), (15, .any)]) (fun _ => []) (fun k => k ≤ O.length) (fun k => O.length - k) 0 (Nat.zero_le _) ?_ ?_
  · have hz1 : ndN l t p O 0 = 0 := by simp [ndN]
    simp (maxSteps := 4000000) +contextual (disch := first | omega | exact qdb_ok (by kernel_rfl) | exact okb_ok (by kernel_rfl)) only [bw1,bw2,bw3,bw4,bw5,bw6,bw7,bc0,bc1,bc2,bc3,bc4,bc5,bc6,bc7,bb0,setPs,AV.owns,AV.datF,AV.frz,AV.cpy,ifV,isEqB,nilV,nilX,AV.isNilS,AV.isNoRows,wk,dclo,datOf,binIs,addF,AV.isPtr,idxV,AV.isSl,AV.isSlice,AV.rows,ps,pv,extV,extS,AV.outs,AV.outF,packD,AV.dl,fieldV,fieldS,AV.cells?,AV.upr,AV.menc,AV.one,D.one,Value.oneCell',tagOf,AV.isApp,strV,strS,bolV,bolS,slcV,AV.isSlD,asrtS,AV.dcells,D.cells?,stcV,stcS,leafOk,eqDs,eqD,packA,D.val?,↓reduceIte,reduceCtorEq,Nat.reduceAdd,Nat.reduceSub,Nat.reduceMul,List.reduceReplicate,Nat.reduceLeDiff,Nat.reduceLT,Nat.reduceBEq,Nat.reduceEqDiff,Int.reduceNeg,Int.reduceEq,Int.reduceLE,Int.reduceLT,tfb,ctz21,O21_10,x21_48,x21_50,x21_23,x21_23_m1,x21_26,x21_44,eq_self, hz1]
    try rfl
  rintro k hk
  have hnb := ndN_b (t := t) (p := p) hg hdig k hk
  by_cases hlt : k < O.length
  case neg =>
    obtain rfl : k = O.length := by omega
    by_cases d1 : 3 * (lfF l.games t : Int) < ndN l t p O O.length
    · rw [if_pos d1]
      simp (maxSteps := 4000000) +contextual (disch := first | omega | exact qdb_ok (by kernel_rfl) | exact okb_ok (by kernel_rfl)) only [bw1,bw2,bw3,bw4,bw5,bw6,bw7,bc0,bc1,bc2,bc3,bc4,bc5,bc6,bc7,bb0,setPs,AV.owns,AV.datF,AV.frz,AV.cpy,ifV,isEqB,nilV,nilX,AV.isNilS,AV.isNoRows,wk,dclo,datOf,binIs,addF,AV.isPtr,idxV,AV.isSl,AV.isSlice,AV.rows,ps,pv,extV,extS,AV.outs,AV.outF,packD,AV.dl,fieldV,fieldS,AV.cells?,AV.upr,AV.menc,AV.one,D.one,Value.oneCell',tagOf,AV.isApp,strV,strS,bolV,bolS,slcV,AV.isSlD,asrtS,AV.dcells,D.cells?,stcV,stcS,leafOk,eqDs,eqD,packA,D.val?,↓reduceIte,reduceCtorEq,Nat.reduceAdd,Nat.reduceSub,Nat.reduceMul,List.reduceReplicate,Nat.reduceLeDiff,Nat.reduceLT,Nat.reduceBEq,Nat.reduceEqDiff,Int.reduceNeg,Int.reduceEq,Int.reduceLE,Int.reduceLT,tfb,ctz21,O21_10,x21_48,x21_50,x21_23,x21_23_m1,x21_26,x21_44,eq_self, Int.lt_irrefl, hl1, d1]
    · rw [if_neg d1]
      simp (maxSteps := 4000000) +contextual (disch := first | omega | exact qdb_ok (by kernel_rfl) | exact okb_ok (by kernel_rfl)) only [bw1,bw2,bw3,bw4,bw5,bw6,bw7,bc0,bc1,bc2,bc3,bc4,bc5,bc6,bc7,bb0,setPs,AV.owns,AV.datF,AV.frz,AV.cpy,ifV,isEqB,nilV,nilX,AV.isNilS,AV.isNoRows,wk,dclo,datOf,binIs,addF,AV.isPtr,idxV,AV.isSl,AV.isSlice,AV.rows,ps,pv,extV,extS,AV.outs,AV.outF,packD,AV.dl,fieldV,fieldS,AV.cells?,AV.upr,AV.menc,AV.one,D.one,Value.oneCell',tagOf,AV.isApp,strV,strS,bolV,bolS,slcV,AV.isSlD,asrtS,AV.dcells,D.cells?,stcV,stcS,leafOk,eqDs,eqD,packA,D.val?,↓reduceIte,reduceCtorEq,Nat.reduceAdd,Nat.reduceSub,Nat.reduceMul,List.reduceReplicate,Nat.reduceLeDiff,Nat.reduceLT,Nat.reduceBEq,Nat.reduceEqDiff,Int.reduceNeg,Int.reduceEq,Int.reduceLE,Int.reduceLT,tfb,ctz21,O21_10,x21_48,x21_50,x21_23,x21_23_m1,x21_26,x21_44,eq_self, Int.lt_irrefl, hl1, d1]
  have hlt' : (k : Int) < O.length := by omega
  have r1 : (O.map pc).getD k [] = pc (O.getD k default) := Go.E.row_at hlt
  have hs1 := ndN_succ (l := l) (t := t) (p := p) hlt
  have hd := hdig k hlt
  have hgo : gsOk (ocL l (O.getD k default)).games := ocG_gs hg hd
  have hfo : (ocL l (O.getD k default)).far.length ≤ 1000 := hfar
  generalize O.getD k default = es at *
  have hob2 := (stF_b (t := t) hgo).2.1
  unfold ndS at hs1
  by_cases d1 : p ≤ saF (ocL l es) t
  · rw [if_pos d1] at hs1
    simp (maxSteps := 4000000) +contextual (disch := first | omega | exact qdb_ok (by kernel_rfl) | exact okb_ok (by kernel_rfl)) only [bw1,bw2,bw3,bw4,bw5,bw6,bw7,bc0,bc1,bc2,bc3,bc4,bc5,bc6,bc7,bb0,setPs,AV.owns,AV.datF,AV.frz,AV.cpy,ifV,isEqB,nilV,nilX,AV.isNilS,AV.isNoRows,wk,dclo,datOf,binIs,addF,AV.isPtr,idxV,AV.isSl,AV.isSlice,AV.rows,ps,pv,extV,extS,AV.outs,AV.outF,packD,AV.dl,fieldV,fieldS,AV.cells?,AV.upr,AV.menc,AV.one,D.one,Value.oneCell',tagOf,AV.isApp,strV,strS,bolV,bolS,slcV,AV.isSlD,asrtS,AV.dcells,D.cells?,stcV,stcS,leafOk,eqDs,eqD,packA,D.val?,↓reduceIte,reduceCtorEq,Nat.reduceAdd,Nat.reduceSub,Nat.reduceMul,List.reduceReplicate,Nat.reduceLeDiff,Nat.reduceLT,Nat.reduceBEq,Nat.reduceEqDiff,Int.reduceNeg,Int.reduceEq,Int.reduceLE,Int.reduceLT,tfb,ctz21,O21_10,x21_48,x21_50,x21_23,x21_23_m1,x21_26,x21_44,eq_self, hlt', r1, hl1, hd, hgo, hfo, d1]
    repeat (refine And.intro (by first | omega | exact fun _ _ => trivial) ?_)
    exact ⟨k + 1, ⟨by omega, by omega⟩, by rw [hs1], rfl⟩
  · rw [if_neg d1] at hs1
    simp (maxSteps := 4000000) +contextual (disch := first | omega | exact qdb_ok (by kernel_rfl) | exact okb_ok (by kernel_rfl)) only [bw1,bw2,bw3,bw4,bw5,bw6,bw7,bc0,bc1,bc2,bc3,bc4,bc5,bc6,bc7,bb0,setPs,AV.owns,AV.datF,AV.frz,AV.cpy,ifV,isEqB,nilV,nilX,AV.isNilS,AV.isNoRows,wk,dclo,datOf,binIs,addF,AV.isPtr,idxV,AV.isSl,AV.isSlice,AV.rows,ps,pv,extV,extS,AV.outs,AV.outF,packD,AV.dl,fieldV,fieldS,AV.cells?,AV.upr,AV.menc,AV.one,D.one,Value.oneCell',tagOf,AV.isApp,strV,strS,bolV,bolS,slcV,AV.isSlD,asrtS,AV.dcells,D.cells?,stcV,stcS,leafOk,eqDs,eqD,packA,D.val?,↓reduceIte,reduceCtorEq,Nat.reduceAdd,Nat.reduceSub,Nat.reduceMul,List.reduceReplicate,Nat.reduceLeDiff,Nat.reduceLT,Nat.reduceBEq,Nat.reduceEqDiff,Int.reduceNeg,Int.reduceEq,Int.reduceLE,Int.reduceLT,tfb,ctz21,O21_10,x21_48,x21_50,x21_23,x21_23_m1,x21_26,x21_44,eq_self, hlt', r1, hl1, hd, hgo, hfo, d1]
    repeat (refine And.intro (by first | omega | exact fun _ _ => trivial) ?_)
    exact ⟨k + 1, ⟨by omega, by omega⟩, by rw [hs1], rfl⟩
def ent21 (args : List AV) (K : AV → List AV → Sto → Prop) (e : List AV) (s : Sto) : Prop := ent (α := (Lea) × (Int) × (Int)) (fun aa => [.agg aa.1.c, .i aa.2.1, .i aa.2.2]) (fun aa => aa.1.far.length ≤ 1000) (fun aa => .tup [.i (ndR aa.1 aa.2.1 aa.2.2).1, .i (ndR aa.1 aa.2.1 aa.2.2).2]) args K e s
theorem ent21_ok {args : List AV} {K : AV → List AV → Sto → Prop} {Q : Kt} {e : List AV} {s : Sto} (h : ent21 args K e s) : pcall Tryd.prog 21 args K Q e s := ent_ok (fun aa h => pf21 aa.1 aa.2.1 aa.2.2 h) h
theorem eq21 {l : Lea} {t : Int} {p : Int} {KK : AV → List AV → Sto → Prop} {ee : List AV} {ss : Sto} : ent21 [.d (.agg l.c), .d (.i t), .d (.i p)] KK ee ss = ((l.far.length ≤ 1000) ∧ KK (.d (.tup [.i (ndR l t p).1, .i (ndR l t p).2])) ee ss) := by
  unfold ent21; rw [ent_iff (l, t, p) (by intro b h; simpa [Prod.ext_iff, and_assoc, Int.ofNat_inj, ints_inj, gams_inj, fars_inj, gam_inj, lea_inj, Int.ofNat_inj, ints_inj, gams_inj, fars_inj, gam_inj, lea_inj, stds_inj, std_inj] using h) rfl]; simp
end Go.Proofs.YtmajlffglplcnaaDoor
