/- A part of the proof that the last text ends: what functions of the program do, told by plain data. -/
import Derived.Test.YtmajlffglplcnaaDoorMXa
import Derived.Test.YtmajlffglplcnaaDoorMW
set_option linter.unusedVariables false
set_option linter.unusedSimpArgs false
namespace Go.Proofs.YtmajlffglplcnaaDoor
open Go Go.E Go.Maps
set_option maxRecDepth 100000
set_option maxHeartbeats 16000000
namespace V
def vT (l : Lea) (t p : Int) (T : List Int) : Int := if p ≤ (cnT T t (T.getD t.toNat default) l.far.length : Int) then T.getD t.toNat default - (stF l.games t).pts + 1 else 0
theorem mx_le {α : Type} (v : α → Int) (m : Int) : ∀ (l : List α) (n : Int), l.foldl (fun n a => max n (v a)) n ≤ m ↔ n ≤ m ∧ ∀ a ∈ l, v a ≤ m
  | [], n => by simp
  | a :: l, n => by
    rw [List.foldl_cons, mx_le v m l]
    constructor
    · rintro ⟨h1, h2⟩
      refine ⟨by omega, fun b hb => ?_⟩
      rcases List.mem_cons.1 hb with rfl | hb
      · omega
      · exact h2 b hb
    · rintro ⟨h1, h2⟩
      have := h2 a (by simp)
      exact ⟨by omega, fun b hb => h2 b (by simp [hb])⟩
theorem ndS_v {l : Lea} (hl : leaOk l = true) {t p : Int} (ht : 0 ≤ t ∧ t < l.far.length) {n : Int} (hn : 0 ≤ n) {es : List Int} : ndS l t p n es = max n (vT l t p (Tof l.far.length (ptsF (ocL l es).games))) := by
  have h6 := lea_fars hl
  unfold ndS vT saF
  rw [Tof_at (by omega), if_pos (show t.toNat < l.far.length by omega), cnT_Tof h6]
  unfold ptsF
  rw [show ((t.toNat : Nat) : Int) = t by omega]
  show (if p ≤ (cnN _ t _ l.far.length : Int) then _ else _) = _
  split
  · rfl
  · omega
theorem fold_ge {α : Type} (v : α → Int) : ∀ (l : List α) (n : Int), n ≤ l.foldl (fun n a => max n (v a)) n
  | [], n => Int.le_refl _
  | a :: l, n => Int.le_trans (by omega) (fold_ge v l (max n (v a)))
theorem ndN_v {l : Lea} (hl : leaOk l = true) {t p : Int} (ht : 0 ≤ t ∧ t < l.far.length) : ∀ (O : List (List Int)) (n : Int), 0 ≤ n → O.foldl (ndS l t p) n = O.foldl (fun n es => max n (vT l t p (Tof l.far.length (ptsF (ocL l es).games)))) n
  | [], _, _ => rfl
  | es :: O, n, hn => by
    rw [List.foldl_cons, List.foldl_cons, ndS_v hl ht hn]
    exact ndN_v hl ht O _ (by omega)
theorem nd_all {l : Lea} (hl : leaOk l = true) {t p : Int} (ht : 0 ≤ t ∧ t < l.far.length) {M : List (List Int × Bool)} (hM : MR (reach l l.games.length) M) {x : List Nat} (hx : ∀ i ∈ x, i < M.length) (ha : ∀ i, i < M.length → i ∈ x) : x.foldl (fun n i => max n (vT l t p (M.getD i default).1)) 0 = ndN l t p (outO l) (outO l).length := by
  unfold ndN
  rw [List.take_length, ndN_v hl ht _ _ (Int.le_refl _)]
  have key : ∀ m, x.foldl (fun n i => max n (vT l t p (M.getD i default).1)) 0 ≤ m ↔ (outO l).foldl (fun n es => max n (vT l t p (Tof l.far.length (ptsF (ocL l es).games)))) 0 ≤ m := fun m => by
    rw [mx_le, mx_le]
    refine and_congr_right fun _ => ?_
    constructor
    · intro h es he
      obtain ⟨v, hv⟩ := (hM.2 _).2 ((reach_law hl).2 ⟨es, he, rfl⟩)
      obtain ⟨i, hi, e⟩ := List.getElem_of_mem hv
      have := h i (ha i hi)
      rw [at_lt hi, e] at this
      exact this
    · intro h i hi
      obtain ⟨es, he, e⟩ := (reach_law hl).1 (hM.at (hx i hi))
      rw [e]
      exact h es he
  exact Int.le_antisymm ((key _).2 (Int.le_refl _)) ((key _).1 (Int.le_refl _))
def O20 : Nat → Sch := fun id => if id = 13 then .one 0 (.one 1 (.one 2 (.one 3 (.one 4 (.one 5 (.one 6 (.one 7 (.one 9 (.one 8 (.one 10 (.done))))))))))) else .done
theorem O20_13 : O20 13 = .one 0 (.one 1 (.one 2 (.one 3 (.one 4 (.one 5 (.one 6 (.one 7 (.one 9 (.one 8 (.one 10 (.done))))))))))) := rfl
theorem ho20 : Tryd.f20.body.map (okO O20) = some true := by kernel_rfl
def Cf20o : Nat → List AV → (AV → List AV → Sto → Prop) → Kt → List AV → Sto → Prop := fun f args K Q e s => match f with
  | 31 => inlE Tryd.prog Ct31 O31 31000 31 args K Q e s
  | 33 => sp33 args K e s
  | 45 => ent45 (AV.outs s args) K (mk _) e s
  | 46 => sp46 args K e s
  | 47 => ent47 args K e s
  | _ => False
def Ct20o : CT := { f := Cf20o, y := noYld, z := fun d => false }
theorem ctz20o {d : Nat} : CT.z Ct20o d = (false) := id rfl
theorem Ct20o_ok : Ct20o.ok Tryd.prog := ok_of_f (fun f args K Q e s h => by
  have h : Cf20o f args K Q e s := h
  unfold Cf20o at h; split at h
  · exact inlE_ok Ct31_ok hmix ho31 h
  · exact sp33_ok h
  · exact ent45_ok h
  · exact sp46_ok h
  · exact ent47_ok h
  · exact h.elim) (fun _ _ _ _ _ _ _ _ _ h => h)
def Yd20 : Nat → List Nat → Code → Code → List AV → (AV → List AV → Sto → Prop) → Kt → List AV → Sto → Prop := fun G ps asg bdy => if G / 1000 = 1000000 then yldE Tryd.prog Ct20o O20 0 G ps asg bdy else fun _ _ _ _ _ => False
def Cy20_58 : CT := { f := Cf58, y := Yd20 }
theorem ctzy20_58 {d : Nat} : CT.z Cy20_58 d = false := id rfl
theorem Cy20_58_ok : Cy20_58.ok Tryd.prog := ⟨Ct58_ok.f, fun g ps asg bdy args K Q e s h => by
  have h : Yd20 g ps asg bdy args K Q e s := h
  unfold Yd20 at h; split at h
  · exact yldE_ok Ct20o_ok hmix h
  · exact h.elim⟩
def Cf20 : Nat → List AV → (AV → List AV → Sto → Prop) → Kt → List AV → Sto → Prop := fun f args K Q e s => match f with
  | 31 => inlE Tryd.prog Ct31 O31 31000 31 args K Q e s
  | 33 => sp33 args K e s
  | 45 => ent45 (AV.outs s args) K (mk _) e s
  | 46 => sp46 args K e s
  | 47 => ent47 args K e s
  | 58 => inlE Tryd.prog Cy20_58 O58 58000 58 args K Q e s
  | _ => False
def Ct20 : CT := { f := Cf20, y := noYld, z := fun d => false }
theorem ctz20 {d : Nat} : CT.z Ct20 d = (false) := id rfl
theorem Ct20_ok : Ct20.ok Tryd.prog := ok_of_f (fun f args K Q e s h => by
  have h : Cf20 f args K Q e s := h
  unfold Cf20 at h; split at h
  · exact inlE_ok Ct31_ok hmix ho31 h
  · exact sp33_ok h
  · exact ent45_ok h
  · exact sp46_ok h
  · exact ent47_ok h
  · exact inlE_ok Cy20_58_ok hmix ho58 h
  · exact h.elim) (fun _ _ _ _ _ _ _ _ _ h => h)
theorem z20_58 : type_of% (@xinl Tryd.prog Ct20 Cy20_58 O58 58000 58 _ _ _ _ rfl c58 Tryd.func58 rfl Tryd.ntmps58 Tryd.results58) := @xinl Tryd.prog Ct20 Cy20_58 O58 58000 58 _ _ _ _ rfl c58 Tryd.func58 rfl Tryd.ntmps58 Tryd.results58
theorem cy20_58 {n : Nat} {args : List AV} {K : AV → List AV → Sto → Prop} {Q : Kt} {i : At K} {j : At Q} {e : List AV} {s : Sto} : xC Cy20_58 n args K Q i j e s = xC Ct58 n args K Q i j e s := id rfl
theorem yy20_58_29 : type_of% (fun ps asg bdy => @xyld Tryd.prog Cy20_58 Ct20o O20 0 1000000029 Yd20 rfl ps asg bdy (if_pos (by omega))) := fun ps asg bdy => @xyld Tryd.prog Cy20_58 Ct20o O20 0 1000000029 Yd20 rfl ps asg bdy (if_pos (by omega))
theorem yy20_58_30 : type_of% (fun ps asg bdy => @xyld Tryd.prog Cy20_58 Ct20o O20 0 1000000030 Yd20 rfl ps asg bdy (if_pos (by omega))) := fun ps asg bdy => @xyld Tryd.prog Cy20_58 Ct20o O20 0 1000000030 Yd20 rfl ps asg bdy (if_pos (by omega))
theorem x20_45 {args : List AV} {KK : AV → List AV → Sto → Prop} {QQ : Kt} {ii : At KK} {jj : At QQ} {ee : List AV} {ss : Sto} : xC Ct20 45 args KK QQ ii jj ee ss = ent45 (AV.outs ss args) KK (mk _) ee ss := id rfl
theorem x20_47 {T : List Int} {t : Int} {n : Nat} {m : Int} {KK : AV → List AV → Sto → Prop} {QQ : Kt} {ii : At KK} {jj : At QQ} {ee : List AV} {ss : Sto} : xC Ct20 47 [.d (.agg (tv T)), .d (.i t), .d (.i (n : Int)), .d (.i m)] KK QQ ii jj ee ss = ((T.length = 6 ∧ n ≤ 6) ∧ KK (.d (.i (cnT T t m n : Int))) ee ss) := eq47
theorem z20_31 : type_of% (@xinl Tryd.prog Ct20 Ct31 O31 31000 31 _ _ _ _ rfl c31 Tryd.func31 rfl Tryd.ntmps31 Tryd.results31) := @xinl Tryd.prog Ct20 Ct31 O31 31000 31 _ _ _ _ rfl c31 Tryd.func31 rfl Tryd.ntmps31 Tryd.results31
theorem x20o_45 {args : List AV} {KK : AV → List AV → Sto → Prop} {QQ : Kt} {ii : At KK} {jj : At QQ} {ee : List AV} {ss : Sto} : xC Ct20o 45 args KK QQ ii jj ee ss = ent45 (AV.outs ss args) KK (mk _) ee ss := id rfl
theorem x20o_47 {T : List Int} {t : Int} {n : Nat} {m : Int} {KK : AV → List AV → Sto → Prop} {QQ : Kt} {ii : At KK} {jj : At QQ} {ee : List AV} {ss : Sto} : xC Ct20o 47 [.d (.agg (tv T)), .d (.i t), .d (.i (n : Int)), .d (.i m)] KK QQ ii jj ee ss = ((T.length = 6 ∧ n ≤ 6) ∧ KK (.d (.i (cnT T t m n : Int))) ee ss) := eq47
theorem z20o_31 : type_of% (@xinl Tryd.prog Ct20o Ct31 O31 31000 31 _ _ _ _ rfl c31 Tryd.func31 rfl Tryd.ntmps31 Tryd.results31) := @xinl Tryd.prog Ct20o Ct31 O31 31000 31 _ _ _ _ rfl c31 Tryd.func31 rfl Tryd.ntmps31 Tryd.results31
theorem c20 : callable Tryd.prog 20 = true := by kernel_rfl
theorem pf20 (l : Lea) (t p : Int) (hfar : l.far.length ≤ 1000) : PFG Tryd.prog 20 0 gpt [.agg l.c, .i t, .i p] (fun zz => zz = .ret (.tup [.i (ndR l t p).1, .i (ndR l t p).2])) := by
  unfold ndR
  have hx46 : ∀ {args : List AV} {KK : AV → List AV → Sto → Prop} {QQ : Kt} {ii : At KK} {jj : At QQ} {ee : List AV} {ss : Sto}, xC Ct20 46 args KK QQ ii jj ee ss = sp46 args KK ee ss := id rfl
  have hx33 : ∀ {args : List AV} {KK : AV → List AV → Sto → Prop} {QQ : Kt} {ii : At KK} {jj : At QQ} {ee : List AV} {ss : Sto}, xC Ct20 33 args KK QQ ii jj ee ss = sp33 args KK ee ss := id rfl
  by_cases c0 : errR l t p = 0
  case neg =>
    have c0b : (errR l t p != 0) = true := by simpa using c0
    rw [if_neg c0]
    refine PFG_nil (PFG_start (O := O20) Ct20_ok hmix ho20 Tryd.func20 c20 rfl Tryd.ntmps20 Tryd.results20 ?_)
    simp (maxSteps := 4000000) +contextual (disch := first | omega | exact qdb_ok (by kernel_rfl) | exact okb_ok (by kernel_rfl)) only [bw1,bw2,bw3,bw4,bw5,bw6,bw7,bc0,bc1,bc2,bc3,bc4,bc5,bc6,bc7,bb0,setPs,AV.owns,AV.datF,AV.frz,AV.cpy,ifV,isEqB,nilV,nilX,AV.isNilS,AV.isNoRows,wk,dclo,datOf,binIs,addF,AV.isPtr,idxV,AV.isSl,AV.isSlice,AV.rows,ps,pv,extV,extS,AV.outs,AV.outF,packD,AV.dl,fieldV,fieldS,AV.cells?,AV.upr,AV.menc,AV.one,D.one,Value.oneCell',tagOf,AV.isApp,strV,strS,bolV,bolS,slcV,AV.isSlD,asrtS,AV.dcells,D.cells?,stcV,stcS,leafOk,eqDs,eqD,packA,D.val?,↓reduceIte,reduceCtorEq,Nat.reduceAdd,Nat.reduceSub,Nat.reduceMul,List.reduceReplicate,Nat.reduceLeDiff,Nat.reduceLT,Nat.reduceBEq,Nat.reduceEqDiff,Int.reduceNeg,Int.reduceEq,Int.reduceLE,Int.reduceLT,tfb,D.flat,D.flats,av_glob,n_seq,k_range,k_next,k_entry,p_range,rg_mp,rg_some,p_next,p_entry,en_it,en_at,en_ents,k_insert,p_insert,in_mp,ctz20,O20_13,x20_45,eq45,x20_47,z20_31,ctz31,x20o_45,x20o_47,z20o_31,z20_58,cy20_58,ctzy20_58,ctz20o,yy20_58_29,yy20_58_30,ctz58,x58_29,c0b, hfar]
  have c0b : (errR l t p != 0) = false := by simpa using c0
  rw [if_pos c0]
  obtain ⟨hl, ht, hp⟩ := err_ok c0
  have h6 := lea_fars hl
  have h64 := lea_games hl
  have hg := lea_gs hl
  refine PFG_nil (PFG_start (O := O20) Ct20_ok hmix ho20 Tryd.func20 c20 rfl Tryd.ntmps20 Tryd.results20 ?_)
  simp (maxSteps := 4000000) +contextual (disch := first | omega | exact qdb_ok (by kernel_rfl) | exact okb_ok (by kernel_rfl)) only [bw1,bw2,bw3,bw4,bw5,bw6,bw7,bc0,bc1,bc2,bc3,bc4,bc5,bc6,bc7,bb0,setPs,AV.owns,AV.datF,AV.frz,AV.cpy,ifV,isEqB,nilV,nilX,AV.isNilS,AV.isNoRows,wk,dclo,datOf,binIs,addF,AV.isPtr,idxV,AV.isSl,AV.isSlice,AV.rows,ps,pv,extV,extS,AV.outs,AV.outF,packD,AV.dl,fieldV,fieldS,AV.cells?,AV.upr,AV.menc,AV.one,D.one,Value.oneCell',tagOf,AV.isApp,strV,strS,bolV,bolS,slcV,AV.isSlD,asrtS,AV.dcells,D.cells?,stcV,stcS,leafOk,eqDs,eqD,packA,D.val?,↓reduceIte,reduceCtorEq,Nat.reduceAdd,Nat.reduceSub,Nat.reduceMul,List.reduceReplicate,Nat.reduceLeDiff,Nat.reduceLT,Nat.reduceBEq,Nat.reduceEqDiff,Int.reduceNeg,Int.reduceEq,Int.reduceLE,Int.reduceLT,tfb,D.flat,D.flats,av_glob,n_seq,k_range,k_next,k_entry,p_range,rg_mp,rg_some,p_next,p_entry,en_it,en_at,en_ents,k_insert,p_insert,in_mp,ctz20,O20_13,x20_45,eq45,x20_47,z20_31,ctz31,x20o_45,x20o_47,z20o_31,z20_58,cy20_58,ctzy20_58,ctz20o,yy20_58_29,yy20_58_30,ctz58,x58_29,c0b, hfar, hx33]
  refine ⟨l, hl, rfl, rfl, ?_⟩
  have hrow : ((rowsR l).map oc).getD t.toNat [] = oc (rowR l.games t.toNat) := by
    rw [Go.E.row_at (by rw [rowsR_len]; omega)]
    unfold rowsR
    rw [List.getD_eq_getElem?_getD, List.getElem?_map, List.getElem?_range (by omega)]; rfl
  have hrl2 : ((rowsR l).length : Int) = l.far.length := by rw [rowsR_len]
  simp (maxSteps := 4000000) +contextual (disch := first | omega | exact qdb_ok (by kernel_rfl) | exact okb_ok (by kernel_rfl)) only [bw1,bw2,bw3,bw4,bw5,bw6,bw7,bc0,bc1,bc2,bc3,bc4,bc5,bc6,bc7,bb0,setPs,AV.owns,AV.datF,AV.frz,AV.cpy,ifV,isEqB,nilV,nilX,AV.isNilS,AV.isNoRows,wk,dclo,datOf,binIs,addF,AV.isPtr,idxV,AV.isSl,AV.isSlice,AV.rows,ps,pv,extV,extS,AV.outs,AV.outF,packD,AV.dl,fieldV,fieldS,AV.cells?,AV.upr,AV.menc,AV.one,D.one,Value.oneCell',tagOf,AV.isApp,strV,strS,bolV,bolS,slcV,AV.isSlD,asrtS,AV.dcells,D.cells?,stcV,stcS,leafOk,eqDs,eqD,packA,D.val?,↓reduceIte,reduceCtorEq,Nat.reduceAdd,Nat.reduceSub,Nat.reduceMul,List.reduceReplicate,Nat.reduceLeDiff,Nat.reduceLT,Nat.reduceBEq,Nat.reduceEqDiff,Int.reduceNeg,Int.reduceEq,Int.reduceLE,Int.reduceLT,tfb,D.flat,D.flats,av_glob,n_seq,k_range,k_next,k_entry,p_range,rg_mp,rg_some,p_next,p_entry,en_it,en_at,en_ents,k_insert,p_insert,in_mp,ctz20,O20_13,x20_45,eq45,x20_47,z20_31,ctz31,x20o_45,x20o_47,z20o_31,z20_58,cy20_58,ctzy20_58,ctz20o,yy20_58_29,yy20_58_30,ctz58,x58_29,hrow, hrl2, List.length_map, hx46, ht]
  refine rng_cut (C := Ct20) Ct20_ok 1000000029 [(21, .any), (23, .any), (24, .any), (25, .any), (28, .any)] [(11, [.i (3 * (lfF l.games t : Int))])] ?_ ?_
  · simp (maxSteps := 4000000) +contextual (disch := first | omega | exact qdb_ok (by kernel_rfl) | exact okb_ok (by kernel_rfl)) only [bw1,bw2,bw3,bw4,bw5,bw6,bw7,bc0,bc1,bc2,bc3,bc4,bc5,bc6,bc7,bb0,setPs,AV.owns,AV.datF,AV.frz,AV.cpy,ifV,isEqB,nilV,nilX,AV.isNilS,AV.isNoRows,wk,dclo,datOf,binIs,addF,AV.isPtr,idxV,AV.isSl,AV.isSlice,AV.rows,ps,pv,extV,extS,AV.outs,AV.outF,packD,AV.dl,fieldV,fieldS,AV.cells?,AV.upr,AV.menc,AV.one,D.one,Value.oneCell',tagOf,AV.isApp,strV,strS,bolV,bolS,slcV,AV.isSlD,asrtS,AV.dcells,D.cells?,stcV,stcS,leafOk,eqDs,eqD,packA,D.val?,↓reduceIte,reduceCtorEq,Nat.reduceAdd,Nat.reduceSub,Nat.reduceMul,List.reduceReplicate,Nat.reduceLeDiff,Nat.reduceLT,Nat.reduceBEq,Nat.reduceEqDiff,Int.reduceNeg,Int.reduceEq,Int.reduceLE,Int.reduceLT,tfb,D.flat,D.flats,av_glob,n_seq,k_range,k_next,k_entry,p_range,rg_mp,rg_some,p_next,p_entry,en_it,en_at,en_ents,k_insert,p_insert,in_mp,ctz20,O20_13,x20_45,eq45,x20_47,z20_31,ctz31,x20o_45,x20o_47,z20o_31,z20_58,cy20_58,ctzy20_58,ctz20o,yy20_58_29,yy20_58_30,ctz58,x58_29,eq_self]
    refine loop_xu (O := O58) (tb := 58000) Cy20_58_ok hmix (by kernel_rfl) (σ := Nat) (fun k => [(11, .i k), (4, .any), (5, .any)]) (fun k => [(11, [.i (3 * (lfN l.games t k : Int))])]) (fun k => k ≤ l.games.length) (fun k => l.games.length - k) 0 (Nat.zero_le _) ?_ ?_
    · have hz : (3 * (lfN l.games t 0 : Int)) = 0 := by rw [lfN_zero]; rfl
      simp (maxSteps := 4000000) +contextual (disch := first | omega | exact qdb_ok (by kernel_rfl) | exact okb_ok (by kernel_rfl)) only [bw1,bw2,bw3,bw4,bw5,bw6,bw7,bc0,bc1,bc2,bc3,bc4,bc5,bc6,bc7,bb0,setPs,AV.owns,AV.datF,AV.frz,AV.cpy,ifV,isEqB,nilV,nilX,AV.isNilS,AV.isNoRows,wk,dclo,datOf,binIs,addF,AV.isPtr,idxV,AV.isSl,AV.isSlice,AV.rows,ps,pv,extV,extS,AV.outs,AV.outF,packD,AV.dl,fieldV,fieldS,AV.cells?,AV.upr,AV.menc,AV.one,D.one,Value.oneCell',tagOf,AV.isApp,strV,strS,bolV,bolS,slcV,AV.isSlD,asrtS,AV.dcells,D.cells?,stcV,stcS,leafOk,eqDs,eqD,packA,D.val?,↓reduceIte,reduceCtorEq,Nat.reduceAdd,Nat.reduceSub,Nat.reduceMul,List.reduceReplicate,Nat.reduceLeDiff,Nat.reduceLT,Nat.reduceBEq,Nat.reduceEqDiff,Int.reduceNeg,Int.reduceEq,Int.reduceLE,Int.reduceLT,tfb,D.flat,D.flats,av_glob,n_seq,k_range,k_next,k_entry,p_range,rg_mp,rg_some,p_next,p_entry,en_it,en_at,en_ents,k_insert,p_insert,in_mp,ctz20,O20_13,x20_45,eq45,x20_47,z20_31,ctz31,x20o_45,x20o_47,z20o_31,z20_58,cy20_58,ctzy20_58,ctz20o,yy20_58_29,yy20_58_30,ctz58,x58_29,eq_self, hz]
    rintro k hk
    have hle := lfN_le (l := l.games) (t := t) (k := k)
    by_cases hlt : k < l.games.length
    case neg =>
      obtain rfl : k = l.games.length := by omega
      have hF : lfN l.games t l.games.length = lfF l.games t := rfl
      simp (maxSteps := 4000000) +contextual (disch := first | omega | exact qdb_ok (by kernel_rfl) | exact okb_ok (by kernel_rfl)) only [bw1,bw2,bw3,bw4,bw5,bw6,bw7,bc0,bc1,bc2,bc3,bc4,bc5,bc6,bc7,bb0,setPs,AV.owns,AV.datF,AV.frz,AV.cpy,ifV,isEqB,nilV,nilX,AV.isNilS,AV.isNoRows,wk,dclo,datOf,binIs,addF,AV.isPtr,idxV,AV.isSl,AV.isSlice,AV.rows,ps,pv,extV,extS,AV.outs,AV.outF,packD,AV.dl,fieldV,fieldS,AV.cells?,AV.upr,AV.menc,AV.one,D.one,Value.oneCell',tagOf,AV.isApp,strV,strS,bolV,bolS,slcV,AV.isSlD,asrtS,AV.dcells,D.cells?,stcV,stcS,leafOk,eqDs,eqD,packA,D.val?,↓reduceIte,reduceCtorEq,Nat.reduceAdd,Nat.reduceSub,Nat.reduceMul,List.reduceReplicate,Nat.reduceLeDiff,Nat.reduceLT,Nat.reduceBEq,Nat.reduceEqDiff,Int.reduceNeg,Int.reduceEq,Int.reduceLE,Int.reduceLT,tfb,D.flat,D.flats,av_glob,n_seq,k_range,k_next,k_entry,p_range,rg_mp,rg_some,p_next,p_entry,en_it,en_at,en_ents,k_insert,p_insert,in_mp,ctz20,O20_13,x20_45,eq45,x20_47,z20_31,ctz31,x20o_45,x20o_47,z20o_31,z20_58,cy20_58,ctzy20_58,ctz20o,yy20_58_29,yy20_58_30,ctz58,x58_29,eq_self, Int.lt_irrefl, hF]
    have hlt' : (k : Int) < l.games.length := by omega
    have hrw : (l.games.map Gam.c).getD k [] = Gam.c (l.games.getD k default) := Go.E.row_at hlt
    have hgp : List.take 2 (List.drop (0 * 2) gpt) = [.i 3, .i 0] := rfl
    have htn : decide (t < 0) = false := by simp; omega
    by_cases d1 : hasB (l.games.getD k default) t = true
    case neg =>
      have hs := lfN_no hlt (t := t) (by unfold lfB; rw [show hasB (l.games.getD k default) t = false by simpa using d1, htn]; simp)
      simp (maxSteps := 4000000) +contextual (disch := first | omega | exact qdb_ok (by kernel_rfl) | exact okb_ok (by kernel_rfl)) only [bw1,bw2,bw3,bw4,bw5,bw6,bw7,bc0,bc1,bc2,bc3,bc4,bc5,bc6,bc7,bb0,setPs,AV.owns,AV.datF,AV.frz,AV.cpy,ifV,isEqB,nilV,nilX,AV.isNilS,AV.isNoRows,wk,dclo,datOf,binIs,addF,AV.isPtr,idxV,AV.isSl,AV.isSlice,AV.rows,ps,pv,extV,extS,AV.outs,AV.outF,packD,AV.dl,fieldV,fieldS,AV.cells?,AV.upr,AV.menc,AV.one,D.one,Value.oneCell',tagOf,AV.isApp,strV,strS,bolV,bolS,slcV,AV.isSlD,asrtS,AV.dcells,D.cells?,stcV,stcS,leafOk,eqDs,eqD,packA,D.val?,↓reduceIte,reduceCtorEq,Nat.reduceAdd,Nat.reduceSub,Nat.reduceMul,List.reduceReplicate,Nat.reduceLeDiff,Nat.reduceLT,Nat.reduceBEq,Nat.reduceEqDiff,Int.reduceNeg,Int.reduceEq,Int.reduceLE,Int.reduceLT,tfb,D.flat,D.flats,av_glob,n_seq,k_range,k_next,k_entry,p_range,rg_mp,rg_some,p_next,p_entry,en_it,en_at,en_ents,k_insert,p_insert,in_mp,ctz20,O20_13,x20_45,eq45,x20_47,z20_31,ctz31,x20o_45,x20o_47,z20o_31,z20_58,cy20_58,ctzy20_58,ctz20o,yy20_58_29,yy20_58_30,ctz58,x58_29,eq_self, hlt', d1, hrw, hgp]
      exact ⟨by omega, k + 1, ⟨by omega, by omega⟩, rfl, by rw [hs]⟩
    by_cases d2 : (l.games.getD k default).fin = 0
    case neg =>
      have hs := lfN_no hlt (t := t) (by unfold lfB; rw [decide_eq_false d2]; rfl)
      simp (maxSteps := 4000000) +contextual (disch := first | omega | exact qdb_ok (by kernel_rfl) | exact okb_ok (by kernel_rfl)) only [bw1,bw2,bw3,bw4,bw5,bw6,bw7,bc0,bc1,bc2,bc3,bc4,bc5,bc6,bc7,bb0,setPs,AV.owns,AV.datF,AV.frz,AV.cpy,ifV,isEqB,nilV,nilX,AV.isNilS,AV.isNoRows,wk,dclo,datOf,binIs,addF,AV.isPtr,idxV,AV.isSl,AV.isSlice,AV.rows,ps,pv,extV,extS,AV.outs,AV.outF,packD,AV.dl,fieldV,fieldS,AV.cells?,AV.upr,AV.menc,AV.one,D.one,Value.oneCell',tagOf,AV.isApp,strV,strS,bolV,bolS,slcV,AV.isSlD,asrtS,AV.dcells,D.cells?,stcV,stcS,leafOk,eqDs,eqD,packA,D.val?,↓reduceIte,reduceCtorEq,Nat.reduceAdd,Nat.reduceSub,Nat.reduceMul,List.reduceReplicate,Nat.reduceLeDiff,Nat.reduceLT,Nat.reduceBEq,Nat.reduceEqDiff,Int.reduceNeg,Int.reduceEq,Int.reduceLE,Int.reduceLT,tfb,D.flat,D.flats,av_glob,n_seq,k_range,k_next,k_entry,p_range,rg_mp,rg_some,p_next,p_entry,en_it,en_at,en_ents,k_insert,p_insert,in_mp,ctz20,O20_13,x20_45,eq45,x20_47,z20_31,ctz31,x20o_45,x20o_47,z20o_31,z20_58,cy20_58,ctzy20_58,ctz20o,yy20_58_29,yy20_58_30,ctz58,x58_29,eq_self, hlt', d1, d2, hrw, hgp]
      exact ⟨by omega, k + 1, ⟨by omega, by omega⟩, rfl, by rw [hs]⟩
    have hs := lfN_yes hlt (t := t) (by unfold lfB; rw [decide_eq_true d2, d1]; simp)
    have d2b : decide ((l.games.getD k default).fin = 0) = true := by simpa using d2
    have t0 : Int.toNat 0 = 0 := rfl
    have hg0 : gpt.getD 0 (D.v undef) = .i 3 := rfl
    simp (maxSteps := 4000000) +contextual (disch := first | omega | exact qdb_ok (by kernel_rfl) | exact okb_ok (by kernel_rfl)) only [bw1,bw2,bw3,bw4,bw5,bw6,bw7,bc0,bc1,bc2,bc3,bc4,bc5,bc6,bc7,bb0,setPs,AV.owns,AV.datF,AV.frz,AV.cpy,ifV,isEqB,nilV,nilX,AV.isNilS,AV.isNoRows,wk,dclo,datOf,binIs,addF,AV.isPtr,idxV,AV.isSl,AV.isSlice,AV.rows,ps,pv,extV,extS,AV.outs,AV.outF,packD,AV.dl,fieldV,fieldS,AV.cells?,AV.upr,AV.menc,AV.one,D.one,Value.oneCell',tagOf,AV.isApp,strV,strS,bolV,bolS,slcV,AV.isSlD,asrtS,AV.dcells,D.cells?,stcV,stcS,leafOk,eqDs,eqD,packA,D.val?,↓reduceIte,reduceCtorEq,Nat.reduceAdd,Nat.reduceSub,Nat.reduceMul,List.reduceReplicate,Nat.reduceLeDiff,Nat.reduceLT,Nat.reduceBEq,Nat.reduceEqDiff,Int.reduceNeg,Int.reduceEq,Int.reduceLE,Int.reduceLT,tfb,D.flat,D.flats,av_glob,n_seq,k_range,k_next,k_entry,p_range,rg_mp,rg_some,p_next,p_entry,en_it,en_at,en_ents,k_insert,p_insert,in_mp,ctz20,O20_13,x20_45,eq45,x20_47,z20_31,ctz31,x20o_45,x20o_47,z20o_31,z20_58,cy20_58,ctzy20_58,ctz20o,yy20_58_29,yy20_58_30,ctz58,x58_29,eq_self, hlt', d1, d2b, hrw, hgp, t0, Nat.zero_mul, Nat.add_zero, hg0]
    rw [if_pos d2]
    refine ⟨by omega, by omega, by omega, k + 1, ⟨by omega, by omega⟩, rfl, ?_⟩
    rw [hs]
    show AV.i _ = AV.i _
    congr 2
  simp (maxSteps := 4000000) +contextual (disch := first | omega | exact qdb_ok (by kernel_rfl) | exact okb_ok (by kernel_rfl)) only [bw1,bw2,bw3,bw4,bw5,bw6,bw7,bc0,bc1,bc2,bc3,bc4,bc5,bc6,bc7,bb0,setPs,AV.owns,AV.datF,AV.frz,AV.cpy,ifV,isEqB,nilV,nilX,AV.isNilS,AV.isNoRows,wk,dclo,datOf,binIs,addF,AV.isPtr,idxV,AV.isSl,AV.isSlice,AV.rows,ps,pv,extV,extS,AV.outs,AV.outF,packD,AV.dl,fieldV,fieldS,AV.cells?,AV.upr,AV.menc,AV.one,D.one,Value.oneCell',tagOf,AV.isApp,strV,strS,bolV,bolS,slcV,AV.isSlD,asrtS,AV.dcells,D.cells?,stcV,stcS,leafOk,eqDs,eqD,packA,D.val?,↓reduceIte,reduceCtorEq,Nat.reduceAdd,Nat.reduceSub,Nat.reduceMul,List.reduceReplicate,Nat.reduceLeDiff,Nat.reduceLT,Nat.reduceBEq,Nat.reduceEqDiff,Int.reduceNeg,Int.reduceEq,Int.reduceLE,Int.reduceLT,tfb,D.flat,D.flats,av_glob,n_seq,k_range,k_next,k_entry,p_range,rg_mp,rg_some,p_next,p_entry,en_it,en_at,en_ents,k_insert,p_insert,in_mp,ctz20,O20_13,x20_45,eq45,x20_47,z20_31,ctz31,x20o_45,x20o_47,z20o_31,z20_58,cy20_58,ctzy20_58,ctz20o,yy20_58_29,yy20_58_30,ctz58,x58_29,eq_self, hx46]
  refine ⟨l, 3 * (lfF l.games t : Int), t, hl, rfl, rfl, ?_, ?_, fun M hM => ?_⟩
  · intro g hg
    simp [AV.kill, AV.men, show ¬ 4 = g by omega, show ¬ 11 = g by omega]
  · intro g
    simp [AV.mencs, AV.menc]
  simp (maxSteps := 4000000) +contextual (disch := first | omega | exact qdb_ok (by kernel_rfl) | exact okb_ok (by kernel_rfl)) only [bw1,bw2,bw3,bw4,bw5,bw6,bw7,bc0,bc1,bc2,bc3,bc4,bc5,bc6,bc7,bb0,setPs,AV.owns,AV.datF,AV.frz,AV.cpy,ifV,isEqB,nilV,nilX,AV.isNilS,AV.isNoRows,wk,dclo,datOf,binIs,addF,AV.isPtr,idxV,AV.isSl,AV.isSlice,AV.rows,ps,pv,extV,extS,AV.outs,AV.outF,packD,AV.dl,fieldV,fieldS,AV.cells?,AV.upr,AV.menc,AV.one,D.one,Value.oneCell',tagOf,AV.isApp,strV,strS,bolV,bolS,slcV,AV.isSlD,asrtS,AV.dcells,D.cells?,stcV,stcS,leafOk,eqDs,eqD,packA,D.val?,↓reduceIte,reduceCtorEq,Nat.reduceAdd,Nat.reduceSub,Nat.reduceMul,List.reduceReplicate,Nat.reduceLeDiff,Nat.reduceLT,Nat.reduceBEq,Nat.reduceEqDiff,Int.reduceNeg,Int.reduceEq,Int.reduceLE,Int.reduceLT,tfb,D.flat,D.flats,av_glob,n_seq,k_range,k_next,k_entry,p_range,rg_mp,rg_some,p_next,p_entry,en_it,en_at,en_ents,k_insert,p_insert,in_mp,ctz20,O20_13,x20_45,eq45,x20_47,z20_31,ctz31,x20o_45,x20o_47,z20o_31,z20_58,cy20_58,ctzy20_58,ctz20o,yy20_58_29,yy20_58_30,ctz58,x58_29,kill_ents, mencs_ents, pairs_ents_eq, ents_len]
  refine loop_xu (O := O20) (tb := 0) Ct20_ok hmix (by kernel_rfl) (σ := List Nat) (fun x => [(13, .i (x.foldl (fun n i => max n (vT l t p (M.getD i default).1)) 0)), (14, .any)]) (fun x => [(2000000040, itc 2000046028 M.length x)]) (fun x => x.Nodup ∧ ∀ i ∈ x, i < M.length) (fun x => M.length - x.length) [] ⟨by simp, by simp⟩ ?_ ?_
  · have z6 : ([].foldl (fun n i => max n (vT l t p (M.getD i default).1)) 0) = 0 := rfl
    simp (maxSteps := 4000000) +contextual (disch := first | omega | exact qdb_ok (by kernel_rfl) | exact okb_ok (by kernel_rfl)) only [bw1,bw2,bw3,bw4,bw5,bw6,bw7,bc0,bc1,bc2,bc3,bc4,bc5,bc6,bc7,bb0,setPs,AV.owns,AV.datF,AV.frz,AV.cpy,ifV,isEqB,nilV,nilX,AV.isNilS,AV.isNoRows,wk,dclo,datOf,binIs,addF,AV.isPtr,idxV,AV.isSl,AV.isSlice,AV.rows,ps,pv,extV,extS,AV.outs,AV.outF,packD,AV.dl,fieldV,fieldS,AV.cells?,AV.upr,AV.menc,AV.one,D.one,Value.oneCell',tagOf,AV.isApp,strV,strS,bolV,bolS,slcV,AV.isSlD,asrtS,AV.dcells,D.cells?,stcV,stcS,leafOk,eqDs,eqD,packA,D.val?,↓reduceIte,reduceCtorEq,Nat.reduceAdd,Nat.reduceSub,Nat.reduceMul,List.reduceReplicate,Nat.reduceLeDiff,Nat.reduceLT,Nat.reduceBEq,Nat.reduceEqDiff,Int.reduceNeg,Int.reduceEq,Int.reduceLE,Int.reduceLT,tfb,D.flat,D.flats,av_glob,n_seq,k_range,k_next,k_entry,p_range,rg_mp,rg_some,p_next,p_entry,en_it,en_at,en_ents,k_insert,p_insert,in_mp,ctz20,O20_13,x20_45,eq45,x20_47,z20_31,ctz31,x20o_45,x20o_47,z20o_31,z20_58,cy20_58,ctzy20_58,ctz20o,yy20_58_29,yy20_58_30,ctz58,x58_29,eq_self, kill_ents, mencs_ents, wks, z6]
  rintro x ⟨hn1, hn2⟩
  simp (maxSteps := 4000000) +contextual (disch := first | omega | exact qdb_ok (by kernel_rfl) | exact okb_ok (by kernel_rfl)) only [bw1,bw2,bw3,bw4,bw5,bw6,bw7,bc0,bc1,bc2,bc3,bc4,bc5,bc6,bc7,bb0,setPs,AV.owns,AV.datF,AV.frz,AV.cpy,ifV,isEqB,nilV,nilX,AV.isNilS,AV.isNoRows,wk,dclo,datOf,binIs,addF,AV.isPtr,idxV,AV.isSl,AV.isSlice,AV.rows,ps,pv,extV,extS,AV.outs,AV.outF,packD,AV.dl,fieldV,fieldS,AV.cells?,AV.upr,AV.menc,AV.one,D.one,Value.oneCell',tagOf,AV.isApp,strV,strS,bolV,bolS,slcV,AV.isSlD,asrtS,AV.dcells,D.cells?,stcV,stcS,leafOk,eqDs,eqD,packA,D.val?,↓reduceIte,reduceCtorEq,Nat.reduceAdd,Nat.reduceSub,Nat.reduceMul,List.reduceReplicate,Nat.reduceLeDiff,Nat.reduceLT,Nat.reduceBEq,Nat.reduceEqDiff,Int.reduceNeg,Int.reduceEq,Int.reduceLE,Int.reduceLT,tfb,D.flat,D.flats,av_glob,n_seq,k_range,k_next,k_entry,p_range,rg_mp,rg_some,p_next,p_entry,en_it,en_at,en_ents,k_insert,p_insert,in_mp,ctz20,O20_13,x20_45,eq45,x20_47,z20_31,ctz31,x20o_45,x20o_47,z20o_31,z20_58,cy20_58,ctzy20_58,ctz20o,yy20_58_29,yy20_58_30,ctz58,x58_29,eq_self, kill_ents, mencs_ents]
  refine nx_ents (fk := fkT) (fv := fvT) (M := M) (G := 2000046028) (h := 2000000040) (n := M.length) (seen := x) rfl rfl rfl ?_ ?_ ?_
  · simp [AV.mencs, AV.menc, Sto.mencs, mencs_ents, itc]
  · intro hall
    have e6 := nd_all hl ht hM hn2 hall (p := p)
    by_cases c3 : 3 * (lfF l.games t : Int) < ndN l t p (outO l) (outO l).length
    · simp (maxSteps := 4000000) +contextual (disch := first | omega | exact qdb_ok (by kernel_rfl) | exact okb_ok (by kernel_rfl)) only [bw1,bw2,bw3,bw4,bw5,bw6,bw7,bc0,bc1,bc2,bc3,bc4,bc5,bc6,bc7,bb0,setPs,AV.owns,AV.datF,AV.frz,AV.cpy,ifV,isEqB,nilV,nilX,AV.isNilS,AV.isNoRows,wk,dclo,datOf,binIs,addF,AV.isPtr,idxV,AV.isSl,AV.isSlice,AV.rows,ps,pv,extV,extS,AV.outs,AV.outF,packD,AV.dl,fieldV,fieldS,AV.cells?,AV.upr,AV.menc,AV.one,D.one,Value.oneCell',tagOf,AV.isApp,strV,strS,bolV,bolS,slcV,AV.isSlD,asrtS,AV.dcells,D.cells?,stcV,stcS,leafOk,eqDs,eqD,packA,D.val?,↓reduceIte,reduceCtorEq,Nat.reduceAdd,Nat.reduceSub,Nat.reduceMul,List.reduceReplicate,Nat.reduceLeDiff,Nat.reduceLT,Nat.reduceBEq,Nat.reduceEqDiff,Int.reduceNeg,Int.reduceEq,Int.reduceLE,Int.reduceLT,tfb,D.flat,D.flats,av_glob,n_seq,k_range,k_next,k_entry,p_range,rg_mp,rg_some,p_next,p_entry,en_it,en_at,en_ents,k_insert,p_insert,in_mp,ctz20,O20_13,x20_45,eq45,x20_47,z20_31,ctz31,x20o_45,x20o_47,z20o_31,z20_58,cy20_58,ctzy20_58,ctz20o,yy20_58_29,yy20_58_30,ctz58,x58_29,eq_self, kill_ents, mencs_ents, e6, c3]
    · simp (maxSteps := 4000000) +contextual (disch := first | omega | exact qdb_ok (by kernel_rfl) | exact okb_ok (by kernel_rfl)) only [bw1,bw2,bw3,bw4,bw5,bw6,bw7,bc0,bc1,bc2,bc3,bc4,bc5,bc6,bc7,bb0,setPs,AV.owns,AV.datF,AV.frz,AV.cpy,ifV,isEqB,nilV,nilX,AV.isNilS,AV.isNoRows,wk,dclo,datOf,binIs,addF,AV.isPtr,idxV,AV.isSl,AV.isSlice,AV.rows,ps,pv,extV,extS,AV.outs,AV.outF,packD,AV.dl,fieldV,fieldS,AV.cells?,AV.upr,AV.menc,AV.one,D.one,Value.oneCell',tagOf,AV.isApp,strV,strS,bolV,bolS,slcV,AV.isSlD,asrtS,AV.dcells,D.cells?,stcV,stcS,leafOk,eqDs,eqD,packA,D.val?,↓reduceIte,reduceCtorEq,Nat.reduceAdd,Nat.reduceSub,Nat.reduceMul,List.reduceReplicate,Nat.reduceLeDiff,Nat.reduceLT,Nat.reduceBEq,Nat.reduceEqDiff,Int.reduceNeg,Int.reduceEq,Int.reduceLE,Int.reduceLT,tfb,D.flat,D.flats,av_glob,n_seq,k_range,k_next,k_entry,p_range,rg_mp,rg_some,p_next,p_entry,en_it,en_at,en_ents,k_insert,p_insert,in_mp,ctz20,O20_13,x20_45,eq45,x20_47,z20_31,ctz31,x20o_45,x20o_47,z20o_31,z20_58,cy20_58,ctzy20_58,ctz20o,yy20_58_29,yy20_58_30,ctz58,x58_29,eq_self, kill_ents, mencs_ents, e6, c3]
  · intro i hi hs
    have hT6 : (M.getD i default).1.length = 6 := (reach_b hl _ (Nat.le_refl _) _ (hM.at hi)).1
    have hTa : (ta (M.getD i default).1).length = 6 := by rw [ta_len, hT6]
    have hfk : fkT (M.getD i default).1 = .agg (tv (M.getD i default).1) := rfl
    have hdl := dl_ta (T := (M.getD i default).1) hT6
    have hz6 := setR_zs (T := (M.getD i default).1) hT6
    have hSL := seen_lt hn1 hn2 hi hs
    have hb := (reach_b hl _ (Nat.le_refl _) _ (hM.at hi)).2 t.toNat (by omega)
    have hget : (ta (M.getD i default).1).getD t.toNat .any = .i ((M.getD i default).1.getD t.toNat default) := ta_get (by omega)
    have hp47 : (M.getD i default).1.length = 6 ∧ l.far.length ≤ 6 := ⟨hT6, h6⟩
    have a6 : (x ++ [i]).foldl (fun n i => max n (vT l t p (M.getD i default).1)) 0 = max (x.foldl (fun n i => max n (vT l t p (M.getD i default).1)) 0) (vT l t p (M.getD i default).1) := by rw [List.foldl_append]; rfl
    have hlen : M.length - (x ++ [i]).length < M.length - x.length := by
      rw [List.length_append]
      simp only [List.length_cons, List.length_nil]
      omega
    have ht6 : t < 0 + 1 + 1 + 1 + 1 + 1 + 1 := by omega
    have ht5 : t.toNat ≤ 5 := by omega
    have hpb := (stF_b (t := t) hg).2.1
    have hrp : (rowR l.games t.toNat).s.pts = (stF l.games t).pts := by
      show (stF l.games ((t.toNat : Nat) : Int)).pts = _
      rw [show ((t.toNat : Nat) : Int) = t by omega]
    have hge := fold_ge (fun i => vT l t p (M.getD i default).1) x 0
    obtain ⟨n, hn⟩ : ∃ n, n = x.foldl (fun n i => max n (vT l t p (M.getD i default).1)) 0 := ⟨_, rfl⟩
    rw [← hn] at a6 hge ⊢
    by_cases c3 : p ≤ (cnT (M.getD i default).1 t ((M.getD i default).1.getD t.toNat default) l.far.length : Int)
    · have hv : vT l t p (M.getD i default).1 = (M.getD i default).1.getD t.toNat default - (stF l.games t).pts + 1 := by unfold vT; rw [if_pos c3]
      simp (maxSteps := 4000000) +contextual (disch := first | omega | exact qdb_ok (by kernel_rfl) | exact okb_ok (by kernel_rfl)) only [bw1,bw2,bw3,bw4,bw5,bw6,bw7,bc0,bc1,bc2,bc3,bc4,bc5,bc6,bc7,bb0,setPs,AV.owns,AV.datF,AV.frz,AV.cpy,ifV,isEqB,nilV,nilX,AV.isNilS,AV.isNoRows,wk,dclo,datOf,binIs,addF,AV.isPtr,idxV,AV.isSl,AV.isSlice,AV.rows,ps,pv,extV,extS,AV.outs,AV.outF,packD,AV.dl,fieldV,fieldS,AV.cells?,AV.upr,AV.menc,AV.one,D.one,Value.oneCell',tagOf,AV.isApp,strV,strS,bolV,bolS,slcV,AV.isSlD,asrtS,AV.dcells,D.cells?,stcV,stcS,leafOk,eqDs,eqD,packA,D.val?,↓reduceIte,reduceCtorEq,Nat.reduceAdd,Nat.reduceSub,Nat.reduceMul,List.reduceReplicate,Nat.reduceLeDiff,Nat.reduceLT,Nat.reduceBEq,Nat.reduceEqDiff,Int.reduceNeg,Int.reduceEq,Int.reduceLE,Int.reduceLT,tfb,D.flat,D.flats,av_glob,n_seq,k_range,k_next,k_entry,p_range,rg_mp,rg_some,p_next,p_entry,en_it,en_at,en_ents,k_insert,p_insert,in_mp,ctz20,O20_13,x20_45,eq45,x20_47,z20_31,ctz31,x20o_45,x20o_47,z20o_31,z20_58,cy20_58,ctzy20_58,ctz20o,yy20_58_29,yy20_58_30,ctz58,x58_29,eq_self, kill_ents, mencs_ents, hTa, ta_kill, ta_mencs, hfk, hT6, List.length_map, ta_one, kill_itc, mencs_itc, hdl, hz6, wks, hget, hp47, Nat.mul_one, h6, ht, ht6, ht5, c3, hrp]
      exact ⟨hi, x ++ [i], ⟨⟨hSL.2.1, hSL.2.2⟩, hlen⟩, by rw [a6, hv] <;> rfl, wk_self _⟩
    · have hv : vT l t p (M.getD i default).1 = 0 := by unfold vT; rw [if_neg c3]
      simp (maxSteps := 4000000) +contextual (disch := first | omega | exact qdb_ok (by kernel_rfl) | exact okb_ok (by kernel_rfl)) only [bw1,bw2,bw3,bw4,bw5,bw6,bw7,bc0,bc1,bc2,bc3,bc4,bc5,bc6,bc7,bb0,setPs,AV.owns,AV.datF,AV.frz,AV.cpy,ifV,isEqB,nilV,nilX,AV.isNilS,AV.isNoRows,wk,dclo,datOf,binIs,addF,AV.isPtr,idxV,AV.isSl,AV.isSlice,AV.rows,ps,pv,extV,extS,AV.outs,AV.outF,packD,AV.dl,fieldV,fieldS,AV.cells?,AV.upr,AV.menc,AV.one,D.one,Value.oneCell',tagOf,AV.isApp,strV,strS,bolV,bolS,slcV,AV.isSlD,asrtS,AV.dcells,D.cells?,stcV,stcS,leafOk,eqDs,eqD,packA,D.val?,↓reduceIte,reduceCtorEq,Nat.reduceAdd,Nat.reduceSub,Nat.reduceMul,List.reduceReplicate,Nat.reduceLeDiff,Nat.reduceLT,Nat.reduceBEq,Nat.reduceEqDiff,Int.reduceNeg,Int.reduceEq,Int.reduceLE,Int.reduceLT,tfb,D.flat,D.flats,av_glob,n_seq,k_range,k_next,k_entry,p_range,rg_mp,rg_some,p_next,p_entry,en_it,en_at,en_ents,k_insert,p_insert,in_mp,ctz20,O20_13,x20_45,eq45,x20_47,z20_31,ctz31,x20o_45,x20o_47,z20o_31,z20_58,cy20_58,ctzy20_58,ctz20o,yy20_58_29,yy20_58_30,ctz58,x58_29,eq_self, kill_ents, mencs_ents, hTa, ta_kill, ta_mencs, hfk, hT6, List.length_map, ta_one, kill_itc, mencs_itc, hdl, hz6, wks, hget, hp47, Nat.mul_one, h6, ht, ht6, ht5, c3, hrp]
      exact ⟨hi, x ++ [i], ⟨⟨hSL.2.1, hSL.2.2⟩, hlen⟩, by rw [a6, hv, Int.max_eq_left hge], wk_self _⟩
end V
end Go.Proofs.YtmajlffglplcnaaDoor
