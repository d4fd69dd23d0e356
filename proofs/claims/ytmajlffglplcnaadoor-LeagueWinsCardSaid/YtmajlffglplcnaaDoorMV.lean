/- A part of the proof that the last text ends: what functions of the program do, told by plain data. -/
import Derived.Test.YtmajlffglplcnaaDoorMU
import Derived.Test.YtmajlffglplcnaaDoorEc
set_option linter.unusedVariables false
set_option linter.unusedSimpArgs false
namespace Go.Proofs.YtmajlffglplcnaaDoor
open Go Go.E Go.Maps
set_option maxRecDepth 100000
set_option maxHeartbeats 16000000
theorem Tof_next {k : Nat} (hk : k < 6) {f : Nat → Int} : (Tof k f).set k (f k) = Tof (k + 1) f := by
  apply List.ext_getElem (by rw [List.length_set, Tof_len, Tof_len])
  intro i h1 h2
  have hi : i < 6 := by rw [Tof_len] at h2; exact h2
  rw [← at_lt h1, ← at_lt h2, getD_set (by rw [Tof_len]; exact hk), Tof_at hi, Tof_at hi]
  by_cases c : i = k
  · subst c; rw [if_pos rfl, if_pos (show i < i + 1 by omega)]
  · rw [if_neg c]
    by_cases c2 : i < k
    · rw [if_pos c2, if_pos (show i < k + 1 by omega)]
    · rw [if_neg c2, if_neg (show ¬ i < k + 1 by omega)]
theorem kill_itc {g h n : Nat} (hg : h ≠ g) {x : List Nat} : (itc h n x).map (AV.kill g) = itc h n x := by simp [itc, AV.kill, AV.men, hg, Ne.symm hg]
theorem mencs_itc {g k n : Nat} {y : List Nat} : AV.mencs k (itc g n y) = false := by simp [itc, AV.mencs, AV.menc]
theorem RN_zero {M : List (List Int × Bool)} {g : Gam} {seen : List Nat} {i j : Nat} {U : List Int} : RN M g seen i 0 U ↔ RN M g seen j 0 U := by
  unfold RN
  constructor
  · rintro (h | ⟨q, h1, _⟩)
    · exact .inl h
    · omega
  · rintro (h | ⟨q, h1, _⟩)
    · exact .inl h
    · omega
theorem setR_zs {T : List Int} (h : T.length = 6) : setR [AV.d (D.v (Value.int .i64 0)), AV.d (D.v (Value.int .i64 0)), AV.d (D.v (Value.int .i64 0)), AV.d (D.v (Value.int .i64 0)), AV.d (D.v (Value.int .i64 0)), AV.d (D.v (Value.int .i64 0))] 0 ((tv T).map .d) = ta T := by
  match T, h with
  | [a, b, c, d, e, f], _ => rfl
theorem wks (c : List AV) : wk c c = True := eq_true (wk_self c)
theorem cst_nil : cst (Value.map none) = .d (.v (.map none)) := rfl
def O46 : Nat → Sch := fun id => if id = 20 then .one 0 (.one 1 (.one 2 (.one 3 (.one 4 (.one 5 (.one 6 (.one 7 (.one 8 (.done))))))))) else if id = 21 then .one 0 (.one 1 (.one 2 (.one 3 (.one 4 (.one 5 (.one 6 (.one 7 (.one 8 (.done))))))))) else .done
theorem O46_20 : O46 20 = .one 0 (.one 1 (.one 2 (.one 3 (.one 4 (.one 5 (.one 6 (.one 7 (.one 8 (.done))))))))) := rfl
theorem O46_21 : O46 21 = .one 0 (.one 1 (.one 2 (.one 3 (.one 4 (.one 5 (.one 6 (.one 7 (.one 8 (.done))))))))) := rfl
theorem ho46 : Tryd.f46.body.map (okO O46) = some true := by kernel_rfl
def Cf46 : Nat → List AV → (AV → List AV → Sto → Prop) → Kt → List AV → Sto → Prop := fun f args K Q e s => match f with
  | 33 => sp33 args K e s
  | _ => False
def Ct46 : CT := { f := Cf46, y := noYld, z := fun d => false }
theorem ctz46 {d : Nat} : CT.z Ct46 d = (false) := id rfl
theorem Ct46_ok : Ct46.ok Tryd.prog := ok_of_f (fun f args K Q e s h => by
  have h : Cf46 f args K Q e s := h
  unfold Cf46 at h; split at h
  · exact sp33_ok h
  · exact h.elim) (fun _ _ _ _ _ _ _ _ _ h => h)
theorem c46 : callable Tryd.prog 46 = true := by kernel_rfl
abbrev stL (l : Lea)  : List (Nat × List AV) := [(0, []), (4, [.d (.sl 1 (l.far.map pc)), .d (.sl 6 (l.games.map Gam.c))]), (5000000000, [.d (.ptr gpt 0)])]
theorem does46 {l : Lea}  (hl : leaOk l = true) {HD : List AV} {K : AV → List AV → Sto → Prop} {Q : Kt} (hHD0 : ∀ g, 888 ≤ g → HD.map (AV.kill g) = HD) (hHM : ∀ g, AV.mencs g HD = false) (hK : ∀ M, MR (reach l l.games.length) M → K (.mp 2000046028) HD (stL l  ++ [(2000046028, ents fkT fvT M)])) : pcall Tryd.prog 46 [.ref 4 0] K Q HD (stL l ) := by
  have h6 := lea_fars hl
  have h64 := lea_games hl
  have hg := lea_gs hl
  have hHD : ∀ g, 888 ≤ g → List.map (AV.kill g) HD = HD := hHD0
  have hx33 : ∀ {args : List AV} {KK : AV → List AV → Sto → Prop} {QQ : Kt} {ii : At KK} {jj : At QQ} {ee : List AV} {ss : Sto}, xC Ct46 33 args KK QQ ii jj ee ss = sp33 args KK ee ss := id rfl
  refine pcall_start (O := O46) (tb := 46000) Ct46_ok hmix ho46 Tryd.func46 c46 rfl Tryd.ntmps46 Tryd.results46 ?_
  simp (maxSteps := 4000000) +contextual (disch := first | omega | exact qdb_ok (by kernel_rfl) | exact okb_ok (by kernel_rfl)) only [bw1,bw2,bw3,bw4,bw5,bw6,bw7,bc0,bc1,bc2,bc3,bc4,bc5,bc6,bc7,bb0,setPs,AV.owns,AV.datF,AV.frz,AV.cpy,ifV,isEqB,nilV,nilX,AV.isNilS,AV.isNoRows,wk,dclo,datOf,binIs,addF,AV.isPtr,idxV,AV.isSl,AV.isSlice,AV.rows,ps,pv,extV,extS,AV.outs,AV.outF,packD,AV.dl,fieldV,fieldS,AV.cells?,AV.upr,AV.menc,AV.one,D.one,Value.oneCell',tagOf,AV.isApp,strV,strS,bolV,bolS,slcV,AV.isSlD,asrtS,AV.dcells,D.cells?,stcV,stcS,leafOk,eqDs,eqD,packA,D.val?,↓reduceIte,reduceCtorEq,Nat.reduceAdd,Nat.reduceSub,Nat.reduceMul,List.reduceReplicate,Nat.reduceLeDiff,Nat.reduceLT,Nat.reduceBEq,Nat.reduceEqDiff,Int.reduceNeg,Int.reduceEq,Int.reduceLE,Int.reduceLT,tfb,D.flat,D.flats,av_glob,n_seq,k_range,k_next,k_entry,p_range,rg_mp,rg_some,p_next,p_entry,en_it,en_at,en_ents,k_insert,p_insert,in_mp,ctz46,O46_20,O46_21,hHD, hHM, wks, hx33, List.append_nil]
  refine ⟨l, hl, rfl, rfl, ?_⟩
  have hrl : ((rowsR l).map oc).length = l.far.length := by rw [List.length_map, rowsR_len]
  have hrl2 : ((rowsR l).length : Int) = l.far.length := by rw [rowsR_len]
  have hz0 : ([.d (.v (.int .i64 0)), .d (.v (.int .i64 0)), .d (.v (.int .i64 0)), .d (.v (.int .i64 0)), .d (.v (.int .i64 0)), .d (.v (.int .i64 0))] : List AV) = ta (Tof 0 (ptsF l.games)) := rfl
  simp (maxSteps := 4000000) +contextual (disch := first | omega | exact qdb_ok (by kernel_rfl) | exact okb_ok (by kernel_rfl)) only [bw1,bw2,bw3,bw4,bw5,bw6,bw7,bc0,bc1,bc2,bc3,bc4,bc5,bc6,bc7,bb0,setPs,AV.owns,AV.datF,AV.frz,AV.cpy,ifV,isEqB,nilV,nilX,AV.isNilS,AV.isNoRows,wk,dclo,datOf,binIs,addF,AV.isPtr,idxV,AV.isSl,AV.isSlice,AV.rows,ps,pv,extV,extS,AV.outs,AV.outF,packD,AV.dl,fieldV,fieldS,AV.cells?,AV.upr,AV.menc,AV.one,D.one,Value.oneCell',tagOf,AV.isApp,strV,strS,bolV,bolS,slcV,AV.isSlD,asrtS,AV.dcells,D.cells?,stcV,stcS,leafOk,eqDs,eqD,packA,D.val?,↓reduceIte,reduceCtorEq,Nat.reduceAdd,Nat.reduceSub,Nat.reduceMul,List.reduceReplicate,Nat.reduceLeDiff,Nat.reduceLT,Nat.reduceBEq,Nat.reduceEqDiff,Int.reduceNeg,Int.reduceEq,Int.reduceLE,Int.reduceLT,tfb,D.flat,D.flats,av_glob,n_seq,k_range,k_next,k_entry,p_range,rg_mp,rg_some,p_next,p_entry,en_it,en_at,en_ents,k_insert,p_insert,in_mp,ctz46,O46_20,O46_21,hHD, hHM, wks, eq_self, hz0, hrl2]
  refine loop_xu (O := O46) (tb := 46000) Ct46_ok hmix (by kernel_rfl) (σ := Nat) (fun k => [(4, .any), (5, .any), (17, .i k)]) (fun k => [(0, HD), (4, [.d (.sl 1 (l.far.map pc)), .d (.sl 6 (l.games.map Gam.c))]), (5000000000, [.d (.ptr gpt 0)]), (46004, ta (Tof k (ptsF l.games)))]) (fun k => k ≤ l.far.length) (fun k => l.far.length - k) 0 (Nat.zero_le _) ?_ ?_
  · simp (maxSteps := 4000000) +contextual (disch := first | omega | exact qdb_ok (by kernel_rfl) | exact okb_ok (by kernel_rfl)) only [bw1,bw2,bw3,bw4,bw5,bw6,bw7,bc0,bc1,bc2,bc3,bc4,bc5,bc6,bc7,bb0,setPs,AV.owns,AV.datF,AV.frz,AV.cpy,ifV,isEqB,nilV,nilX,AV.isNilS,AV.isNoRows,wk,dclo,datOf,binIs,addF,AV.isPtr,idxV,AV.isSl,AV.isSlice,AV.rows,ps,pv,extV,extS,AV.outs,AV.outF,packD,AV.dl,fieldV,fieldS,AV.cells?,AV.upr,AV.menc,AV.one,D.one,Value.oneCell',tagOf,AV.isApp,strV,strS,bolV,bolS,slcV,AV.isSlD,asrtS,AV.dcells,D.cells?,stcV,stcS,leafOk,eqDs,eqD,packA,D.val?,↓reduceIte,reduceCtorEq,Nat.reduceAdd,Nat.reduceSub,Nat.reduceMul,List.reduceReplicate,Nat.reduceLeDiff,Nat.reduceLT,Nat.reduceBEq,Nat.reduceEqDiff,Int.reduceNeg,Int.reduceEq,Int.reduceLE,Int.reduceLT,tfb,D.flat,D.flats,av_glob,n_seq,k_range,k_next,k_entry,p_range,rg_mp,rg_some,p_next,p_entry,en_it,en_at,en_ents,k_insert,p_insert,in_mp,ctz46,O46_20,O46_21,hHD, hHM, wks, eq_self, ta_kill]
  rintro k hk
  have hTl : (ta (Tof k (ptsF l.games))).length = 6 := by rw [ta_len, Tof_len]
  by_cases hlt : k < l.far.length
  · have hlt' : (k : Int) < l.far.length := by omega
    have r1 : ((rowsR l).map oc).getD k [] = oc (rowR l.games k) := by
      rw [Go.E.row_at (by rw [rowsR_len]; exact hlt)]
      unfold rowsR
      rw [List.getD_eq_getElem?_getD, List.getElem?_map, List.getElem?_range hlt]; rfl
    have hset : setR (ta (Tof k (ptsF l.games))) k [.d (.v (.int .i64 (rowR l.games k).s.pts))] = ta (Tof (k + 1) (ptsF l.games)) := by
      rw [setR_ta (by rw [Tof_len]; omega)]
      congr 1
      exact Tof_next (by omega)
    simp (maxSteps := 4000000) +contextual (disch := first | omega | exact qdb_ok (by kernel_rfl) | exact okb_ok (by kernel_rfl)) only [bw1,bw2,bw3,bw4,bw5,bw6,bw7,bc0,bc1,bc2,bc3,bc4,bc5,bc6,bc7,bb0,setPs,AV.owns,AV.datF,AV.frz,AV.cpy,ifV,isEqB,nilV,nilX,AV.isNilS,AV.isNoRows,wk,dclo,datOf,binIs,addF,AV.isPtr,idxV,AV.isSl,AV.isSlice,AV.rows,ps,pv,extV,extS,AV.outs,AV.outF,packD,AV.dl,fieldV,fieldS,AV.cells?,AV.upr,AV.menc,AV.one,D.one,Value.oneCell',tagOf,AV.isApp,strV,strS,bolV,bolS,slcV,AV.isSlD,asrtS,AV.dcells,D.cells?,stcV,stcS,leafOk,eqDs,eqD,packA,D.val?,↓reduceIte,reduceCtorEq,Nat.reduceAdd,Nat.reduceSub,Nat.reduceMul,List.reduceReplicate,Nat.reduceLeDiff,Nat.reduceLT,Nat.reduceBEq,Nat.reduceEqDiff,Int.reduceNeg,Int.reduceEq,Int.reduceLE,Int.reduceLT,tfb,D.flat,D.flats,av_glob,n_seq,k_range,k_next,k_entry,p_range,rg_mp,rg_some,p_next,p_entry,en_it,en_at,en_ents,k_insert,p_insert,in_mp,ctz46,O46_20,O46_21,hHD, hHM, wks, eq_self, hlt', r1, hrl2, hTl, hset, Nat.mul_one, ta_kill, ta_mencs, cst_nil]
    exact ⟨by omega, ⟨by omega, by omega⟩, by omega, k + 1, ⟨by omega, by omega⟩, rfl, wk_self _⟩
  obtain rfl : k = l.far.length := by omega
  have hTL : (ta (Tof l.far.length (ptsF l.games))).length = 6 := by rw [ta_len, Tof_len]
  have hdl := dl_ta (T := Tof l.far.length (ptsF l.games)) Tof_len
  have hR0 := reach_b hl 0 (by omega) _ (show reach l 0 (Tof l.far.length (ptsF l.games)) from rfl)
  have hko0 : (keyOf Tryd.prog 79 (Value.agg (List.map (Value.int .i64) (Tof l.far.length (ptsF l.games))).toArray)).isSome = true := keyOf79 hR0.1 (i64_all (fun i hi => by have := hR0.2 i hi; omega) hR0.1)
  have hmok : mapOk Tryd.prog 79 [] := ents_ok' (M := ([] : List (List Int × Bool))) (fk := fkT) (fv := fvT) (fkv := fkvT) fkT_val (fun p hp => absurd hp List.not_mem_nil)
  simp (maxSteps := 4000000) +contextual (disch := first | omega | exact qdb_ok (by kernel_rfl) | exact okb_ok (by kernel_rfl)) only [bw1,bw2,bw3,bw4,bw5,bw6,bw7,bc0,bc1,bc2,bc3,bc4,bc5,bc6,bc7,bb0,setPs,AV.owns,AV.datF,AV.frz,AV.cpy,ifV,isEqB,nilV,nilX,AV.isNilS,AV.isNoRows,wk,dclo,datOf,binIs,addF,AV.isPtr,idxV,AV.isSl,AV.isSlice,AV.rows,ps,pv,extV,extS,AV.outs,AV.outF,packD,AV.dl,fieldV,fieldS,AV.cells?,AV.upr,AV.menc,AV.one,D.one,Value.oneCell',tagOf,AV.isApp,strV,strS,bolV,bolS,slcV,AV.isSlD,asrtS,AV.dcells,D.cells?,stcV,stcS,leafOk,eqDs,eqD,packA,D.val?,↓reduceIte,reduceCtorEq,Nat.reduceAdd,Nat.reduceSub,Nat.reduceMul,List.reduceReplicate,Nat.reduceLeDiff,Nat.reduceLT,Nat.reduceBEq,Nat.reduceEqDiff,Int.reduceNeg,Int.reduceEq,Int.reduceLE,Int.reduceLT,tfb,D.flat,D.flats,av_glob,n_seq,k_range,k_next,k_entry,p_range,rg_mp,rg_some,p_next,p_entry,en_it,en_at,en_ents,k_insert,p_insert,in_mp,ctz46,O46_20,O46_21,hHD, hHM, wks, eq_self, Int.lt_irrefl, hrl2, hTL, hdl, ta_kill, ta_mencs, cst_nil, tv_vals, key79', hko0, hmok]
  refine xUp_put (fk := fkT) (fv := fvT) (fkv := fkvT) (M := ([] : List (List Int × Bool))) (k := Tof l.far.length (ptsF l.games)) (v := true) fkT_val fkvT_inj rfl rfl (by simp) (fun M0 hn0 hm0 => ?_)
  have hM0 : MR (reach l 0) M0 := ⟨hn0, fun T => by
    constructor
    · rintro ⟨w, hw⟩
      rcases (hm0 T w).1 hw with ⟨h1, _⟩ | ⟨_, h2⟩
      · exact h1
      · cases h2
    · intro h1
      exact ⟨true, (hm0 T true).2 (.inl ⟨h1, rfl⟩)⟩⟩
  clear hdl hTL hR0 hko0 hmok hz0 hrl hrl2 hn0 hm0
  simp (maxSteps := 4000000) +contextual (disch := first | omega | exact qdb_ok (by kernel_rfl) | exact okb_ok (by kernel_rfl)) only [bw1,bw2,bw3,bw4,bw5,bw6,bw7,bc0,bc1,bc2,bc3,bc4,bc5,bc6,bc7,bb0,setPs,AV.owns,AV.datF,AV.frz,AV.cpy,ifV,isEqB,nilV,nilX,AV.isNilS,AV.isNoRows,wk,dclo,datOf,binIs,addF,AV.isPtr,idxV,AV.isSl,AV.isSlice,AV.rows,ps,pv,extV,extS,AV.outs,AV.outF,packD,AV.dl,fieldV,fieldS,AV.cells?,AV.upr,AV.menc,AV.one,D.one,Value.oneCell',tagOf,AV.isApp,strV,strS,bolV,bolS,slcV,AV.isSlD,asrtS,AV.dcells,D.cells?,stcV,stcS,leafOk,eqDs,eqD,packA,D.val?,↓reduceIte,reduceCtorEq,Nat.reduceAdd,Nat.reduceSub,Nat.reduceMul,List.reduceReplicate,Nat.reduceLeDiff,Nat.reduceLT,Nat.reduceBEq,Nat.reduceEqDiff,Int.reduceNeg,Int.reduceEq,Int.reduceLE,Int.reduceLT,tfb,D.flat,D.flats,av_glob,n_seq,k_range,k_next,k_entry,p_range,rg_mp,rg_some,p_next,p_entry,en_it,en_at,en_ents,k_insert,p_insert,in_mp,ctz46,O46_20,O46_21,hHD, hHM, wks, eq_self, kill_ents, mencs_ents, ta_kill, ta_mencs, cst_nil]
  refine loop_xg (O := O46) (tb := 46000) Ct46_ok hmix (by kernel_rfl) (σ := Nat × List (List Int × Bool)) (fun x => [(6, .mp 2000046028), (8, .any), (9, .any), (10, .any), (12, .any), (13, .any), (28, .any), (30, .any), (36, .i x.1), (43, .any), (45, .any)]) (fun x => [(0, HD), (4, [.d (.sl 1 (l.far.map pc)), .d (.sl 6 (l.games.map Gam.c))]), (5000000000, [.d (.ptr gpt 0)]), (2000046028, ents fkT fvT x.2)]) (fun x => x.1 ≤ l.games.length ∧ MR (reach l x.1) x.2) (fun x => l.games.length - x.1) (0, M0) ⟨Nat.zero_le _, hM0⟩ ?_ ?_
  · simp (maxSteps := 4000000) +contextual (disch := first | omega | exact qdb_ok (by kernel_rfl) | exact okb_ok (by kernel_rfl)) only [bw1,bw2,bw3,bw4,bw5,bw6,bw7,bc0,bc1,bc2,bc3,bc4,bc5,bc6,bc7,bb0,setPs,AV.owns,AV.datF,AV.frz,AV.cpy,ifV,isEqB,nilV,nilX,AV.isNilS,AV.isNoRows,wk,dclo,datOf,binIs,addF,AV.isPtr,idxV,AV.isSl,AV.isSlice,AV.rows,ps,pv,extV,extS,AV.outs,AV.outF,packD,AV.dl,fieldV,fieldS,AV.cells?,AV.upr,AV.menc,AV.one,D.one,Value.oneCell',tagOf,AV.isApp,strV,strS,bolV,bolS,slcV,AV.isSlD,asrtS,AV.dcells,D.cells?,stcV,stcS,leafOk,eqDs,eqD,packA,D.val?,↓reduceIte,reduceCtorEq,Nat.reduceAdd,Nat.reduceSub,Nat.reduceMul,List.reduceReplicate,Nat.reduceLeDiff,Nat.reduceLT,Nat.reduceBEq,Nat.reduceEqDiff,Int.reduceNeg,Int.reduceEq,Int.reduceLE,Int.reduceLT,tfb,D.flat,D.flats,av_glob,n_seq,k_range,k_next,k_entry,p_range,rg_mp,rg_some,p_next,p_entry,en_it,en_at,en_ents,k_insert,p_insert,in_mp,ctz46,O46_20,O46_21,hHD, hHM, wks, eq_self, kill_ents, mencs_ents]
  clear hM0 M0
  rintro ⟨k, M⟩ ⟨hk, hM⟩
  dsimp only at hk hM ⊢
  by_cases hlt : k < l.games.length
  · have hlt' : (k : Int) < l.games.length := by omega
    have hm := lea_gm hl hlt
    have hrow : (l.games.map Gam.c).getD k [] = Gam.c (l.games.getD k default) := Go.E.row_at hlt
    by_cases hfin : (l.games.getD k default).fin = 0
    · have hfb : ((l.games.getD k default).fin != 0) = false := by simpa using hfin
      simp (maxSteps := 4000000) +contextual (disch := first | omega | exact qdb_ok (by kernel_rfl) | exact okb_ok (by kernel_rfl)) only [bw1,bw2,bw3,bw4,bw5,bw6,bw7,bc0,bc1,bc2,bc3,bc4,bc5,bc6,bc7,bb0,setPs,AV.owns,AV.datF,AV.frz,AV.cpy,ifV,isEqB,nilV,nilX,AV.isNilS,AV.isNoRows,wk,dclo,datOf,binIs,addF,AV.isPtr,idxV,AV.isSl,AV.isSlice,AV.rows,ps,pv,extV,extS,AV.outs,AV.outF,packD,AV.dl,fieldV,fieldS,AV.cells?,AV.upr,AV.menc,AV.one,D.one,Value.oneCell',tagOf,AV.isApp,strV,strS,bolV,bolS,slcV,AV.isSlD,asrtS,AV.dcells,D.cells?,stcV,stcS,leafOk,eqDs,eqD,packA,D.val?,↓reduceIte,reduceCtorEq,Nat.reduceAdd,Nat.reduceSub,Nat.reduceMul,List.reduceReplicate,Nat.reduceLeDiff,Nat.reduceLT,Nat.reduceBEq,Nat.reduceEqDiff,Int.reduceNeg,Int.reduceEq,Int.reduceLE,Int.reduceLT,tfb,D.flat,D.flats,av_glob,n_seq,k_range,k_next,k_entry,p_range,rg_mp,rg_some,p_next,p_entry,en_it,en_at,en_ents,k_insert,p_insert,in_mp,ctz46,O46_20,O46_21,hHD, hHM, wks, eq_self, hlt', hrow, hfb, List.length_map, kill_ents, mencs_ents, pairs_ents_eq, ents_len]
      refine ⟨by omega, ?_⟩
      have hE0 : ([] : List AV) = ents fkT fvT [] := rfl
      refine loop_xu (O := O46) (tb := 46000) Ct46_ok hmix (by kernel_rfl) (σ := List Nat × List (List Int × Bool)) (fun x => [(10, .any), (12, .any), (13, .any)]) (fun x => [(0, HD), (4, [.d (.sl 1 (l.far.map pc)), .d (.sl 6 (l.games.map Gam.c))]), (5000000000, [.d (.ptr gpt 0)]), (46009, [.i (l.games.getD k default).day, .i (l.games.getD k default).home, .i (l.games.getD k default).away, .i (l.games.getD k default).fin, .i (l.games.getD k default).hg, .i (l.games.getD k default).ag]), (2000046028, ents fkT fvT M), (2000046043, ents fkT fvT x.2), (2000046045, itc 2000046028 M.length x.1)]) (fun x => (x.1.Nodup ∧ ∀ i ∈ x.1, i < M.length) ∧ MR (RN M (l.games.getD k default) x.1 0 0) x.2) (fun x => M.length - x.1.length) ([], []) ⟨⟨by simp, by simp⟩, by simp, fun T => by simp [RN]⟩ ?_ ?_
      · simp (maxSteps := 4000000) +contextual (disch := first | omega | exact qdb_ok (by kernel_rfl) | exact okb_ok (by kernel_rfl)) only [bw1,bw2,bw3,bw4,bw5,bw6,bw7,bc0,bc1,bc2,bc3,bc4,bc5,bc6,bc7,bb0,setPs,AV.owns,AV.datF,AV.frz,AV.cpy,ifV,isEqB,nilV,nilX,AV.isNilS,AV.isNoRows,wk,dclo,datOf,binIs,addF,AV.isPtr,idxV,AV.isSl,AV.isSlice,AV.rows,ps,pv,extV,extS,AV.outs,AV.outF,packD,AV.dl,fieldV,fieldS,AV.cells?,AV.upr,AV.menc,AV.one,D.one,Value.oneCell',tagOf,AV.isApp,strV,strS,bolV,bolS,slcV,AV.isSlD,asrtS,AV.dcells,D.cells?,stcV,stcS,leafOk,eqDs,eqD,packA,D.val?,↓reduceIte,reduceCtorEq,Nat.reduceAdd,Nat.reduceSub,Nat.reduceMul,List.reduceReplicate,Nat.reduceLeDiff,Nat.reduceLT,Nat.reduceBEq,Nat.reduceEqDiff,Int.reduceNeg,Int.reduceEq,Int.reduceLE,Int.reduceLT,tfb,D.flat,D.flats,av_glob,n_seq,k_range,k_next,k_entry,p_range,rg_mp,rg_some,p_next,p_entry,en_it,en_at,en_ents,k_insert,p_insert,in_mp,ctz46,O46_20,O46_21,hHD, hHM, wks, eq_self, kill_ents, mencs_ents]
        exact trivial
      rintro ⟨seen, M2⟩ ⟨⟨hn1, hn2⟩, hM2⟩
      dsimp only at hn1 hn2 hM2 ⊢
      simp (maxSteps := 4000000) +contextual (disch := first | omega | exact qdb_ok (by kernel_rfl) | exact okb_ok (by kernel_rfl)) only [bw1,bw2,bw3,bw4,bw5,bw6,bw7,bc0,bc1,bc2,bc3,bc4,bc5,bc6,bc7,bb0,setPs,AV.owns,AV.datF,AV.frz,AV.cpy,ifV,isEqB,nilV,nilX,AV.isNilS,AV.isNoRows,wk,dclo,datOf,binIs,addF,AV.isPtr,idxV,AV.isSl,AV.isSlice,AV.rows,ps,pv,extV,extS,AV.outs,AV.outF,packD,AV.dl,fieldV,fieldS,AV.cells?,AV.upr,AV.menc,AV.one,D.one,Value.oneCell',tagOf,AV.isApp,strV,strS,bolV,bolS,slcV,AV.isSlD,asrtS,AV.dcells,D.cells?,stcV,stcS,leafOk,eqDs,eqD,packA,D.val?,↓reduceIte,reduceCtorEq,Nat.reduceAdd,Nat.reduceSub,Nat.reduceMul,List.reduceReplicate,Nat.reduceLeDiff,Nat.reduceLT,Nat.reduceBEq,Nat.reduceEqDiff,Int.reduceNeg,Int.reduceEq,Int.reduceLE,Int.reduceLT,tfb,D.flat,D.flats,av_glob,n_seq,k_range,k_next,k_entry,p_range,rg_mp,rg_some,p_next,p_entry,en_it,en_at,en_ents,k_insert,p_insert,in_mp,ctz46,O46_20,O46_21,hHD, hHM, wks, eq_self, kill_ents, mencs_ents]
      refine nx_ents (fk := fkT) (fv := fvT) (M := M) (G := 2000046028) (h := 2000046045) (n := M.length) (seen := seen) rfl rfl rfl ?_ ?_ ?_
      · simp [AV.mencs, AV.menc, Sto.mencs, mencs_ents, itc, hHM]
      · intro hall
        simp (maxSteps := 4000000) +contextual (disch := first | omega | exact qdb_ok (by kernel_rfl) | exact okb_ok (by kernel_rfl)) only [bw1,bw2,bw3,bw4,bw5,bw6,bw7,bc0,bc1,bc2,bc3,bc4,bc5,bc6,bc7,bb0,setPs,AV.owns,AV.datF,AV.frz,AV.cpy,ifV,isEqB,nilV,nilX,AV.isNilS,AV.isNoRows,wk,dclo,datOf,binIs,addF,AV.isPtr,idxV,AV.isSl,AV.isSlice,AV.rows,ps,pv,extV,extS,AV.outs,AV.outF,packD,AV.dl,fieldV,fieldS,AV.cells?,AV.upr,AV.menc,AV.one,D.one,Value.oneCell',tagOf,AV.isApp,strV,strS,bolV,bolS,slcV,AV.isSlD,asrtS,AV.dcells,D.cells?,stcV,stcS,leafOk,eqDs,eqD,packA,D.val?,↓reduceIte,reduceCtorEq,Nat.reduceAdd,Nat.reduceSub,Nat.reduceMul,List.reduceReplicate,Nat.reduceLeDiff,Nat.reduceLT,Nat.reduceBEq,Nat.reduceEqDiff,Int.reduceNeg,Int.reduceEq,Int.reduceLE,Int.reduceLT,tfb,D.flat,D.flats,av_glob,n_seq,k_range,k_next,k_entry,p_range,rg_mp,rg_some,p_next,p_entry,en_it,en_at,en_ents,k_insert,p_insert,in_mp,ctz46,O46_20,O46_21,hHD, hHM, wks, eq_self, kill_ents, mencs_ents]
        refine ⟨(k + 1, M2), ⟨⟨by dsimp only; omega, hM2.congr fun T => RN_step hfin hM hn2 hall⟩, by dsimp only; omega⟩, ?_⟩
        refine gW.trans (gW_ren (g := 2000046043) (h := 2000046028) (i := 6) (c := ents fkT fvT M2) (by decide) (by decide) (by decide) ?_ ?_ ⟨mens_ents, mens_ents⟩) (gW.wk ?_ ?_)
        · rfl
        · rfl
        · simp (maxSteps := 4000000) +contextual (disch := first | omega | exact qdb_ok (by kernel_rfl) | exact okb_ok (by kernel_rfl)) only [bw1,bw2,bw3,bw4,bw5,bw6,bw7,bc0,bc1,bc2,bc3,bc4,bc5,bc6,bc7,bb0,setPs,AV.owns,AV.datF,AV.frz,AV.cpy,ifV,isEqB,nilV,nilX,AV.isNilS,AV.isNoRows,wk,dclo,datOf,binIs,addF,AV.isPtr,idxV,AV.isSl,AV.isSlice,AV.rows,ps,pv,extV,extS,AV.outs,AV.outF,packD,AV.dl,fieldV,fieldS,AV.cells?,AV.upr,AV.menc,AV.one,D.one,Value.oneCell',tagOf,AV.isApp,strV,strS,bolV,bolS,slcV,AV.isSlD,asrtS,AV.dcells,D.cells?,stcV,stcS,leafOk,eqDs,eqD,packA,D.val?,↓reduceIte,reduceCtorEq,Nat.reduceAdd,Nat.reduceSub,Nat.reduceMul,List.reduceReplicate,Nat.reduceLeDiff,Nat.reduceLT,Nat.reduceBEq,Nat.reduceEqDiff,Int.reduceNeg,Int.reduceEq,Int.reduceLE,Int.reduceLT,tfb,D.flat,D.flats,av_glob,n_seq,k_range,k_next,k_entry,p_range,rg_mp,rg_some,p_next,p_entry,en_it,en_at,en_ents,k_insert,p_insert,in_mp,ctz46,O46_20,O46_21,hHD, hHM, wks, eq_self]
        · simp (maxSteps := 4000000) +contextual (disch := first | omega | exact qdb_ok (by kernel_rfl) | exact okb_ok (by kernel_rfl)) only [bw1,bw2,bw3,bw4,bw5,bw6,bw7,bc0,bc1,bc2,bc3,bc4,bc5,bc6,bc7,bb0,setPs,AV.owns,AV.datF,AV.frz,AV.cpy,ifV,isEqB,nilV,nilX,AV.isNilS,AV.isNoRows,wk,dclo,datOf,binIs,addF,AV.isPtr,idxV,AV.isSl,AV.isSlice,AV.rows,ps,pv,extV,extS,AV.outs,AV.outF,packD,AV.dl,fieldV,fieldS,AV.cells?,AV.upr,AV.menc,AV.one,D.one,Value.oneCell',tagOf,AV.isApp,strV,strS,bolV,bolS,slcV,AV.isSlD,asrtS,AV.dcells,D.cells?,stcV,stcS,leafOk,eqDs,eqD,packA,D.val?,↓reduceIte,reduceCtorEq,Nat.reduceAdd,Nat.reduceSub,Nat.reduceMul,List.reduceReplicate,Nat.reduceLeDiff,Nat.reduceLT,Nat.reduceBEq,Nat.reduceEqDiff,Int.reduceNeg,Int.reduceEq,Int.reduceLE,Int.reduceLT,tfb,D.flat,D.flats,av_glob,n_seq,k_range,k_next,k_entry,p_range,rg_mp,rg_some,p_next,p_entry,en_it,en_at,en_ents,k_insert,p_insert,in_mp,ctz46,O46_20,O46_21,hHD, hHM, wks, eq_self, kill_ents]
      · intro i hi hs
        have hT6 : (M.getD i default).1.length = 6 := (reach_b hl k hk _ (hM.at hi)).1
        have hTa : (ta (M.getD i default).1).length = 6 := by rw [ta_len, hT6]
        have hTb := (reach_b hl k hk _ (hM.at hi)).2
        have hfk : fkT (M.getD i default).1 = .agg (tv (M.getD i default).1) := rfl
        simp (maxSteps := 4000000) +contextual (disch := first | omega | exact qdb_ok (by kernel_rfl) | exact okb_ok (by kernel_rfl)) only [bw1,bw2,bw3,bw4,bw5,bw6,bw7,bc0,bc1,bc2,bc3,bc4,bc5,bc6,bc7,bb0,setPs,AV.owns,AV.datF,AV.frz,AV.cpy,ifV,isEqB,nilV,nilX,AV.isNilS,AV.isNoRows,wk,dclo,datOf,binIs,addF,AV.isPtr,idxV,AV.isSl,AV.isSlice,AV.rows,ps,pv,extV,extS,AV.outs,AV.outF,packD,AV.dl,fieldV,fieldS,AV.cells?,AV.upr,AV.menc,AV.one,D.one,Value.oneCell',tagOf,AV.isApp,strV,strS,bolV,bolS,slcV,AV.isSlD,asrtS,AV.dcells,D.cells?,stcV,stcS,leafOk,eqDs,eqD,packA,D.val?,↓reduceIte,reduceCtorEq,Nat.reduceAdd,Nat.reduceSub,Nat.reduceMul,List.reduceReplicate,Nat.reduceLeDiff,Nat.reduceLT,Nat.reduceBEq,Nat.reduceEqDiff,Int.reduceNeg,Int.reduceEq,Int.reduceLE,Int.reduceLT,tfb,D.flat,D.flats,av_glob,n_seq,k_range,k_next,k_entry,p_range,rg_mp,rg_some,p_next,p_entry,en_it,en_at,en_ents,k_insert,p_insert,in_mp,ctz46,O46_20,O46_21,hHD, hHM, wks, eq_self, kill_ents, mencs_ents, hTa, ta_kill, ta_mencs, hfk, hT6, List.length_map, ta_one, kill_itc, mencs_itc]
        have hSL := seen_lt hn1 hn2 hi hs
        have hs1 := hSL.1
        have hs2 := hSL.2.1
        have hs3 := hSL.2.2
        refine ⟨hi, ?_⟩
        refine loop_xn (C := Ct46) (O := O46) (tb := 46000) Ct46_ok hmix (σ := Nat × List (List Int × Bool)) (fun x => [(12, .any), (13, .any), (51, .i x.1)]) (fun x => [(0, HD), (4, [.d (.sl 1 (l.far.map pc)), .d (.sl 6 (l.games.map Gam.c))]), (5000000000, [.d (.ptr gpt 0)]), (46009, [.i (l.games.getD k default).day, .i (l.games.getD k default).home, .i (l.games.getD k default).away, .i (l.games.getD k default).fin, .i (l.games.getD k default).hg, .i (l.games.getD k default).ag]), (46011, ta (M.getD i default).1), (2000046028, ents fkT fvT M), (2000046043, ents fkT fvT x.2), (2000046045, itc 2000046028 M.length (seen ++ [i]))]) (fun x => x.1 ≤ 4 ∧ MR (RN M (l.games.getD k default) seen i x.1) x.2) (fun x => 4 - x.1) (0, M2) ⟨by omega, hM2.congr fun T => RN_zero⟩ ?_ ?_
        · have hz6 := setR_zs (T := (M.getD i default).1) hT6
          simp (maxSteps := 4000000) +contextual (disch := first | omega | exact qdb_ok (by kernel_rfl) | exact okb_ok (by kernel_rfl)) only [bw1,bw2,bw3,bw4,bw5,bw6,bw7,bc0,bc1,bc2,bc3,bc4,bc5,bc6,bc7,bb0,setPs,AV.owns,AV.datF,AV.frz,AV.cpy,ifV,isEqB,nilV,nilX,AV.isNilS,AV.isNoRows,wk,dclo,datOf,binIs,addF,AV.isPtr,idxV,AV.isSl,AV.isSlice,AV.rows,ps,pv,extV,extS,AV.outs,AV.outF,packD,AV.dl,fieldV,fieldS,AV.cells?,AV.upr,AV.menc,AV.one,D.one,Value.oneCell',tagOf,AV.isApp,strV,strS,bolV,bolS,slcV,AV.isSlD,asrtS,AV.dcells,D.cells?,stcV,stcS,leafOk,eqDs,eqD,packA,D.val?,↓reduceIte,reduceCtorEq,Nat.reduceAdd,Nat.reduceSub,Nat.reduceMul,List.reduceReplicate,Nat.reduceLeDiff,Nat.reduceLT,Nat.reduceBEq,Nat.reduceEqDiff,Int.reduceNeg,Int.reduceEq,Int.reduceLE,Int.reduceLT,tfb,D.flat,D.flats,av_glob,n_seq,k_range,k_next,k_entry,p_range,rg_mp,rg_some,p_next,p_entry,en_it,en_at,en_ents,k_insert,p_insert,in_mp,ctz46,O46_20,O46_21,hHD, hHM, wks, eq_self, kill_ents, mencs_ents, kill_itc, ta_kill, hz6]
        rintro ⟨r, M3⟩ ⟨hr, hM3⟩
        dsimp only at hr hM3 ⊢
        by_cases hr4 : r < 4
        · have hr4' : (r : Int) < 4 := by omega
          refine n_go 2 Ct46_ok hmix (by kernel_rfl) ?_
          simp (maxSteps := 4000000) +contextual (disch := first | omega | exact qdb_ok (by kernel_rfl) | exact okb_ok (by kernel_rfl)) only [bw1,bw2,bw3,bw4,bw5,bw6,bw7,bc0,bc1,bc2,bc3,bc4,bc5,bc6,bc7,bb0,setPs,AV.owns,AV.datF,AV.frz,AV.cpy,ifV,isEqB,nilV,nilX,AV.isNilS,AV.isNoRows,wk,dclo,datOf,binIs,addF,AV.isPtr,idxV,AV.isSl,AV.isSlice,AV.rows,ps,pv,extV,extS,AV.outs,AV.outF,packD,AV.dl,fieldV,fieldS,AV.cells?,AV.upr,AV.menc,AV.one,D.one,Value.oneCell',tagOf,AV.isApp,strV,strS,bolV,bolS,slcV,AV.isSlD,asrtS,AV.dcells,D.cells?,stcV,stcS,leafOk,eqDs,eqD,packA,D.val?,↓reduceIte,reduceCtorEq,Nat.reduceAdd,Nat.reduceSub,Nat.reduceMul,List.reduceReplicate,Nat.reduceLeDiff,Nat.reduceLT,Nat.reduceBEq,Nat.reduceEqDiff,Int.reduceNeg,Int.reduceEq,Int.reduceLE,Int.reduceLT,tfb,D.flat,D.flats,av_glob,n_seq,k_range,k_next,k_entry,p_range,rg_mp,rg_some,p_next,p_entry,en_it,en_at,en_ents,k_insert,p_insert,in_mp,ctz46,O46_20,O46_21,hHD, hHM, wks, eq_self, kill_ents, mencs_ents, hTa, ta_kill, ta_mencs, hfk, hT6, List.length_map, ta_one, kill_itc, mencs_itc, hr4']
          refine n_sq (n_blk ?_)
          refine n_go 2 Ct46_ok hmix (by kernel_rfl) ?_
          have hgp : List.take 2 (List.drop (r * 2) gpt) = [.i (ptH r), .i (ptA r)] := by
            rcases (show r = 0 ∨ r = 1 ∨ r = 2 ∨ r = 3 by omega) with rfl | rfl | rfl | rfl <;> rfl
          have hdl := dl_ta (T := (M.getD i default).1) hT6
          have hz6 := setR_zs (T := (M.getD i default).1) hT6
          simp (maxSteps := 4000000) +contextual (disch := first | omega | exact qdb_ok (by kernel_rfl) | exact okb_ok (by kernel_rfl)) only [bw1,bw2,bw3,bw4,bw5,bw6,bw7,bc0,bc1,bc2,bc3,bc4,bc5,bc6,bc7,bb0,setPs,AV.owns,AV.datF,AV.frz,AV.cpy,ifV,isEqB,nilV,nilX,AV.isNilS,AV.isNoRows,wk,dclo,datOf,binIs,addF,AV.isPtr,idxV,AV.isSl,AV.isSlice,AV.rows,ps,pv,extV,extS,AV.outs,AV.outF,packD,AV.dl,fieldV,fieldS,AV.cells?,AV.upr,AV.menc,AV.one,D.one,Value.oneCell',tagOf,AV.isApp,strV,strS,bolV,bolS,slcV,AV.isSlD,asrtS,AV.dcells,D.cells?,stcV,stcS,leafOk,eqDs,eqD,packA,D.val?,↓reduceIte,reduceCtorEq,Nat.reduceAdd,Nat.reduceSub,Nat.reduceMul,List.reduceReplicate,Nat.reduceLeDiff,Nat.reduceLT,Nat.reduceBEq,Nat.reduceEqDiff,Int.reduceNeg,Int.reduceEq,Int.reduceLE,Int.reduceLT,tfb,D.flat,D.flats,av_glob,n_seq,k_range,k_next,k_entry,p_range,rg_mp,rg_some,p_next,p_entry,en_it,en_at,en_ents,k_insert,p_insert,in_mp,ctz46,O46_20,O46_21,hHD, hHM, wks, eq_self, kill_ents, mencs_ents, hTa, ta_kill, ta_mencs, hfk, hT6, List.length_map, ta_one, kill_itc, mencs_itc, hr4', hgp, hdl, hz6]
          refine ⟨⟨by omega, by omega, by omega⟩, ?_⟩
          have hgm := gm_teams hm
          have b1 := hTb (l.games.getD k default).home.toNat (by omega)
          have b2 := hTb (l.games.getD k default).away.toNat (by omega)
          have hget : ∀ n : Nat, n < 6 → (ta (M.getD i default).1).getD n .any = .i ((M.getD i default).1.getD n default) := fun n hn => ta_get (by rw [hT6]; exact hn)
          have p1 : 0 ≤ ptH r ∧ ptH r ≤ 3 := by unfold ptH; split <;> omega
          have p2 : 0 ≤ ptA r ∧ ptA r ≤ 3 := by unfold ptA; split <;> omega
          have t0 : Int.toNat 0 = 0 := rfl
          have t1 : Int.toNat 1 = 1 := rfl
          have w1 : (ta (M.getD i default).1).set (l.games.getD k default).home.toNat (.d (.v (.int .i64 ((M.getD i default).1.getD (l.games.getD k default).home.toNat default + ptH r)))) = ta ((M.getD i default).1.set (l.games.getD k default).home.toNat ((M.getD i default).1.getD (l.games.getD k default).home.toNat default + ptH r)) := by simp [List.map_set]
          obtain ⟨T1, hT1⟩ : ∃ T1, T1 = (M.getD i default).1.set (l.games.getD k default).home.toNat ((M.getD i default).1.getD (l.games.getD k default).home.toNat default + ptH r) := ⟨_, rfl⟩
          rw [← hT1] at w1
          have hT1l : T1.length = 6 := by rw [hT1, List.length_set, hT6]
          have hT1a : (ta T1).length = 6 := by rw [ta_len, hT1l]
          have w2 : (ta T1).set (l.games.getD k default).away.toNat (.d (.v (.int .i64 ((M.getD i default).1.getD (l.games.getD k default).away.toNat default + ptA r)))) = ta (addT (M.getD i default).1 (l.games.getD k default) r) := by rw [hT1]; simp [addT, List.map_set]
          have w3 : (ta T1).getD (l.games.getD k default).away.toNat .any = .i ((M.getD i default).1.getD (l.games.getD k default).away.toNat default) := by
            rw [ta_get (by omega), hT1, getD_set (by omega), if_neg (by omega)]
          refine n_sq ?_
          refine n_one (e' := ?e2) (s' := ?s2) Ct46_ok hmix (by kernel_rfl) (fun K' hK' => ?h1) ?h2
          case h1 =>
            simp (maxSteps := 4000000) +contextual (disch := first | omega | exact qdb_ok (by kernel_rfl) | exact okb_ok (by kernel_rfl)) only [bw1,bw2,bw3,bw4,bw5,bw6,bw7,bc0,bc1,bc2,bc3,bc4,bc5,bc6,bc7,bb0,setPs,AV.owns,AV.datF,AV.frz,AV.cpy,ifV,isEqB,nilV,nilX,AV.isNilS,AV.isNoRows,wk,dclo,datOf,binIs,addF,AV.isPtr,idxV,AV.isSl,AV.isSlice,AV.rows,ps,pv,extV,extS,AV.outs,AV.outF,packD,AV.dl,fieldV,fieldS,AV.cells?,AV.upr,AV.menc,AV.one,D.one,Value.oneCell',tagOf,AV.isApp,strV,strS,bolV,bolS,slcV,AV.isSlD,asrtS,AV.dcells,D.cells?,stcV,stcS,leafOk,eqDs,eqD,packA,D.val?,↓reduceIte,reduceCtorEq,Nat.reduceAdd,Nat.reduceSub,Nat.reduceMul,List.reduceReplicate,Nat.reduceLeDiff,Nat.reduceLT,Nat.reduceBEq,Nat.reduceEqDiff,Int.reduceNeg,Int.reduceEq,Int.reduceLE,Int.reduceLT,tfb,D.flat,D.flats,av_glob,n_seq,k_range,k_next,k_entry,p_range,rg_mp,rg_some,p_next,p_entry,en_it,en_at,en_ents,k_insert,p_insert,in_mp,ctz46,O46_20,O46_21,hHD, hHM, wks, eq_self, kill_ents, mencs_ents, hTa, ta_kill, ta_mencs, hT6, List.length_map, hgm, hget, t0, t1, Nat.zero_mul, Nat.mul_one, mencs_itc, kill_itc, List.getD_cons_zero, List.getD_cons_succ, w1]
            refine ⟨by omega, by omega, by omega, by omega, by omega, ?_⟩
            exact hK'
          case h2 =>
            refine n_sq ?_
            refine n_one (e' := ?e3) (s' := ?s3) Ct46_ok hmix (by kernel_rfl) (fun K' hK' => ?h3) ?h4
            case h3 =>
              simp (maxSteps := 4000000) +contextual (disch := first | omega | exact qdb_ok (by kernel_rfl) | exact okb_ok (by kernel_rfl)) only [bw1,bw2,bw3,bw4,bw5,bw6,bw7,bc0,bc1,bc2,bc3,bc4,bc5,bc6,bc7,bb0,setPs,AV.owns,AV.datF,AV.frz,AV.cpy,ifV,isEqB,nilV,nilX,AV.isNilS,AV.isNoRows,wk,dclo,datOf,binIs,addF,AV.isPtr,idxV,AV.isSl,AV.isSlice,AV.rows,ps,pv,extV,extS,AV.outs,AV.outF,packD,AV.dl,fieldV,fieldS,AV.cells?,AV.upr,AV.menc,AV.one,D.one,Value.oneCell',tagOf,AV.isApp,strV,strS,bolV,bolS,slcV,AV.isSlD,asrtS,AV.dcells,D.cells?,stcV,stcS,leafOk,eqDs,eqD,packA,D.val?,↓reduceIte,reduceCtorEq,Nat.reduceAdd,Nat.reduceSub,Nat.reduceMul,List.reduceReplicate,Nat.reduceLeDiff,Nat.reduceLT,Nat.reduceBEq,Nat.reduceEqDiff,Int.reduceNeg,Int.reduceEq,Int.reduceLE,Int.reduceLT,tfb,D.flat,D.flats,av_glob,n_seq,k_range,k_next,k_entry,p_range,rg_mp,rg_some,p_next,p_entry,en_it,en_at,en_ents,k_insert,p_insert,in_mp,ctz46,O46_20,O46_21,hHD, hHM, wks, eq_self, kill_ents, mencs_ents, hT1a, ta_kill, ta_mencs, hT6, List.length_map, hgm, w3, t0, t1, Nat.zero_mul, Nat.mul_one, mencs_itc, kill_itc, List.getD_cons_zero, List.getD_cons_succ, w2]
              refine ⟨by omega, by omega, by omega, by omega, by omega, ?_⟩
              exact hK'
            case h4 =>
              have hA6 : (addT (M.getD i default).1 (l.games.getD k default) r).length = 6 := by rw [addT_len, hT6]
              have hAa : (ta (addT (M.getD i default).1 (l.games.getD k default) r)).length = 6 := by rw [ta_len, hA6]
              have hAd := dl_ta hA6
              have hAr := reach_b hl (k + 1) hlt _ ((reach_open hfin).2 ⟨_, r, hM.at hi, hr4, rfl⟩)
              have hAk : (keyOf Tryd.prog 79 (Value.agg (List.map (Value.int .i64) (addT (M.getD i default).1 (l.games.getD k default) r)).toArray)).isSome = true := keyOf79 hA6 (i64_all (fun i hi => by have := hAr.2 i hi; omega) hA6)
              have hRb : ∀ U q, RN M (l.games.getD k default) seen i q U → q ≤ 4 → U.length = 6 ∧ ∀ i, i < 6 → 0 ≤ U.getD i default ∧ U.getD i default ≤ 192 + 3 * 64 := fun U q h hq4 => by
                have h : reach l (k + 1) U := by
                  rcases h with ⟨j, q', h1, h2, h3⟩ | ⟨q', h1, h2⟩
                  · exact (reach_open hfin).2 ⟨_, q', hM.at (hn2 j h1), h2, h3⟩
                  · exact (reach_open hfin).2 ⟨_, q', hM.at hi, by omega, h2⟩
                have h9 := reach_b hl (k + 1) hlt _ h
                exact ⟨h9.1, fun i hi => by have := h9.2 i hi; omega⟩
              have hmo := hM3.ok fun T h => hRb T r h (by omega)
              refine n_w Ct46_ok hmix (by kernel_rfl) ?_
              simp (maxSteps := 4000000) +contextual (disch := first | omega | exact qdb_ok (by kernel_rfl) | exact okb_ok (by kernel_rfl)) only [bw1,bw2,bw3,bw4,bw5,bw6,bw7,bc0,bc1,bc2,bc3,bc4,bc5,bc6,bc7,bb0,setPs,AV.owns,AV.datF,AV.frz,AV.cpy,ifV,isEqB,nilV,nilX,AV.isNilS,AV.isNoRows,wk,dclo,datOf,binIs,addF,AV.isPtr,idxV,AV.isSl,AV.isSlice,AV.rows,ps,pv,extV,extS,AV.outs,AV.outF,packD,AV.dl,fieldV,fieldS,AV.cells?,AV.upr,AV.menc,AV.one,D.one,Value.oneCell',tagOf,AV.isApp,strV,strS,bolV,bolS,slcV,AV.isSlD,asrtS,AV.dcells,D.cells?,stcV,stcS,leafOk,eqDs,eqD,packA,D.val?,↓reduceIte,reduceCtorEq,Nat.reduceAdd,Nat.reduceSub,Nat.reduceMul,List.reduceReplicate,Nat.reduceLeDiff,Nat.reduceLT,Nat.reduceBEq,Nat.reduceEqDiff,Int.reduceNeg,Int.reduceEq,Int.reduceLE,Int.reduceLT,tfb,D.flat,D.flats,av_glob,n_seq,k_range,k_next,k_entry,p_range,rg_mp,rg_some,p_next,p_entry,en_it,en_at,en_ents,k_insert,p_insert,in_mp,ctz46,O46_20,O46_21,hHD, hHM, wks, eq_self, kill_ents, mencs_ents, hAa, ta_kill, ta_mencs, hA6, List.length_map, hAd, tv_vals, hAk, key79', Nat.zero_mul, Nat.mul_one, mencs_itc, kill_itc, hmo]
              refine xUp_put (fk := fkT) (fv := fvT) (fkv := fkvT) (k := addT (M.getD i default).1 (l.games.getD k default) r) (v := true) fkT_val fkvT_inj rfl rfl hM3.1 (fun M' hn' hm' => ?_)
              have hM' := (hM3.put hn' hm').congr (fun T => RN_succ.symm)
              have hmo' := hM'.ok fun T h => hRb T (r + 1) h (by omega)
              simp (maxSteps := 4000000) +contextual (disch := first | omega | exact qdb_ok (by kernel_rfl) | exact okb_ok (by kernel_rfl)) only [bw1,bw2,bw3,bw4,bw5,bw6,bw7,bc0,bc1,bc2,bc3,bc4,bc5,bc6,bc7,bb0,setPs,AV.owns,AV.datF,AV.frz,AV.cpy,ifV,isEqB,nilV,nilX,AV.isNilS,AV.isNoRows,wk,dclo,datOf,binIs,addF,AV.isPtr,idxV,AV.isSl,AV.isSlice,AV.rows,ps,pv,extV,extS,AV.outs,AV.outF,packD,AV.dl,fieldV,fieldS,AV.cells?,AV.upr,AV.menc,AV.one,D.one,Value.oneCell',tagOf,AV.isApp,strV,strS,bolV,bolS,slcV,AV.isSlD,asrtS,AV.dcells,D.cells?,stcV,stcS,leafOk,eqDs,eqD,packA,D.val?,↓reduceIte,reduceCtorEq,Nat.reduceAdd,Nat.reduceSub,Nat.reduceMul,List.reduceReplicate,Nat.reduceLeDiff,Nat.reduceLT,Nat.reduceBEq,Nat.reduceEqDiff,Int.reduceNeg,Int.reduceEq,Int.reduceLE,Int.reduceLT,tfb,D.flat,D.flats,av_glob,n_seq,k_range,k_next,k_entry,p_range,rg_mp,rg_some,p_next,p_entry,en_it,en_at,en_ents,k_insert,p_insert,in_mp,ctz46,O46_20,O46_21,hHD, hHM, wks, eq_self, kill_ents, mencs_ents, hAa, ta_kill, ta_mencs, hA6, List.length_map, hAd, tv_vals, hAk, key79', Nat.zero_mul, Nat.mul_one, mencs_itc, kill_itc, hmo']
              refine n_w Ct46_ok hmix (by kernel_rfl) ?_
              simp (maxSteps := 4000000) +contextual (disch := first | omega | exact qdb_ok (by kernel_rfl) | exact okb_ok (by kernel_rfl)) only [bw1,bw2,bw3,bw4,bw5,bw6,bw7,bc0,bc1,bc2,bc3,bc4,bc5,bc6,bc7,bb0,setPs,AV.owns,AV.datF,AV.frz,AV.cpy,ifV,isEqB,nilV,nilX,AV.isNilS,AV.isNoRows,wk,dclo,datOf,binIs,addF,AV.isPtr,idxV,AV.isSl,AV.isSlice,AV.rows,ps,pv,extV,extS,AV.outs,AV.outF,packD,AV.dl,fieldV,fieldS,AV.cells?,AV.upr,AV.menc,AV.one,D.one,Value.oneCell',tagOf,AV.isApp,strV,strS,bolV,bolS,slcV,AV.isSlD,asrtS,AV.dcells,D.cells?,stcV,stcS,leafOk,eqDs,eqD,packA,D.val?,↓reduceIte,reduceCtorEq,Nat.reduceAdd,Nat.reduceSub,Nat.reduceMul,List.reduceReplicate,Nat.reduceLeDiff,Nat.reduceLT,Nat.reduceBEq,Nat.reduceEqDiff,Int.reduceNeg,Int.reduceEq,Int.reduceLE,Int.reduceLT,tfb,D.flat,D.flats,av_glob,n_seq,k_range,k_next,k_entry,p_range,rg_mp,rg_some,p_next,p_entry,en_it,en_at,en_ents,k_insert,p_insert,in_mp,ctz46,O46_20,O46_21,hHD, hHM, wks, eq_self, kill_ents, mencs_ents, ta_kill, ta_mencs, mencs_itc, kill_itc, hz6]
              exact ⟨(r + 1, M'), ⟨⟨by dsimp only; omega, hM'⟩, by dsimp only; omega⟩, rfl, wk_self _⟩
        · have hr4' : ¬ (r : Int) < 4 := by omega
          refine n_w Ct46_ok hmix (by kernel_rfl) ?_
          simp (maxSteps := 4000000) +contextual (disch := first | omega | exact qdb_ok (by kernel_rfl) | exact okb_ok (by kernel_rfl)) only [bw1,bw2,bw3,bw4,bw5,bw6,bw7,bc0,bc1,bc2,bc3,bc4,bc5,bc6,bc7,bb0,setPs,AV.owns,AV.datF,AV.frz,AV.cpy,ifV,isEqB,nilV,nilX,AV.isNilS,AV.isNoRows,wk,dclo,datOf,binIs,addF,AV.isPtr,idxV,AV.isSl,AV.isSlice,AV.rows,ps,pv,extV,extS,AV.outs,AV.outF,packD,AV.dl,fieldV,fieldS,AV.cells?,AV.upr,AV.menc,AV.one,D.one,Value.oneCell',tagOf,AV.isApp,strV,strS,bolV,bolS,slcV,AV.isSlD,asrtS,AV.dcells,D.cells?,stcV,stcS,leafOk,eqDs,eqD,packA,D.val?,↓reduceIte,reduceCtorEq,Nat.reduceAdd,Nat.reduceSub,Nat.reduceMul,List.reduceReplicate,Nat.reduceLeDiff,Nat.reduceLT,Nat.reduceBEq,Nat.reduceEqDiff,Int.reduceNeg,Int.reduceEq,Int.reduceLE,Int.reduceLT,tfb,D.flat,D.flats,av_glob,n_seq,k_range,k_next,k_entry,p_range,rg_mp,rg_some,p_next,p_entry,en_it,en_at,en_ents,k_insert,p_insert,in_mp,ctz46,O46_20,O46_21,hHD, hHM, wks, eq_self, kill_ents, mencs_ents, hTa, ta_kill, ta_mencs, hfk, hT6, List.length_map, ta_one, kill_itc, mencs_itc, hr4']
          have hM4 : MR (RN M (l.games.getD k default) (seen ++ [i]) 0 0) M3 := by
            have e : r = 4 := by omega
            rw [e] at hM3
            exact hM3.congr fun T => RN_next
          refine ⟨(seen ++ [i], M3), ⟨⟨⟨hs2, hs3⟩, hM4⟩, ?_⟩, wk_self _, wk_self _⟩
          rw [List.length_append]
          simp only [List.length_cons, List.length_nil]
          omega
    · have hfb : ((l.games.getD k default).fin != 0) = true := by simpa using hfin
      simp (maxSteps := 4000000) +contextual (disch := first | omega | exact qdb_ok (by kernel_rfl) | exact okb_ok (by kernel_rfl)) only [bw1,bw2,bw3,bw4,bw5,bw6,bw7,bc0,bc1,bc2,bc3,bc4,bc5,bc6,bc7,bb0,setPs,AV.owns,AV.datF,AV.frz,AV.cpy,ifV,isEqB,nilV,nilX,AV.isNilS,AV.isNoRows,wk,dclo,datOf,binIs,addF,AV.isPtr,idxV,AV.isSl,AV.isSlice,AV.rows,ps,pv,extV,extS,AV.outs,AV.outF,packD,AV.dl,fieldV,fieldS,AV.cells?,AV.upr,AV.menc,AV.one,D.one,Value.oneCell',tagOf,AV.isApp,strV,strS,bolV,bolS,slcV,AV.isSlD,asrtS,AV.dcells,D.cells?,stcV,stcS,leafOk,eqDs,eqD,packA,D.val?,↓reduceIte,reduceCtorEq,Nat.reduceAdd,Nat.reduceSub,Nat.reduceMul,List.reduceReplicate,Nat.reduceLeDiff,Nat.reduceLT,Nat.reduceBEq,Nat.reduceEqDiff,Int.reduceNeg,Int.reduceEq,Int.reduceLE,Int.reduceLT,tfb,D.flat,D.flats,av_glob,n_seq,k_range,k_next,k_entry,p_range,rg_mp,rg_some,p_next,p_entry,en_it,en_at,en_ents,k_insert,p_insert,in_mp,ctz46,O46_20,O46_21,hHD, hHM, wks, eq_self, hlt', hrow, hfb, List.length_map, kill_ents, mencs_ents]
      refine ⟨by omega, (k + 1, M), ⟨⟨by dsimp only; omega, hM.congr fun T => (reach_skip hfin).symm⟩, by dsimp only; omega⟩, gW.wk ?_ ?_⟩
      · simp (maxSteps := 4000000) +contextual (disch := first | omega | exact qdb_ok (by kernel_rfl) | exact okb_ok (by kernel_rfl)) only [bw1,bw2,bw3,bw4,bw5,bw6,bw7,bc0,bc1,bc2,bc3,bc4,bc5,bc6,bc7,bb0,setPs,AV.owns,AV.datF,AV.frz,AV.cpy,ifV,isEqB,nilV,nilX,AV.isNilS,AV.isNoRows,wk,dclo,datOf,binIs,addF,AV.isPtr,idxV,AV.isSl,AV.isSlice,AV.rows,ps,pv,extV,extS,AV.outs,AV.outF,packD,AV.dl,fieldV,fieldS,AV.cells?,AV.upr,AV.menc,AV.one,D.one,Value.oneCell',tagOf,AV.isApp,strV,strS,bolV,bolS,slcV,AV.isSlD,asrtS,AV.dcells,D.cells?,stcV,stcS,leafOk,eqDs,eqD,packA,D.val?,↓reduceIte,reduceCtorEq,Nat.reduceAdd,Nat.reduceSub,Nat.reduceMul,List.reduceReplicate,Nat.reduceLeDiff,Nat.reduceLT,Nat.reduceBEq,Nat.reduceEqDiff,Int.reduceNeg,Int.reduceEq,Int.reduceLE,Int.reduceLT,tfb,D.flat,D.flats,av_glob,n_seq,k_range,k_next,k_entry,p_range,rg_mp,rg_some,p_next,p_entry,en_it,en_at,en_ents,k_insert,p_insert,in_mp,ctz46,O46_20,O46_21,hHD, hHM, wks, eq_self]
      · simp (maxSteps := 4000000) +contextual (disch := first | omega | exact qdb_ok (by kernel_rfl) | exact okb_ok (by kernel_rfl)) only [bw1,bw2,bw3,bw4,bw5,bw6,bw7,bc0,bc1,bc2,bc3,bc4,bc5,bc6,bc7,bb0,setPs,AV.owns,AV.datF,AV.frz,AV.cpy,ifV,isEqB,nilV,nilX,AV.isNilS,AV.isNoRows,wk,dclo,datOf,binIs,addF,AV.isPtr,idxV,AV.isSl,AV.isSlice,AV.rows,ps,pv,extV,extS,AV.outs,AV.outF,packD,AV.dl,fieldV,fieldS,AV.cells?,AV.upr,AV.menc,AV.one,D.one,Value.oneCell',tagOf,AV.isApp,strV,strS,bolV,bolS,slcV,AV.isSlD,asrtS,AV.dcells,D.cells?,stcV,stcS,leafOk,eqDs,eqD,packA,D.val?,↓reduceIte,reduceCtorEq,Nat.reduceAdd,Nat.reduceSub,Nat.reduceMul,List.reduceReplicate,Nat.reduceLeDiff,Nat.reduceLT,Nat.reduceBEq,Nat.reduceEqDiff,Int.reduceNeg,Int.reduceEq,Int.reduceLE,Int.reduceLT,tfb,D.flat,D.flats,av_glob,n_seq,k_range,k_next,k_entry,p_range,rg_mp,rg_some,p_next,p_entry,en_it,en_at,en_ents,k_insert,p_insert,in_mp,ctz46,O46_20,O46_21,hHD, hHM, wks, eq_self, kill_ents]
  obtain rfl : k = l.games.length := by omega
  simp (maxSteps := 4000000) +contextual (disch := first | omega | exact qdb_ok (by kernel_rfl) | exact okb_ok (by kernel_rfl)) only [bw1,bw2,bw3,bw4,bw5,bw6,bw7,bc0,bc1,bc2,bc3,bc4,bc5,bc6,bc7,bb0,setPs,AV.owns,AV.datF,AV.frz,AV.cpy,ifV,isEqB,nilV,nilX,AV.isNilS,AV.isNoRows,wk,dclo,datOf,binIs,addF,AV.isPtr,idxV,AV.isSl,AV.isSlice,AV.rows,ps,pv,extV,extS,AV.outs,AV.outF,packD,AV.dl,fieldV,fieldS,AV.cells?,AV.upr,AV.menc,AV.one,D.one,Value.oneCell',tagOf,AV.isApp,strV,strS,bolV,bolS,slcV,AV.isSlD,asrtS,AV.dcells,D.cells?,stcV,stcS,leafOk,eqDs,eqD,packA,D.val?,↓reduceIte,reduceCtorEq,Nat.reduceAdd,Nat.reduceSub,Nat.reduceMul,List.reduceReplicate,Nat.reduceLeDiff,Nat.reduceLT,Nat.reduceBEq,Nat.reduceEqDiff,Int.reduceNeg,Int.reduceEq,Int.reduceLE,Int.reduceLT,tfb,D.flat,D.flats,av_glob,n_seq,k_range,k_next,k_entry,p_range,rg_mp,rg_some,p_next,p_entry,en_it,en_at,en_ents,k_insert,p_insert,in_mp,ctz46,O46_20,O46_21,hHD, hHM, wks, eq_self, Int.lt_irrefl, kill_ents, mencs_ents]
  rw [List.take_length, List.drop_length]
  exact hK M hM
def sp46 (args : List AV) (K : AV → List AV → Sto → Prop) (e : List AV) (s : Sto) : Prop :=
  ∃ l : Lea,  leaOk l = true ∧ args = [.ref 4 0] ∧ s = stL l  ∧ (∀ g, 888 ≤ g → e.map (AV.kill g) = e) ∧ (∀ g, AV.mencs g e = false) ∧ ∀ M, MR (reach l l.games.length) M → K (.mp 2000046028) e (stL l  ++ [(2000046028, ents fkT fvT M)])
theorem sp46_ok {args : List AV} {K : AV → List AV → Sto → Prop} {Q : Kt} {e : List AV} {s : Sto} (h : sp46 args K e s) : pcall Tryd.prog 46 args K Q e s := by
  obtain ⟨l,  hl, rfl, rfl, h1, h2, h3⟩ := h
  exact does46 hl h1 h2 h3
end Go.Proofs.YtmajlffglplcnaaDoor
