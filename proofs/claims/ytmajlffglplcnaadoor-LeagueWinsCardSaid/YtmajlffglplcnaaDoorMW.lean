/- A part of the proof that the last text ends: what functions of the program do, told by plain data. -/
import Derived.Test.YtmajlffglplcnaaDoorMV
set_option linter.unusedVariables false
set_option linter.unusedSimpArgs false
namespace Go.Proofs.YtmajlffglplcnaaDoor
open Go Go.E Go.Maps
set_option maxRecDepth 100000
set_option maxHeartbeats 16000000
def okT (l : Lea) (t p : Int) (T : List Int) : Bool := decide ((cnT T t (T.getD t.toNat default) l.far.length : Int) < p)
def noT (l : Lea) (t p : Int) (T : List Int) : Bool := decide (p ≤ (cnT T t (T.getD t.toNat default + 1) l.far.length : Int))
theorem cnN_congr {f g : Nat → Int} {t m : Int} {n : Nat} (h : ∀ i, i < n → f i = g i) : cnN f t m n = cnN g t m n := by
  unfold cnN
  refine List.countP_congr fun i hi => ?_
  have hi := List.mem_range.1 hi
  unfold cnB
  rw [h i hi]
theorem cnT_Tof {n : Nat} (hn : n ≤ 6) {f : Nat → Int} {t m : Int} : cnT (Tof n f) t m n = cnN f t m n := cnN_congr fun i hi => by rw [Tof_at (by omega), if_pos hi]
theorem okT_at {l : Lea} (hl : leaOk l = true) {t p : Int} (ht : 0 ≤ t ∧ t < l.far.length) {es : List Int} : okT l t p (Tof l.far.length (ptsF (ocL l es).games)) = decide (saF (ocL l es) t < p) := by
  have h6 := lea_fars hl
  unfold okT saF
  rw [Tof_at (by omega), if_pos (by omega), cnT_Tof h6]
  unfold ptsF
  rw [show ((t.toNat : Nat) : Int) = t by omega]; rfl
theorem noT_at {l : Lea} (hl : leaOk l = true) {t p : Int} (ht : 0 ≤ t ∧ t < l.far.length) {es : List Int} : noT l t p (Tof l.far.length (ptsF (ocL l es).games)) = decide (p ≤ moF (ocL l es) t) := by
  have h6 := lea_fars hl
  unfold noT moF
  rw [Tof_at (by omega), if_pos (by omega), cnT_Tof h6]
  unfold ptsF
  rw [show ((t.toNat : Nat) : Int) = t by omega]; rfl
theorem all_reach {l : Lea} (hl : leaOk l = true) {M : List (List Int × Bool)} (hM : MR (reach l l.games.length) M) {x : List Nat} (hx : ∀ i ∈ x, i < M.length) (ha : ∀ i, i < M.length → i ∈ x) {f : List Int → Bool} {g : List Int → Bool} (hfg : ∀ es, f (Tof l.far.length (ptsF (ocL l es).games)) = g es) : (x.all fun i => f (M.getD i default).1) = (outO l).all g := by
  rw [Bool.eq_iff_iff, List.all_eq_true, List.all_eq_true]
  constructor
  · intro h es he
    obtain ⟨v, hv⟩ := (hM.2 _).2 ((reach_law hl).2 ⟨es, he, rfl⟩)
    obtain ⟨i, hi, e⟩ := List.getElem_of_mem hv
    have := h i (ha i hi)
    rw [at_lt hi, e, hfg] at this
    exact this
  · intro h i hi
    obtain ⟨es, he, e⟩ := (reach_law hl).1 (hM.at (hx i hi))
    rw [e, hfg]
    exact h es he
theorem isN_all {l : Lea} (hl : leaOk l = true) {t p : Int} (ht : 0 ≤ t ∧ t < l.far.length) {M : List (List Int × Bool)} (hM : MR (reach l l.games.length) M) {x : List Nat} (hx : ∀ i ∈ x, i < M.length) (ha : ∀ i, i < M.length → i ∈ x) : (x.all fun i => okT l t p (M.getD i default).1) = isN l t p (outO l) (outO l).length := by
  unfold isN
  rw [List.take_length]
  exact all_reach hl hM hx ha (f := okT l t p) fun es => okT_at hl ht
theorem ntN_all {l : Lea} (hl : leaOk l = true) {t p : Int} (ht : 0 ≤ t ∧ t < l.far.length) {M : List (List Int × Bool)} (hM : MR (reach l l.games.length) M) {x : List Nat} (hx : ∀ i ∈ x, i < M.length) (ha : ∀ i, i < M.length → i ∈ x) : (x.all fun i => noT l t p (M.getD i default).1) = ntN l t p (outO l) (outO l).length := by
  unfold ntN
  rw [List.take_length]
  exact all_reach hl hM hx ha (f := noT l t p) fun es => noT_at hl ht
def O18 : Nat → Sch := fun id => if id = 8 then .one 0 (.one 1 (.one 2 (.one 3 (.one 4 (.one 5 (.one 6 (.one 7 (.one 8 (.one 9 (.one 11 (.one 10 (.one 12 (.one 13 (.one 14 (.done))))))))))))))) else if id = 9 then .one 0 (.one 1 (.one 2 (.one 3 (.one 4 (.one 5 (.one 6 (.one 7 (.one 8 (.one 9 (.one 10 (.one 12 (.one 11 (.one 13 (.one 14 (.one 15 (.done)))))))))))))))) else .done
theorem O18_8 : O18 8 = .one 0 (.one 1 (.one 2 (.one 3 (.one 4 (.one 5 (.one 6 (.one 7 (.one 8 (.one 9 (.one 11 (.one 10 (.one 12 (.one 13 (.one 14 (.done))))))))))))))) := rfl
theorem O18_9 : O18 9 = .one 0 (.one 1 (.one 2 (.one 3 (.one 4 (.one 5 (.one 6 (.one 7 (.one 8 (.one 9 (.one 10 (.one 12 (.one 11 (.one 13 (.one 14 (.one 15 (.done)))))))))))))))) := rfl
theorem ho18 : Tryd.f18.body.map (okO O18) = some true := by kernel_rfl
def Cf18 : Nat → List AV → (AV → List AV → Sto → Prop) → Kt → List AV → Sto → Prop := fun f args K Q e s => match f with
  | 45 => ent45 (AV.outs s args) K (mk _) e s
  | 46 => sp46 args K e s
  | 47 => ent47 args K e s
  | _ => False
def Ct18 : CT := { f := Cf18, y := noYld, z := fun d => false }
theorem ctz18 {d : Nat} : CT.z Ct18 d = (false) := id rfl
theorem Ct18_ok : Ct18.ok Tryd.prog := ok_of_f (fun f args K Q e s h => by
  have h : Cf18 f args K Q e s := h
  unfold Cf18 at h; split at h
  · exact ent45_ok h
  · exact sp46_ok h
  · exact ent47_ok h
  · exact h.elim) (fun _ _ _ _ _ _ _ _ _ h => h)
theorem x18_45 {args : List AV} {KK : AV → List AV → Sto → Prop} {QQ : Kt} {ii : At KK} {jj : At QQ} {ee : List AV} {ss : Sto} : xC Ct18 45 args KK QQ ii jj ee ss = ent45 (AV.outs ss args) KK (mk _) ee ss := id rfl
theorem x18_47 {T : List Int} {t : Int} {n : Nat} {m : Int} {KK : AV → List AV → Sto → Prop} {QQ : Kt} {ii : At KK} {jj : At QQ} {ee : List AV} {ss : Sto} : xC Ct18 47 [.d (.agg (tv T)), .d (.i t), .d (.i (n : Int)), .d (.i m)] KK QQ ii jj ee ss = ((T.length = 6 ∧ n ≤ 6) ∧ KK (.d (.i (cnT T t m n : Int))) ee ss) := eq47
theorem c18 : callable Tryd.prog 18 = true := by kernel_rfl
theorem pf18 (l : Lea) (t p : Int) (hfar : l.far.length ≤ 1000) : PFG Tryd.prog 18 0 gpt [.agg l.c, .i t, .i p] (fun zz => zz = .ret (.tup [.b (clR l t p).1, .b (clR l t p).2.1, .i (clR l t p).2.2])) := by
  unfold clR
  have hx46 : ∀ {args : List AV} {KK : AV → List AV → Sto → Prop} {QQ : Kt} {ii : At KK} {jj : At QQ} {ee : List AV} {ss : Sto}, xC Ct18 46 args KK QQ ii jj ee ss = sp46 args KK ee ss := id rfl
  by_cases c0 : errR l t p = 0
  case neg =>
    have c0b : (errR l t p != 0) = true := by simpa using c0
    rw [if_neg c0]
    refine PFG_nil (PFG_start (O := O18) Ct18_ok hmix ho18 Tryd.func18 c18 rfl Tryd.ntmps18 Tryd.results18 ?_)
    simp (maxSteps := 4000000) +contextual (disch := first | omega | exact qdb_ok (by kernel_rfl) | exact okb_ok (by kernel_rfl)) only [bw1,bw2,bw3,bw4,bw5,bw6,bw7,bc0,bc1,bc2,bc3,bc4,bc5,bc6,bc7,bb0,setPs,AV.owns,AV.datF,AV.frz,AV.cpy,ifV,isEqB,nilV,nilX,AV.isNilS,AV.isNoRows,wk,dclo,datOf,binIs,addF,AV.isPtr,idxV,AV.isSl,AV.isSlice,AV.rows,ps,pv,extV,extS,AV.outs,AV.outF,packD,AV.dl,fieldV,fieldS,AV.cells?,AV.upr,AV.menc,AV.one,D.one,Value.oneCell',tagOf,AV.isApp,strV,strS,bolV,bolS,slcV,AV.isSlD,asrtS,AV.dcells,D.cells?,stcV,stcS,leafOk,eqDs,eqD,packA,D.val?,↓reduceIte,reduceCtorEq,Nat.reduceAdd,Nat.reduceSub,Nat.reduceMul,List.reduceReplicate,Nat.reduceLeDiff,Nat.reduceLT,Nat.reduceBEq,Nat.reduceEqDiff,Int.reduceNeg,Int.reduceEq,Int.reduceLE,Int.reduceLT,tfb,D.flat,D.flats,av_glob,n_seq,k_range,k_next,k_entry,p_range,rg_mp,rg_some,p_next,p_entry,en_it,en_at,en_ents,k_insert,p_insert,in_mp,ctz18,O18_8,O18_9,x18_45,eq45,x18_47,c0b, hfar]
  have c0b : (errR l t p != 0) = false := by simpa using c0
  rw [if_pos c0]
  obtain ⟨hl, ht, hp⟩ := err_ok c0
  have h6 := lea_fars hl
  have h64 := lea_games hl
  have hg := lea_gs hl
  refine PFG_nil (PFG_start (O := O18) Ct18_ok hmix ho18 Tryd.func18 c18 rfl Tryd.ntmps18 Tryd.results18 ?_)
  simp (maxSteps := 4000000) +contextual (disch := first | omega | exact qdb_ok (by kernel_rfl) | exact okb_ok (by kernel_rfl)) only [bw1,bw2,bw3,bw4,bw5,bw6,bw7,bc0,bc1,bc2,bc3,bc4,bc5,bc6,bc7,bb0,setPs,AV.owns,AV.datF,AV.frz,AV.cpy,ifV,isEqB,nilV,nilX,AV.isNilS,AV.isNoRows,wk,dclo,datOf,binIs,addF,AV.isPtr,idxV,AV.isSl,AV.isSlice,AV.rows,ps,pv,extV,extS,AV.outs,AV.outF,packD,AV.dl,fieldV,fieldS,AV.cells?,AV.upr,AV.menc,AV.one,D.one,Value.oneCell',tagOf,AV.isApp,strV,strS,bolV,bolS,slcV,AV.isSlD,asrtS,AV.dcells,D.cells?,stcV,stcS,leafOk,eqDs,eqD,packA,D.val?,↓reduceIte,reduceCtorEq,Nat.reduceAdd,Nat.reduceSub,Nat.reduceMul,List.reduceReplicate,Nat.reduceLeDiff,Nat.reduceLT,Nat.reduceBEq,Nat.reduceEqDiff,Int.reduceNeg,Int.reduceEq,Int.reduceLE,Int.reduceLT,tfb,D.flat,D.flats,av_glob,n_seq,k_range,k_next,k_entry,p_range,rg_mp,rg_some,p_next,p_entry,en_it,en_at,en_ents,k_insert,p_insert,in_mp,ctz18,O18_8,O18_9,x18_45,eq45,x18_47,c0b, hfar, hx46]
  refine ⟨l, hl, rfl, rfl, ?_, ?_, fun M hM => ?_⟩
  · intro g hg
    simp [AV.kill, AV.men, show ¬ 4 = g by omega]
  · intro g
    simp [AV.mencs, AV.menc]
  simp (maxSteps := 4000000) +contextual (disch := first | omega | exact qdb_ok (by kernel_rfl) | exact okb_ok (by kernel_rfl)) only [bw1,bw2,bw3,bw4,bw5,bw6,bw7,bc0,bc1,bc2,bc3,bc4,bc5,bc6,bc7,bb0,setPs,AV.owns,AV.datF,AV.frz,AV.cpy,ifV,isEqB,nilV,nilX,AV.isNilS,AV.isNoRows,wk,dclo,datOf,binIs,addF,AV.isPtr,idxV,AV.isSl,AV.isSlice,AV.rows,ps,pv,extV,extS,AV.outs,AV.outF,packD,AV.dl,fieldV,fieldS,AV.cells?,AV.upr,AV.menc,AV.one,D.one,Value.oneCell',tagOf,AV.isApp,strV,strS,bolV,bolS,slcV,AV.isSlD,asrtS,AV.dcells,D.cells?,stcV,stcS,leafOk,eqDs,eqD,packA,D.val?,↓reduceIte,reduceCtorEq,Nat.reduceAdd,Nat.reduceSub,Nat.reduceMul,List.reduceReplicate,Nat.reduceLeDiff,Nat.reduceLT,Nat.reduceBEq,Nat.reduceEqDiff,Int.reduceNeg,Int.reduceEq,Int.reduceLE,Int.reduceLT,tfb,D.flat,D.flats,av_glob,n_seq,k_range,k_next,k_entry,p_range,rg_mp,rg_some,p_next,p_entry,en_it,en_at,en_ents,k_insert,p_insert,in_mp,ctz18,O18_8,O18_9,x18_45,eq45,x18_47,kill_ents, mencs_ents, pairs_ents_eq, ents_len]
  refine loop_xu (O := O18) (tb := 0) Ct18_ok hmix (by kernel_rfl) (σ := List Nat) (fun x => [(6, .b (x.all fun i => okT l t p (M.getD i default).1)), (7, .b (x.all fun i => noT l t p (M.getD i default).1)), (10, .any)]) (fun x => [(2000000018, itc 2000046028 M.length x)]) (fun x => x.Nodup ∧ ∀ i ∈ x, i < M.length) (fun x => M.length - x.length) [] ⟨by simp, by simp⟩ ?_ ?_
  · have z6 : ([].all fun i => okT l t p (M.getD i default).1) = true := rfl
    have z7 : ([].all fun i => noT l t p (M.getD i default).1) = true := rfl
    simp (maxSteps := 4000000) +contextual (disch := first | omega | exact qdb_ok (by kernel_rfl) | exact okb_ok (by kernel_rfl)) only [bw1,bw2,bw3,bw4,bw5,bw6,bw7,bc0,bc1,bc2,bc3,bc4,bc5,bc6,bc7,bb0,setPs,AV.owns,AV.datF,AV.frz,AV.cpy,ifV,isEqB,nilV,nilX,AV.isNilS,AV.isNoRows,wk,dclo,datOf,binIs,addF,AV.isPtr,idxV,AV.isSl,AV.isSlice,AV.rows,ps,pv,extV,extS,AV.outs,AV.outF,packD,AV.dl,fieldV,fieldS,AV.cells?,AV.upr,AV.menc,AV.one,D.one,Value.oneCell',tagOf,AV.isApp,strV,strS,bolV,bolS,slcV,AV.isSlD,asrtS,AV.dcells,D.cells?,stcV,stcS,leafOk,eqDs,eqD,packA,D.val?,↓reduceIte,reduceCtorEq,Nat.reduceAdd,Nat.reduceSub,Nat.reduceMul,List.reduceReplicate,Nat.reduceLeDiff,Nat.reduceLT,Nat.reduceBEq,Nat.reduceEqDiff,Int.reduceNeg,Int.reduceEq,Int.reduceLE,Int.reduceLT,tfb,D.flat,D.flats,av_glob,n_seq,k_range,k_next,k_entry,p_range,rg_mp,rg_some,p_next,p_entry,en_it,en_at,en_ents,k_insert,p_insert,in_mp,ctz18,O18_8,O18_9,x18_45,eq45,x18_47,eq_self, kill_ents, mencs_ents, wks, z6, z7]
  rintro x ⟨hn1, hn2⟩
  simp (maxSteps := 4000000) +contextual (disch := first | omega | exact qdb_ok (by kernel_rfl) | exact okb_ok (by kernel_rfl)) only [bw1,bw2,bw3,bw4,bw5,bw6,bw7,bc0,bc1,bc2,bc3,bc4,bc5,bc6,bc7,bb0,setPs,AV.owns,AV.datF,AV.frz,AV.cpy,ifV,isEqB,nilV,nilX,AV.isNilS,AV.isNoRows,wk,dclo,datOf,binIs,addF,AV.isPtr,idxV,AV.isSl,AV.isSlice,AV.rows,ps,pv,extV,extS,AV.outs,AV.outF,packD,AV.dl,fieldV,fieldS,AV.cells?,AV.upr,AV.menc,AV.one,D.one,Value.oneCell',tagOf,AV.isApp,strV,strS,bolV,bolS,slcV,AV.isSlD,asrtS,AV.dcells,D.cells?,stcV,stcS,leafOk,eqDs,eqD,packA,D.val?,↓reduceIte,reduceCtorEq,Nat.reduceAdd,Nat.reduceSub,Nat.reduceMul,List.reduceReplicate,Nat.reduceLeDiff,Nat.reduceLT,Nat.reduceBEq,Nat.reduceEqDiff,Int.reduceNeg,Int.reduceEq,Int.reduceLE,Int.reduceLT,tfb,D.flat,D.flats,av_glob,n_seq,k_range,k_next,k_entry,p_range,rg_mp,rg_some,p_next,p_entry,en_it,en_at,en_ents,k_insert,p_insert,in_mp,ctz18,O18_8,O18_9,x18_45,eq45,x18_47,eq_self, kill_ents, mencs_ents]
  refine nx_ents (fk := fkT) (fv := fvT) (M := M) (G := 2000046028) (h := 2000000018) (n := M.length) (seen := x) rfl rfl rfl ?_ ?_ ?_
  · simp [AV.mencs, AV.menc, Sto.mencs, mencs_ents, itc]
  · intro hall
    have e6 := isN_all hl ht hM hn2 hall (p := p)
    have e7 := ntN_all hl ht hM hn2 hall (p := p)
    simp (maxSteps := 4000000) +contextual (disch := first | omega | exact qdb_ok (by kernel_rfl) | exact okb_ok (by kernel_rfl)) only [bw1,bw2,bw3,bw4,bw5,bw6,bw7,bc0,bc1,bc2,bc3,bc4,bc5,bc6,bc7,bb0,setPs,AV.owns,AV.datF,AV.frz,AV.cpy,ifV,isEqB,nilV,nilX,AV.isNilS,AV.isNoRows,wk,dclo,datOf,binIs,addF,AV.isPtr,idxV,AV.isSl,AV.isSlice,AV.rows,ps,pv,extV,extS,AV.outs,AV.outF,packD,AV.dl,fieldV,fieldS,AV.cells?,AV.upr,AV.menc,AV.one,D.one,Value.oneCell',tagOf,AV.isApp,strV,strS,bolV,bolS,slcV,AV.isSlD,asrtS,AV.dcells,D.cells?,stcV,stcS,leafOk,eqDs,eqD,packA,D.val?,↓reduceIte,reduceCtorEq,Nat.reduceAdd,Nat.reduceSub,Nat.reduceMul,List.reduceReplicate,Nat.reduceLeDiff,Nat.reduceLT,Nat.reduceBEq,Nat.reduceEqDiff,Int.reduceNeg,Int.reduceEq,Int.reduceLE,Int.reduceLT,tfb,D.flat,D.flats,av_glob,n_seq,k_range,k_next,k_entry,p_range,rg_mp,rg_some,p_next,p_entry,en_it,en_at,en_ents,k_insert,p_insert,in_mp,ctz18,O18_8,O18_9,x18_45,eq45,x18_47,eq_self, kill_ents, mencs_ents, e6, e7]
  · intro i hi hs
    have hT6 : (M.getD i default).1.length = 6 := (reach_b hl _ (Nat.le_refl _) _ (hM.at hi)).1
    have hTa : (ta (M.getD i default).1).length = 6 := by rw [ta_len, hT6]
    have hfk : fkT (M.getD i default).1 = .agg (tv (M.getD i default).1) := rfl
    have hdl := dl_ta (T := (M.getD i default).1) hT6
    have hz6 := setR_zs (T := (M.getD i default).1) hT6
    have hSL := seen_lt hn1 hn2 hi hs
    have hb := (reach_b hl _ (Nat.le_refl _) _ (hM.at hi)).2 t.toNat (by omega)
    have hget : (ta (M.getD i default).1).getD t.toNat .any = .i ((M.getD i default).1.getD t.toNat default) := ta_get (by omega)
    have hp47 : (M.getD i default).1.length = 6 ∧ l.far.length ≤ 6 := ⟨hT6, h6⟩
    have hok : okT l t p (M.getD i default).1 = decide ((cnT (M.getD i default).1 t ((M.getD i default).1.getD t.toNat default) l.far.length : Int) < p) := rfl
    have hno : noT l t p (M.getD i default).1 = decide (p ≤ (cnT (M.getD i default).1 t ((M.getD i default).1.getD t.toNat default + 1) l.far.length : Int)) := rfl
    have a6 : ((x ++ [i]).all fun i => okT l t p (M.getD i default).1) = ((x.all fun i => okT l t p (M.getD i default).1) && okT l t p (M.getD i default).1) := by rw [List.all_append]; simp
    have a7 : ((x ++ [i]).all fun i => noT l t p (M.getD i default).1) = ((x.all fun i => noT l t p (M.getD i default).1) && noT l t p (M.getD i default).1) := by rw [List.all_append]; simp
    have hlen : M.length - (x ++ [i]).length < M.length - x.length := by
      rw [List.length_append]
      simp only [List.length_cons, List.length_nil]
      omega
    have ht6 : t < 0 + 1 + 1 + 1 + 1 + 1 + 1 := by omega
    have ht5 : t.toNat ≤ 5 := by omega
    cases b6 : x.all fun i => okT l t p (M.getD i default).1 <;> cases b7 : x.all fun i => noT l t p (M.getD i default).1
    all_goals
      simp (maxSteps := 4000000) +contextual (disch := first | omega | exact qdb_ok (by kernel_rfl) | exact okb_ok (by kernel_rfl)) only [bw1,bw2,bw3,bw4,bw5,bw6,bw7,bc0,bc1,bc2,bc3,bc4,bc5,bc6,bc7,bb0,setPs,AV.owns,AV.datF,AV.frz,AV.cpy,ifV,isEqB,nilV,nilX,AV.isNilS,AV.isNoRows,wk,dclo,datOf,binIs,addF,AV.isPtr,idxV,AV.isSl,AV.isSlice,AV.rows,ps,pv,extV,extS,AV.outs,AV.outF,packD,AV.dl,fieldV,fieldS,AV.cells?,AV.upr,AV.menc,AV.one,D.one,Value.oneCell',tagOf,AV.isApp,strV,strS,bolV,bolS,slcV,AV.isSlD,asrtS,AV.dcells,D.cells?,stcV,stcS,leafOk,eqDs,eqD,packA,D.val?,↓reduceIte,reduceCtorEq,Nat.reduceAdd,Nat.reduceSub,Nat.reduceMul,List.reduceReplicate,Nat.reduceLeDiff,Nat.reduceLT,Nat.reduceBEq,Nat.reduceEqDiff,Int.reduceNeg,Int.reduceEq,Int.reduceLE,Int.reduceLT,tfb,D.flat,D.flats,av_glob,n_seq,k_range,k_next,k_entry,p_range,rg_mp,rg_some,p_next,p_entry,en_it,en_at,en_ents,k_insert,p_insert,in_mp,ctz18,O18_8,O18_9,x18_45,eq45,x18_47,eq_self, kill_ents, mencs_ents, hTa, ta_kill, ta_mencs, hfk, hT6, List.length_map, ta_one, kill_itc, mencs_itc, hdl, hz6, wks, b6, b7, hget, hp47, Nat.mul_one, h6, ht, ht6, ht5]
      refine ⟨hi, x ++ [i], ⟨⟨hSL.2.1, hSL.2.2⟩, hlen⟩, ⟨?_, ?_⟩, wk_self _⟩
      · rw [a6, b6] <;> rfl
      · rw [a7, b7] <;> rfl
end Go.Proofs.YtmajlffglplcnaaDoor
