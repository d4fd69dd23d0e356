/- A part of the proof that the last text ends: what functions of the program do, told by plain data. -/
import Derived.Test.YtmajlffglplcnaaDoorMI
set_option linter.unusedVariables false
set_option linter.unusedSimpArgs false
namespace Go.Proofs.YtmajlffglplcnaaDoor
open Go Go.E
set_option maxRecDepth 100000
set_option maxHeartbeats 16000000
def ocX (g : Gam) (e : Int) : Gam := { g with fin := 1 + e % 2, hg := 1 - e / 2, ag := e / 2 }
def ocA (l : List Gam) (es : List Int) (i : Nat) : Gam := if (l.getD i default).fin = 0 ∧ openN l i < es.length then ocX (l.getD i default) (es.getD (openN l i) default) else l.getD i default
def ocK (l : List Gam) (es : List Int) (k : Nat) : List Gam := (List.range l.length).map fun j => if j < k then ocA l es j else l.getD j default
def ocG (l : List Gam) (es : List Int) : List Gam := ocK l es l.length
def ocL (l : Lea) (es : List Int) : Lea := ⟨l.far, ocG l.games es⟩
theorem ocK_len {l : List Gam} {es : List Int} {k : Nat} : (ocK l es k).length = l.length := by simp [ocK]
theorem ocK_at {l : List Gam} {es : List Int} {k j : Nat} (h : j < l.length) : (ocK l es k).getD j default = if j < k then ocA l es j else l.getD j default := by
  rw [at_lt (by rw [ocK_len]; exact h)]; simp [ocK]
theorem ocK_zero {l : List Gam} {es : List Int} : ocK l es 0 = l := by
  apply List.ext_getElem (by rw [ocK_len])
  intro i h1 h2
  have := ocK_at (l := l) (es := es) (k := 0) h2
  rw [at_lt h1, at_lt h2] at this
  simpa using this
theorem ocK_succ {l : List Gam} {es : List Int} {k : Nat} (h : k < l.length) : ocK l es (k + 1) = (ocK l es k).set k (ocA l es k) := by
  apply List.ext_getElem (by rw [List.length_set, ocK_len, ocK_len])
  intro i h1 h2
  have hi : i < l.length := by rw [ocK_len] at h1; exact h1
  have e1 := ocK_at (es := es) (k := k + 1) hi
  have e2 := ocK_at (es := es) (k := k) hi
  rw [at_lt h1] at e1
  rw [at_lt (by rw [ocK_len]; exact hi)] at e2
  rw [e1, List.getElem_set]
  by_cases c : k = i
  · subst c; rw [if_pos (by omega), if_pos rfl]
  · rw [if_neg c, e2]
    by_cases c2 : i < k
    · rw [if_pos c2, if_pos (by omega)]
    · rw [if_neg c2, if_neg (by omega)]
theorem openN_mono {l : List Gam} {i : Nat} : ∀ {j : Nat}, i ≤ j → j ≤ l.length → openN l i ≤ openN l j := fun {j} h1 _ => by
  unfold openN
  rw [show j = i + (j - i) by omega, List.take_add, List.countP_append]
  omega
theorem ocK_rest {l : List Gam} {es : List Int} {k : Nat} (hk : k ≤ l.length) (h : es.length ≤ openN l k) : ocK l es k = ocG l es := by
  unfold ocG
  apply List.ext_getElem (by rw [ocK_len, ocK_len])
  intro i h1 h2
  have hi : i < l.length := by rw [ocK_len] at h1; exact h1
  have e1 := ocK_at (es := es) (k := k) hi
  have e2 := ocK_at (es := es) (k := l.length) hi
  rw [at_lt h1] at e1
  rw [at_lt h2] at e2
  rw [e1, e2, if_pos hi]
  by_cases c : i < k
  · rw [if_pos c]
  · rw [if_neg c]
    unfold ocA
    rw [if_neg]
    intro h2
    have := openN_mono (l := l) (i := k) (j := i) (by omega) (by omega)
    omega
def O23 : Nat → Sch := fun id => if id = 8 then .one 0 (.one 1 (.one 2 (.one 3 (.one 4 (.one 5 (.one 6 (.one 7 (.one 8 (.one 9 (.one 10 (.one 11 (.done)))))))))))) else if id = 9 then .one 0 (.one 1 (.one 2 (.one 3 (.one 4 (.one 5 (.one 6 (.one 7 (.one 8 (.one 9 (.one 10 (.one 11 (.done)))))))))))) else if id = 10 then .one 0 (.one 1 (.one 2 (.one 3 (.one 4 (.one 5 (.one 6 (.one 7 (.one 8 (.one 9 (.one 10 (.done))))))))))) else .done
theorem O23_8 : O23 8 = .one 0 (.one 1 (.one 2 (.one 3 (.one 4 (.one 5 (.one 6 (.one 7 (.one 8 (.one 9 (.one 10 (.one 11 (.done)))))))))))) := rfl
theorem O23_9 : O23 9 = .one 0 (.one 1 (.one 2 (.one 3 (.one 4 (.one 5 (.one 6 (.one 7 (.one 8 (.one 9 (.one 10 (.one 11 (.done)))))))))))) := rfl
theorem O23_10 : O23 10 = .one 0 (.one 1 (.one 2 (.one 3 (.one 4 (.one 5 (.one 6 (.one 7 (.one 8 (.one 9 (.one 10 (.done))))))))))) := rfl
theorem ho23 : Tryd.f23.body.map (okO O23) = some true := by kernel_rfl
def Cf23 : Nat → List AV → (AV → List AV → Sto → Prop) → Kt → List AV → Sto → Prop := fun f args K Q e s => match f with
  | _ => False
def Ct23 : CT := { f := Cf23, y := noYld, z := fun d => false }
theorem ctz23 {d : Nat} : CT.z Ct23 d = (false) := id rfl
theorem Ct23_ok : Ct23.ok Tryd.prog := ok_of_f (fun f args K Q e s h => by
  have h : Cf23 f args K Q e s := h
  unfold Cf23 at h; split at h
  · exact h.elim) (fun _ _ _ _ _ _ _ _ _ h => h)
theorem c23 : callable Tryd.prog 23 = true := by kernel_rfl
theorem pf23 (l : Lea) (es : List Int) (h : l.games.length ≤ 1000 ∧ ∀ e ∈ es, 0 ≤ e ∧ e ≤ 3) : PF Tryd.prog 23 [.agg l.c, .sl 1 (es.map ic)] (fun zz => zz = .ret (.agg (ocL l es).c)) := by
  obtain ⟨hlen, hes⟩ := h
  have hz : ocK l.games es 0 = l.games := ocK_zero
  have hze : (openN l.games 0 : Int) = 0 := rfl
  refine PF_nil (PF_start (O := O23) Ct23_ok hmix ho23 Tryd.func23 c23 rfl Tryd.ntmps23 Tryd.results23 ?_)
  simp (maxSteps := 4000000) +contextual (disch := first | omega | exact qdb_ok (by kernel_rfl) | exact okb_ok (by kernel_rfl)) only [bw1,bw2,bw3,bw4,bw5,bw6,bw7,bc0,bc1,bc2,bc3,bc4,bc5,bc6,bc7,bb0,setPs,AV.owns,AV.datF,AV.frz,AV.cpy,ifV,isEqB,nilV,nilX,AV.isNilS,AV.isNoRows,wk,dclo,datOf,binIs,addF,AV.isPtr,idxV,AV.isSl,AV.isSlice,AV.rows,ps,pv,extV,extS,AV.outs,AV.outF,packD,AV.dl,fieldV,fieldS,AV.cells?,AV.upr,AV.menc,AV.one,D.one,Value.oneCell',tagOf,AV.isApp,strV,strS,bolV,bolS,slcV,AV.isSlD,asrtS,AV.dcells,D.cells?,stcV,stcS,leafOk,eqDs,eqD,packA,D.val?,↓reduceIte,reduceCtorEq,Nat.reduceAdd,Nat.reduceSub,Nat.reduceMul,List.reduceReplicate,Nat.reduceLeDiff,Nat.reduceLT,Nat.reduceBEq,Nat.reduceEqDiff,Int.reduceNeg,Int.reduceEq,Int.reduceLE,Int.reduceLT,tfb,ctz23,O23_8,O23_9,O23_10]
  refine ⟨by omega, by omega, ?_⟩
  refine loop_xu (O := O23) (tb := 0) Ct23_ok hmix (by kernel_rfl) (σ := Nat) (fun k => [(6, .i (openN l.games k : Int)), (7, .i k), (9, .any), (12, .any), (8, .any)]) (fun k => [(6, [.d (.sl 1 (l.far.map pc)), .own 10 53 6 ((ocK l.games es k).map Gam.c)])]) (fun k => k ≤ l.games.length ∧ openN l.games k ≤ es.length) (fun k => l.games.length - k) 0 ⟨Nat.zero_le _, Nat.zero_le _⟩ ?_ ?_
  · simp (maxSteps := 4000000) +contextual (disch := first | omega | exact qdb_ok (by kernel_rfl) | exact okb_ok (by kernel_rfl)) only [bw1,bw2,bw3,bw4,bw5,bw6,bw7,bc0,bc1,bc2,bc3,bc4,bc5,bc6,bc7,bb0,setPs,AV.owns,AV.datF,AV.frz,AV.cpy,ifV,isEqB,nilV,nilX,AV.isNilS,AV.isNoRows,wk,dclo,datOf,binIs,addF,AV.isPtr,idxV,AV.isSl,AV.isSlice,AV.rows,ps,pv,extV,extS,AV.outs,AV.outF,packD,AV.dl,fieldV,fieldS,AV.cells?,AV.upr,AV.menc,AV.one,D.one,Value.oneCell',tagOf,AV.isApp,strV,strS,bolV,bolS,slcV,AV.isSlD,asrtS,AV.dcells,D.cells?,stcV,stcS,leafOk,eqDs,eqD,packA,D.val?,↓reduceIte,reduceCtorEq,Nat.reduceAdd,Nat.reduceSub,Nat.reduceMul,List.reduceReplicate,Nat.reduceLeDiff,Nat.reduceLT,Nat.reduceBEq,Nat.reduceEqDiff,Int.reduceNeg,Int.reduceEq,Int.reduceLE,Int.reduceLT,tfb,ctz23,O23_8,O23_9,O23_10,eq_self, hz, hze]
    trace_state
  rintro k ⟨hk, hko⟩
  have hkl := ocK_len (l := l.games) (es := es) (k := k)
  have hon := openN_le (l := l.games) (j := k)
  by_cases hlt : k < l.games.length
  case neg =>
    obtain rfl : k = l.games.length := by omega
    simp (maxSteps := 4000000) +contextual (disch := first | omega | exact qdb_ok (by kernel_rfl) | exact okb_ok (by kernel_rfl)) only [bw1,bw2,bw3,bw4,bw5,bw6,bw7,bc0,bc1,bc2,bc3,bc4,bc5,bc6,bc7,bb0,setPs,AV.owns,AV.datF,AV.frz,AV.cpy,ifV,isEqB,nilV,nilX,AV.isNilS,AV.isNoRows,wk,dclo,datOf,binIs,addF,AV.isPtr,idxV,AV.isSl,AV.isSlice,AV.rows,ps,pv,extV,extS,AV.outs,AV.outF,packD,AV.dl,fieldV,fieldS,AV.cells?,AV.upr,AV.menc,AV.one,D.one,Value.oneCell',tagOf,AV.isApp,strV,strS,bolV,bolS,slcV,AV.isSlD,asrtS,AV.dcells,D.cells?,stcV,stcS,leafOk,eqDs,eqD,packA,D.val?,↓reduceIte,reduceCtorEq,Nat.reduceAdd,Nat.reduceSub,Nat.reduceMul,List.reduceReplicate,Nat.reduceLeDiff,Nat.reduceLT,Nat.reduceBEq,Nat.reduceEqDiff,Int.reduceNeg,Int.reduceEq,Int.reduceLE,Int.reduceLT,tfb,ctz23,O23_8,O23_9,O23_10,eq_self, Int.lt_irrefl, hkl]
    exact ⟨rfl, rfl⟩
  have hlt' : (k : Int) < l.games.length := by omega
  by_cases hn : openN l.games k < es.length
  case neg =>
    have hn' : ¬ (openN l.games k : Int) < es.length := by omega
    have hrest := ocK_rest hk (show es.length ≤ openN l.games k by omega)
    simp (maxSteps := 4000000) +contextual (disch := first | omega | exact qdb_ok (by kernel_rfl) | exact okb_ok (by kernel_rfl)) only [bw1,bw2,bw3,bw4,bw5,bw6,bw7,bc0,bc1,bc2,bc3,bc4,bc5,bc6,bc7,bb0,setPs,AV.owns,AV.datF,AV.frz,AV.cpy,ifV,isEqB,nilV,nilX,AV.isNilS,AV.isNoRows,wk,dclo,datOf,binIs,addF,AV.isPtr,idxV,AV.isSl,AV.isSlice,AV.rows,ps,pv,extV,extS,AV.outs,AV.outF,packD,AV.dl,fieldV,fieldS,AV.cells?,AV.upr,AV.menc,AV.one,D.one,Value.oneCell',tagOf,AV.isApp,strV,strS,bolV,bolS,slcV,AV.isSlD,asrtS,AV.dcells,D.cells?,stcV,stcS,leafOk,eqDs,eqD,packA,D.val?,↓reduceIte,reduceCtorEq,Nat.reduceAdd,Nat.reduceSub,Nat.reduceMul,List.reduceReplicate,Nat.reduceLeDiff,Nat.reduceLT,Nat.reduceBEq,Nat.reduceEqDiff,Int.reduceNeg,Int.reduceEq,Int.reduceLE,Int.reduceLT,tfb,ctz23,O23_8,O23_9,O23_10,eq_self, hlt', hkl, hn']
    exact ⟨rfl, by rw [hrest]; rfl⟩
  have hn' : (openN l.games k : Int) < es.length := by omega
  have hat := ocK_at (es := es) (k := k) hlt
  rw [if_neg (Nat.lt_irrefl k)] at hat
  have r1 : ((ocK l.games es k).map Gam.c).getD k [] = (l.games.getD k default).c := by rw [Go.E.row_at (by omega), hat]
  have hs := ocK_succ (es := es) hlt
  by_cases d1 : (l.games.getD k default).fin = 0
  · have d1b : ((l.games.getD k default).fin != 0) = false := by simpa using d1
    have hse := openN_yes hlt d1
    have hb := hes (es.getD (openN l.games k) default) (by rw [at_lt hn]; exact List.getElem_mem _)
    have hset : ∀ x : List D, (((ocK l.games es k).map Gam.c).set k x).getD k [] = x := fun x => by
      rw [List.getD_eq_getElem?_getD, List.getElem?_set_self (by rw [List.length_map]; omega)]; rfl
    have hoc : ocA l.games es k = ocX (l.games.getD k default) (es.getD (openN l.games k) default) := by unfold ocA; rw [if_pos ⟨d1, hn⟩]
    simp (maxSteps := 4000000) +contextual (disch := first | omega | exact qdb_ok (by kernel_rfl) | exact okb_ok (by kernel_rfl)) only [bw1,bw2,bw3,bw4,bw5,bw6,bw7,bc0,bc1,bc2,bc3,bc4,bc5,bc6,bc7,bb0,setPs,AV.owns,AV.datF,AV.frz,AV.cpy,ifV,isEqB,nilV,nilX,AV.isNilS,AV.isNoRows,wk,dclo,datOf,binIs,addF,AV.isPtr,idxV,AV.isSl,AV.isSlice,AV.rows,ps,pv,extV,extS,AV.outs,AV.outF,packD,AV.dl,fieldV,fieldS,AV.cells?,AV.upr,AV.menc,AV.one,D.one,Value.oneCell',tagOf,AV.isApp,strV,strS,bolV,bolS,slcV,AV.isSlD,asrtS,AV.dcells,D.cells?,stcV,stcS,leafOk,eqDs,eqD,packA,D.val?,↓reduceIte,reduceCtorEq,Nat.reduceAdd,Nat.reduceSub,Nat.reduceMul,List.reduceReplicate,Nat.reduceLeDiff,Nat.reduceLT,Nat.reduceBEq,Nat.reduceEqDiff,Int.reduceNeg,Int.reduceEq,Int.reduceLE,Int.reduceLT,tfb,ctz23,O23_8,O23_9,O23_10,eq_self, hlt', hkl, hn', r1, d1b, hset, List.length_set, List.length_map, List.set_set]
    repeat (refine And.intro (by omega) ?_)
    refine ⟨k + 1, ⟨⟨by omega, by omega⟩, by omega⟩, ⟨by rw [hse]; rfl, rfl⟩, ?_⟩
    rw [hs, hoc, List.map_set]
    rfl
  · have d1b : ((l.games.getD k default).fin != 0) = true := by simpa using d1
    have hse := openN_no hlt d1
    have hoc : ocK l.games es (k + 1) = ocK l.games es k := by
      rw [hs]
      unfold ocA; rw [if_neg (fun h => d1 h.1)]
      apply List.ext_getElem (by rw [List.length_set])
      intro i h1 h2
      rw [List.getElem_set]
      split
      · rename_i e; subst e; rw [← at_lt h2, hat]
      · rfl
    simp (maxSteps := 4000000) +contextual (disch := first | omega | exact qdb_ok (by kernel_rfl) | exact okb_ok (by kernel_rfl)) only [bw1,bw2,bw3,bw4,bw5,bw6,bw7,bc0,bc1,bc2,bc3,bc4,bc5,bc6,bc7,bb0,setPs,AV.owns,AV.datF,AV.frz,AV.cpy,ifV,isEqB,nilV,nilX,AV.isNilS,AV.isNoRows,wk,dclo,datOf,binIs,addF,AV.isPtr,idxV,AV.isSl,AV.isSlice,AV.rows,ps,pv,extV,extS,AV.outs,AV.outF,packD,AV.dl,fieldV,fieldS,AV.cells?,AV.upr,AV.menc,AV.one,D.one,Value.oneCell',tagOf,AV.isApp,strV,strS,bolV,bolS,slcV,AV.isSlD,asrtS,AV.dcells,D.cells?,stcV,stcS,leafOk,eqDs,eqD,packA,D.val?,↓reduceIte,reduceCtorEq,Nat.reduceAdd,Nat.reduceSub,Nat.reduceMul,List.reduceReplicate,Nat.reduceLeDiff,Nat.reduceLT,Nat.reduceBEq,Nat.reduceEqDiff,Int.reduceNeg,Int.reduceEq,Int.reduceLE,Int.reduceLT,tfb,ctz23,O23_8,O23_9,O23_10,eq_self, hlt', hkl, hn', r1, d1b]
    repeat (refine And.intro (by omega) ?_)
    exact ⟨k + 1, ⟨⟨by omega, by omega⟩, by omega⟩, ⟨by rw [hse], rfl⟩, by rw [hoc]⟩
def ent23 (args : List AV) (K : AV → List AV → Sto → Prop) (e : List AV) (s : Sto) : Prop := ent (α := (Lea) × (List Int)) (fun aa => [.agg aa.1.c, .sl 1 (aa.2.map ic)]) (fun aa => aa.1.games.length ≤ 1000 ∧ ∀ e ∈ aa.2, 0 ≤ e ∧ e ≤ 3) (fun aa => .agg (ocL aa.1 aa.2).c) args K e s
theorem ent23_ok {args : List AV} {K : AV → List AV → Sto → Prop} {Q : Kt} {e : List AV} {s : Sto} (h : ent23 args K e s) : pcall Tryd.prog 23 args K Q e s := ent_ok (fun aa h => pf23 aa.1 aa.2 h) h
theorem eq23 {l : Lea} {es : List Int} {KK : AV → List AV → Sto → Prop} {ee : List AV} {ss : Sto} : ent23 [.d (.agg l.c), .d (.sl 1 (es.map ic))] KK ee ss = ((l.games.length ≤ 1000 ∧ ∀ e ∈ es, 0 ≤ e ∧ e ≤ 3) ∧ KK (.d (.agg (ocL l es).c)) ee ss) := by
  unfold ent23; rw [ent_iff (l, es) (by intro b h; simpa [Prod.ext_iff, and_assoc, Int.ofNat_inj, ints_inj, gams_inj, fars_inj, gam_inj, lea_inj, Int.ofNat_inj, ints_inj, gams_inj, fars_inj, gam_inj, lea_inj, stds_inj, std_inj] using h) rfl]; simp
theorem eqo23 {l : Lea} {es : List Int} {g1 el1 : Nat} {KK : AV → List AV → Sto → Prop} {ee : List AV} {ss : Sto} : ent23 [.d (.agg l.c), .own g1 el1 1 (es.map ic)] KK ee ss = ((l.games.length ≤ 1000 ∧ ∀ e ∈ es, 0 ≤ e ∧ e ≤ 3) ∧ (.agg (ocL l es).c : D).flat = true ∧ KK (.d (.agg (ocL l es).c)) ee ss) := by
  unfold ent23; rw [ent_iff (l, es) (by intro b h; simpa [Prod.ext_iff, and_assoc, Int.ofNat_inj, ints_inj, gams_inj, fars_inj, gam_inj, lea_inj, Int.ofNat_inj, ints_inj, gams_inj, fars_inj, gam_inj, lea_inj, stds_inj, std_inj] using h) rfl]; simp
end Go.Proofs.YtmajlffglplcnaaDoor
