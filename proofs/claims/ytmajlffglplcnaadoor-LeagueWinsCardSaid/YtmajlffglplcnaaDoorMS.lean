/- A part of the proof that the last text ends: what functions of the program do, told by plain data. -/
import Derived.Test.YtmajlffglplcnaaDoorMR
set_option linter.unusedVariables false
set_option linter.unusedSimpArgs false
namespace Go.Proofs.YtmajlffglplcnaaDoor
open Go Go.E
set_option maxRecDepth 100000
set_option maxHeartbeats 16000000
def Srt (l l' : List Row) : Prop := Swp 0 l.length l l' ∧ SrtI ky 0 l.length l'
def sp62 (args : List AV) (K : AV → List AV → Sto → Prop) (e : List AV) (s : Sto) : Prop :=
  ∃ (l : List Row) (g : Nat), args = [.own g 70 6 (l.map oc), .clo (.func 63) [] [.ref 4 0]] ∧ (g ≠ 4 ∧ s.get 4 = some [.d (.sl 1 byD)] ∧ l.length ≤ 12 ∧ ∀ x ∈ l, RowOk x) ∧ upOk g 70 6 (l.map oc) (e.map (AV.kill 4)) (s.kill 4) ∧ ∀ l', Srt l l' → K (.d (.tup [])) ((e.map (AV.kill 4)).map (AV.ups g (l'.map oc))) ((s.kill 4).ups g (l'.map oc))
theorem sp62_ok {args : List AV} {K : AV → List AV → Sto → Prop} {Q : Kt} {e : List AV} {s : Sto} (h : sp62 args K e s) : pcall Tryd.prog 62 args K Q e s := by
  obtain ⟨l, g, rfl, ⟨h1, h2, h3⟩, h4, h5⟩ := h
  refine pcall_unbox (k := 4) (a1 := [.own g 70 6 (l.map oc)]) (ds := [.sl 1 byD]) (by decide) h2 rfl (by simp [AV.mens, AV.men, h1]) (ent62_ok ?_)
  have := @eq62 l g K (e.map (AV.kill 4)) (s.kill 4)
  exact this.symm ▸ ⟨h3, h4, h5⟩
def O37 : Nat → Sch := fun id => .done
theorem ho37 : Tryd.f37.body.map (okO O37) = some true := by kernel_rfl
def Cf37 : Nat → List AV → (AV → List AV → Sto → Prop) → Kt → List AV → Sto → Prop := fun f args K Q e s => match f with
  | 62 => sp62 args K e s
  | _ => False
def Ct37 : CT := { f := Cf37, y := noYld, z := fun d => false }
theorem ctz37 {d : Nat} : CT.z Ct37 d = (false) := id rfl
theorem Ct37_ok : Ct37.ok Tryd.prog := ok_of_f (fun f args K Q e s h => by
  have h : Cf37 f args K Q e s := h
  unfold Cf37 at h; split at h
  · exact sp62_ok h
  · exact h.elim) (fun _ _ _ _ _ _ _ _ _ h => h)
theorem c37 : callable Tryd.prog 37 = true := by kernel_rfl
theorem pf37 (l : List Row) (h : l.length ≤ 12 ∧ ∀ x ∈ l, RowOk x) : PFu Tryd.prog 37 70 6 (l.map oc) [.sl 1 byD] (fun r x => ∃ (l' : List Row), (Srt l l') ∧ r = .d (.tup []) ∧ x = (l'.map oc)) := by
  have hx62 : ∀ {args : List AV} {KK : AV → List AV → Sto → Prop} {QQ : Kt} {ii : At KK} {jj : At QQ} {ee : List AV} {ss : Sto}, xC Ct37 62 args KK QQ ii jj ee ss = sp62 args KK ee ss := id rfl
  refine PFu_start (O := O37) Ct37_ok hmix ho37 Tryd.func37 c37 rfl Tryd.ntmps37 Tryd.results37 ?_
  simp (maxSteps := 4000000) +contextual (disch := first | omega | exact qdb_ok (by kernel_rfl) | exact okb_ok (by kernel_rfl)) only [bw1,bw2,bw3,bw4,bw5,bw6,bw7,bc0,bc1,bc2,bc3,bc4,bc5,bc6,bc7,bb0,setPs,AV.owns,AV.datF,AV.frz,AV.cpy,ifV,isEqB,nilV,nilX,AV.isNilS,AV.isNoRows,wk,dclo,datOf,binIs,addF,AV.isPtr,idxV,AV.isSl,AV.isSlice,AV.rows,ps,pv,extV,extS,AV.outs,AV.outF,packD,AV.dl,fieldV,fieldS,AV.cells?,AV.upr,AV.menc,AV.one,D.one,Value.oneCell',tagOf,AV.isApp,strV,strS,bolV,bolS,slcV,AV.isSlD,asrtS,AV.dcells,D.cells?,stcV,stcS,leafOk,eqDs,eqD,packA,D.val?,↓reduceIte,reduceCtorEq,Nat.reduceAdd,Nat.reduceSub,Nat.reduceMul,List.reduceReplicate,Nat.reduceLeDiff,Nat.reduceLT,Nat.reduceBEq,Nat.reduceEqDiff,Int.reduceNeg,Int.reduceEq,Int.reduceLE,Int.reduceLT,tfb,n_retn,n_retr,n_retp,qd_Rn,AV.outN,fl_std,D.flat,D.flats,upOk,gU,bu0,ctz37,hx62]
  refine ⟨l, 999999999, rfl, ⟨by decide, rfl, h⟩, ?_, fun l' hl => ?_⟩
  · simp (maxSteps := 4000000) +contextual (disch := first | omega | exact qdb_ok (by kernel_rfl) | exact okb_ok (by kernel_rfl)) only [bw1,bw2,bw3,bw4,bw5,bw6,bw7,bc0,bc1,bc2,bc3,bc4,bc5,bc6,bc7,bb0,setPs,AV.owns,AV.datF,AV.frz,AV.cpy,ifV,isEqB,nilV,nilX,AV.isNilS,AV.isNoRows,wk,dclo,datOf,binIs,addF,AV.isPtr,idxV,AV.isSl,AV.isSlice,AV.rows,ps,pv,extV,extS,AV.outs,AV.outF,packD,AV.dl,fieldV,fieldS,AV.cells?,AV.upr,AV.menc,AV.one,D.one,Value.oneCell',tagOf,AV.isApp,strV,strS,bolV,bolS,slcV,AV.isSlD,asrtS,AV.dcells,D.cells?,stcV,stcS,leafOk,eqDs,eqD,packA,D.val?,↓reduceIte,reduceCtorEq,Nat.reduceAdd,Nat.reduceSub,Nat.reduceMul,List.reduceReplicate,Nat.reduceLeDiff,Nat.reduceLT,Nat.reduceBEq,Nat.reduceEqDiff,Int.reduceNeg,Int.reduceEq,Int.reduceLE,Int.reduceLT,tfb,n_retn,n_retr,n_retp,qd_Rn,AV.outN,fl_std,D.flat,D.flats,upOk,gU,bu0,ctz37,eq_self]
  simp (maxSteps := 4000000) +contextual (disch := first | omega | exact qdb_ok (by kernel_rfl) | exact okb_ok (by kernel_rfl)) only [bw1,bw2,bw3,bw4,bw5,bw6,bw7,bc0,bc1,bc2,bc3,bc4,bc5,bc6,bc7,bb0,setPs,AV.owns,AV.datF,AV.frz,AV.cpy,ifV,isEqB,nilV,nilX,AV.isNilS,AV.isNoRows,wk,dclo,datOf,binIs,addF,AV.isPtr,idxV,AV.isSl,AV.isSlice,AV.rows,ps,pv,extV,extS,AV.outs,AV.outF,packD,AV.dl,fieldV,fieldS,AV.cells?,AV.upr,AV.menc,AV.one,D.one,Value.oneCell',tagOf,AV.isApp,strV,strS,bolV,bolS,slcV,AV.isSlD,asrtS,AV.dcells,D.cells?,stcV,stcS,leafOk,eqDs,eqD,packA,D.val?,↓reduceIte,reduceCtorEq,Nat.reduceAdd,Nat.reduceSub,Nat.reduceMul,List.reduceReplicate,Nat.reduceLeDiff,Nat.reduceLT,Nat.reduceBEq,Nat.reduceEqDiff,Int.reduceNeg,Int.reduceEq,Int.reduceLE,Int.reduceLT,tfb,n_retn,n_retr,n_retp,qd_Rn,AV.outN,fl_std,D.flat,D.flats,upOk,gU,bu0,ctz37,eq_self]
  exact ⟨l', hl, rfl⟩
def ent37 (args : List AV) (K : AV → List AV → Sto → Prop) (e : List AV) (s : Sto) : Prop := entU (α := (List Row)) 70 6 (fun aa => (aa.map oc)) (fun aa => [.sl 1 byD]) (fun aa => aa.length ≤ 12 ∧ ∀ x ∈ aa, RowOk x) (fun aa r x => ∃ (l' : List Row), (Srt aa l') ∧ r = .d (.tup []) ∧ x = (l'.map oc)) args K e s
theorem ent37_ok {args : List AV} {K : AV → List AV → Sto → Prop} {Q : Kt} {e : List AV} {s : Sto} (h : ent37 args K e s) : pcall Tryd.prog 37 args K Q e s := entU_ok (fun aa h => pf37 aa h) (fun aa r x ⟨_, _, hr, _⟩ => ⟨_, hr⟩) h
theorem eq37 {l : List Row} {gg : Nat} {KK : AV → List AV → Sto → Prop} {ee : List AV} {ss : Sto} : ent37 [.own gg 70 6 (l.map oc), .d (.sl 1 byD)] KK ee ss = ((l.length ≤ 12 ∧ ∀ x ∈ l, RowOk x) ∧ upOk gg 70 6 (l.map oc) ee ss ∧ ∀ (l' : List Row), (Srt l l') → KK (.d (.tup [])) (ee.map (AV.ups gg (l'.map oc))) (ss.ups gg (l'.map oc))) := by
  unfold ent37
  exact Eq.trans (entU_iff (g := gg) l (by intro b h1 h2; first | (simpa [Prod.ext_iff, and_assoc, Int.ofNat_inj, ints_inj, gams_inj, fars_inj, gam_inj, lea_inj, Int.ofNat_inj, ints_inj, gams_inj, fars_inj, gam_inj, lea_inj, stds_inj, std_inj, Int.ofNat_inj, ints_inj, gams_inj, fars_inj, gam_inj, lea_inj, tv_inj, ocs_inj, row_inj] using And.intro h1 h2) | (simp [Prod.ext_iff, and_assoc, Int.ofNat_inj, ints_inj, gams_inj, fars_inj, gam_inj, lea_inj, Int.ofNat_inj, ints_inj, gams_inj, fars_inj, gam_inj, lea_inj, stds_inj, std_inj, Int.ofNat_inj, ints_inj, gams_inj, fars_inj, gam_inj, lea_inj, tv_inj, ocs_inj, row_inj] at h1 h2 ⊢; simp_all)) rfl) (propext ⟨fun ⟨h1, h2, h3⟩ => ⟨h1, h2, fun l' hq => h3 _ _ ⟨l', hq, rfl, rfl⟩⟩, fun ⟨h1, h2, h3⟩ => ⟨h1, h2, fun r x ⟨l', hq, e1, e2⟩ => by subst e1; subst e2; exact h3 l' hq⟩⟩)
def sp37 (args : List AV) (K : AV → List AV → Sto → Prop) (e : List AV) (s : Sto) : Prop :=
  ∃ (l : List Row) (k : Nat), args = [.own 888 70 6 (l.map oc), .own k 68 1 byD] ∧ (k ≠ 888 ∧ k ≠ 0 ∧ s.get k = none ∧ l.length ≤ 12 ∧ ∀ x ∈ l, RowOk x) ∧ upOk 888 70 6 (l.map oc) (e.map (AV.frz k 68 1)) (s.frz k 68 1) ∧ ∀ l', Srt l l' → K (.d (.tup [])) ((e.map (AV.frz k 68 1)).map (AV.ups 888 (l'.map oc))) ((s.frz k 68 1).ups 888 (l'.map oc))
theorem sp37_ok {args : List AV} {K : AV → List AV → Sto → Prop} {Q : Kt} {e : List AV} {s : Sto} (h : sp37 args K e s) : pcall Tryd.prog 37 args K Q e s := by
  obtain ⟨l, k, rfl, ⟨h1, h2, h3, h4⟩, h5, h6⟩ := h
  refine pcall_frzA (k := k) 68 1 h2 h3 ?_
  have e1 : AV.frz k 68 1 (.own 888 70 6 (l.map oc)) = .own 888 70 6 (l.map oc) := by simp [AV.frz, Ne.symm h1]
  have e2 : AV.frz k 68 1 (.own k 68 1 byD) = .d (.sl 1 byD) := by simp [AV.frz]
  rw [List.map_cons, List.map_cons, List.map_nil, e1, e2]
  refine ent37_ok ?_
  have := @eq37 l 888 K (e.map (AV.frz k 68 1)) (s.frz k 68 1)
  exact this.symm ▸ ⟨h4, h5, h6⟩
def sp33 (args : List AV) (K : AV → List AV → Sto → Prop) (e : List AV) (s : Sto) : Prop :=
  ∃ l : Lea, leaOk l = true ∧ s.get 5000000000 = some [.d (.ptr gpt 0)] ∧ AV.outs s args = some [.ptr l.c 0] ∧ K (.own 888 70 6 ((rowsR l).map oc)) (e.map (AV.kill 888)) (s.kill 888)
theorem sp33_ok {args : List AV} {K : AV → List AV → Sto → Prop} {Q : Kt} {e : List AV} {s : Sto} (h : sp33 args K e s) : pcall Tryd.prog 33 args K Q e s := by
  obtain ⟨l, h1, h2, h3, h4⟩ := h
  refine pcall_soG 888 (by decide) (pf33 l h1) h2 h3 (fun rows hr => ?_) (fun rows hr => ?_)
  · rw [hr]; exact rowsFlat_flat rw_flat
  · rw [hr, rowsR_oc]; exact h4
def O15 : Nat → Sch := fun id => .done
theorem ho15 : Tryd.f15.body.map (okO O15) = some true := by kernel_rfl
def Cf15 : Nat → List AV → (AV → List AV → Sto → Prop) → Kt → List AV → Sto → Prop := fun f args K Q e s => match f with
  | 28 => ent28 args K e s
  | 33 => sp33 args K e s
  | 34 => ent34 args K e s
  | 37 => sp37 args K e s
  | _ => False
def Ct15 : CT := { f := Cf15, y := noYld, z := fun d => false }
theorem ctz15 {d : Nat} : CT.z Ct15 d = (false) := id rfl
theorem Ct15_ok : Ct15.ok Tryd.prog := ok_of_f (fun f args K Q e s h => by
  have h : Cf15 f args K Q e s := h
  unfold Cf15 at h; split at h
  · exact ent28_ok h
  · exact sp33_ok h
  · exact ent34_ok h
  · exact sp37_ok h
  · exact h.elim) (fun _ _ _ _ _ _ _ _ _ h => h)
theorem x15_28 {l : Lea} {KK : AV → List AV → Sto → Prop} {QQ : Kt} {ii : At KK} {jj : At QQ} {ee : List AV} {ss : Sto} : xC Ct15 28 [.d (.agg l.c)] KK QQ ii jj ee ss = ((l.far.length ≤ 1000) ∧ KK (.d (.b (leaOk l))) ee ss) := eq28
theorem x15_34 {i : Nat} {KK : AV → List AV → Sto → Prop} {QQ : Kt} {ii : At KK} {jj : At QQ} {ee : List AV} {ss : Sto} : xC Ct15 34 [.d (cw i)] KK QQ ii jj ee ss = (KK (.d (cl35 i)) ee ss) := eq34
theorem c15 : callable Tryd.prog 15 = true := by kernel_rfl
theorem pf15 (l : Lea) (hfar : l.far.length ≤ 1000) : PFnG Tryd.prog 15 0 gpt [.agg l.c] (fun zz => zz = .ret (.tup [.sl 5 ((tbR l).1.map Std.c), .i (tbR l).2])) := by
  unfold tbR
  have hx33 : ∀ {args : List AV} {KK : AV → List AV → Sto → Prop} {QQ : Kt} {ii : At KK} {jj : At QQ} {ee : List AV} {ss : Sto}, xC Ct15 33 args KK QQ ii jj ee ss = sp33 args KK ee ss := id rfl
  have hx37 : ∀ {args : List AV} {KK : AV → List AV → Sto → Prop} {QQ : Kt} {ii : At KK} {jj : At QQ} {ee : List AV} {ss : Sto}, xC Ct15 37 args KK QQ ii jj ee ss = sp37 args KK ee ss := id rfl
  by_cases c0 : leaOk l = true
  case neg =>
    rw [if_neg c0]
    refine PFnG_nil (PFnG_start (O := O15) Ct15_ok hmix ho15 Tryd.func15 c15 rfl Tryd.ntmps15 Tryd.results15 ?_)
    simp (maxSteps := 4000000) +contextual (disch := first | omega | exact qdb_ok (by kernel_rfl) | exact okb_ok (by kernel_rfl)) only [bw1,bw2,bw3,bw4,bw5,bw6,bw7,bc0,bc1,bc2,bc3,bc4,bc5,bc6,bc7,bb0,setPs,AV.owns,AV.datF,AV.frz,AV.cpy,ifV,isEqB,nilV,nilX,AV.isNilS,AV.isNoRows,wk,dclo,datOf,binIs,addF,AV.isPtr,idxV,AV.isSl,AV.isSlice,AV.rows,ps,pv,extV,extS,AV.outs,AV.outF,packD,AV.dl,fieldV,fieldS,AV.cells?,AV.upr,AV.menc,AV.one,D.one,Value.oneCell',tagOf,AV.isApp,strV,strS,bolV,bolS,slcV,AV.isSlD,asrtS,AV.dcells,D.cells?,stcV,stcS,leafOk,eqDs,eqD,packA,D.val?,↓reduceIte,reduceCtorEq,Nat.reduceAdd,Nat.reduceSub,Nat.reduceMul,List.reduceReplicate,Nat.reduceLeDiff,Nat.reduceLT,Nat.reduceBEq,Nat.reduceEqDiff,Int.reduceNeg,Int.reduceEq,Int.reduceLE,Int.reduceLT,tfb,n_retn,n_retr,n_retp,qd_Rn,AV.outN,fl_std,D.flat,D.flats,upOk,gU,bu0,ctz15,x15_28,x15_34,c0, hfar]
  rw [if_pos c0]
  have h6 := lea_fars c0
  refine PFnG_nil (PFnG_start (O := O15) Ct15_ok hmix ho15 Tryd.func15 c15 rfl Tryd.ntmps15 Tryd.results15 ?_)
  simp (maxSteps := 4000000) +contextual (disch := first | omega | exact qdb_ok (by kernel_rfl) | exact okb_ok (by kernel_rfl)) only [bw1,bw2,bw3,bw4,bw5,bw6,bw7,bc0,bc1,bc2,bc3,bc4,bc5,bc6,bc7,bb0,setPs,AV.owns,AV.datF,AV.frz,AV.cpy,ifV,isEqB,nilV,nilX,AV.isNilS,AV.isNoRows,wk,dclo,datOf,binIs,addF,AV.isPtr,idxV,AV.isSl,AV.isSlice,AV.rows,ps,pv,extV,extS,AV.outs,AV.outF,packD,AV.dl,fieldV,fieldS,AV.cells?,AV.upr,AV.menc,AV.one,D.one,Value.oneCell',tagOf,AV.isApp,strV,strS,bolV,bolS,slcV,AV.isSlD,asrtS,AV.dcells,D.cells?,stcV,stcS,leafOk,eqDs,eqD,packA,D.val?,↓reduceIte,reduceCtorEq,Nat.reduceAdd,Nat.reduceSub,Nat.reduceMul,List.reduceReplicate,Nat.reduceLeDiff,Nat.reduceLT,Nat.reduceBEq,Nat.reduceEqDiff,Int.reduceNeg,Int.reduceEq,Int.reduceLE,Int.reduceLT,tfb,n_retn,n_retr,n_retp,qd_Rn,AV.outN,fl_std,D.flat,D.flats,upOk,gU,bu0,ctz15,x15_28,x15_34,c0, hfar, hx33, hx37]
  refine ⟨l, c0, rfl, rfl, ?_⟩
  simp (maxSteps := 4000000) +contextual (disch := first | omega | exact qdb_ok (by kernel_rfl) | exact okb_ok (by kernel_rfl)) only [bw1,bw2,bw3,bw4,bw5,bw6,bw7,bc0,bc1,bc2,bc3,bc4,bc5,bc6,bc7,bb0,setPs,AV.owns,AV.datF,AV.frz,AV.cpy,ifV,isEqB,nilV,nilX,AV.isNilS,AV.isNoRows,wk,dclo,datOf,binIs,addF,AV.isPtr,idxV,AV.isSl,AV.isSlice,AV.rows,ps,pv,extV,extS,AV.outs,AV.outF,packD,AV.dl,fieldV,fieldS,AV.cells?,AV.upr,AV.menc,AV.one,D.one,Value.oneCell',tagOf,AV.isApp,strV,strS,bolV,bolS,slcV,AV.isSlD,asrtS,AV.dcells,D.cells?,stcV,stcS,leafOk,eqDs,eqD,packA,D.val?,↓reduceIte,reduceCtorEq,Nat.reduceAdd,Nat.reduceSub,Nat.reduceMul,List.reduceReplicate,Nat.reduceLeDiff,Nat.reduceLT,Nat.reduceBEq,Nat.reduceEqDiff,Int.reduceNeg,Int.reduceEq,Int.reduceLE,Int.reduceLT,tfb,n_retn,n_retr,n_retp,qd_Rn,AV.outN,fl_std,D.flat,D.flats,upOk,gU,bu0,ctz15,x15_28,x15_34,eq_self, hx37]
  refine ⟨rowsR l, 25, rfl, ⟨by decide, by decide, rfl, by rw [rowsR_len]; omega, rowsR_ok c0⟩, ?_, fun L hL => ?_⟩
  · simp (maxSteps := 4000000) +contextual (disch := first | omega | exact qdb_ok (by kernel_rfl) | exact okb_ok (by kernel_rfl)) only [bw1,bw2,bw3,bw4,bw5,bw6,bw7,bc0,bc1,bc2,bc3,bc4,bc5,bc6,bc7,bb0,setPs,AV.owns,AV.datF,AV.frz,AV.cpy,ifV,isEqB,nilV,nilX,AV.isNilS,AV.isNoRows,wk,dclo,datOf,binIs,addF,AV.isPtr,idxV,AV.isSl,AV.isSlice,AV.rows,ps,pv,extV,extS,AV.outs,AV.outF,packD,AV.dl,fieldV,fieldS,AV.cells?,AV.upr,AV.menc,AV.one,D.one,Value.oneCell',tagOf,AV.isApp,strV,strS,bolV,bolS,slcV,AV.isSlD,asrtS,AV.dcells,D.cells?,stcV,stcS,leafOk,eqDs,eqD,packA,D.val?,↓reduceIte,reduceCtorEq,Nat.reduceAdd,Nat.reduceSub,Nat.reduceMul,List.reduceReplicate,Nat.reduceLeDiff,Nat.reduceLT,Nat.reduceBEq,Nat.reduceEqDiff,Int.reduceNeg,Int.reduceEq,Int.reduceLE,Int.reduceLT,tfb,n_retn,n_retr,n_retp,qd_Rn,AV.outN,fl_std,D.flat,D.flats,upOk,gU,bu0,ctz15,x15_28,x15_34,eq_self]
  have hLn : L.length = (rowsR l).length := hL.1.len
  have hlaw := table_law c0 hL.1.perm (by rw [hLn]; exact hL.2)
  have hL6 : L.length ≤ 6 := by rw [hLn, rowsR_len]; exact h6
  rw [← hlaw]
  simp (maxSteps := 4000000) +contextual (disch := first | omega | exact qdb_ok (by kernel_rfl) | exact okb_ok (by kernel_rfl)) only [bw1,bw2,bw3,bw4,bw5,bw6,bw7,bc0,bc1,bc2,bc3,bc4,bc5,bc6,bc7,bb0,setPs,AV.owns,AV.datF,AV.frz,AV.cpy,ifV,isEqB,nilV,nilX,AV.isNilS,AV.isNoRows,wk,dclo,datOf,binIs,addF,AV.isPtr,idxV,AV.isSl,AV.isSlice,AV.rows,ps,pv,extV,extS,AV.outs,AV.outF,packD,AV.dl,fieldV,fieldS,AV.cells?,AV.upr,AV.menc,AV.one,D.one,Value.oneCell',tagOf,AV.isApp,strV,strS,bolV,bolS,slcV,AV.isSlD,asrtS,AV.dcells,D.cells?,stcV,stcS,leafOk,eqDs,eqD,packA,D.val?,↓reduceIte,reduceCtorEq,Nat.reduceAdd,Nat.reduceSub,Nat.reduceMul,List.reduceReplicate,Nat.reduceLeDiff,Nat.reduceLT,Nat.reduceBEq,Nat.reduceEqDiff,Int.reduceNeg,Int.reduceEq,Int.reduceLE,Int.reduceLT,tfb,n_retn,n_retr,n_retp,qd_Rn,AV.outN,fl_std,D.flat,D.flats,upOk,gU,bu0,ctz15,x15_28,x15_34,eq_self]
  refine seed (m1 := mk _) (m2 := mk _) 6 37 46 5 (by decide) rfl rfl (by simp [Sto.mens, AV.mens, AV.men]) rfl ?_
  refine loop_xu (O := O15) (tb := 0) Ct15_ok hmix (by kernel_rfl) (σ := Nat) (fun k => [(6, .own 37 46 5 (((L.take k).map Row.s).map Std.c)), (8, .any), (28, .i k), (7, .any)]) (fun _ => []) (fun k => k ≤ L.length) (fun k => L.length - k) 0 (Nat.zero_le _) ?_ ?_
  · simp (maxSteps := 4000000) +contextual (disch := first | omega | exact qdb_ok (by kernel_rfl) | exact okb_ok (by kernel_rfl)) only [bw1,bw2,bw3,bw4,bw5,bw6,bw7,bc0,bc1,bc2,bc3,bc4,bc5,bc6,bc7,bb0,setPs,AV.owns,AV.datF,AV.frz,AV.cpy,ifV,isEqB,nilV,nilX,AV.isNilS,AV.isNoRows,wk,dclo,datOf,binIs,addF,AV.isPtr,idxV,AV.isSl,AV.isSlice,AV.rows,ps,pv,extV,extS,AV.outs,AV.outF,packD,AV.dl,fieldV,fieldS,AV.cells?,AV.upr,AV.menc,AV.one,D.one,Value.oneCell',tagOf,AV.isApp,strV,strS,bolV,bolS,slcV,AV.isSlD,asrtS,AV.dcells,D.cells?,stcV,stcS,leafOk,eqDs,eqD,packA,D.val?,↓reduceIte,reduceCtorEq,Nat.reduceAdd,Nat.reduceSub,Nat.reduceMul,List.reduceReplicate,Nat.reduceLeDiff,Nat.reduceLT,Nat.reduceBEq,Nat.reduceEqDiff,Int.reduceNeg,Int.reduceEq,Int.reduceLE,Int.reduceLT,tfb,n_retn,n_retr,n_retp,qd_Rn,AV.outN,fl_std,D.flat,D.flats,upOk,gU,bu0,ctz15,x15_28,x15_34,eq_self, List.take_zero, List.map_nil]
  rintro k hk
  by_cases hlt : k < L.length
  case neg =>
    obtain rfl : k = L.length := by omega
    simp (maxSteps := 4000000) +contextual (disch := first | omega | exact qdb_ok (by kernel_rfl) | exact okb_ok (by kernel_rfl)) only [bw1,bw2,bw3,bw4,bw5,bw6,bw7,bc0,bc1,bc2,bc3,bc4,bc5,bc6,bc7,bb0,setPs,AV.owns,AV.datF,AV.frz,AV.cpy,ifV,isEqB,nilV,nilX,AV.isNilS,AV.isNoRows,wk,dclo,datOf,binIs,addF,AV.isPtr,idxV,AV.isSl,AV.isSlice,AV.rows,ps,pv,extV,extS,AV.outs,AV.outF,packD,AV.dl,fieldV,fieldS,AV.cells?,AV.upr,AV.menc,AV.one,D.one,Value.oneCell',tagOf,AV.isApp,strV,strS,bolV,bolS,slcV,AV.isSlD,asrtS,AV.dcells,D.cells?,stcV,stcS,leafOk,eqDs,eqD,packA,D.val?,↓reduceIte,reduceCtorEq,Nat.reduceAdd,Nat.reduceSub,Nat.reduceMul,List.reduceReplicate,Nat.reduceLeDiff,Nat.reduceLT,Nat.reduceBEq,Nat.reduceEqDiff,Int.reduceNeg,Int.reduceEq,Int.reduceLE,Int.reduceLT,tfb,n_retn,n_retr,n_retp,qd_Rn,AV.outN,fl_std,D.flat,D.flats,upOk,gU,bu0,ctz15,x15_28,x15_34,eq_self, Int.lt_irrefl, List.take_length]
  have hlt' : (k : Int) < L.length := by omega
  have r1 : (L.map oc).getD k [] = oc (L.getD k default) := Go.E.row_at hlt
  have htk := take_succ hlt
  have htl : (L.take k).length = k := by rw [List.length_take]; omega
  simp (maxSteps := 4000000) +contextual (disch := first | omega | exact qdb_ok (by kernel_rfl) | exact okb_ok (by kernel_rfl)) only [bw1,bw2,bw3,bw4,bw5,bw6,bw7,bc0,bc1,bc2,bc3,bc4,bc5,bc6,bc7,bb0,setPs,AV.owns,AV.datF,AV.frz,AV.cpy,ifV,isEqB,nilV,nilX,AV.isNilS,AV.isNoRows,wk,dclo,datOf,binIs,addF,AV.isPtr,idxV,AV.isSl,AV.isSlice,AV.rows,ps,pv,extV,extS,AV.outs,AV.outF,packD,AV.dl,fieldV,fieldS,AV.cells?,AV.upr,AV.menc,AV.one,D.one,Value.oneCell',tagOf,AV.isApp,strV,strS,bolV,bolS,slcV,AV.isSlD,asrtS,AV.dcells,D.cells?,stcV,stcS,leafOk,eqDs,eqD,packA,D.val?,↓reduceIte,reduceCtorEq,Nat.reduceAdd,Nat.reduceSub,Nat.reduceMul,List.reduceReplicate,Nat.reduceLeDiff,Nat.reduceLT,Nat.reduceBEq,Nat.reduceEqDiff,Int.reduceNeg,Int.reduceEq,Int.reduceLE,Int.reduceLT,tfb,n_retn,n_retr,n_retp,qd_Rn,AV.outN,fl_std,D.flat,D.flats,upOk,gU,bu0,ctz15,x15_28,x15_34,eq_self, hlt', r1]
  refine ⟨by omega, by omega, by omega, k + 1, ⟨by omega, by omega⟩, ?_, rfl⟩
  rw [htk, List.map_append, List.map_append]; rfl
end Go.Proofs.YtmajlffglplcnaaDoor
