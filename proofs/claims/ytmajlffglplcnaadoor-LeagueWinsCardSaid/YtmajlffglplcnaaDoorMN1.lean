/- A part of the proof that the last text ends: what functions of the program do, told by plain data. -/
import Derived.Test.YtmajlffglplcnaaDoorMM
import Derived.Test.YtmajlffglplcnaaDoorEc
set_option linter.unusedVariables false
set_option linter.unusedSimpArgs false
namespace Go.Proofs.YtmajlffglplcnaaDoor
open Go Go.E
set_option maxRecDepth 100000
set_option maxHeartbeats 16000000
def O45 : Nat → Sch := fun id => .done
theorem ho45 : Tryd.f45.body.map (okO O45) = some true := by kernel_rfl
def Cf45 : Nat → List AV → (AV → List AV → Sto → Prop) → Kt → List AV → Sto → Prop := fun f args K Q e s => match f with
  | 28 => ent28 args K e s
  | 30 => ent30 (AV.outs s args) K (mk _) e s
  | 53 => ent53 args K e s
  | _ => False
def Ct45 : CT := { f := Cf45, y := noYld, z := fun d => false }
theorem ctz45 {d : Nat} : CT.z Ct45 d = (false) := id rfl
theorem Ct45_ok : Ct45.ok Tryd.prog := ok_of_f (fun f args K Q e s h => by
  have h : Cf45 f args K Q e s := h
  unfold Cf45 at h; split at h
  · exact ent28_ok h
  · exact ent30_ok h
  · exact ent53_ok h
  · exact h.elim) (fun _ _ _ _ _ _ _ _ _ h => h)
theorem x45_28 {l : Lea} {KK : AV → List AV → Sto → Prop} {QQ : Kt} {ii : At KK} {jj : At QQ} {ee : List AV} {ss : Sto} : xC Ct45 28 [.d (.agg l.c)] KK QQ ii jj ee ss = ((l.far.length ≤ 1000) ∧ KK (.d (.b (leaOk l))) ee ss) := eq28
theorem x45_30 {args : List AV} {KK : AV → List AV → Sto → Prop} {QQ : Kt} {ii : At KK} {jj : At QQ} {ee : List AV} {ss : Sto} : xC Ct45 30 args KK QQ ii jj ee ss = ent30 (AV.outs ss args) KK (mk _) ee ss := id rfl
theorem x45_53 {n : Int} {lo : Int} {hi : Int} {KK : AV → List AV → Sto → Prop} {QQ : Kt} {ii : At KK} {jj : At QQ} {ee : List AV} {ss : Sto} : xC Ct45 53 [.d (.i n), .d (.i lo), .d (.i hi)] KK QQ ii jj ee ss = (KK (.d (.b (inB n lo hi))) ee ss) := eq53
theorem c45 : callable Tryd.prog 45 = true := by kernel_rfl
theorem pf45 (l : Lea) (t p : Int) (h : l.far.length ≤ 1000) : PF Tryd.prog 45 [.ptr l.c 0, .i t, .i p] (fun zz => zz = .ret (.i (errR l t p))) := by
  have hfar := h
  unfold errR
  by_cases c0 : leaOk l = true
  case neg =>
    rw [if_neg c0]
    refine PF_nil (PF_start (O := O45) Ct45_ok hmix ho45 Tryd.func45 c45 rfl Tryd.ntmps45 Tryd.results45 ?_)
    simp (maxSteps := 4000000) +contextual (disch := first | omega | exact qdb_ok (by kernel_rfl) | exact okb_ok (by kernel_rfl)) only [bw1,bw2,bw3,bw4,bw5,bw6,bw7,bc0,bc1,bc2,bc3,bc4,bc5,bc6,bc7,bb0,setPs,AV.owns,AV.datF,AV.frz,AV.cpy,ifV,isEqB,nilV,nilX,AV.isNilS,AV.isNoRows,wk,dclo,datOf,binIs,addF,AV.isPtr,idxV,AV.isSl,AV.isSlice,AV.rows,ps,pv,extV,extS,AV.outs,AV.outF,packD,AV.dl,fieldV,fieldS,AV.cells?,AV.upr,AV.menc,AV.one,D.one,Value.oneCell',tagOf,AV.isApp,strV,strS,bolV,bolS,slcV,AV.isSlD,asrtS,AV.dcells,D.cells?,stcV,stcS,leafOk,eqDs,eqD,packA,D.val?,↓reduceIte,reduceCtorEq,Nat.reduceAdd,Nat.reduceSub,Nat.reduceMul,List.reduceReplicate,Nat.reduceLeDiff,Nat.reduceLT,Nat.reduceBEq,Nat.reduceEqDiff,Int.reduceNeg,Int.reduceEq,Int.reduceLE,Int.reduceLT,tfb,D.flat,D.flats,ctz45,x45_28,x45_30,eq30,x45_53,c0, hfar]
  rw [if_pos c0]
  by_cases c1 : inB t 0 ((l.far.length : Int) - 1) = true
  case neg =>
    rw [if_neg (fun h => c1 h.1)]
    refine PF_nil (PF_start (O := O45) Ct45_ok hmix ho45 Tryd.func45 c45 rfl Tryd.ntmps45 Tryd.results45 ?_)
    simp (maxSteps := 4000000) +contextual (disch := first | omega | exact qdb_ok (by kernel_rfl) | exact okb_ok (by kernel_rfl)) only [bw1,bw2,bw3,bw4,bw5,bw6,bw7,bc0,bc1,bc2,bc3,bc4,bc5,bc6,bc7,bb0,setPs,AV.owns,AV.datF,AV.frz,AV.cpy,ifV,isEqB,nilV,nilX,AV.isNilS,AV.isNoRows,wk,dclo,datOf,binIs,addF,AV.isPtr,idxV,AV.isSl,AV.isSlice,AV.rows,ps,pv,extV,extS,AV.outs,AV.outF,packD,AV.dl,fieldV,fieldS,AV.cells?,AV.upr,AV.menc,AV.one,D.one,Value.oneCell',tagOf,AV.isApp,strV,strS,bolV,bolS,slcV,AV.isSlD,asrtS,AV.dcells,D.cells?,stcV,stcS,leafOk,eqDs,eqD,packA,D.val?,↓reduceIte,reduceCtorEq,Nat.reduceAdd,Nat.reduceSub,Nat.reduceMul,List.reduceReplicate,Nat.reduceLeDiff,Nat.reduceLT,Nat.reduceBEq,Nat.reduceEqDiff,Int.reduceNeg,Int.reduceEq,Int.reduceLE,Int.reduceLT,tfb,D.flat,D.flats,ctz45,x45_28,x45_30,eq30,x45_53,c0, c1, hfar]
  by_cases c2 : inB p 1 l.far.length = true
  case neg =>
    rw [if_neg (fun h => c2 h.2)]
    refine PF_nil (PF_start (O := O45) Ct45_ok hmix ho45 Tryd.func45 c45 rfl Tryd.ntmps45 Tryd.results45 ?_)
    simp (maxSteps := 4000000) +contextual (disch := first | omega | exact qdb_ok (by kernel_rfl) | exact okb_ok (by kernel_rfl)) only [bw1,bw2,bw3,bw4,bw5,bw6,bw7,bc0,bc1,bc2,bc3,bc4,bc5,bc6,bc7,bb0,setPs,AV.owns,AV.datF,AV.frz,AV.cpy,ifV,isEqB,nilV,nilX,AV.isNilS,AV.isNoRows,wk,dclo,datOf,binIs,addF,AV.isPtr,idxV,AV.isSl,AV.isSlice,AV.rows,ps,pv,extV,extS,AV.outs,AV.outF,packD,AV.dl,fieldV,fieldS,AV.cells?,AV.upr,AV.menc,AV.one,D.one,Value.oneCell',tagOf,AV.isApp,strV,strS,bolV,bolS,slcV,AV.isSlD,asrtS,AV.dcells,D.cells?,stcV,stcS,leafOk,eqDs,eqD,packA,D.val?,↓reduceIte,reduceCtorEq,Nat.reduceAdd,Nat.reduceSub,Nat.reduceMul,List.reduceReplicate,Nat.reduceLeDiff,Nat.reduceLT,Nat.reduceBEq,Nat.reduceEqDiff,Int.reduceNeg,Int.reduceEq,Int.reduceLE,Int.reduceLT,tfb,D.flat,D.flats,ctz45,x45_28,x45_30,eq30,x45_53,c0, c1, c2, hfar]
  rw [if_pos ⟨c1, c2⟩]
  refine PF_nil (PF_start (O := O45) Ct45_ok hmix ho45 Tryd.func45 c45 rfl Tryd.ntmps45 Tryd.results45 ?_)
  simp (maxSteps := 4000000) +contextual (disch := first | omega | exact qdb_ok (by kernel_rfl) | exact okb_ok (by kernel_rfl)) only [bw1,bw2,bw3,bw4,bw5,bw6,bw7,bc0,bc1,bc2,bc3,bc4,bc5,bc6,bc7,bb0,setPs,AV.owns,AV.datF,AV.frz,AV.cpy,ifV,isEqB,nilV,nilX,AV.isNilS,AV.isNoRows,wk,dclo,datOf,binIs,addF,AV.isPtr,idxV,AV.isSl,AV.isSlice,AV.rows,ps,pv,extV,extS,AV.outs,AV.outF,packD,AV.dl,fieldV,fieldS,AV.cells?,AV.upr,AV.menc,AV.one,D.one,Value.oneCell',tagOf,AV.isApp,strV,strS,bolV,bolS,slcV,AV.isSlD,asrtS,AV.dcells,D.cells?,stcV,stcS,leafOk,eqDs,eqD,packA,D.val?,↓reduceIte,reduceCtorEq,Nat.reduceAdd,Nat.reduceSub,Nat.reduceMul,List.reduceReplicate,Nat.reduceLeDiff,Nat.reduceLT,Nat.reduceBEq,Nat.reduceEqDiff,Int.reduceNeg,Int.reduceEq,Int.reduceLE,Int.reduceLT,tfb,D.flat,D.flats,ctz45,x45_28,x45_30,eq30,x45_53,c0, c1, c2, hfar]
def resI (g : Gam) : Int := if g.ag < g.hg then (if g.fin = 1 then 0 else 1) else (if g.fin = 1 then 3 else 2)
def ent45 (o : Option (List D)) (K : AV → List AV → Sto → Prop) (i : At K) (e : List AV) (s : Sto) : Prop := entS (α := (Lea) × (Int) × (Int)) (fun aa => [.ptr aa.1.c 0, .i aa.2.1, .i aa.2.2]) (fun aa => aa.1.far.length ≤ 1000) (fun aa => .i (errR aa.1 aa.2.1 aa.2.2)) o K i e s
theorem ent45_ok {args : List AV} {K : AV → List AV → Sto → Prop} {Q : Kt} {e : List AV} {s : Sto} (h : ent45 (AV.outs s args) K (mk _) e s) : pcall Tryd.prog 45 args K Q e s := entS_ok (fun aa h => pf45 aa.1 aa.2.1 aa.2.2 h) h
theorem eq45 {l : Lea} {t : Int} {p : Int} {KK : AV → List AV → Sto → Prop} {ii : At KK} {ee : List AV} {ss : Sto} : ent45 (some [.ptr l.c 0, .i t, .i p]) KK ii ee ss = ((l.far.length ≤ 1000) ∧ (.i (errR l t p) : D).flat = true ∧ KK (.d (.i (errR l t p))) ee ss) := by
  unfold ent45; rw [entS_iff (l, t, p) (by intro b h; simpa [Prod.ext_iff, and_assoc, Int.ofNat_inj, ints_inj, gams_inj, fars_inj, gam_inj, lea_inj, Int.ofNat_inj, ints_inj, gams_inj, fars_inj, gam_inj, lea_inj, stds_inj, std_inj, Int.ofNat_inj, ints_inj, gams_inj, fars_inj, gam_inj, lea_inj] using h)] <;> simp
def O60 : Nat → Sch := fun id => .done
theorem ho60 : Tryd.f60.body.map (okO O60) = some true := by kernel_rfl
def Cf60 : Nat → List AV → (AV → List AV → Sto → Prop) → Kt → List AV → Sto → Prop := fun f args K Q e s => match f with
  | _ => False
def Ct60 : CT := { f := Cf60, y := noYld, z := fun d => false }
theorem ctz60 {d : Nat} : CT.z Ct60 d = (false) := id rfl
theorem Ct60_ok : Ct60.ok Tryd.prog := ok_of_f (fun f args K Q e s h => by
  have h : Cf60 f args K Q e s := h
  unfold Cf60 at h; split at h
  · exact h.elim) (fun _ _ _ _ _ _ _ _ _ h => h)
theorem c60 : callable Tryd.prog 60 = true := by kernel_rfl
theorem pf60 (g : Gam) : PF Tryd.prog 60 [.agg g.c] (fun zz => zz = .ret (.i (resI g))) := by
  unfold resI
  by_cases c1 : g.ag < g.hg
  · rw [if_pos c1]
    by_cases c2 : g.fin = 1
    · have c2b : (g.fin == 1) = true := by simpa using c2
      rw [if_pos c2]
      refine PF_nil (PF_start (O := O60) Ct60_ok hmix ho60 Tryd.func60 c60 rfl Tryd.ntmps60 Tryd.results60 ?_)
      simp (maxSteps := 4000000) +contextual (disch := first | omega | exact qdb_ok (by kernel_rfl) | exact okb_ok (by kernel_rfl)) only [bw1,bw2,bw3,bw4,bw5,bw6,bw7,bc0,bc1,bc2,bc3,bc4,bc5,bc6,bc7,bb0,setPs,AV.owns,AV.datF,AV.frz,AV.cpy,ifV,isEqB,nilV,nilX,AV.isNilS,AV.isNoRows,wk,dclo,datOf,binIs,addF,AV.isPtr,idxV,AV.isSl,AV.isSlice,AV.rows,ps,pv,extV,extS,AV.outs,AV.outF,packD,AV.dl,fieldV,fieldS,AV.cells?,AV.upr,AV.menc,AV.one,D.one,Value.oneCell',tagOf,AV.isApp,strV,strS,bolV,bolS,slcV,AV.isSlD,asrtS,AV.dcells,D.cells?,stcV,stcS,leafOk,eqDs,eqD,packA,D.val?,↓reduceIte,reduceCtorEq,Nat.reduceAdd,Nat.reduceSub,Nat.reduceMul,List.reduceReplicate,Nat.reduceLeDiff,Nat.reduceLT,Nat.reduceBEq,Nat.reduceEqDiff,Int.reduceNeg,Int.reduceEq,Int.reduceLE,Int.reduceLT,tfb,D.flat,D.flats,ctz60,c1, c2b]
    · have c2b : (g.fin == 1) = false := by simpa using c2
      rw [if_neg c2]
      refine PF_nil (PF_start (O := O60) Ct60_ok hmix ho60 Tryd.func60 c60 rfl Tryd.ntmps60 Tryd.results60 ?_)
      simp (maxSteps := 4000000) +contextual (disch := first | omega | exact qdb_ok (by kernel_rfl) | exact okb_ok (by kernel_rfl)) only [bw1,bw2,bw3,bw4,bw5,bw6,bw7,bc0,bc1,bc2,bc3,bc4,bc5,bc6,bc7,bb0,setPs,AV.owns,AV.datF,AV.frz,AV.cpy,ifV,isEqB,nilV,nilX,AV.isNilS,AV.isNoRows,wk,dclo,datOf,binIs,addF,AV.isPtr,idxV,AV.isSl,AV.isSlice,AV.rows,ps,pv,extV,extS,AV.outs,AV.outF,packD,AV.dl,fieldV,fieldS,AV.cells?,AV.upr,AV.menc,AV.one,D.one,Value.oneCell',tagOf,AV.isApp,strV,strS,bolV,bolS,slcV,AV.isSlD,asrtS,AV.dcells,D.cells?,stcV,stcS,leafOk,eqDs,eqD,packA,D.val?,↓reduceIte,reduceCtorEq,Nat.reduceAdd,Nat.reduceSub,Nat.reduceMul,List.reduceReplicate,Nat.reduceLeDiff,Nat.reduceLT,Nat.reduceBEq,Nat.reduceEqDiff,Int.reduceNeg,Int.reduceEq,Int.reduceLE,Int.reduceLT,tfb,D.flat,D.flats,ctz60,c1, c2b]
  · rw [if_neg c1]
    by_cases c2 : g.fin = 1
    · have c2b : (g.fin == 1) = true := by simpa using c2
      rw [if_pos c2]
      refine PF_nil (PF_start (O := O60) Ct60_ok hmix ho60 Tryd.func60 c60 rfl Tryd.ntmps60 Tryd.results60 ?_)
      simp (maxSteps := 4000000) +contextual (disch := first | omega | exact qdb_ok (by kernel_rfl) | exact okb_ok (by kernel_rfl)) only [bw1,bw2,bw3,bw4,bw5,bw6,bw7,bc0,bc1,bc2,bc3,bc4,bc5,bc6,bc7,bb0,setPs,AV.owns,AV.datF,AV.frz,AV.cpy,ifV,isEqB,nilV,nilX,AV.isNilS,AV.isNoRows,wk,dclo,datOf,binIs,addF,AV.isPtr,idxV,AV.isSl,AV.isSlice,AV.rows,ps,pv,extV,extS,AV.outs,AV.outF,packD,AV.dl,fieldV,fieldS,AV.cells?,AV.upr,AV.menc,AV.one,D.one,Value.oneCell',tagOf,AV.isApp,strV,strS,bolV,bolS,slcV,AV.isSlD,asrtS,AV.dcells,D.cells?,stcV,stcS,leafOk,eqDs,eqD,packA,D.val?,↓reduceIte,reduceCtorEq,Nat.reduceAdd,Nat.reduceSub,Nat.reduceMul,List.reduceReplicate,Nat.reduceLeDiff,Nat.reduceLT,Nat.reduceBEq,Nat.reduceEqDiff,Int.reduceNeg,Int.reduceEq,Int.reduceLE,Int.reduceLT,tfb,D.flat,D.flats,ctz60,c1, c2b]
    · have c2b : (g.fin == 1) = false := by simpa using c2
      rw [if_neg c2]
      refine PF_nil (PF_start (O := O60) Ct60_ok hmix ho60 Tryd.func60 c60 rfl Tryd.ntmps60 Tryd.results60 ?_)
      simp (maxSteps := 4000000) +contextual (disch := first | omega | exact qdb_ok (by kernel_rfl) | exact okb_ok (by kernel_rfl)) only [bw1,bw2,bw3,bw4,bw5,bw6,bw7,bc0,bc1,bc2,bc3,bc4,bc5,bc6,bc7,bb0,setPs,AV.owns,AV.datF,AV.frz,AV.cpy,ifV,isEqB,nilV,nilX,AV.isNilS,AV.isNoRows,wk,dclo,datOf,binIs,addF,AV.isPtr,idxV,AV.isSl,AV.isSlice,AV.rows,ps,pv,extV,extS,AV.outs,AV.outF,packD,AV.dl,fieldV,fieldS,AV.cells?,AV.upr,AV.menc,AV.one,D.one,Value.oneCell',tagOf,AV.isApp,strV,strS,bolV,bolS,slcV,AV.isSlD,asrtS,AV.dcells,D.cells?,stcV,stcS,leafOk,eqDs,eqD,packA,D.val?,↓reduceIte,reduceCtorEq,Nat.reduceAdd,Nat.reduceSub,Nat.reduceMul,List.reduceReplicate,Nat.reduceLeDiff,Nat.reduceLT,Nat.reduceBEq,Nat.reduceEqDiff,Int.reduceNeg,Int.reduceEq,Int.reduceLE,Int.reduceLT,tfb,D.flat,D.flats,ctz60,c1, c2b]
def ent60 (args : List AV) (K : AV → List AV → Sto → Prop) (e : List AV) (s : Sto) : Prop := ent (α := (Gam)) (fun aa => [.agg aa.c]) (fun aa => True) (fun aa => .i (resI aa)) args K e s
theorem ent60_ok {args : List AV} {K : AV → List AV → Sto → Prop} {Q : Kt} {e : List AV} {s : Sto} (h : ent60 args K e s) : pcall Tryd.prog 60 args K Q e s := ent_ok (fun aa h => pf60 aa) h
theorem eq60 {g : Gam} {KK : AV → List AV → Sto → Prop} {ee : List AV} {ss : Sto} : ent60 [.d (.agg g.c)] KK ee ss = (KK (.d (.i (resI g))) ee ss) := by
  unfold ent60; rw [ent_iff g (by intro b h; simpa [Prod.ext_iff, and_assoc, Int.ofNat_inj, ints_inj, gams_inj, fars_inj, gam_inj, lea_inj, Int.ofNat_inj, ints_inj, gams_inj, fars_inj, gam_inj, lea_inj, stds_inj, std_inj, Int.ofNat_inj, ints_inj, gams_inj, fars_inj, gam_inj, lea_inj] using h) rfl]; simp
abbrev gpt : List D := [.i 3, .i 0, .i 2, .i 1, .i 1, .i 2, .i 0, .i 3]
abbrev rwc (s : Std) (a : Int) : List D := [.i s.team, .i s.games, .i s.pts, .i s.gf, .i s.ga, .i a]
def rw (n : Nat) (f : Nat → Std × Int) : List (List D) := (List.range n).map fun t => rwc (f t).1 (f t).2
def upd (f : Nat → Std × Int) (i : Nat) (x : Std × Int) : Nat → Std × Int := fun t => if t = i then x else f t
theorem rw_len {n : Nat} {f : Nat → Std × Int} : (rw n f).length = n := by simp [rw]
theorem rw_get {n i : Nat} {f : Nat → Std × Int} (h : i < n) : (rw n f).getD i [] = rwc (f i).1 (f i).2 := by
  unfold rw; rw [List.getD_eq_getElem?_getD, List.getElem?_map, List.getElem?_range h]; rfl
theorem rw_el {n j : Nat} {f : Nat → Std × Int} (h : j < (rw n f).length) : (rw n f)[j] = rwc (f j).1 (f j).2 := by simp [rw]
theorem rw_congr {n : Nat} {f g : Nat → Std × Int} (h : ∀ t, t < n → f t = g t) : rw n f = rw n g := by
  unfold rw
  exact List.map_congr_left fun t ht => by rw [h t (List.mem_range.1 ht)]
theorem rw_set {n i : Nat} {f : Nat → Std × Int} (h : i < n) {a b c d e z : Int} : (rw n f).set i [.v (.int .i64 a), .v (.int .i64 b), .v (.int .i64 c), .v (.int .i64 d), .v (.int .i64 e), .v (.int .i64 z)] = rw n (upd f i (⟨a, b, c, d, e⟩, z)) := by
  apply List.ext_getElem (by rw [List.length_set, rw_len, rw_len])
  intro j h1 h2
  rw [List.getElem_set, rw_el, rw_el]
  unfold upd
  by_cases c : i = j
  · subst c; rw [if_pos rfl, if_pos rfl]
  · rw [if_neg c, if_neg (Ne.symm c)]
theorem upd_same {f : Nat → Std × Int} {i : Nat} {x : Std × Int} : upd f i x i = x := by unfold upd; rw [if_pos rfl]
theorem upd_ne {f : Nat → Std × Int} {i j : Nat} {x : Std × Int} (h : j ≠ i) : upd f i x j = f j := by unfold upd; rw [if_neg h]
theorem upd_upd {f : Nat → Std × Int} {i : Nat} {x y : Std × Int} : upd (upd f i x) i y = upd f i y := by
  funext t; unfold upd; split <;> rfl
theorem rw_repl {n : Nat} : List.replicate n [.v (.int .i64 0), .v (.int .i64 0), .v (.int .i64 0), .v (.int .i64 0), .v (.int .i64 0), .v (.int .i64 0)] = rw n (fun _ => (⟨0, 0, 0, 0, 0⟩, 0)) := by
  apply List.ext_getElem (by rw [List.length_replicate, rw_len])
  intro j h1 h2
  simp [rw]
theorem rw_flat {n : Nat} {f : Nat → Std × Int} : rowsFlat (rw n f) = true := by
  unfold rw; exact rowsFlat_map fun _ => rfl
def rw0 (k : Nat) (t : Nat) : Std × Int := (⟨if t < k then (t : Int) else 0, 0, 0, 0, 0⟩, 0)
def rw1 (l : List Gam) (k : Nat) (t : Nat) : Std × Int := (stN l t k, 0)
def rw2 (l : List Gam) (k : Nat) (t : Nat) : Std × Int := (stF l t, amN l t k)
def rwF (l : Lea) : List (List D) := rw l.far.length (rw2 l.games l.games.length)
theorem res_pts {g : Gam} {n : Int} (h : gmOk g n = true) (hf : ¬ g.fin = 0) : (resI g = 0 ∧ ptG g g.home = 3 ∧ ptG g g.away = 0) ∨ (resI g = 1 ∧ ptG g g.home = 2 ∧ ptG g g.away = 1) ∨ (resI g = 2 ∧ ptG g g.home = 1 ∧ ptG g g.away = 2) ∨ (resI g = 3 ∧ ptG g g.home = 0 ∧ ptG g g.away = 3) := by
  obtain ⟨h1, h2, h3, h4, _⟩ := gm_teams h
  have h5 := (gm_goals h).resolve_left hf
  have i1 : inG g g.home = true := inG_home hf rfl
  have i2 : inG g g.away = true := inG_away hf rfl
  have w1 : winB g g.home = decide (g.ag < g.hg) := by unfold winB; rw [decide_eq_true (rfl : g.home = g.home)]; cases decide (g.ag < g.hg) <;> rfl
  have w2 : winB g g.away = !decide (g.ag < g.hg) := by unfold winB; rw [decide_eq_false h3]; cases decide (g.ag < g.hg) <;> rfl
  have p1 : ptG g g.home = if g.fin = 1 ∧ g.ag < g.hg then 3 else if g.fin = 2 ∧ g.ag < g.hg then 2 else if g.fin = 2 then 1 else 0 := by
    unfold ptG; rw [i1, w1]; simp
  have p2 : ptG g g.away = if g.fin = 1 ∧ ¬ g.ag < g.hg then 3 else if g.fin = 2 ∧ ¬ g.ag < g.hg then 2 else if g.fin = 2 then 1 else 0 := by
    unfold ptG; rw [i2, w2]; simp
  rw [p1, p2]
  unfold resI
  rcases (show g.fin = 1 ∨ g.fin = 2 by omega) with c | c <;> by_cases d : g.ag < g.hg
  · exact .inl (by simp [c, d])
  · exact .inr (.inr (.inr (by simp [c, d])))
  · exact .inr (.inl (by simp [c, d]))
  · exact .inr (.inr (.inl (by simp [c, d])))
theorem rw1_skip {l : List Gam} {n k : Nat} (hk : k < l.length) (h : (l.getD k default).fin = 0) : rw n (rw1 l k) = rw n (rw1 l (k + 1)) := rw_congr fun t _ => by
  unfold rw1; rw [stN_succ hk, addG_skip (inG_fin h)]
theorem rw1_step {l : List Gam} {n k : Nat} (hk : k < l.length) (hm : gmOk (l.getD k default) n = true) (hf : ¬ (l.getD k default).fin = 0) {p q : Int} (hp : ptG (l.getD k default) (l.getD k default).home = p) (hq : ptG (l.getD k default) (l.getD k default).away = q) {f : Nat → Std × Int}
    (h1 : f (l.getD k default).home.toNat = (⟨(rw1 l k (l.getD k default).home.toNat).1.team, (rw1 l k (l.getD k default).home.toNat).1.games + 1, (rw1 l k (l.getD k default).home.toNat).1.pts + p, (rw1 l k (l.getD k default).home.toNat).1.gf + (l.getD k default).hg, (rw1 l k (l.getD k default).home.toNat).1.ga + (l.getD k default).ag⟩, 0))
    (h2 : f (l.getD k default).away.toNat = (⟨(rw1 l k (l.getD k default).away.toNat).1.team, (rw1 l k (l.getD k default).away.toNat).1.games + 1, (rw1 l k (l.getD k default).away.toNat).1.pts + q, (rw1 l k (l.getD k default).away.toNat).1.gf + (l.getD k default).ag, (rw1 l k (l.getD k default).away.toNat).1.ga + (l.getD k default).hg⟩, 0))
    (h3 : ∀ t : Nat, t ≠ (l.getD k default).home.toNat → t ≠ (l.getD k default).away.toNat → f t = rw1 l k t) : rw n f = rw n (rw1 l (k + 1)) := rw_congr fun t ht => by
  obtain ⟨g1, g2, g3, g4, _⟩ := gm_teams hm
  have ht' := stN_team (l := l) (t := (t : Int)) k (by omega)
  by_cases c1 : t = (l.getD k default).home.toNat
  · have e1 : (l.getD k default).home = (t : Int) := by omega
    rw [← c1] at h1
    rw [h1]
    unfold rw1
    rw [stN_succ hk, addG_home (by rw [ht']; exact inG_home hf e1) (by rw [ht']; exact e1), ht', ← e1, hp]
  by_cases c2 : t = (l.getD k default).away.toNat
  · have e1 : (l.getD k default).away = (t : Int) := by omega
    rw [← c2] at h2
    rw [h2]
    unfold rw1
    rw [stN_succ hk, addG_away (by rw [ht']; exact inG_away hf e1) (by rw [ht']; omega), ht', ← e1, hq]
  · rw [h3 t c1 c2]
    unfold rw1
    rw [stN_succ hk, addG_skip (by rw [ht']; exact inG_no (by omega) (by omega))]
def O59 : Nat → Sch := fun id => if id = 1 then .one 0 (.one 1 (.one 2 (.one 3 (.one 4 (.one 5 (.one 6 (.one 7 (.one 8 (.one 9 (.one 10 (.one 11 (.one 12 (.one 13 (.one 14 (.one 15 (.one 16 (.one 17 (.one 18 (.one 19 (.one 20 (.one 21 (.one 22 (.one 23 (.one 24 (.one 25 (.one 26 (.one 27 (.one 28 (.one 29 (.one 30 (.one 31 (.one 32 (.one 33 (.one 34 (.one 35 (.one 36 (.one 37 (.one 38 (.done))))))))))))))))))))))))))))))))))))))) else .done
theorem O59_1 : O59 1 = .one 0 (.one 1 (.one 2 (.one 3 (.one 4 (.one 5 (.one 6 (.one 7 (.one 8 (.one 9 (.one 10 (.one 11 (.one 12 (.one 13 (.one 14 (.one 15 (.one 16 (.one 17 (.one 18 (.one 19 (.one 20 (.one 21 (.one 22 (.one 23 (.one 24 (.one 25 (.one 26 (.one 27 (.one 28 (.one 29 (.one 30 (.one 31 (.one 32 (.one 33 (.one 34 (.one 35 (.one 36 (.one 37 (.one 38 (.done))))))))))))))))))))))))))))))))))))))) := rfl
theorem ho59 : Tryd.f59.body.map (okO O59) = some true := by kernel_rfl
def Cf59 : Nat → List AV → (AV → List AV → Sto → Prop) → Kt → List AV → Sto → Prop := fun f args K Q e s => match f with
  | _ => False
def Ct59 : CT := { f := Cf59, y := noYld, z := fun d => false }
theorem ctz59 {d : Nat} : CT.z Ct59 d = (false) := id rfl
theorem Ct59_ok : Ct59.ok Tryd.prog := ok_of_f (fun f args K Q e s h => by
  have h : Cf59 f args K Q e s := h
  unfold Cf59 at h; split at h
  · exact h.elim) (fun _ _ _ _ _ _ _ _ _ h => h)
theorem c59 : callable Tryd.prog 59 = true := by kernel_rfl
def addR (f : Nat → Std × Int) (i : Nat) (p a b : Int) : Std × Int := (⟨(f i).1.team, (f i).1.games + 1, (f i).1.pts + p, (f i).1.gf + a, (f i).1.ga + b⟩, (f i).2)
def Ok59 (n : Nat) (f : Nat → Std × Int) (i p a b : Int) : Prop := (0 ≤ i ∧ i < n ∧ n ≤ 1000) ∧ StB (f i.toNat).1 64 ∧ (0 ≤ p ∧ p ≤ 3) ∧ (0 ≤ a ∧ a ≤ 99) ∧ 0 ≤ b ∧ b ≤ 99
theorem does59 (n : Nat) (f : Nat → Std × Int) (i p a b : Int) (h : Ok59 n f i p a b) : pcall Tryd.prog 59 [.i i, .i p, .i a, .i b, .ref 4 0] (fun r e1 s1 => e1 = [.ref 4 0] ∧ r = .d (.tup []) ∧ s1 = [(0, []), (4, [.own 20 70 6 (rw n (upd f i.toNat (addR f i.toNat p a b)))])]) (fun x e1 _ => e1 = [.ref 4 0] ∧ match x with | .panic _ => False | _ => False) [.ref 4 0] ((0, []) :: [(4, [.own 20 70 6 (rw n f)])]) := by
  obtain ⟨⟨h1, h2, hn⟩, h3, h4, h5, h6⟩ := h
  unfold StB at h3
  refine pcall_start (O := O59) (tb := 59000) Ct59_ok hmix ho59 Tryd.func59 c59 rfl Tryd.ntmps59 Tryd.results59 ?_
  simp (maxSteps := 4000000) +contextual (disch := first | omega | exact qdb_ok (by kernel_rfl) | exact okb_ok (by kernel_rfl)) only [bw1,bw2,bw3,bw4,bw5,bw6,bw7,bc0,bc1,bc2,bc3,bc4,bc5,bc6,bc7,bb0,setPs,AV.owns,AV.datF,AV.frz,AV.cpy,ifV,isEqB,nilV,nilX,AV.isNilS,AV.isNoRows,wk,dclo,datOf,binIs,addF,AV.isPtr,idxV,AV.isSl,AV.isSlice,AV.rows,ps,pv,extV,extS,AV.outs,AV.outF,packD,AV.dl,fieldV,fieldS,AV.cells?,AV.upr,AV.menc,AV.one,D.one,Value.oneCell',tagOf,AV.isApp,strV,strS,bolV,bolS,slcV,AV.isSlD,asrtS,AV.dcells,D.cells?,stcV,stcS,leafOk,eqDs,eqD,packA,D.val?,↓reduceIte,reduceCtorEq,Nat.reduceAdd,Nat.reduceSub,Nat.reduceMul,List.reduceReplicate,Nat.reduceLeDiff,Nat.reduceLT,Nat.reduceBEq,Nat.reduceEqDiff,Int.reduceNeg,Int.reduceEq,Int.reduceLE,Int.reduceLT,tfb,D.flat,D.flats,av_glob,p_bnsl,nl_nil,nl_sl,nl_own,nlR_e,nlR_n,ro_n,ro_r,qd_Ro,ox_1,or_own,or_nil,rw_len,rw_get,rw_set,upd_same,upd_ne,upd_upd,ctz59,O59_1,h2]
  exact ⟨h1, rfl⟩
def sp59 (args : List AV) (K : AV → List AV → Sto → Prop) (e : List AV) (s : Sto) : Prop :=
  ∃ n f i p a b, Ok59 n f i p a b ∧ args = [.i i, .i p, .i a, .i b, .ref 4 0] ∧ (s.get 4 = some [.own 20 70 6 (rw n f)] ∧ AV.stays [4, 20] [.ref 4 0] e ∧ othL [4, 20] [.ref 4 0] s) ∧ K (.d (.tup [])) e (mer [4, 20] [(0, []), (4, [.own 20 70 6 (rw n (upd f i.toNat (addR f i.toNat p a b)))])] s)
theorem sp59_ok {args : List AV} {K : AV → List AV → Sto → Prop} {Q : Kt} {e : List AV} {s : Sto} (h : sp59 args K e s) : pcall Tryd.prog 59 args K Q e s := by
  obtain ⟨n, f, i, p, a, b, hp, rfl, ⟨h1, h2, h3⟩, hK⟩ := h
  refine pcall_frame (R := fun r s1 => r = .d (.tup []) ∧ s1 = [(0, []), (4, [.own 20 70 6 (rw n (upd f i.toNat (addR f i.toNat p a b)))])]) (RQ := fun _ _ => False) (frame2 (by decide) (by decide) rfl h1 h2 h3) (does59 n f i p a b hp) ?_ (fun _ _ h => h.elim)
  rintro r s1 ⟨rfl, rfl⟩
  refine ⟨⟨rfl, fun g c hg hc => ?_⟩, hK⟩
  simp at hg
  rcases hg with rfl | rfl
  · simp [Sto.get] at hc; subst hc; rfl
  · simp [Sto.get] at hc
end Go.Proofs.YtmajlffglplcnaaDoor
