/- A part of the proof that the last text ends: what functions of the program do, told by plain data. -/
import Derived.Test.YtmajlffglplcnaaDoorEc
import Derived.Test.YtmajlffglplcnaaDoorEX
import Derived.Test.YtmajlffglplcnaaDoorTFL
set_option linter.unusedVariables false
set_option linter.unusedSimpArgs false
namespace Go.Proofs.YtmajlffglplcnaaDoor
open Go Go.E
set_option maxRecDepth 100000
set_option maxHeartbeats 16000000
theorem hmix : Tryd.prog.follows .mixedOrders = true := by kernel_rfl
abbrev ic (n : Int) : List D := [.i n]
theorem ints_inj {a b : List Int} : (a.map ic = b.map ic) = (a = b) := inj_map fun _ _ h => by simpa using h
theorem ic_inj {a b : List Int} (h : a.map ic = b.map ic) : a = b := by rw [ints_inj] at h; exact h
theorem at_lt {α : Type} [Inhabited α] {l : List α} {i : Nat} (h : i < l.length) : l.getD i default = l[i] := by simp [List.getD, List.getElem?_eq_getElem h]
theorem take_succ {α : Type} [Inhabited α] {l : List α} {k : Nat} (h : k < l.length) : l.take (k + 1) = l.take k ++ [l.getD k default] := by
  rw [List.take_succ_eq_append_getElem h, at_lt h]
def inB (n lo hi : Int) : Bool := decide (lo ≤ n) && decide (n ≤ hi)
theorem inB_iff {n lo hi : Int} : inB n lo hi = true ↔ lo ≤ n ∧ n ≤ hi := by simp [inB]
structure Gam where
  day : Int
  home : Int
  away : Int
  fin : Int
  hg : Int
  ag : Int
  deriving Inhabited, DecidableEq
abbrev Gam.c (g : Gam) : List D := [.i g.day, .i g.home, .i g.away, .i g.fin, .i g.hg, .i g.ag]
abbrev pc (l : List Int) : List D := [.sl 1 (l.map ic)]
structure Lea where
  far : List (List Int)
  games : List Gam
  deriving Inhabited, DecidableEq
abbrev Lea.c (l : Lea) : List D := [.sl 1 (l.far.map pc), .sl 6 (l.games.map Gam.c)]
theorem Gam.inj {a b : Gam} (h : a.c = b.c) : a = b := by cases a; cases b; simp at h; simp [h]
theorem gams_inj {a b : List Gam} : (a.map Gam.c = b.map Gam.c) = (a = b) := inj_map fun _ _ h => Gam.inj h
theorem fars_inj {a b : List (List Int)} : (a.map pc = b.map pc) = (a = b) := inj_map fun _ _ h => by
  simp only [pc, List.cons.injEq, D.sl.injEq, true_and, and_true] at h
  exact ic_inj h
theorem gam_inj {a b : Gam} : (a.day = b.day ∧ a.home = b.home ∧ a.away = b.away ∧ a.fin = b.fin ∧ a.hg = b.hg ∧ a.ag = b.ag) = (a = b) := by cases a; cases b; simp
theorem lea_inj {a b : Lea} : (a.far = b.far ∧ a.games = b.games) = (a = b) := by cases a; cases b; simp
def hasB (g : Gam) (t : Int) : Bool := decide (g.home = t) || decide (g.away = t)
def gmOk (g : Gam) (n : Int) : Bool := inB g.day 0 16384 && (inB g.home 0 (n - 1) && (inB g.away 0 (n - 1) && (!decide (g.home = g.away) && (inB g.fin 0 2 && (decide (g.fin = 0) || (inB g.hg 0 99 && (inB g.ag 0 99 && !decide (g.hg = g.ag))))))))
def O53 : Nat → Sch := fun id => .done
theorem ho53 : Tryd.f53.body.map (okO O53) = some true := by kernel_rfl
def Cf53 : Nat → List AV → (AV → List AV → Sto → Prop) → Kt → List AV → Sto → Prop := fun f args K Q e s => match f with
  | _ => False
def Ct53 : CT := { f := Cf53, y := noYld, z := fun d => false }
theorem ctz53 {d : Nat} : CT.z Ct53 d = (false) := id rfl
theorem Ct53_ok : Ct53.ok Tryd.prog := ok_of_f (fun f args K Q e s h => by
  have h : Cf53 f args K Q e s := h
  unfold Cf53 at h; split at h
  · exact h.elim) (fun _ _ _ _ _ _ _ _ _ h => h)
theorem c53 : callable Tryd.prog 53 = true := by kernel_rfl
theorem pf53 (n lo hi : Int) : PF Tryd.prog 53 [.i n, .i lo, .i hi] (fun zz => zz = .ret (.b (inB n lo hi))) := by
  refine PF_nil (PF_start (O := O53) Ct53_ok hmix ho53 Tryd.func53 c53 rfl Tryd.ntmps53 Tryd.results53 ?_)
  by_cases h : lo ≤ n
  · simp (maxSteps := 4000000) +contextual (disch := first | omega | exact qdb_ok (by kernel_rfl) | exact okb_ok (by kernel_rfl)) only [bw1,bw2,bw3,bw4,bw5,bw6,bw7,bc0,bc1,bc2,bc3,bc4,bc5,bc6,bc7,bb0,setPs,AV.owns,AV.datF,AV.frz,AV.cpy,ifV,isEqB,nilV,nilX,AV.isNilS,AV.isNoRows,wk,dclo,datOf,binIs,addF,AV.isPtr,idxV,AV.isSl,AV.isSlice,AV.rows,ps,pv,extV,extS,AV.outs,AV.outF,packD,AV.dl,fieldV,fieldS,AV.cells?,AV.upr,AV.menc,AV.one,D.one,Value.oneCell',tagOf,AV.isApp,strV,strS,bolV,bolS,slcV,AV.isSlD,asrtS,AV.dcells,D.cells?,stcV,stcS,leafOk,eqDs,eqD,packA,D.val?,↓reduceIte,reduceCtorEq,Nat.reduceAdd,Nat.reduceSub,Nat.reduceMul,List.reduceReplicate,Nat.reduceLeDiff,Nat.reduceLT,Nat.reduceBEq,Nat.reduceEqDiff,Int.reduceNeg,Int.reduceEq,Int.reduceLE,Int.reduceLT,tfb,ctz53,h, inB]
  · simp (maxSteps := 4000000) +contextual (disch := first | omega | exact qdb_ok (by kernel_rfl) | exact okb_ok (by kernel_rfl)) only [bw1,bw2,bw3,bw4,bw5,bw6,bw7,bc0,bc1,bc2,bc3,bc4,bc5,bc6,bc7,bb0,setPs,AV.owns,AV.datF,AV.frz,AV.cpy,ifV,isEqB,nilV,nilX,AV.isNilS,AV.isNoRows,wk,dclo,datOf,binIs,addF,AV.isPtr,idxV,AV.isSl,AV.isSlice,AV.rows,ps,pv,extV,extS,AV.outs,AV.outF,packD,AV.dl,fieldV,fieldS,AV.cells?,AV.upr,AV.menc,AV.one,D.one,Value.oneCell',tagOf,AV.isApp,strV,strS,bolV,bolS,slcV,AV.isSlD,asrtS,AV.dcells,D.cells?,stcV,stcS,leafOk,eqDs,eqD,packA,D.val?,↓reduceIte,reduceCtorEq,Nat.reduceAdd,Nat.reduceSub,Nat.reduceMul,List.reduceReplicate,Nat.reduceLeDiff,Nat.reduceLT,Nat.reduceBEq,Nat.reduceEqDiff,Int.reduceNeg,Int.reduceEq,Int.reduceLE,Int.reduceLT,tfb,ctz53,h, inB, Bool.false_and]
def ent53 (args : List AV) (K : AV → List AV → Sto → Prop) (e : List AV) (s : Sto) : Prop := ent (α := (Int) × (Int) × (Int)) (fun aa => [.i aa.1, .i aa.2.1, .i aa.2.2]) (fun aa => True) (fun aa => .b (inB aa.1 aa.2.1 aa.2.2)) args K e s
theorem ent53_ok {args : List AV} {K : AV → List AV → Sto → Prop} {Q : Kt} {e : List AV} {s : Sto} (h : ent53 args K e s) : pcall Tryd.prog 53 args K Q e s := ent_ok (fun aa h => pf53 aa.1 aa.2.1 aa.2.2) h
theorem eq53 {n : Int} {lo : Int} {hi : Int} {KK : AV → List AV → Sto → Prop} {ee : List AV} {ss : Sto} : ent53 [.d (.i n), .d (.i lo), .d (.i hi)] KK ee ss = (KK (.d (.b (inB n lo hi))) ee ss) := by
  unfold ent53; rw [ent_iff (n, lo, hi) (by intro b h; simpa [Prod.ext_iff, and_assoc, Int.ofNat_inj, ints_inj, gams_inj, fars_inj, gam_inj, lea_inj] using h) rfl]; simp
def O32 : Nat → Sch := fun id => .done
theorem ho32 : Tryd.f32.body.map (okO O32) = some true := by kernel_rfl
def Cf32 : Nat → List AV → (AV → List AV → Sto → Prop) → Kt → List AV → Sto → Prop := fun f args K Q e s => match f with
  | _ => False
def Ct32 : CT := { f := Cf32, y := noYld, z := fun d => false }
theorem ctz32 {d : Nat} : CT.z Ct32 d = (false) := id rfl
theorem Ct32_ok : Ct32.ok Tryd.prog := ok_of_f (fun f args K Q e s h => by
  have h : Cf32 f args K Q e s := h
  unfold Cf32 at h; split at h
  · exact h.elim) (fun _ _ _ _ _ _ _ _ _ h => h)
theorem c32 : callable Tryd.prog 32 = true := by kernel_rfl
theorem pf32 (n lo hi : Int) : PF Tryd.prog 32 [.i n, .i lo, .i hi] (fun zz => zz = .ret (.b (inB n lo hi))) := by
  refine PF_nil (PF_start (O := O32) Ct32_ok hmix ho32 Tryd.func32 c32 rfl Tryd.ntmps32 Tryd.results32 ?_)
  by_cases h : lo ≤ n
  · simp (maxSteps := 4000000) +contextual (disch := first | omega | exact qdb_ok (by kernel_rfl) | exact okb_ok (by kernel_rfl)) only [bw1,bw2,bw3,bw4,bw5,bw6,bw7,bc0,bc1,bc2,bc3,bc4,bc5,bc6,bc7,bb0,setPs,AV.owns,AV.datF,AV.frz,AV.cpy,ifV,isEqB,nilV,nilX,AV.isNilS,AV.isNoRows,wk,dclo,datOf,binIs,addF,AV.isPtr,idxV,AV.isSl,AV.isSlice,AV.rows,ps,pv,extV,extS,AV.outs,AV.outF,packD,AV.dl,fieldV,fieldS,AV.cells?,AV.upr,AV.menc,AV.one,D.one,Value.oneCell',tagOf,AV.isApp,strV,strS,bolV,bolS,slcV,AV.isSlD,asrtS,AV.dcells,D.cells?,stcV,stcS,leafOk,eqDs,eqD,packA,D.val?,↓reduceIte,reduceCtorEq,Nat.reduceAdd,Nat.reduceSub,Nat.reduceMul,List.reduceReplicate,Nat.reduceLeDiff,Nat.reduceLT,Nat.reduceBEq,Nat.reduceEqDiff,Int.reduceNeg,Int.reduceEq,Int.reduceLE,Int.reduceLT,tfb,ctz32,h, inB]
  · simp (maxSteps := 4000000) +contextual (disch := first | omega | exact qdb_ok (by kernel_rfl) | exact okb_ok (by kernel_rfl)) only [bw1,bw2,bw3,bw4,bw5,bw6,bw7,bc0,bc1,bc2,bc3,bc4,bc5,bc6,bc7,bb0,setPs,AV.owns,AV.datF,AV.frz,AV.cpy,ifV,isEqB,nilV,nilX,AV.isNilS,AV.isNoRows,wk,dclo,datOf,binIs,addF,AV.isPtr,idxV,AV.isSl,AV.isSlice,AV.rows,ps,pv,extV,extS,AV.outs,AV.outF,packD,AV.dl,fieldV,fieldS,AV.cells?,AV.upr,AV.menc,AV.one,D.one,Value.oneCell',tagOf,AV.isApp,strV,strS,bolV,bolS,slcV,AV.isSlD,asrtS,AV.dcells,D.cells?,stcV,stcS,leafOk,eqDs,eqD,packA,D.val?,↓reduceIte,reduceCtorEq,Nat.reduceAdd,Nat.reduceSub,Nat.reduceMul,List.reduceReplicate,Nat.reduceLeDiff,Nat.reduceLT,Nat.reduceBEq,Nat.reduceEqDiff,Int.reduceNeg,Int.reduceEq,Int.reduceLE,Int.reduceLT,tfb,ctz32,h, inB, Bool.false_and]
def ent32 (args : List AV) (K : AV → List AV → Sto → Prop) (e : List AV) (s : Sto) : Prop := ent (α := (Int) × (Int) × (Int)) (fun aa => [.i aa.1, .i aa.2.1, .i aa.2.2]) (fun aa => True) (fun aa => .b (inB aa.1 aa.2.1 aa.2.2)) args K e s
theorem ent32_ok {args : List AV} {K : AV → List AV → Sto → Prop} {Q : Kt} {e : List AV} {s : Sto} (h : ent32 args K e s) : pcall Tryd.prog 32 args K Q e s := ent_ok (fun aa h => pf32 aa.1 aa.2.1 aa.2.2) h
theorem eq32 {n : Int} {lo : Int} {hi : Int} {KK : AV → List AV → Sto → Prop} {ee : List AV} {ss : Sto} : ent32 [.d (.i n), .d (.i lo), .d (.i hi)] KK ee ss = (KK (.d (.b (inB n lo hi))) ee ss) := by
  unfold ent32; rw [ent_iff (n, lo, hi) (by intro b h; simpa [Prod.ext_iff, and_assoc, Int.ofNat_inj, ints_inj, gams_inj, fars_inj, gam_inj, lea_inj] using h) rfl]; simp
def O29 : Nat → Sch := fun id => .done
theorem ho29 : Tryd.f29.body.map (okO O29) = some true := by kernel_rfl
def Cf29 : Nat → List AV → (AV → List AV → Sto → Prop) → Kt → List AV → Sto → Prop := fun f args K Q e s => match f with
  | _ => False
def Ct29 : CT := { f := Cf29, y := noYld, z := fun d => false }
theorem ctz29 {d : Nat} : CT.z Ct29 d = (false) := id rfl
theorem Ct29_ok : Ct29.ok Tryd.prog := ok_of_f (fun f args K Q e s h => by
  have h : Cf29 f args K Q e s := h
  unfold Cf29 at h; split at h
  · exact h.elim) (fun _ _ _ _ _ _ _ _ _ h => h)
theorem c29 : callable Tryd.prog 29 = true := by kernel_rfl
theorem pf29 (g : Gam) (t : Int) : PF Tryd.prog 29 [.agg g.c, .i t] (fun zz => zz = .ret (.b (hasB g t))) := by
  by_cases h : g.home = t
  · have hb : (g.home == t) = true := by simpa using h
    refine PF_nil (PF_start (O := O29) Ct29_ok hmix ho29 Tryd.func29 c29 rfl Tryd.ntmps29 Tryd.results29 ?_)
    simp (maxSteps := 4000000) +contextual (disch := first | omega | exact qdb_ok (by kernel_rfl) | exact okb_ok (by kernel_rfl)) only [bw1,bw2,bw3,bw4,bw5,bw6,bw7,bc0,bc1,bc2,bc3,bc4,bc5,bc6,bc7,bb0,setPs,AV.owns,AV.datF,AV.frz,AV.cpy,ifV,isEqB,nilV,nilX,AV.isNilS,AV.isNoRows,wk,dclo,datOf,binIs,addF,AV.isPtr,idxV,AV.isSl,AV.isSlice,AV.rows,ps,pv,extV,extS,AV.outs,AV.outF,packD,AV.dl,fieldV,fieldS,AV.cells?,AV.upr,AV.menc,AV.one,D.one,Value.oneCell',tagOf,AV.isApp,strV,strS,bolV,bolS,slcV,AV.isSlD,asrtS,AV.dcells,D.cells?,stcV,stcS,leafOk,eqDs,eqD,packA,D.val?,↓reduceIte,reduceCtorEq,Nat.reduceAdd,Nat.reduceSub,Nat.reduceMul,List.reduceReplicate,Nat.reduceLeDiff,Nat.reduceLT,Nat.reduceBEq,Nat.reduceEqDiff,Int.reduceNeg,Int.reduceEq,Int.reduceLE,Int.reduceLT,tfb,ctz29,hb, hasB, h, decide_true, Bool.true_or]
  · have hb : (g.home == t) = false := by simpa using h
    refine PF_nil (PF_start (O := O29) Ct29_ok hmix ho29 Tryd.func29 c29 rfl Tryd.ntmps29 Tryd.results29 ?_)
    simp (maxSteps := 4000000) +contextual (disch := first | omega | exact qdb_ok (by kernel_rfl) | exact okb_ok (by kernel_rfl)) only [bw1,bw2,bw3,bw4,bw5,bw6,bw7,bc0,bc1,bc2,bc3,bc4,bc5,bc6,bc7,bb0,setPs,AV.owns,AV.datF,AV.frz,AV.cpy,ifV,isEqB,nilV,nilX,AV.isNilS,AV.isNoRows,wk,dclo,datOf,binIs,addF,AV.isPtr,idxV,AV.isSl,AV.isSlice,AV.rows,ps,pv,extV,extS,AV.outs,AV.outF,packD,AV.dl,fieldV,fieldS,AV.cells?,AV.upr,AV.menc,AV.one,D.one,Value.oneCell',tagOf,AV.isApp,strV,strS,bolV,bolS,slcV,AV.isSlD,asrtS,AV.dcells,D.cells?,stcV,stcS,leafOk,eqDs,eqD,packA,D.val?,↓reduceIte,reduceCtorEq,Nat.reduceAdd,Nat.reduceSub,Nat.reduceMul,List.reduceReplicate,Nat.reduceLeDiff,Nat.reduceLT,Nat.reduceBEq,Nat.reduceEqDiff,Int.reduceNeg,Int.reduceEq,Int.reduceLE,Int.reduceLT,tfb,ctz29,hb, hasB, h, decide_false, Bool.false_or]
    try rfl
def ent29 (args : List AV) (K : AV → List AV → Sto → Prop) (e : List AV) (s : Sto) : Prop := ent (α := (Gam) × (Int)) (fun aa => [.agg aa.1.c, .i aa.2]) (fun aa => True) (fun aa => .b (hasB aa.1 aa.2)) args K e s
theorem ent29_ok {args : List AV} {K : AV → List AV → Sto → Prop} {Q : Kt} {e : List AV} {s : Sto} (h : ent29 args K e s) : pcall Tryd.prog 29 args K Q e s := ent_ok (fun aa h => pf29 aa.1 aa.2) h
theorem eq29 {g : Gam} {t : Int} {KK : AV → List AV → Sto → Prop} {ee : List AV} {ss : Sto} : ent29 [.d (.agg g.c), .d (.i t)] KK ee ss = (KK (.d (.b (hasB g t))) ee ss) := by
  unfold ent29; rw [ent_iff (g, t) (by intro b h; simpa [Prod.ext_iff, and_assoc, Int.ofNat_inj, ints_inj, gams_inj, fars_inj, gam_inj, lea_inj] using h) rfl]; simp
def O56 : Nat → Sch := fun id => .done
theorem ho56 : Tryd.f56.body.map (okO O56) = some true := by kernel_rfl
def Cf56 : Nat → List AV → (AV → List AV → Sto → Prop) → Kt → List AV → Sto → Prop := fun f args K Q e s => match f with
  | 53 => ent53 args K e s
  | _ => False
def Ct56 : CT := { f := Cf56, y := noYld, z := fun d => false }
theorem ctz56 {d : Nat} : CT.z Ct56 d = (false) := id rfl
theorem Ct56_ok : Ct56.ok Tryd.prog := ok_of_f (fun f args K Q e s h => by
  have h : Cf56 f args K Q e s := h
  unfold Cf56 at h; split at h
  · exact ent53_ok h
  · exact h.elim) (fun _ _ _ _ _ _ _ _ _ h => h)
theorem x56_53 {n : Int} {lo : Int} {hi : Int} {KK : AV → List AV → Sto → Prop} {QQ : Kt} {ii : At KK} {jj : At QQ} {ee : List AV} {ss : Sto} : xC Ct56 53 [.d (.i n), .d (.i lo), .d (.i hi)] KK QQ ii jj ee ss = (KK (.d (.b (inB n lo hi))) ee ss) := eq53
theorem c56 : callable Tryd.prog 56 = true := by kernel_rfl
theorem pf56 (g : Gam) (n : Int) (h : 0 ≤ n ∧ n ≤ 1000000) : PF Tryd.prog 56 [.agg g.c, .i n] (fun zz => zz = .ret (.b (gmOk g n))) := by
  obtain ⟨hn1, hn2⟩ := h
  unfold gmOk
  by_cases c1 : inB g.day 0 16384 = true
  case neg =>
    refine PF_nil (PF_start (O := O56) Ct56_ok hmix ho56 Tryd.func56 c56 rfl Tryd.ntmps56 Tryd.results56 ?_)
    simp (maxSteps := 4000000) +contextual (disch := first | omega | exact qdb_ok (by kernel_rfl) | exact okb_ok (by kernel_rfl)) only [bw1,bw2,bw3,bw4,bw5,bw6,bw7,bc0,bc1,bc2,bc3,bc4,bc5,bc6,bc7,bb0,setPs,AV.owns,AV.datF,AV.frz,AV.cpy,ifV,isEqB,nilV,nilX,AV.isNilS,AV.isNoRows,wk,dclo,datOf,binIs,addF,AV.isPtr,idxV,AV.isSl,AV.isSlice,AV.rows,ps,pv,extV,extS,AV.outs,AV.outF,packD,AV.dl,fieldV,fieldS,AV.cells?,AV.upr,AV.menc,AV.one,D.one,Value.oneCell',tagOf,AV.isApp,strV,strS,bolV,bolS,slcV,AV.isSlD,asrtS,AV.dcells,D.cells?,stcV,stcS,leafOk,eqDs,eqD,packA,D.val?,↓reduceIte,reduceCtorEq,Nat.reduceAdd,Nat.reduceSub,Nat.reduceMul,List.reduceReplicate,Nat.reduceLeDiff,Nat.reduceLT,Nat.reduceBEq,Nat.reduceEqDiff,Int.reduceNeg,Int.reduceEq,Int.reduceLE,Int.reduceLT,tfb,ctz56,x56_53,c1]
    try simp [c1]
  by_cases c2 : inB g.home 0 (n - 1) = true
  case neg =>
    refine PF_nil (PF_start (O := O56) Ct56_ok hmix ho56 Tryd.func56 c56 rfl Tryd.ntmps56 Tryd.results56 ?_)
    simp (maxSteps := 4000000) +contextual (disch := first | omega | exact qdb_ok (by kernel_rfl) | exact okb_ok (by kernel_rfl)) only [bw1,bw2,bw3,bw4,bw5,bw6,bw7,bc0,bc1,bc2,bc3,bc4,bc5,bc6,bc7,bb0,setPs,AV.owns,AV.datF,AV.frz,AV.cpy,ifV,isEqB,nilV,nilX,AV.isNilS,AV.isNoRows,wk,dclo,datOf,binIs,addF,AV.isPtr,idxV,AV.isSl,AV.isSlice,AV.rows,ps,pv,extV,extS,AV.outs,AV.outF,packD,AV.dl,fieldV,fieldS,AV.cells?,AV.upr,AV.menc,AV.one,D.one,Value.oneCell',tagOf,AV.isApp,strV,strS,bolV,bolS,slcV,AV.isSlD,asrtS,AV.dcells,D.cells?,stcV,stcS,leafOk,eqDs,eqD,packA,D.val?,↓reduceIte,reduceCtorEq,Nat.reduceAdd,Nat.reduceSub,Nat.reduceMul,List.reduceReplicate,Nat.reduceLeDiff,Nat.reduceLT,Nat.reduceBEq,Nat.reduceEqDiff,Int.reduceNeg,Int.reduceEq,Int.reduceLE,Int.reduceLT,tfb,ctz56,x56_53,c1, c2]
    try simp [c1, c2]
  by_cases c3 : inB g.away 0 (n - 1) = true
  case neg =>
    refine PF_nil (PF_start (O := O56) Ct56_ok hmix ho56 Tryd.func56 c56 rfl Tryd.ntmps56 Tryd.results56 ?_)
    simp (maxSteps := 4000000) +contextual (disch := first | omega | exact qdb_ok (by kernel_rfl) | exact okb_ok (by kernel_rfl)) only [bw1,bw2,bw3,bw4,bw5,bw6,bw7,bc0,bc1,bc2,bc3,bc4,bc5,bc6,bc7,bb0,setPs,AV.owns,AV.datF,AV.frz,AV.cpy,ifV,isEqB,nilV,nilX,AV.isNilS,AV.isNoRows,wk,dclo,datOf,binIs,addF,AV.isPtr,idxV,AV.isSl,AV.isSlice,AV.rows,ps,pv,extV,extS,AV.outs,AV.outF,packD,AV.dl,fieldV,fieldS,AV.cells?,AV.upr,AV.menc,AV.one,D.one,Value.oneCell',tagOf,AV.isApp,strV,strS,bolV,bolS,slcV,AV.isSlD,asrtS,AV.dcells,D.cells?,stcV,stcS,leafOk,eqDs,eqD,packA,D.val?,↓reduceIte,reduceCtorEq,Nat.reduceAdd,Nat.reduceSub,Nat.reduceMul,List.reduceReplicate,Nat.reduceLeDiff,Nat.reduceLT,Nat.reduceBEq,Nat.reduceEqDiff,Int.reduceNeg,Int.reduceEq,Int.reduceLE,Int.reduceLT,tfb,ctz56,x56_53,c1, c2, c3]
    try simp [c1, c2, c3]
  by_cases c4 : g.home = g.away
  case pos =>
    have c4b : (g.home == g.away) = true := by simpa using c4
    refine PF_nil (PF_start (O := O56) Ct56_ok hmix ho56 Tryd.func56 c56 rfl Tryd.ntmps56 Tryd.results56 ?_)
    simp (maxSteps := 4000000) +contextual (disch := first | omega | exact qdb_ok (by kernel_rfl) | exact okb_ok (by kernel_rfl)) only [bw1,bw2,bw3,bw4,bw5,bw6,bw7,bc0,bc1,bc2,bc3,bc4,bc5,bc6,bc7,bb0,setPs,AV.owns,AV.datF,AV.frz,AV.cpy,ifV,isEqB,nilV,nilX,AV.isNilS,AV.isNoRows,wk,dclo,datOf,binIs,addF,AV.isPtr,idxV,AV.isSl,AV.isSlice,AV.rows,ps,pv,extV,extS,AV.outs,AV.outF,packD,AV.dl,fieldV,fieldS,AV.cells?,AV.upr,AV.menc,AV.one,D.one,Value.oneCell',tagOf,AV.isApp,strV,strS,bolV,bolS,slcV,AV.isSlD,asrtS,AV.dcells,D.cells?,stcV,stcS,leafOk,eqDs,eqD,packA,D.val?,↓reduceIte,reduceCtorEq,Nat.reduceAdd,Nat.reduceSub,Nat.reduceMul,List.reduceReplicate,Nat.reduceLeDiff,Nat.reduceLT,Nat.reduceBEq,Nat.reduceEqDiff,Int.reduceNeg,Int.reduceEq,Int.reduceLE,Int.reduceLT,tfb,ctz56,x56_53,c1, c2, c3, c4b]
    try simp [c1, c2, c3, c4]
  have c4b : (g.home == g.away) = false := by simpa using c4
  by_cases c5 : inB g.fin 0 2 = true
  case neg =>
    refine PF_nil (PF_start (O := O56) Ct56_ok hmix ho56 Tryd.func56 c56 rfl Tryd.ntmps56 Tryd.results56 ?_)
    simp (maxSteps := 4000000) +contextual (disch := first | omega | exact qdb_ok (by kernel_rfl) | exact okb_ok (by kernel_rfl)) only [bw1,bw2,bw3,bw4,bw5,bw6,bw7,bc0,bc1,bc2,bc3,bc4,bc5,bc6,bc7,bb0,setPs,AV.owns,AV.datF,AV.frz,AV.cpy,ifV,isEqB,nilV,nilX,AV.isNilS,AV.isNoRows,wk,dclo,datOf,binIs,addF,AV.isPtr,idxV,AV.isSl,AV.isSlice,AV.rows,ps,pv,extV,extS,AV.outs,AV.outF,packD,AV.dl,fieldV,fieldS,AV.cells?,AV.upr,AV.menc,AV.one,D.one,Value.oneCell',tagOf,AV.isApp,strV,strS,bolV,bolS,slcV,AV.isSlD,asrtS,AV.dcells,D.cells?,stcV,stcS,leafOk,eqDs,eqD,packA,D.val?,↓reduceIte,reduceCtorEq,Nat.reduceAdd,Nat.reduceSub,Nat.reduceMul,List.reduceReplicate,Nat.reduceLeDiff,Nat.reduceLT,Nat.reduceBEq,Nat.reduceEqDiff,Int.reduceNeg,Int.reduceEq,Int.reduceLE,Int.reduceLT,tfb,ctz56,x56_53,c1, c2, c3, c4b, c5]
    try simp [c1, c2, c3, c4, c5]
  rw [c1, c2, c3, c5, decide_eq_false c4]
  have hz : ∀ b : Bool, ((g.fin == 0) = b) = (decide (g.fin = 0) = b) := fun b => by cases b <;> simp
  by_cases c6 : g.fin = 0
  · have c6b : (g.fin == 0) = true := by simpa using c6
    by_cases c7 : inB g.hg 0 99 = true
    case' pos =>
      by_cases c8 : inB g.ag 0 99 = true
    all_goals
      refine PF_nil (PF_start (O := O56) Ct56_ok hmix ho56 Tryd.func56 c56 rfl Tryd.ntmps56 Tryd.results56 ?_)
      first | (simp (maxSteps := 4000000) +contextual (disch := first | omega | exact qdb_ok (by kernel_rfl) | exact okb_ok (by kernel_rfl)) only [bw1,bw2,bw3,bw4,bw5,bw6,bw7,bc0,bc1,bc2,bc3,bc4,bc5,bc6,bc7,bb0,setPs,AV.owns,AV.datF,AV.frz,AV.cpy,ifV,isEqB,nilV,nilX,AV.isNilS,AV.isNoRows,wk,dclo,datOf,binIs,addF,AV.isPtr,idxV,AV.isSl,AV.isSlice,AV.rows,ps,pv,extV,extS,AV.outs,AV.outF,packD,AV.dl,fieldV,fieldS,AV.cells?,AV.upr,AV.menc,AV.one,D.one,Value.oneCell',tagOf,AV.isApp,strV,strS,bolV,bolS,slcV,AV.isSlD,asrtS,AV.dcells,D.cells?,stcV,stcS,leafOk,eqDs,eqD,packA,D.val?,↓reduceIte,reduceCtorEq,Nat.reduceAdd,Nat.reduceSub,Nat.reduceMul,List.reduceReplicate,Nat.reduceLeDiff,Nat.reduceLT,Nat.reduceBEq,Nat.reduceEqDiff,Int.reduceNeg,Int.reduceEq,Int.reduceLE,Int.reduceLT,tfb,ctz56,x56_53,c1, c2, c3, c4b, c5, c6b, c7, c8]) | (simp (maxSteps := 4000000) +contextual (disch := first | omega | exact qdb_ok (by kernel_rfl) | exact okb_ok (by kernel_rfl)) only [bw1,bw2,bw3,bw4,bw5,bw6,bw7,bc0,bc1,bc2,bc3,bc4,bc5,bc6,bc7,bb0,setPs,AV.owns,AV.datF,AV.frz,AV.cpy,ifV,isEqB,nilV,nilX,AV.isNilS,AV.isNoRows,wk,dclo,datOf,binIs,addF,AV.isPtr,idxV,AV.isSl,AV.isSlice,AV.rows,ps,pv,extV,extS,AV.outs,AV.outF,packD,AV.dl,fieldV,fieldS,AV.cells?,AV.upr,AV.menc,AV.one,D.one,Value.oneCell',tagOf,AV.isApp,strV,strS,bolV,bolS,slcV,AV.isSlD,asrtS,AV.dcells,D.cells?,stcV,stcS,leafOk,eqDs,eqD,packA,D.val?,↓reduceIte,reduceCtorEq,Nat.reduceAdd,Nat.reduceSub,Nat.reduceMul,List.reduceReplicate,Nat.reduceLeDiff,Nat.reduceLT,Nat.reduceBEq,Nat.reduceEqDiff,Int.reduceNeg,Int.reduceEq,Int.reduceLE,Int.reduceLT,tfb,ctz56,x56_53,c1, c2, c3, c4b, c5, c6b, c7])
      try simp [c6]
  have c6b : (g.fin == 0) = false := by simpa using c6
  rw [decide_eq_false c6]
  by_cases c7 : inB g.hg 0 99 = true
  case neg =>
    refine PF_nil (PF_start (O := O56) Ct56_ok hmix ho56 Tryd.func56 c56 rfl Tryd.ntmps56 Tryd.results56 ?_)
    simp (maxSteps := 4000000) +contextual (disch := first | omega | exact qdb_ok (by kernel_rfl) | exact okb_ok (by kernel_rfl)) only [bw1,bw2,bw3,bw4,bw5,bw6,bw7,bc0,bc1,bc2,bc3,bc4,bc5,bc6,bc7,bb0,setPs,AV.owns,AV.datF,AV.frz,AV.cpy,ifV,isEqB,nilV,nilX,AV.isNilS,AV.isNoRows,wk,dclo,datOf,binIs,addF,AV.isPtr,idxV,AV.isSl,AV.isSlice,AV.rows,ps,pv,extV,extS,AV.outs,AV.outF,packD,AV.dl,fieldV,fieldS,AV.cells?,AV.upr,AV.menc,AV.one,D.one,Value.oneCell',tagOf,AV.isApp,strV,strS,bolV,bolS,slcV,AV.isSlD,asrtS,AV.dcells,D.cells?,stcV,stcS,leafOk,eqDs,eqD,packA,D.val?,↓reduceIte,reduceCtorEq,Nat.reduceAdd,Nat.reduceSub,Nat.reduceMul,List.reduceReplicate,Nat.reduceLeDiff,Nat.reduceLT,Nat.reduceBEq,Nat.reduceEqDiff,Int.reduceNeg,Int.reduceEq,Int.reduceLE,Int.reduceLT,tfb,ctz56,x56_53,c1, c2, c3, c4b, c5, c6b, c7]
    try simp [c7]
  by_cases c8 : inB g.ag 0 99 = true
  case neg =>
    refine PF_nil (PF_start (O := O56) Ct56_ok hmix ho56 Tryd.func56 c56 rfl Tryd.ntmps56 Tryd.results56 ?_)
    simp (maxSteps := 4000000) +contextual (disch := first | omega | exact qdb_ok (by kernel_rfl) | exact okb_ok (by kernel_rfl)) only [bw1,bw2,bw3,bw4,bw5,bw6,bw7,bc0,bc1,bc2,bc3,bc4,bc5,bc6,bc7,bb0,setPs,AV.owns,AV.datF,AV.frz,AV.cpy,ifV,isEqB,nilV,nilX,AV.isNilS,AV.isNoRows,wk,dclo,datOf,binIs,addF,AV.isPtr,idxV,AV.isSl,AV.isSlice,AV.rows,ps,pv,extV,extS,AV.outs,AV.outF,packD,AV.dl,fieldV,fieldS,AV.cells?,AV.upr,AV.menc,AV.one,D.one,Value.oneCell',tagOf,AV.isApp,strV,strS,bolV,bolS,slcV,AV.isSlD,asrtS,AV.dcells,D.cells?,stcV,stcS,leafOk,eqDs,eqD,packA,D.val?,↓reduceIte,reduceCtorEq,Nat.reduceAdd,Nat.reduceSub,Nat.reduceMul,List.reduceReplicate,Nat.reduceLeDiff,Nat.reduceLT,Nat.reduceBEq,Nat.reduceEqDiff,Int.reduceNeg,Int.reduceEq,Int.reduceLE,Int.reduceLT,tfb,ctz56,x56_53,c1, c2, c3, c4b, c5, c6b, c7, c8]
    try simp [c7, c8]
  refine PF_nil (PF_start (O := O56) Ct56_ok hmix ho56 Tryd.func56 c56 rfl Tryd.ntmps56 Tryd.results56 ?_)
  simp (maxSteps := 4000000) +contextual (disch := first | omega | exact qdb_ok (by kernel_rfl) | exact okb_ok (by kernel_rfl)) only [bw1,bw2,bw3,bw4,bw5,bw6,bw7,bc0,bc1,bc2,bc3,bc4,bc5,bc6,bc7,bb0,setPs,AV.owns,AV.datF,AV.frz,AV.cpy,ifV,isEqB,nilV,nilX,AV.isNilS,AV.isNoRows,wk,dclo,datOf,binIs,addF,AV.isPtr,idxV,AV.isSl,AV.isSlice,AV.rows,ps,pv,extV,extS,AV.outs,AV.outF,packD,AV.dl,fieldV,fieldS,AV.cells?,AV.upr,AV.menc,AV.one,D.one,Value.oneCell',tagOf,AV.isApp,strV,strS,bolV,bolS,slcV,AV.isSlD,asrtS,AV.dcells,D.cells?,stcV,stcS,leafOk,eqDs,eqD,packA,D.val?,↓reduceIte,reduceCtorEq,Nat.reduceAdd,Nat.reduceSub,Nat.reduceMul,List.reduceReplicate,Nat.reduceLeDiff,Nat.reduceLT,Nat.reduceBEq,Nat.reduceEqDiff,Int.reduceNeg,Int.reduceEq,Int.reduceLE,Int.reduceLT,tfb,ctz56,x56_53,c1, c2, c3, c4b, c5, c6b, c7, c8]
  simp [c7, c8, bne]
  rfl
def ent56 (args : List AV) (K : AV → List AV → Sto → Prop) (e : List AV) (s : Sto) : Prop := ent (α := (Gam) × (Int)) (fun aa => [.agg aa.1.c, .i aa.2]) (fun aa => 0 ≤ aa.2 ∧ aa.2 ≤ 1000000) (fun aa => .b (gmOk aa.1 aa.2)) args K e s
theorem ent56_ok {args : List AV} {K : AV → List AV → Sto → Prop} {Q : Kt} {e : List AV} {s : Sto} (h : ent56 args K e s) : pcall Tryd.prog 56 args K Q e s := ent_ok (fun aa h => pf56 aa.1 aa.2 h) h
theorem eq56 {g : Gam} {n : Int} {KK : AV → List AV → Sto → Prop} {ee : List AV} {ss : Sto} : ent56 [.d (.agg g.c), .d (.i n)] KK ee ss = ((0 ≤ n ∧ n ≤ 1000000) ∧ KK (.d (.b (gmOk g n))) ee ss) := by
  unfold ent56; rw [ent_iff (g, n) (by intro b h; simpa [Prod.ext_iff, and_assoc, Int.ofNat_inj, ints_inj, gams_inj, fars_inj, gam_inj, lea_inj] using h) rfl]; simp
def O51 : Nat → Sch := fun id => .done
theorem ho51 : Tryd.f51.body.map (okO O51) = some true := by kernel_rfl
def Cf51 : Nat → List AV → (AV → List AV → Sto → Prop) → Kt → List AV → Sto → Prop := fun f args K Q e s => match f with
  | 32 => ent32 args K e s
  | _ => False
def Ct51 : CT := { f := Cf51, y := noYld, z := fun d => false }
theorem ctz51 {d : Nat} : CT.z Ct51 d = (false) := id rfl
theorem Ct51_ok : Ct51.ok Tryd.prog := ok_of_f (fun f args K Q e s h => by
  have h : Cf51 f args K Q e s := h
  unfold Cf51 at h; split at h
  · exact ent32_ok h
  · exact h.elim) (fun _ _ _ _ _ _ _ _ _ h => h)
theorem x51_32 {n : Int} {lo : Int} {hi : Int} {KK : AV → List AV → Sto → Prop} {QQ : Kt} {ii : At KK} {jj : At QQ} {ee : List AV} {ss : Sto} : xC Ct51 32 [.d (.i n), .d (.i lo), .d (.i hi)] KK QQ ii jj ee ss = (KK (.d (.b (inB n lo hi))) ee ss) := eq32
theorem c51 : callable Tryd.prog 51 = true := by kernel_rfl
theorem pf51 (g : Gam) (n : Int) (h : 0 ≤ n ∧ n ≤ 1000000) : PF Tryd.prog 51 [.agg g.c, .i n] (fun zz => zz = .ret (.b (gmOk g n))) := by
  obtain ⟨hn1, hn2⟩ := h
  unfold gmOk
  by_cases c1 : inB g.day 0 16384 = true
  case neg =>
    refine PF_nil (PF_start (O := O51) Ct51_ok hmix ho51 Tryd.func51 c51 rfl Tryd.ntmps51 Tryd.results51 ?_)
    simp (maxSteps := 4000000) +contextual (disch := first | omega | exact qdb_ok (by kernel_rfl) | exact okb_ok (by kernel_rfl)) only [bw1,bw2,bw3,bw4,bw5,bw6,bw7,bc0,bc1,bc2,bc3,bc4,bc5,bc6,bc7,bb0,setPs,AV.owns,AV.datF,AV.frz,AV.cpy,ifV,isEqB,nilV,nilX,AV.isNilS,AV.isNoRows,wk,dclo,datOf,binIs,addF,AV.isPtr,idxV,AV.isSl,AV.isSlice,AV.rows,ps,pv,extV,extS,AV.outs,AV.outF,packD,AV.dl,fieldV,fieldS,AV.cells?,AV.upr,AV.menc,AV.one,D.one,Value.oneCell',tagOf,AV.isApp,strV,strS,bolV,bolS,slcV,AV.isSlD,asrtS,AV.dcells,D.cells?,stcV,stcS,leafOk,eqDs,eqD,packA,D.val?,↓reduceIte,reduceCtorEq,Nat.reduceAdd,Nat.reduceSub,Nat.reduceMul,List.reduceReplicate,Nat.reduceLeDiff,Nat.reduceLT,Nat.reduceBEq,Nat.reduceEqDiff,Int.reduceNeg,Int.reduceEq,Int.reduceLE,Int.reduceLT,tfb,ctz51,x51_32,c1]
    try simp [c1]
  by_cases c2 : inB g.home 0 (n - 1) = true
  case neg =>
    refine PF_nil (PF_start (O := O51) Ct51_ok hmix ho51 Tryd.func51 c51 rfl Tryd.ntmps51 Tryd.results51 ?_)
    simp (maxSteps := 4000000) +contextual (disch := first | omega | exact qdb_ok (by kernel_rfl) | exact okb_ok (by kernel_rfl)) only [bw1,bw2,bw3,bw4,bw5,bw6,bw7,bc0,bc1,bc2,bc3,bc4,bc5,bc6,bc7,bb0,setPs,AV.owns,AV.datF,AV.frz,AV.cpy,ifV,isEqB,nilV,nilX,AV.isNilS,AV.isNoRows,wk,dclo,datOf,binIs,addF,AV.isPtr,idxV,AV.isSl,AV.isSlice,AV.rows,ps,pv,extV,extS,AV.outs,AV.outF,packD,AV.dl,fieldV,fieldS,AV.cells?,AV.upr,AV.menc,AV.one,D.one,Value.oneCell',tagOf,AV.isApp,strV,strS,bolV,bolS,slcV,AV.isSlD,asrtS,AV.dcells,D.cells?,stcV,stcS,leafOk,eqDs,eqD,packA,D.val?,↓reduceIte,reduceCtorEq,Nat.reduceAdd,Nat.reduceSub,Nat.reduceMul,List.reduceReplicate,Nat.reduceLeDiff,Nat.reduceLT,Nat.reduceBEq,Nat.reduceEqDiff,Int.reduceNeg,Int.reduceEq,Int.reduceLE,Int.reduceLT,tfb,ctz51,x51_32,c1, c2]
    try simp [c1, c2]
  by_cases c3 : inB g.away 0 (n - 1) = true
  case neg =>
    refine PF_nil (PF_start (O := O51) Ct51_ok hmix ho51 Tryd.func51 c51 rfl Tryd.ntmps51 Tryd.results51 ?_)
    simp (maxSteps := 4000000) +contextual (disch := first | omega | exact qdb_ok (by kernel_rfl) | exact okb_ok (by kernel_rfl)) only [bw1,bw2,bw3,bw4,bw5,bw6,bw7,bc0,bc1,bc2,bc3,bc4,bc5,bc6,bc7,bb0,setPs,AV.owns,AV.datF,AV.frz,AV.cpy,ifV,isEqB,nilV,nilX,AV.isNilS,AV.isNoRows,wk,dclo,datOf,binIs,addF,AV.isPtr,idxV,AV.isSl,AV.isSlice,AV.rows,ps,pv,extV,extS,AV.outs,AV.outF,packD,AV.dl,fieldV,fieldS,AV.cells?,AV.upr,AV.menc,AV.one,D.one,Value.oneCell',tagOf,AV.isApp,strV,strS,bolV,bolS,slcV,AV.isSlD,asrtS,AV.dcells,D.cells?,stcV,stcS,leafOk,eqDs,eqD,packA,D.val?,↓reduceIte,reduceCtorEq,Nat.reduceAdd,Nat.reduceSub,Nat.reduceMul,List.reduceReplicate,Nat.reduceLeDiff,Nat.reduceLT,Nat.reduceBEq,Nat.reduceEqDiff,Int.reduceNeg,Int.reduceEq,Int.reduceLE,Int.reduceLT,tfb,ctz51,x51_32,c1, c2, c3]
    try simp [c1, c2, c3]
  by_cases c4 : g.home = g.away
  case pos =>
    have c4b : (g.home == g.away) = true := by simpa using c4
    refine PF_nil (PF_start (O := O51) Ct51_ok hmix ho51 Tryd.func51 c51 rfl Tryd.ntmps51 Tryd.results51 ?_)
    simp (maxSteps := 4000000) +contextual (disch := first | omega | exact qdb_ok (by kernel_rfl) | exact okb_ok (by kernel_rfl)) only [bw1,bw2,bw3,bw4,bw5,bw6,bw7,bc0,bc1,bc2,bc3,bc4,bc5,bc6,bc7,bb0,setPs,AV.owns,AV.datF,AV.frz,AV.cpy,ifV,isEqB,nilV,nilX,AV.isNilS,AV.isNoRows,wk,dclo,datOf,binIs,addF,AV.isPtr,idxV,AV.isSl,AV.isSlice,AV.rows,ps,pv,extV,extS,AV.outs,AV.outF,packD,AV.dl,fieldV,fieldS,AV.cells?,AV.upr,AV.menc,AV.one,D.one,Value.oneCell',tagOf,AV.isApp,strV,strS,bolV,bolS,slcV,AV.isSlD,asrtS,AV.dcells,D.cells?,stcV,stcS,leafOk,eqDs,eqD,packA,D.val?,↓reduceIte,reduceCtorEq,Nat.reduceAdd,Nat.reduceSub,Nat.reduceMul,List.reduceReplicate,Nat.reduceLeDiff,Nat.reduceLT,Nat.reduceBEq,Nat.reduceEqDiff,Int.reduceNeg,Int.reduceEq,Int.reduceLE,Int.reduceLT,tfb,ctz51,x51_32,c1, c2, c3, c4b]
    try simp [c1, c2, c3, c4]
  have c4b : (g.home == g.away) = false := by simpa using c4
  by_cases c5 : inB g.fin 0 2 = true
  case neg =>
    refine PF_nil (PF_start (O := O51) Ct51_ok hmix ho51 Tryd.func51 c51 rfl Tryd.ntmps51 Tryd.results51 ?_)
    simp (maxSteps := 4000000) +contextual (disch := first | omega | exact qdb_ok (by kernel_rfl) | exact okb_ok (by kernel_rfl)) only [bw1,bw2,bw3,bw4,bw5,bw6,bw7,bc0,bc1,bc2,bc3,bc4,bc5,bc6,bc7,bb0,setPs,AV.owns,AV.datF,AV.frz,AV.cpy,ifV,isEqB,nilV,nilX,AV.isNilS,AV.isNoRows,wk,dclo,datOf,binIs,addF,AV.isPtr,idxV,AV.isSl,AV.isSlice,AV.rows,ps,pv,extV,extS,AV.outs,AV.outF,packD,AV.dl,fieldV,fieldS,AV.cells?,AV.upr,AV.menc,AV.one,D.one,Value.oneCell',tagOf,AV.isApp,strV,strS,bolV,bolS,slcV,AV.isSlD,asrtS,AV.dcells,D.cells?,stcV,stcS,leafOk,eqDs,eqD,packA,D.val?,↓reduceIte,reduceCtorEq,Nat.reduceAdd,Nat.reduceSub,Nat.reduceMul,List.reduceReplicate,Nat.reduceLeDiff,Nat.reduceLT,Nat.reduceBEq,Nat.reduceEqDiff,Int.reduceNeg,Int.reduceEq,Int.reduceLE,Int.reduceLT,tfb,ctz51,x51_32,c1, c2, c3, c4b, c5]
    try simp [c1, c2, c3, c4, c5]
  rw [c1, c2, c3, c5, decide_eq_false c4]
  by_cases c6 : g.fin = 0
  · have c6b : (g.fin == 0) = true := by simpa using c6
    refine PF_nil (PF_start (O := O51) Ct51_ok hmix ho51 Tryd.func51 c51 rfl Tryd.ntmps51 Tryd.results51 ?_)
    simp (maxSteps := 4000000) +contextual (disch := first | omega | exact qdb_ok (by kernel_rfl) | exact okb_ok (by kernel_rfl)) only [bw1,bw2,bw3,bw4,bw5,bw6,bw7,bc0,bc1,bc2,bc3,bc4,bc5,bc6,bc7,bb0,setPs,AV.owns,AV.datF,AV.frz,AV.cpy,ifV,isEqB,nilV,nilX,AV.isNilS,AV.isNoRows,wk,dclo,datOf,binIs,addF,AV.isPtr,idxV,AV.isSl,AV.isSlice,AV.rows,ps,pv,extV,extS,AV.outs,AV.outF,packD,AV.dl,fieldV,fieldS,AV.cells?,AV.upr,AV.menc,AV.one,D.one,Value.oneCell',tagOf,AV.isApp,strV,strS,bolV,bolS,slcV,AV.isSlD,asrtS,AV.dcells,D.cells?,stcV,stcS,leafOk,eqDs,eqD,packA,D.val?,↓reduceIte,reduceCtorEq,Nat.reduceAdd,Nat.reduceSub,Nat.reduceMul,List.reduceReplicate,Nat.reduceLeDiff,Nat.reduceLT,Nat.reduceBEq,Nat.reduceEqDiff,Int.reduceNeg,Int.reduceEq,Int.reduceLE,Int.reduceLT,tfb,ctz51,x51_32,c1, c2, c3, c4b, c5, c6b]
    try simp [c6]
  have c6b : (g.fin == 0) = false := by simpa using c6
  rw [decide_eq_false c6]
  by_cases c7 : inB g.hg 0 99 = true
  case neg =>
    refine PF_nil (PF_start (O := O51) Ct51_ok hmix ho51 Tryd.func51 c51 rfl Tryd.ntmps51 Tryd.results51 ?_)
    simp (maxSteps := 4000000) +contextual (disch := first | omega | exact qdb_ok (by kernel_rfl) | exact okb_ok (by kernel_rfl)) only [bw1,bw2,bw3,bw4,bw5,bw6,bw7,bc0,bc1,bc2,bc3,bc4,bc5,bc6,bc7,bb0,setPs,AV.owns,AV.datF,AV.frz,AV.cpy,ifV,isEqB,nilV,nilX,AV.isNilS,AV.isNoRows,wk,dclo,datOf,binIs,addF,AV.isPtr,idxV,AV.isSl,AV.isSlice,AV.rows,ps,pv,extV,extS,AV.outs,AV.outF,packD,AV.dl,fieldV,fieldS,AV.cells?,AV.upr,AV.menc,AV.one,D.one,Value.oneCell',tagOf,AV.isApp,strV,strS,bolV,bolS,slcV,AV.isSlD,asrtS,AV.dcells,D.cells?,stcV,stcS,leafOk,eqDs,eqD,packA,D.val?,↓reduceIte,reduceCtorEq,Nat.reduceAdd,Nat.reduceSub,Nat.reduceMul,List.reduceReplicate,Nat.reduceLeDiff,Nat.reduceLT,Nat.reduceBEq,Nat.reduceEqDiff,Int.reduceNeg,Int.reduceEq,Int.reduceLE,Int.reduceLT,tfb,ctz51,x51_32,c1, c2, c3, c4b, c5, c6b, c7]
    try simp [c7]
  by_cases c8 : inB g.ag 0 99 = true
  case neg =>
    refine PF_nil (PF_start (O := O51) Ct51_ok hmix ho51 Tryd.func51 c51 rfl Tryd.ntmps51 Tryd.results51 ?_)
    simp (maxSteps := 4000000) +contextual (disch := first | omega | exact qdb_ok (by kernel_rfl) | exact okb_ok (by kernel_rfl)) only [bw1,bw2,bw3,bw4,bw5,bw6,bw7,bc0,bc1,bc2,bc3,bc4,bc5,bc6,bc7,bb0,setPs,AV.owns,AV.datF,AV.frz,AV.cpy,ifV,isEqB,nilV,nilX,AV.isNilS,AV.isNoRows,wk,dclo,datOf,binIs,addF,AV.isPtr,idxV,AV.isSl,AV.isSlice,AV.rows,ps,pv,extV,extS,AV.outs,AV.outF,packD,AV.dl,fieldV,fieldS,AV.cells?,AV.upr,AV.menc,AV.one,D.one,Value.oneCell',tagOf,AV.isApp,strV,strS,bolV,bolS,slcV,AV.isSlD,asrtS,AV.dcells,D.cells?,stcV,stcS,leafOk,eqDs,eqD,packA,D.val?,↓reduceIte,reduceCtorEq,Nat.reduceAdd,Nat.reduceSub,Nat.reduceMul,List.reduceReplicate,Nat.reduceLeDiff,Nat.reduceLT,Nat.reduceBEq,Nat.reduceEqDiff,Int.reduceNeg,Int.reduceEq,Int.reduceLE,Int.reduceLT,tfb,ctz51,x51_32,c1, c2, c3, c4b, c5, c6b, c7, c8]
    try simp [c7, c8]
  refine PF_nil (PF_start (O := O51) Ct51_ok hmix ho51 Tryd.func51 c51 rfl Tryd.ntmps51 Tryd.results51 ?_)
  simp (maxSteps := 4000000) +contextual (disch := first | omega | exact qdb_ok (by kernel_rfl) | exact okb_ok (by kernel_rfl)) only [bw1,bw2,bw3,bw4,bw5,bw6,bw7,bc0,bc1,bc2,bc3,bc4,bc5,bc6,bc7,bb0,setPs,AV.owns,AV.datF,AV.frz,AV.cpy,ifV,isEqB,nilV,nilX,AV.isNilS,AV.isNoRows,wk,dclo,datOf,binIs,addF,AV.isPtr,idxV,AV.isSl,AV.isSlice,AV.rows,ps,pv,extV,extS,AV.outs,AV.outF,packD,AV.dl,fieldV,fieldS,AV.cells?,AV.upr,AV.menc,AV.one,D.one,Value.oneCell',tagOf,AV.isApp,strV,strS,bolV,bolS,slcV,AV.isSlD,asrtS,AV.dcells,D.cells?,stcV,stcS,leafOk,eqDs,eqD,packA,D.val?,↓reduceIte,reduceCtorEq,Nat.reduceAdd,Nat.reduceSub,Nat.reduceMul,List.reduceReplicate,Nat.reduceLeDiff,Nat.reduceLT,Nat.reduceBEq,Nat.reduceEqDiff,Int.reduceNeg,Int.reduceEq,Int.reduceLE,Int.reduceLT,tfb,ctz51,x51_32,c1, c2, c3, c4b, c5, c6b, c7, c8]
  simp [c7, c8, bne]
  rfl
def ent51 (args : List AV) (K : AV → List AV → Sto → Prop) (e : List AV) (s : Sto) : Prop := ent (α := (Gam) × (Int)) (fun aa => [.agg aa.1.c, .i aa.2]) (fun aa => 0 ≤ aa.2 ∧ aa.2 ≤ 1000000) (fun aa => .b (gmOk aa.1 aa.2)) args K e s
theorem ent51_ok {args : List AV} {K : AV → List AV → Sto → Prop} {Q : Kt} {e : List AV} {s : Sto} (h : ent51 args K e s) : pcall Tryd.prog 51 args K Q e s := ent_ok (fun aa h => pf51 aa.1 aa.2 h) h
theorem eq51 {g : Gam} {n : Int} {KK : AV → List AV → Sto → Prop} {ee : List AV} {ss : Sto} : ent51 [.d (.agg g.c), .d (.i n)] KK ee ss = ((0 ≤ n ∧ n ≤ 1000000) ∧ KK (.d (.b (gmOk g n))) ee ss) := by
  unfold ent51; rw [ent_iff (g, n) (by intro b h; simpa [Prod.ext_iff, and_assoc, Int.ofNat_inj, ints_inj, gams_inj, fars_inj, gam_inj, lea_inj] using h) rfl]; simp
end Go.Proofs.YtmajlffglplcnaaDoor
