/- A part of the proof that the last text ends: what functions of the program do, told by plain data. -/
import Derived.Test.YtofbbkacihnjdaaDoorEc
import Derived.Test.YtofbbkacihnjdaaDoorEX
import Derived.Test.YtofbbkacihnjdaaDoorTFH
set_option linter.unusedVariables false
set_option linter.unusedSimpArgs false
namespace Go.Proofs.YtofbbkacihnjdaaDoor
open Go Go.E
set_option maxRecDepth 100000
set_option maxHeartbeats 16000000
theorem hmix : Tryd.prog.follows .mixedOrders = true := by kernel_rfl
abbrev ic (n : Int) : List D := [.i n]
theorem ints_inj {a b : List Int} : (a.map ic = b.map ic) = (a = b) := inj_map fun _ _ h => by simpa using h
theorem at_lt {α : Type} [Inhabited α] {l : List α} {i : Nat} (h : i < l.length) : l.getD i default = l[i] := by simp [List.getD, List.getElem?_eq_getElem h]
theorem take_succ {α : Type} [Inhabited α] {l : List α} {k : Nat} (h : k < l.length) : l.take (k + 1) = l.take k ++ [l.getD k default] := by
  rw [List.take_succ_eq_append_getElem h, at_lt h]
theorem all_get {α : Type} [Inhabited α] {l : List α} {p : α → Bool} : l.all p = true ↔ ∀ j, j < l.length → p (l.getD j default) = true := by
  rw [List.all_eq_true]
  constructor
  · intro h j hj; rw [at_lt hj]; exact h _ (List.getElem_mem _)
  · intro h x hx
    obtain ⟨j, hj, rfl⟩ := List.getElem_of_mem hx
    have := h j hj
    rwa [at_lt hj] at this
def inB (n lo hi : Int) : Bool := decide (lo ≤ n) && decide (n ≤ hi)
theorem inB_iff {n lo hi : Int} : inB n lo hi = true ↔ lo ≤ n ∧ n ≤ hi := by simp [inB]
structure Hr where
  day : Int
  b : Int
  e : Int
  deriving Inhabited, DecidableEq
structure Gr where
  days : Int
  early : Int
  late : Int
  most : Int
  cred : Int
  deriving Inhabited, DecidableEq
structure Tt where
  hours : List Hr
  groups : List Gr
  res : Int
  deriving Inhabited, DecidableEq
abbrev Hr.c (h : Hr) : List D := [.i h.day, .i h.b, .i h.e]
abbrev Gr.c (g : Gr) : List D := [.i g.days, .i g.early, .i g.late, .i g.most, .i g.cred]
abbrev Tt.c (t : Tt) : List D := [.sl 3 (t.hours.map Hr.c), .sl 5 (t.groups.map Gr.c), .i t.res]
theorem Hr.inj {a b : Hr} (h : a.c = b.c) : a = b := by cases a; cases b; simp at h; simp [h]
theorem Gr.inj {a b : Gr} (h : a.c = b.c) : a = b := by cases a; cases b; simp at h; simp [h]
theorem hrs_inj {a b : List Hr} : (a.map Hr.c = b.map Hr.c) = (a = b) := inj_map fun _ _ h => Hr.inj h
theorem grs_inj {a b : List Gr} : (a.map Gr.c = b.map Gr.c) = (a = b) := inj_map fun _ _ h => Gr.inj h
theorem hr_inj {a b : Hr} : (a.day = b.day ∧ a.b = b.b ∧ a.e = b.e) = (a = b) := by cases a; cases b; simp
theorem gr_inj {a b : Gr} : (a.days = b.days ∧ a.early = b.early ∧ a.late = b.late ∧ a.most = b.most ∧ a.cred = b.cred) = (a = b) := by cases a; cases b; simp
theorem tt_inj {a b : Tt} : (a.hours = b.hours ∧ a.groups = b.groups ∧ a.res = b.res) = (a = b) := by cases a; cases b; simp
def grOk (g : Gr) : Bool := inB g.days 0 127 && (inB g.early 0 1440 && (inB g.late 0 1440 && (inB g.most 0 12 && inB g.cred 0 1000)))
def hrOk (h : Hr) : Bool := inB h.day 0 6 && (!decide (h.b < 0) && (!decide (h.e ≤ h.b) && !decide (1440 < h.e)))
def orNo (p h : Hr) : Bool := decide (h.day < p.day) || (decide (h.day = p.day) && decide (h.b < p.e))
def hrAt (l : List Hr) (i : Nat) : Bool := hrOk (l.getD i default) && (decide (i = 0) || !orNo (l.getD (i - 1) default) (l.getD i default))
def ttOk (t : Tt) : Bool := decide ((t.groups.length : Int) ≤ 5) && (decide ((t.hours.length : Int) ≤ 12) && (inB t.res 0 120 && (t.groups.all grOk && (List.range t.hours.length).all (hrAt t.hours))))
theorem tt_hr {t : Tt} {i : Nat} (hi : i < t.hours.length) (h : hrAt t.hours i = false) : ttOk t = false := by
  cases hb : ttOk t with
  | false => rfl
  | true =>
    unfold ttOk at hb
    simp only [Bool.and_eq_true] at hb
    rw [List.all_eq_true.1 hb.2.2.2.2 i (List.mem_range.2 hi)] at h; cases h
theorem tt_gr {t : Tt} (h : ¬ t.groups.all grOk = true) : ttOk t = false := by
  cases hb : ttOk t with
  | false => rfl
  | true =>
    unfold ttOk at hb
    simp only [Bool.and_eq_true] at hb
    exact absurd hb.2.2.2.1 h
theorem tt_big {t : Tt} (h : ¬ ((t.groups.length : Int) ≤ 5 ∧ (t.hours.length : Int) ≤ 12 ∧ inB t.res 0 120 = true)) : ttOk t = false := by
  cases hb : ttOk t with
  | false => rfl
  | true =>
    unfold ttOk at hb
    simp only [Bool.and_eq_true, decide_eq_true_eq] at hb
    exact absurd ⟨hb.1, hb.2.1, hb.2.2.1⟩ h
theorem tt_end {t : Tt} (h : (t.groups.length : Int) ≤ 5 ∧ (t.hours.length : Int) ≤ 12 ∧ inB t.res 0 120 = true) (h1 : t.groups.all grOk = true) (h2 : ∀ i, i < t.hours.length → hrAt t.hours i = true) : ttOk t = true := by
  unfold ttOk
  rw [decide_eq_true h.1, decide_eq_true h.2.1, h.2.2, h1, List.all_eq_true.2 fun i hi => h2 i (List.mem_range.1 hi)]; rfl
def O43 : Nat → Sch := fun id => .done
theorem ho43 : Tryd.f43.body.map (okO O43) = some true := by kernel_rfl
def Cf43 : Nat → List AV → (AV → List AV → Sto → Prop) → Kt → List AV → Sto → Prop := fun f args K Q e s => match f with
  | _ => False
def Ct43 : CT := { f := Cf43, y := noYld, z := fun d => false }
theorem ctz43 {d : Nat} : CT.z Ct43 d = (false) := id rfl
theorem Ct43_ok : Ct43.ok Tryd.prog := ok_of_f (fun f args K Q e s h => by
  have h : Cf43 f args K Q e s := h
  unfold Cf43 at h; split at h
  · exact h.elim) (fun _ _ _ _ _ _ _ _ _ h => h)
theorem c43 : callable Tryd.prog 43 = true := by kernel_rfl
theorem pf43 (n lo hi : Int) : PF Tryd.prog 43 [.i n, .i lo, .i hi] (fun zz => zz = .ret (.b (inB n lo hi))) := by
  refine PF_nil (PF_start (O := O43) Ct43_ok hmix ho43 Tryd.func43 c43 rfl Tryd.ntmps43 Tryd.results43 ?_)
  by_cases h : lo ≤ n
  · simp (maxSteps := 4000000) +contextual (disch := first | omega | exact qdb_ok (by kernel_rfl) | exact okb_ok (by kernel_rfl)) only [bw1,bw2,bw3,bw4,bw5,bw6,bw7,bc0,bc1,bc2,bc3,bc4,bc5,bc6,bc7,bb0,setPs,AV.owns,AV.datF,AV.frz,AV.cpy,ifV,isEqB,nilV,nilX,AV.isNilS,AV.isNoRows,wk,dclo,datOf,binIs,addF,AV.isPtr,idxV,AV.isSl,AV.isSlice,AV.rows,ps,pv,extV,extS,AV.outs,AV.outF,packD,AV.dl,fieldV,fieldS,AV.cells?,AV.upr,AV.menc,AV.one,D.one,Value.oneCell',tagOf,AV.isApp,strV,strS,bolV,bolS,slcV,AV.isSlD,asrtS,AV.dcells,D.cells?,stcV,stcS,leafOk,eqDs,eqD,packA,D.val?,↓reduceIte,reduceCtorEq,Nat.reduceAdd,Nat.reduceSub,Nat.reduceMul,List.reduceReplicate,Nat.reduceLeDiff,Nat.reduceLT,Nat.reduceBEq,Nat.reduceEqDiff,Int.reduceNeg,Int.reduceEq,Int.reduceLE,Int.reduceLT,tfb,ctz43,h, inB]
  · simp (maxSteps := 4000000) +contextual (disch := first | omega | exact qdb_ok (by kernel_rfl) | exact okb_ok (by kernel_rfl)) only [bw1,bw2,bw3,bw4,bw5,bw6,bw7,bc0,bc1,bc2,bc3,bc4,bc5,bc6,bc7,bb0,setPs,AV.owns,AV.datF,AV.frz,AV.cpy,ifV,isEqB,nilV,nilX,AV.isNilS,AV.isNoRows,wk,dclo,datOf,binIs,addF,AV.isPtr,idxV,AV.isSl,AV.isSlice,AV.rows,ps,pv,extV,extS,AV.outs,AV.outF,packD,AV.dl,fieldV,fieldS,AV.cells?,AV.upr,AV.menc,AV.one,D.one,Value.oneCell',tagOf,AV.isApp,strV,strS,bolV,bolS,slcV,AV.isSlD,asrtS,AV.dcells,D.cells?,stcV,stcS,leafOk,eqDs,eqD,packA,D.val?,↓reduceIte,reduceCtorEq,Nat.reduceAdd,Nat.reduceSub,Nat.reduceMul,List.reduceReplicate,Nat.reduceLeDiff,Nat.reduceLT,Nat.reduceBEq,Nat.reduceEqDiff,Int.reduceNeg,Int.reduceEq,Int.reduceLE,Int.reduceLT,tfb,ctz43,h, inB, Bool.false_and]
def ent43 (args : List AV) (K : AV → List AV → Sto → Prop) (e : List AV) (s : Sto) : Prop := ent (α := (Int) × (Int) × (Int)) (fun aa => [.i aa.1, .i aa.2.1, .i aa.2.2]) (fun aa => True) (fun aa => .b (inB aa.1 aa.2.1 aa.2.2)) args K e s
theorem ent43_ok {args : List AV} {K : AV → List AV → Sto → Prop} {Q : Kt} {e : List AV} {s : Sto} (h : ent43 args K e s) : pcall Tryd.prog 43 args K Q e s := ent_ok (fun aa h => pf43 aa.1 aa.2.1 aa.2.2) h
theorem eq43 {n : Int} {lo : Int} {hi : Int} {KK : AV → List AV → Sto → Prop} {ee : List AV} {ss : Sto} : ent43 [.d (.i n), .d (.i lo), .d (.i hi)] KK ee ss = (KK (.d (.b (inB n lo hi))) ee ss) := by
  unfold ent43; rw [ent_iff (n, lo, hi) (by intro b h; simpa [Prod.ext_iff, and_assoc, Int.ofNat_inj, ints_inj, hrs_inj, grs_inj, hr_inj, gr_inj, tt_inj] using h) rfl]; simp
def O47 : Nat → Sch := fun id => .done
theorem ho47 : Tryd.f47.body.map (okO O47) = some true := by kernel_rfl
def Cf47 : Nat → List AV → (AV → List AV → Sto → Prop) → Kt → List AV → Sto → Prop := fun f args K Q e s => match f with
  | _ => False
def Ct47 : CT := { f := Cf47, y := noYld, z := fun d => false }
theorem ctz47 {d : Nat} : CT.z Ct47 d = (false) := id rfl
theorem Ct47_ok : Ct47.ok Tryd.prog := ok_of_f (fun f args K Q e s h => by
  have h : Cf47 f args K Q e s := h
  unfold Cf47 at h; split at h
  · exact h.elim) (fun _ _ _ _ _ _ _ _ _ h => h)
theorem c47 : callable Tryd.prog 47 = true := by kernel_rfl
theorem pf47 (n lo hi : Int) : PF Tryd.prog 47 [.i n, .i lo, .i hi] (fun zz => zz = .ret (.b (inB n lo hi))) := by
  refine PF_nil (PF_start (O := O47) Ct47_ok hmix ho47 Tryd.func47 c47 rfl Tryd.ntmps47 Tryd.results47 ?_)
  by_cases h : lo ≤ n
  · simp (maxSteps := 4000000) +contextual (disch := first | omega | exact qdb_ok (by kernel_rfl) | exact okb_ok (by kernel_rfl)) only [bw1,bw2,bw3,bw4,bw5,bw6,bw7,bc0,bc1,bc2,bc3,bc4,bc5,bc6,bc7,bb0,setPs,AV.owns,AV.datF,AV.frz,AV.cpy,ifV,isEqB,nilV,nilX,AV.isNilS,AV.isNoRows,wk,dclo,datOf,binIs,addF,AV.isPtr,idxV,AV.isSl,AV.isSlice,AV.rows,ps,pv,extV,extS,AV.outs,AV.outF,packD,AV.dl,fieldV,fieldS,AV.cells?,AV.upr,AV.menc,AV.one,D.one,Value.oneCell',tagOf,AV.isApp,strV,strS,bolV,bolS,slcV,AV.isSlD,asrtS,AV.dcells,D.cells?,stcV,stcS,leafOk,eqDs,eqD,packA,D.val?,↓reduceIte,reduceCtorEq,Nat.reduceAdd,Nat.reduceSub,Nat.reduceMul,List.reduceReplicate,Nat.reduceLeDiff,Nat.reduceLT,Nat.reduceBEq,Nat.reduceEqDiff,Int.reduceNeg,Int.reduceEq,Int.reduceLE,Int.reduceLT,tfb,ctz47,h, inB]
  · simp (maxSteps := 4000000) +contextual (disch := first | omega | exact qdb_ok (by kernel_rfl) | exact okb_ok (by kernel_rfl)) only [bw1,bw2,bw3,bw4,bw5,bw6,bw7,bc0,bc1,bc2,bc3,bc4,bc5,bc6,bc7,bb0,setPs,AV.owns,AV.datF,AV.frz,AV.cpy,ifV,isEqB,nilV,nilX,AV.isNilS,AV.isNoRows,wk,dclo,datOf,binIs,addF,AV.isPtr,idxV,AV.isSl,AV.isSlice,AV.rows,ps,pv,extV,extS,AV.outs,AV.outF,packD,AV.dl,fieldV,fieldS,AV.cells?,AV.upr,AV.menc,AV.one,D.one,Value.oneCell',tagOf,AV.isApp,strV,strS,bolV,bolS,slcV,AV.isSlD,asrtS,AV.dcells,D.cells?,stcV,stcS,leafOk,eqDs,eqD,packA,D.val?,↓reduceIte,reduceCtorEq,Nat.reduceAdd,Nat.reduceSub,Nat.reduceMul,List.reduceReplicate,Nat.reduceLeDiff,Nat.reduceLT,Nat.reduceBEq,Nat.reduceEqDiff,Int.reduceNeg,Int.reduceEq,Int.reduceLE,Int.reduceLT,tfb,ctz47,h, inB, Bool.false_and]
def ent47 (args : List AV) (K : AV → List AV → Sto → Prop) (e : List AV) (s : Sto) : Prop := ent (α := (Int) × (Int) × (Int)) (fun aa => [.i aa.1, .i aa.2.1, .i aa.2.2]) (fun aa => True) (fun aa => .b (inB aa.1 aa.2.1 aa.2.2)) args K e s
theorem ent47_ok {args : List AV} {K : AV → List AV → Sto → Prop} {Q : Kt} {e : List AV} {s : Sto} (h : ent47 args K e s) : pcall Tryd.prog 47 args K Q e s := ent_ok (fun aa h => pf47 aa.1 aa.2.1 aa.2.2) h
theorem eq47 {n : Int} {lo : Int} {hi : Int} {KK : AV → List AV → Sto → Prop} {ee : List AV} {ss : Sto} : ent47 [.d (.i n), .d (.i lo), .d (.i hi)] KK ee ss = (KK (.d (.b (inB n lo hi))) ee ss) := by
  unfold ent47; rw [ent_iff (n, lo, hi) (by intro b h; simpa [Prod.ext_iff, and_assoc, Int.ofNat_inj, ints_inj, hrs_inj, grs_inj, hr_inj, gr_inj, tt_inj] using h) rfl]; simp
def O51 : Nat → Sch := fun id => .done
theorem ho51 : Tryd.f51.body.map (okO O51) = some true := by kernel_rfl
def Cf51 : Nat → List AV → (AV → List AV → Sto → Prop) → Kt → List AV → Sto → Prop := fun f args K Q e s => match f with
  | 43 => ent43 args K e s
  | _ => False
def Ct51 : CT := { f := Cf51, y := noYld, z := fun d => false }
theorem ctz51 {d : Nat} : CT.z Ct51 d = (false) := id rfl
theorem Ct51_ok : Ct51.ok Tryd.prog := ok_of_f (fun f args K Q e s h => by
  have h : Cf51 f args K Q e s := h
  unfold Cf51 at h; split at h
  · exact ent43_ok h
  · exact h.elim) (fun _ _ _ _ _ _ _ _ _ h => h)
theorem x51_43 {n : Int} {lo : Int} {hi : Int} {KK : AV → List AV → Sto → Prop} {QQ : Kt} {ii : At KK} {jj : At QQ} {ee : List AV} {ss : Sto} : xC Ct51 43 [.d (.i n), .d (.i lo), .d (.i hi)] KK QQ ii jj ee ss = (KK (.d (.b (inB n lo hi))) ee ss) := eq43
theorem c51 : callable Tryd.prog 51 = true := by kernel_rfl
theorem pf51 (g : Gr) : PF Tryd.prog 51 [.agg g.c] (fun zz => zz = .ret (.b (!grOk g))) := by
  unfold grOk
  by_cases c1 : inB g.days 0 127 = true
  case neg =>
    refine PF_nil (PF_start (O := O51) Ct51_ok hmix ho51 Tryd.func51 c51 rfl Tryd.ntmps51 Tryd.results51 ?_)
    simp (maxSteps := 4000000) +contextual (disch := first | omega | exact qdb_ok (by kernel_rfl) | exact okb_ok (by kernel_rfl)) only [bw1,bw2,bw3,bw4,bw5,bw6,bw7,bc0,bc1,bc2,bc3,bc4,bc5,bc6,bc7,bb0,setPs,AV.owns,AV.datF,AV.frz,AV.cpy,ifV,isEqB,nilV,nilX,AV.isNilS,AV.isNoRows,wk,dclo,datOf,binIs,addF,AV.isPtr,idxV,AV.isSl,AV.isSlice,AV.rows,ps,pv,extV,extS,AV.outs,AV.outF,packD,AV.dl,fieldV,fieldS,AV.cells?,AV.upr,AV.menc,AV.one,D.one,Value.oneCell',tagOf,AV.isApp,strV,strS,bolV,bolS,slcV,AV.isSlD,asrtS,AV.dcells,D.cells?,stcV,stcS,leafOk,eqDs,eqD,packA,D.val?,↓reduceIte,reduceCtorEq,Nat.reduceAdd,Nat.reduceSub,Nat.reduceMul,List.reduceReplicate,Nat.reduceLeDiff,Nat.reduceLT,Nat.reduceBEq,Nat.reduceEqDiff,Int.reduceNeg,Int.reduceEq,Int.reduceLE,Int.reduceLT,tfb,ctz51,x51_43,c1]
    try simp [c1]
  by_cases c2 : inB g.early 0 1440 = true
  case neg =>
    refine PF_nil (PF_start (O := O51) Ct51_ok hmix ho51 Tryd.func51 c51 rfl Tryd.ntmps51 Tryd.results51 ?_)
    simp (maxSteps := 4000000) +contextual (disch := first | omega | exact qdb_ok (by kernel_rfl) | exact okb_ok (by kernel_rfl)) only [bw1,bw2,bw3,bw4,bw5,bw6,bw7,bc0,bc1,bc2,bc3,bc4,bc5,bc6,bc7,bb0,setPs,AV.owns,AV.datF,AV.frz,AV.cpy,ifV,isEqB,nilV,nilX,AV.isNilS,AV.isNoRows,wk,dclo,datOf,binIs,addF,AV.isPtr,idxV,AV.isSl,AV.isSlice,AV.rows,ps,pv,extV,extS,AV.outs,AV.outF,packD,AV.dl,fieldV,fieldS,AV.cells?,AV.upr,AV.menc,AV.one,D.one,Value.oneCell',tagOf,AV.isApp,strV,strS,bolV,bolS,slcV,AV.isSlD,asrtS,AV.dcells,D.cells?,stcV,stcS,leafOk,eqDs,eqD,packA,D.val?,↓reduceIte,reduceCtorEq,Nat.reduceAdd,Nat.reduceSub,Nat.reduceMul,List.reduceReplicate,Nat.reduceLeDiff,Nat.reduceLT,Nat.reduceBEq,Nat.reduceEqDiff,Int.reduceNeg,Int.reduceEq,Int.reduceLE,Int.reduceLT,tfb,ctz51,x51_43,c1, c2]
    try simp [c1, c2]
  by_cases c3 : inB g.late 0 1440 = true
  case neg =>
    refine PF_nil (PF_start (O := O51) Ct51_ok hmix ho51 Tryd.func51 c51 rfl Tryd.ntmps51 Tryd.results51 ?_)
    simp (maxSteps := 4000000) +contextual (disch := first | omega | exact qdb_ok (by kernel_rfl) | exact okb_ok (by kernel_rfl)) only [bw1,bw2,bw3,bw4,bw5,bw6,bw7,bc0,bc1,bc2,bc3,bc4,bc5,bc6,bc7,bb0,setPs,AV.owns,AV.datF,AV.frz,AV.cpy,ifV,isEqB,nilV,nilX,AV.isNilS,AV.isNoRows,wk,dclo,datOf,binIs,addF,AV.isPtr,idxV,AV.isSl,AV.isSlice,AV.rows,ps,pv,extV,extS,AV.outs,AV.outF,packD,AV.dl,fieldV,fieldS,AV.cells?,AV.upr,AV.menc,AV.one,D.one,Value.oneCell',tagOf,AV.isApp,strV,strS,bolV,bolS,slcV,AV.isSlD,asrtS,AV.dcells,D.cells?,stcV,stcS,leafOk,eqDs,eqD,packA,D.val?,↓reduceIte,reduceCtorEq,Nat.reduceAdd,Nat.reduceSub,Nat.reduceMul,List.reduceReplicate,Nat.reduceLeDiff,Nat.reduceLT,Nat.reduceBEq,Nat.reduceEqDiff,Int.reduceNeg,Int.reduceEq,Int.reduceLE,Int.reduceLT,tfb,ctz51,x51_43,c1, c2, c3]
    try simp [c1, c2, c3]
  by_cases c4 : inB g.most 0 12 = true
  case neg =>
    refine PF_nil (PF_start (O := O51) Ct51_ok hmix ho51 Tryd.func51 c51 rfl Tryd.ntmps51 Tryd.results51 ?_)
    simp (maxSteps := 4000000) +contextual (disch := first | omega | exact qdb_ok (by kernel_rfl) | exact okb_ok (by kernel_rfl)) only [bw1,bw2,bw3,bw4,bw5,bw6,bw7,bc0,bc1,bc2,bc3,bc4,bc5,bc6,bc7,bb0,setPs,AV.owns,AV.datF,AV.frz,AV.cpy,ifV,isEqB,nilV,nilX,AV.isNilS,AV.isNoRows,wk,dclo,datOf,binIs,addF,AV.isPtr,idxV,AV.isSl,AV.isSlice,AV.rows,ps,pv,extV,extS,AV.outs,AV.outF,packD,AV.dl,fieldV,fieldS,AV.cells?,AV.upr,AV.menc,AV.one,D.one,Value.oneCell',tagOf,AV.isApp,strV,strS,bolV,bolS,slcV,AV.isSlD,asrtS,AV.dcells,D.cells?,stcV,stcS,leafOk,eqDs,eqD,packA,D.val?,↓reduceIte,reduceCtorEq,Nat.reduceAdd,Nat.reduceSub,Nat.reduceMul,List.reduceReplicate,Nat.reduceLeDiff,Nat.reduceLT,Nat.reduceBEq,Nat.reduceEqDiff,Int.reduceNeg,Int.reduceEq,Int.reduceLE,Int.reduceLT,tfb,ctz51,x51_43,c1, c2, c3, c4]
    try simp [c1, c2, c3, c4]
  refine PF_nil (PF_start (O := O51) Ct51_ok hmix ho51 Tryd.func51 c51 rfl Tryd.ntmps51 Tryd.results51 ?_)
  simp (maxSteps := 4000000) +contextual (disch := first | omega | exact qdb_ok (by kernel_rfl) | exact okb_ok (by kernel_rfl)) only [bw1,bw2,bw3,bw4,bw5,bw6,bw7,bc0,bc1,bc2,bc3,bc4,bc5,bc6,bc7,bb0,setPs,AV.owns,AV.datF,AV.frz,AV.cpy,ifV,isEqB,nilV,nilX,AV.isNilS,AV.isNoRows,wk,dclo,datOf,binIs,addF,AV.isPtr,idxV,AV.isSl,AV.isSlice,AV.rows,ps,pv,extV,extS,AV.outs,AV.outF,packD,AV.dl,fieldV,fieldS,AV.cells?,AV.upr,AV.menc,AV.one,D.one,Value.oneCell',tagOf,AV.isApp,strV,strS,bolV,bolS,slcV,AV.isSlD,asrtS,AV.dcells,D.cells?,stcV,stcS,leafOk,eqDs,eqD,packA,D.val?,↓reduceIte,reduceCtorEq,Nat.reduceAdd,Nat.reduceSub,Nat.reduceMul,List.reduceReplicate,Nat.reduceLeDiff,Nat.reduceLT,Nat.reduceBEq,Nat.reduceEqDiff,Int.reduceNeg,Int.reduceEq,Int.reduceLE,Int.reduceLT,tfb,ctz51,x51_43,c1, c2, c3, c4]
  try simp [c1, c2, c3, c4]
def ent51 (args : List AV) (K : AV → List AV → Sto → Prop) (e : List AV) (s : Sto) : Prop := ent (α := (Gr)) (fun aa => [.agg aa.c]) (fun aa => True) (fun aa => .b (!grOk aa)) args K e s
theorem ent51_ok {args : List AV} {K : AV → List AV → Sto → Prop} {Q : Kt} {e : List AV} {s : Sto} (h : ent51 args K e s) : pcall Tryd.prog 51 args K Q e s := ent_ok (fun aa h => pf51 aa) h
theorem eq51 {g : Gr} {KK : AV → List AV → Sto → Prop} {ee : List AV} {ss : Sto} : ent51 [.d (.agg g.c)] KK ee ss = (KK (.d (.b (!grOk g))) ee ss) := by
  unfold ent51; rw [ent_iff g (by intro b h; simpa [Prod.ext_iff, and_assoc, Int.ofNat_inj, ints_inj, hrs_inj, grs_inj, hr_inj, gr_inj, tt_inj] using h) rfl]; simp
def O68 : Nat → Sch := fun id => .done
theorem ho68 : Tryd.f68.body.map (okO O68) = some true := by kernel_rfl
def Cf68 : Nat → List AV → (AV → List AV → Sto → Prop) → Kt → List AV → Sto → Prop := fun f args K Q e s => match f with
  | 51 => ent51 args K e s
  | _ => False
def Ct68 : CT := { f := Cf68, y := noYld, z := fun d => false }
theorem ctz68 {d : Nat} : CT.z Ct68 d = (false) := id rfl
theorem Ct68_ok : Ct68.ok Tryd.prog := ok_of_f (fun f args K Q e s h => by
  have h : Cf68 f args K Q e s := h
  unfold Cf68 at h; split at h
  · exact ent51_ok h
  · exact h.elim) (fun _ _ _ _ _ _ _ _ _ h => h)
theorem x68_51 {g : Gr} {KK : AV → List AV → Sto → Prop} {QQ : Kt} {ii : At KK} {jj : At QQ} {ee : List AV} {ss : Sto} : xC Ct68 51 [.d (.agg g.c)] KK QQ ii jj ee ss = (KK (.d (.b (!grOk g))) ee ss) := eq51
theorem c68 : callable Tryd.prog 68 = true := by kernel_rfl
def O52 : Nat → Sch := fun id => .done
theorem ho52 : Tryd.f52.body.map (okO O52) = some true := by kernel_rfl
def Cf52 : Nat → List AV → (AV → List AV → Sto → Prop) → Kt → List AV → Sto → Prop := fun f args K Q e s => match f with
  | 68 => inlE Tryd.prog Ct68 O68 68000 68 args K Q e s
  | _ => False
def Ct52 : CT := { f := Cf52, y := noYld, z := fun d => false }
theorem ctz52 {d : Nat} : CT.z Ct52 d = (false) := id rfl
theorem Ct52_ok : Ct52.ok Tryd.prog := ok_of_f (fun f args K Q e s h => by
  have h : Cf52 f args K Q e s := h
  unfold Cf52 at h; split at h
  · exact inlE_ok Ct68_ok hmix ho68 h
  · exact h.elim) (fun _ _ _ _ _ _ _ _ _ h => h)
theorem z52_68 : type_of% (@xinl Tryd.prog Ct52 Ct68 O68 68000 68 _ _ _ _ rfl c68 Tryd.func68 rfl Tryd.ntmps68 Tryd.results68) := @xinl Tryd.prog Ct52 Ct68 O68 68000 68 _ _ _ _ rfl c68 Tryd.func68 rfl Tryd.ntmps68 Tryd.results68
theorem c52 : callable Tryd.prog 52 = true := by kernel_rfl
theorem hrAt_no {l : List Hr} {i : Nat} (h : hrOk (l.getD i default) = false) : hrAt l i = false := by unfold hrAt; rw [h]; rfl
theorem hrAt_or {l : List Hr} {i : Nat} (h0 : 0 < i) (h : orNo (l.getD (i - 1) default) (l.getD i default) = true) : hrAt l i = false := by
  unfold hrAt; rw [h, decide_eq_false (show ¬ i = 0 by omega)]; simp
theorem hrAt_ok {l : List Hr} {i : Nat} (h1 : inB (l.getD i default).day 0 6 = true) (h2 : ¬ (l.getD i default).b < 0) (h3 : ¬ (l.getD i default).e ≤ (l.getD i default).b) (h4 : ¬ 1440 < (l.getD i default).e) (h5 : i = 0 ∨ ¬ orNo (l.getD (i - 1) default) (l.getD i default) = true) : hrAt l i = true := by
  unfold hrAt hrOk
  rw [h1, decide_eq_false h2, decide_eq_false h3, decide_eq_false h4]
  rcases h5 with h5 | h5
  · rw [decide_eq_true h5]; rfl
  · have : orNo (l.getD (i - 1) default) (l.getD i default) = false := by simpa using h5
    rw [this]; simp
theorem hrOk_1 {h : Hr} (c : ¬ inB h.day 0 6 = true) : hrOk h = false := by
  have : inB h.day 0 6 = false := by simpa using c
  unfold hrOk; rw [this]; rfl
theorem hrOk_2 {h : Hr} (c : h.b < 0) : hrOk h = false := by unfold hrOk; rw [decide_eq_true c]; simp
theorem hrOk_3 {h : Hr} (c : h.e ≤ h.b) : hrOk h = false := by unfold hrOk; rw [decide_eq_true c]; simp
theorem hrOk_4 {h : Hr} (c : 1440 < h.e) : hrOk h = false := by unfold hrOk; rw [decide_eq_true c]; simp
theorem orNo_1 {p h : Hr} (c : h.day < p.day) : orNo p h = true := by unfold orNo; rw [decide_eq_true c]; rfl
theorem orNo_2 {p h : Hr} (c : h.day = p.day) (d : h.b < p.e) : orNo p h = true := by unfold orNo; rw [decide_eq_true c, decide_eq_true d]; simp
theorem orNo_3 {p h : Hr} (a : ¬ h.day < p.day) (c : ¬ h.day = p.day) : ¬ orNo p h = true := by unfold orNo; rw [decide_eq_false a, decide_eq_false c]; simp
theorem orNo_4 {p h : Hr} (a : ¬ h.day < p.day) (d : ¬ h.b < p.e) : ¬ orNo p h = true := by unfold orNo; rw [decide_eq_false a, decide_eq_false d]; simp
def O31 : Nat → Sch := fun id => .done
theorem ho31 : Tryd.f31.body.map (okO O31) = some true := by kernel_rfl
def Cf31 : Nat → List AV → (AV → List AV → Sto → Prop) → Kt → List AV → Sto → Prop := fun f args K Q e s => match f with
  | 43 => ent43 args K e s
  | 52 => inlE Tryd.prog Ct52 O52 52000 52 args K Q e s
  | _ => False
def Ct31 : CT := { f := Cf31, y := noYld, z := fun d => false }
theorem ctz31 {d : Nat} : CT.z Ct31 d = (false) := id rfl
theorem Ct31_ok : Ct31.ok Tryd.prog := ok_of_f (fun f args K Q e s h => by
  have h : Cf31 f args K Q e s := h
  unfold Cf31 at h; split at h
  · exact ent43_ok h
  · exact inlE_ok Ct52_ok hmix ho52 h
  · exact h.elim) (fun _ _ _ _ _ _ _ _ _ h => h)
theorem x31_43 {n : Int} {lo : Int} {hi : Int} {KK : AV → List AV → Sto → Prop} {QQ : Kt} {ii : At KK} {jj : At QQ} {ee : List AV} {ss : Sto} : xC Ct31 43 [.d (.i n), .d (.i lo), .d (.i hi)] KK QQ ii jj ee ss = (KK (.d (.b (inB n lo hi))) ee ss) := eq43
theorem z31_52 : type_of% (@xinl Tryd.prog Ct31 Ct52 O52 52000 52 _ _ _ _ rfl c52 Tryd.func52 rfl Tryd.ntmps52 Tryd.results52) := @xinl Tryd.prog Ct31 Ct52 O52 52000 52 _ _ _ _ rfl c52 Tryd.func52 rfl Tryd.ntmps52 Tryd.results52
theorem c31 : callable Tryd.prog 31 = true := by kernel_rfl
theorem pf31 (t : Tt) (h : t.hours.length ≤ 1000 ∧ t.groups.length ≤ 1000) : PF Tryd.prog 31 [.agg t.c] (fun zz => zz = .ret (.b (ttOk t))) := by
  obtain ⟨hh, hg⟩ := h
  obtain ⟨W, hW⟩ : ∃ W, W = ttOk t := ⟨_, rfl⟩
  rw [← hW]
  refine PF_nil (PF_start (O := O31) Ct31_ok hmix ho31 Tryd.func31 c31 rfl Tryd.ntmps31 Tryd.results31 ?_)
  simp (maxSteps := 4000000) +contextual (disch := first | omega | exact qdb_ok (by kernel_rfl) | exact okb_ok (by kernel_rfl)) only [bw1,bw2,bw3,bw4,bw5,bw6,bw7,bc0,bc1,bc2,bc3,bc4,bc5,bc6,bc7,bb0,setPs,AV.owns,AV.datF,AV.frz,AV.cpy,ifV,isEqB,nilV,nilX,AV.isNilS,AV.isNoRows,wk,dclo,datOf,binIs,addF,AV.isPtr,idxV,AV.isSl,AV.isSlice,AV.rows,ps,pv,extV,extS,AV.outs,AV.outF,packD,AV.dl,fieldV,fieldS,AV.cells?,AV.upr,AV.menc,AV.one,D.one,Value.oneCell',tagOf,AV.isApp,strV,strS,bolV,bolS,slcV,AV.isSlD,asrtS,AV.dcells,D.cells?,stcV,stcS,leafOk,eqDs,eqD,packA,D.val?,↓reduceIte,reduceCtorEq,Nat.reduceAdd,Nat.reduceSub,Nat.reduceMul,List.reduceReplicate,Nat.reduceLeDiff,Nat.reduceLT,Nat.reduceBEq,Nat.reduceEqDiff,Int.reduceNeg,Int.reduceEq,Int.reduceLE,Int.reduceLT,tfb,ctz31,x31_43,z31_52,ctz52,z52_68,ctz68,x68_51]
  refine loop_xu (O := O31) (tb := 0) Ct31_ok hmix (by kernel_rfl) (σ := Nat) (fun i => [(10, .i i), (4, .any), (5, .any), (6, .any)]) (fun _ => []) (fun i => i ≤ t.hours.length ∧ ∀ q, q < i → hrAt t.hours q = true) (fun i => t.hours.length - i) 0 ⟨Nat.zero_le _, fun q hq => by omega⟩ ?_ ?_
  · simp (maxSteps := 4000000) +contextual (disch := first | omega | exact qdb_ok (by kernel_rfl) | exact okb_ok (by kernel_rfl)) only [bw1,bw2,bw3,bw4,bw5,bw6,bw7,bc0,bc1,bc2,bc3,bc4,bc5,bc6,bc7,bb0,setPs,AV.owns,AV.datF,AV.frz,AV.cpy,ifV,isEqB,nilV,nilX,AV.isNilS,AV.isNoRows,wk,dclo,datOf,binIs,addF,AV.isPtr,idxV,AV.isSl,AV.isSlice,AV.rows,ps,pv,extV,extS,AV.outs,AV.outF,packD,AV.dl,fieldV,fieldS,AV.cells?,AV.upr,AV.menc,AV.one,D.one,Value.oneCell',tagOf,AV.isApp,strV,strS,bolV,bolS,slcV,AV.isSlD,asrtS,AV.dcells,D.cells?,stcV,stcS,leafOk,eqDs,eqD,packA,D.val?,↓reduceIte,reduceCtorEq,Nat.reduceAdd,Nat.reduceSub,Nat.reduceMul,List.reduceReplicate,Nat.reduceLeDiff,Nat.reduceLT,Nat.reduceBEq,Nat.reduceEqDiff,Int.reduceNeg,Int.reduceEq,Int.reduceLE,Int.reduceLT,tfb,ctz31,x31_43,z31_52,ctz52,z52_68,ctz68,x68_51,eq_self]
    try rfl
  rintro i ⟨hi, hq⟩
  by_cases hlt : i < t.hours.length
  · have hlt' : (i : Int) < t.hours.length := by omega
    have hrw : (t.hours.map Hr.c).getD i [] = Hr.c (t.hours.getD i default) := Go.E.row_at hlt
    have hno : hrAt t.hours i = false → W = false := fun h => hW.trans (tt_hr hlt h)
    have hgo : hrAt t.hours i = true → ∀ q, q < i + 1 → hrAt t.hours q = true := fun h q hq' => by rcases Nat.lt_succ_iff_lt_or_eq.1 hq' with h' | rfl; exact hq q h'; exact h
    have hi0 : (0 : Int) ≤ i := by omega
    by_cases d1 : inB (t.hours.getD i default).day 0 6 = true
    case neg =>
      have hWf := hno (hrAt_no (hrOk_1 d1))
      simp (maxSteps := 4000000) +contextual (disch := first | omega | exact qdb_ok (by kernel_rfl) | exact okb_ok (by kernel_rfl)) only [bw1,bw2,bw3,bw4,bw5,bw6,bw7,bc0,bc1,bc2,bc3,bc4,bc5,bc6,bc7,bb0,setPs,AV.owns,AV.datF,AV.frz,AV.cpy,ifV,isEqB,nilV,nilX,AV.isNilS,AV.isNoRows,wk,dclo,datOf,binIs,addF,AV.isPtr,idxV,AV.isSl,AV.isSlice,AV.rows,ps,pv,extV,extS,AV.outs,AV.outF,packD,AV.dl,fieldV,fieldS,AV.cells?,AV.upr,AV.menc,AV.one,D.one,Value.oneCell',tagOf,AV.isApp,strV,strS,bolV,bolS,slcV,AV.isSlD,asrtS,AV.dcells,D.cells?,stcV,stcS,leafOk,eqDs,eqD,packA,D.val?,↓reduceIte,reduceCtorEq,Nat.reduceAdd,Nat.reduceSub,Nat.reduceMul,List.reduceReplicate,Nat.reduceLeDiff,Nat.reduceLT,Nat.reduceBEq,Nat.reduceEqDiff,Int.reduceNeg,Int.reduceEq,Int.reduceLE,Int.reduceLT,tfb,ctz31,x31_43,z31_52,ctz52,z52_68,ctz68,x68_51,eq_self, hlt', hrw, d1, hWf, hi0]
    by_cases d2 : (t.hours.getD i default).b < 0
    case pos =>
      have hWf := hno (hrAt_no (hrOk_2 d2))
      simp (maxSteps := 4000000) +contextual (disch := first | omega | exact qdb_ok (by kernel_rfl) | exact okb_ok (by kernel_rfl)) only [bw1,bw2,bw3,bw4,bw5,bw6,bw7,bc0,bc1,bc2,bc3,bc4,bc5,bc6,bc7,bb0,setPs,AV.owns,AV.datF,AV.frz,AV.cpy,ifV,isEqB,nilV,nilX,AV.isNilS,AV.isNoRows,wk,dclo,datOf,binIs,addF,AV.isPtr,idxV,AV.isSl,AV.isSlice,AV.rows,ps,pv,extV,extS,AV.outs,AV.outF,packD,AV.dl,fieldV,fieldS,AV.cells?,AV.upr,AV.menc,AV.one,D.one,Value.oneCell',tagOf,AV.isApp,strV,strS,bolV,bolS,slcV,AV.isSlD,asrtS,AV.dcells,D.cells?,stcV,stcS,leafOk,eqDs,eqD,packA,D.val?,↓reduceIte,reduceCtorEq,Nat.reduceAdd,Nat.reduceSub,Nat.reduceMul,List.reduceReplicate,Nat.reduceLeDiff,Nat.reduceLT,Nat.reduceBEq,Nat.reduceEqDiff,Int.reduceNeg,Int.reduceEq,Int.reduceLE,Int.reduceLT,tfb,ctz31,x31_43,z31_52,ctz52,z52_68,ctz68,x68_51,eq_self, hlt', hrw, d1, d2, hWf, hi0]
    by_cases d3 : (t.hours.getD i default).e ≤ (t.hours.getD i default).b
    case pos =>
      have hWf := hno (hrAt_no (hrOk_3 d3))
      simp (maxSteps := 4000000) +contextual (disch := first | omega | exact qdb_ok (by kernel_rfl) | exact okb_ok (by kernel_rfl)) only [bw1,bw2,bw3,bw4,bw5,bw6,bw7,bc0,bc1,bc2,bc3,bc4,bc5,bc6,bc7,bb0,setPs,AV.owns,AV.datF,AV.frz,AV.cpy,ifV,isEqB,nilV,nilX,AV.isNilS,AV.isNoRows,wk,dclo,datOf,binIs,addF,AV.isPtr,idxV,AV.isSl,AV.isSlice,AV.rows,ps,pv,extV,extS,AV.outs,AV.outF,packD,AV.dl,fieldV,fieldS,AV.cells?,AV.upr,AV.menc,AV.one,D.one,Value.oneCell',tagOf,AV.isApp,strV,strS,bolV,bolS,slcV,AV.isSlD,asrtS,AV.dcells,D.cells?,stcV,stcS,leafOk,eqDs,eqD,packA,D.val?,↓reduceIte,reduceCtorEq,Nat.reduceAdd,Nat.reduceSub,Nat.reduceMul,List.reduceReplicate,Nat.reduceLeDiff,Nat.reduceLT,Nat.reduceBEq,Nat.reduceEqDiff,Int.reduceNeg,Int.reduceEq,Int.reduceLE,Int.reduceLT,tfb,ctz31,x31_43,z31_52,ctz52,z52_68,ctz68,x68_51,eq_self, hlt', hrw, d1, d2, d3, hWf, hi0]
    by_cases d4 : 1440 < (t.hours.getD i default).e
    case pos =>
      have hWf := hno (hrAt_no (hrOk_4 d4))
      simp (maxSteps := 4000000) +contextual (disch := first | omega | exact qdb_ok (by kernel_rfl) | exact okb_ok (by kernel_rfl)) only [bw1,bw2,bw3,bw4,bw5,bw6,bw7,bc0,bc1,bc2,bc3,bc4,bc5,bc6,bc7,bb0,setPs,AV.owns,AV.datF,AV.frz,AV.cpy,ifV,isEqB,nilV,nilX,AV.isNilS,AV.isNoRows,wk,dclo,datOf,binIs,addF,AV.isPtr,idxV,AV.isSl,AV.isSlice,AV.rows,ps,pv,extV,extS,AV.outs,AV.outF,packD,AV.dl,fieldV,fieldS,AV.cells?,AV.upr,AV.menc,AV.one,D.one,Value.oneCell',tagOf,AV.isApp,strV,strS,bolV,bolS,slcV,AV.isSlD,asrtS,AV.dcells,D.cells?,stcV,stcS,leafOk,eqDs,eqD,packA,D.val?,↓reduceIte,reduceCtorEq,Nat.reduceAdd,Nat.reduceSub,Nat.reduceMul,List.reduceReplicate,Nat.reduceLeDiff,Nat.reduceLT,Nat.reduceBEq,Nat.reduceEqDiff,Int.reduceNeg,Int.reduceEq,Int.reduceLE,Int.reduceLT,tfb,ctz31,x31_43,z31_52,ctz52,z52_68,ctz68,x68_51,eq_self, hlt', hrw, d1, d2, d3, d4, hWf, hi0]
    by_cases z : i = 0
    · have hz : ((i : Int) == 0) = true := by rw [beq_iff_eq]; omega
      have ho := hgo (hrAt_ok d1 d2 d3 d4 (.inl z))
      simp (maxSteps := 4000000) +contextual (disch := first | omega | exact qdb_ok (by kernel_rfl) | exact okb_ok (by kernel_rfl)) only [bw1,bw2,bw3,bw4,bw5,bw6,bw7,bc0,bc1,bc2,bc3,bc4,bc5,bc6,bc7,bb0,setPs,AV.owns,AV.datF,AV.frz,AV.cpy,ifV,isEqB,nilV,nilX,AV.isNilS,AV.isNoRows,wk,dclo,datOf,binIs,addF,AV.isPtr,idxV,AV.isSl,AV.isSlice,AV.rows,ps,pv,extV,extS,AV.outs,AV.outF,packD,AV.dl,fieldV,fieldS,AV.cells?,AV.upr,AV.menc,AV.one,D.one,Value.oneCell',tagOf,AV.isApp,strV,strS,bolV,bolS,slcV,AV.isSlD,asrtS,AV.dcells,D.cells?,stcV,stcS,leafOk,eqDs,eqD,packA,D.val?,↓reduceIte,reduceCtorEq,Nat.reduceAdd,Nat.reduceSub,Nat.reduceMul,List.reduceReplicate,Nat.reduceLeDiff,Nat.reduceLT,Nat.reduceBEq,Nat.reduceEqDiff,Int.reduceNeg,Int.reduceEq,Int.reduceLE,Int.reduceLT,tfb,ctz31,x31_43,z31_52,ctz52,z52_68,ctz68,x68_51,eq_self, hlt', hrw, d1, d2, d3, d4, hz, hi0]
      exact ⟨i + 1, ⟨⟨by omega, ho⟩, by omega⟩, rfl⟩
    have hz : ((i : Int) == 0) = false := by rw [beq_eq_false_iff_ne]; omega
    have hrw2 : (t.hours.map Hr.c).getD (i - 1) [] = Hr.c (t.hours.getD (i - 1) default) := Go.E.row_at (by omega)
    have y1 : ((i : Int) - 1).toNat = i - 1 := by omega
    have y2 : (0 : Int) ≤ (i : Int) - 1 := by omega
    have y3 : (i : Int) - 1 < t.hours.length := by omega
    by_cases d5 : (t.hours.getD i default).day < (t.hours.getD (i - 1) default).day
    · have hWf := hno (hrAt_or (by omega) (orNo_1 d5))
      simp (maxSteps := 4000000) +contextual (disch := first | omega | exact qdb_ok (by kernel_rfl) | exact okb_ok (by kernel_rfl)) only [bw1,bw2,bw3,bw4,bw5,bw6,bw7,bc0,bc1,bc2,bc3,bc4,bc5,bc6,bc7,bb0,setPs,AV.owns,AV.datF,AV.frz,AV.cpy,ifV,isEqB,nilV,nilX,AV.isNilS,AV.isNoRows,wk,dclo,datOf,binIs,addF,AV.isPtr,idxV,AV.isSl,AV.isSlice,AV.rows,ps,pv,extV,extS,AV.outs,AV.outF,packD,AV.dl,fieldV,fieldS,AV.cells?,AV.upr,AV.menc,AV.one,D.one,Value.oneCell',tagOf,AV.isApp,strV,strS,bolV,bolS,slcV,AV.isSlD,asrtS,AV.dcells,D.cells?,stcV,stcS,leafOk,eqDs,eqD,packA,D.val?,↓reduceIte,reduceCtorEq,Nat.reduceAdd,Nat.reduceSub,Nat.reduceMul,List.reduceReplicate,Nat.reduceLeDiff,Nat.reduceLT,Nat.reduceBEq,Nat.reduceEqDiff,Int.reduceNeg,Int.reduceEq,Int.reduceLE,Int.reduceLT,tfb,ctz31,x31_43,z31_52,ctz52,z52_68,ctz68,x68_51,eq_self, hlt', hrw, d1, d2, d3, d4, d5, hz, hrw2, y1, y2, y3, hWf, hi0]
    by_cases d6 : (t.hours.getD i default).day = (t.hours.getD (i - 1) default).day
    · have d6b : ((t.hours.getD i default).day == (t.hours.getD (i - 1) default).day) = true := by simpa using d6
      by_cases d7 : (t.hours.getD i default).b < (t.hours.getD (i - 1) default).e
      · have hWf := hno (hrAt_or (by omega) (orNo_2 d6 d7))
        simp (maxSteps := 4000000) +contextual (disch := first | omega | exact qdb_ok (by kernel_rfl) | exact okb_ok (by kernel_rfl)) only [bw1,bw2,bw3,bw4,bw5,bw6,bw7,bc0,bc1,bc2,bc3,bc4,bc5,bc6,bc7,bb0,setPs,AV.owns,AV.datF,AV.frz,AV.cpy,ifV,isEqB,nilV,nilX,AV.isNilS,AV.isNoRows,wk,dclo,datOf,binIs,addF,AV.isPtr,idxV,AV.isSl,AV.isSlice,AV.rows,ps,pv,extV,extS,AV.outs,AV.outF,packD,AV.dl,fieldV,fieldS,AV.cells?,AV.upr,AV.menc,AV.one,D.one,Value.oneCell',tagOf,AV.isApp,strV,strS,bolV,bolS,slcV,AV.isSlD,asrtS,AV.dcells,D.cells?,stcV,stcS,leafOk,eqDs,eqD,packA,D.val?,↓reduceIte,reduceCtorEq,Nat.reduceAdd,Nat.reduceSub,Nat.reduceMul,List.reduceReplicate,Nat.reduceLeDiff,Nat.reduceLT,Nat.reduceBEq,Nat.reduceEqDiff,Int.reduceNeg,Int.reduceEq,Int.reduceLE,Int.reduceLT,tfb,ctz31,x31_43,z31_52,ctz52,z52_68,ctz68,x68_51,eq_self, hlt', hrw, d1, d2, d3, d4, d5, d6b, d7, hz, hrw2, y1, y2, y3, hWf, hi0]
      · have ho := hgo (hrAt_ok d1 d2 d3 d4 (.inr (orNo_4 d5 d7)))
        simp (maxSteps := 4000000) +contextual (disch := first | omega | exact qdb_ok (by kernel_rfl) | exact okb_ok (by kernel_rfl)) only [bw1,bw2,bw3,bw4,bw5,bw6,bw7,bc0,bc1,bc2,bc3,bc4,bc5,bc6,bc7,bb0,setPs,AV.owns,AV.datF,AV.frz,AV.cpy,ifV,isEqB,nilV,nilX,AV.isNilS,AV.isNoRows,wk,dclo,datOf,binIs,addF,AV.isPtr,idxV,AV.isSl,AV.isSlice,AV.rows,ps,pv,extV,extS,AV.outs,AV.outF,packD,AV.dl,fieldV,fieldS,AV.cells?,AV.upr,AV.menc,AV.one,D.one,Value.oneCell',tagOf,AV.isApp,strV,strS,bolV,bolS,slcV,AV.isSlD,asrtS,AV.dcells,D.cells?,stcV,stcS,leafOk,eqDs,eqD,packA,D.val?,↓reduceIte,reduceCtorEq,Nat.reduceAdd,Nat.reduceSub,Nat.reduceMul,List.reduceReplicate,Nat.reduceLeDiff,Nat.reduceLT,Nat.reduceBEq,Nat.reduceEqDiff,Int.reduceNeg,Int.reduceEq,Int.reduceLE,Int.reduceLT,tfb,ctz31,x31_43,z31_52,ctz52,z52_68,ctz68,x68_51,eq_self, hlt', hrw, d1, d2, d3, d4, d5, d6b, d7, hz, hrw2, y1, y2, y3, hi0]
        exact ⟨i + 1, ⟨⟨by omega, ho⟩, by omega⟩, rfl⟩
    · have d6b : ((t.hours.getD i default).day == (t.hours.getD (i - 1) default).day) = false := by simpa using d6
      have ho := hgo (hrAt_ok d1 d2 d3 d4 (.inr (orNo_3 d5 d6)))
      simp (maxSteps := 4000000) +contextual (disch := first | omega | exact qdb_ok (by kernel_rfl) | exact okb_ok (by kernel_rfl)) only [bw1,bw2,bw3,bw4,bw5,bw6,bw7,bc0,bc1,bc2,bc3,bc4,bc5,bc6,bc7,bb0,setPs,AV.owns,AV.datF,AV.frz,AV.cpy,ifV,isEqB,nilV,nilX,AV.isNilS,AV.isNoRows,wk,dclo,datOf,binIs,addF,AV.isPtr,idxV,AV.isSl,AV.isSlice,AV.rows,ps,pv,extV,extS,AV.outs,AV.outF,packD,AV.dl,fieldV,fieldS,AV.cells?,AV.upr,AV.menc,AV.one,D.one,Value.oneCell',tagOf,AV.isApp,strV,strS,bolV,bolS,slcV,AV.isSlD,asrtS,AV.dcells,D.cells?,stcV,stcS,leafOk,eqDs,eqD,packA,D.val?,↓reduceIte,reduceCtorEq,Nat.reduceAdd,Nat.reduceSub,Nat.reduceMul,List.reduceReplicate,Nat.reduceLeDiff,Nat.reduceLT,Nat.reduceBEq,Nat.reduceEqDiff,Int.reduceNeg,Int.reduceEq,Int.reduceLE,Int.reduceLT,tfb,ctz31,x31_43,z31_52,ctz52,z52_68,ctz68,x68_51,eq_self, hlt', hrw, d1, d2, d3, d4, d5, d6b, hz, hrw2, y1, y2, y3, hi0]
      exact ⟨i + 1, ⟨⟨by omega, ho⟩, by omega⟩, rfl⟩
  obtain rfl : i = t.hours.length := by omega
  by_cases e1 : inB t.res 0 120 = true
  case neg =>
    have hWf := hW.trans (tt_big fun h => e1 h.2.2)
    simp (maxSteps := 4000000) +contextual (disch := first | omega | exact qdb_ok (by kernel_rfl) | exact okb_ok (by kernel_rfl)) only [bw1,bw2,bw3,bw4,bw5,bw6,bw7,bc0,bc1,bc2,bc3,bc4,bc5,bc6,bc7,bb0,setPs,AV.owns,AV.datF,AV.frz,AV.cpy,ifV,isEqB,nilV,nilX,AV.isNilS,AV.isNoRows,wk,dclo,datOf,binIs,addF,AV.isPtr,idxV,AV.isSl,AV.isSlice,AV.rows,ps,pv,extV,extS,AV.outs,AV.outF,packD,AV.dl,fieldV,fieldS,AV.cells?,AV.upr,AV.menc,AV.one,D.one,Value.oneCell',tagOf,AV.isApp,strV,strS,bolV,bolS,slcV,AV.isSlD,asrtS,AV.dcells,D.cells?,stcV,stcS,leafOk,eqDs,eqD,packA,D.val?,↓reduceIte,reduceCtorEq,Nat.reduceAdd,Nat.reduceSub,Nat.reduceMul,List.reduceReplicate,Nat.reduceLeDiff,Nat.reduceLT,Nat.reduceBEq,Nat.reduceEqDiff,Int.reduceNeg,Int.reduceEq,Int.reduceLE,Int.reduceLT,tfb,ctz31,x31_43,z31_52,ctz52,z52_68,ctz68,x68_51,eq_self, Int.lt_irrefl, e1, hWf]
  by_cases e2 : (t.groups.length : Int) ≤ 5
  case neg =>
    have hWf := hW.trans (tt_big fun h => e2 h.1)
    simp (maxSteps := 4000000) +contextual (disch := first | omega | exact qdb_ok (by kernel_rfl) | exact okb_ok (by kernel_rfl)) only [bw1,bw2,bw3,bw4,bw5,bw6,bw7,bc0,bc1,bc2,bc3,bc4,bc5,bc6,bc7,bb0,setPs,AV.owns,AV.datF,AV.frz,AV.cpy,ifV,isEqB,nilV,nilX,AV.isNilS,AV.isNoRows,wk,dclo,datOf,binIs,addF,AV.isPtr,idxV,AV.isSl,AV.isSlice,AV.rows,ps,pv,extV,extS,AV.outs,AV.outF,packD,AV.dl,fieldV,fieldS,AV.cells?,AV.upr,AV.menc,AV.one,D.one,Value.oneCell',tagOf,AV.isApp,strV,strS,bolV,bolS,slcV,AV.isSlD,asrtS,AV.dcells,D.cells?,stcV,stcS,leafOk,eqDs,eqD,packA,D.val?,↓reduceIte,reduceCtorEq,Nat.reduceAdd,Nat.reduceSub,Nat.reduceMul,List.reduceReplicate,Nat.reduceLeDiff,Nat.reduceLT,Nat.reduceBEq,Nat.reduceEqDiff,Int.reduceNeg,Int.reduceEq,Int.reduceLE,Int.reduceLT,tfb,ctz31,x31_43,z31_52,ctz52,z52_68,ctz68,x68_51,eq_self, Int.lt_irrefl, e1, e2, hWf]
  by_cases e3 : (t.hours.length : Int) ≤ 12
  case neg =>
    have hWf := hW.trans (tt_big fun h => e3 h.2.1)
    simp (maxSteps := 4000000) +contextual (disch := first | omega | exact qdb_ok (by kernel_rfl) | exact okb_ok (by kernel_rfl)) only [bw1,bw2,bw3,bw4,bw5,bw6,bw7,bc0,bc1,bc2,bc3,bc4,bc5,bc6,bc7,bb0,setPs,AV.owns,AV.datF,AV.frz,AV.cpy,ifV,isEqB,nilV,nilX,AV.isNilS,AV.isNoRows,wk,dclo,datOf,binIs,addF,AV.isPtr,idxV,AV.isSl,AV.isSlice,AV.rows,ps,pv,extV,extS,AV.outs,AV.outF,packD,AV.dl,fieldV,fieldS,AV.cells?,AV.upr,AV.menc,AV.one,D.one,Value.oneCell',tagOf,AV.isApp,strV,strS,bolV,bolS,slcV,AV.isSlD,asrtS,AV.dcells,D.cells?,stcV,stcS,leafOk,eqDs,eqD,packA,D.val?,↓reduceIte,reduceCtorEq,Nat.reduceAdd,Nat.reduceSub,Nat.reduceMul,List.reduceReplicate,Nat.reduceLeDiff,Nat.reduceLT,Nat.reduceBEq,Nat.reduceEqDiff,Int.reduceNeg,Int.reduceEq,Int.reduceLE,Int.reduceLT,tfb,ctz31,x31_43,z31_52,ctz52,z52_68,ctz68,x68_51,eq_self, Int.lt_irrefl, e1, e2, e3, hWf]
  simp (maxSteps := 4000000) +contextual (disch := first | omega | exact qdb_ok (by kernel_rfl) | exact okb_ok (by kernel_rfl)) only [bw1,bw2,bw3,bw4,bw5,bw6,bw7,bc0,bc1,bc2,bc3,bc4,bc5,bc6,bc7,bb0,setPs,AV.owns,AV.datF,AV.frz,AV.cpy,ifV,isEqB,nilV,nilX,AV.isNilS,AV.isNoRows,wk,dclo,datOf,binIs,addF,AV.isPtr,idxV,AV.isSl,AV.isSlice,AV.rows,ps,pv,extV,extS,AV.outs,AV.outF,packD,AV.dl,fieldV,fieldS,AV.cells?,AV.upr,AV.menc,AV.one,D.one,Value.oneCell',tagOf,AV.isApp,strV,strS,bolV,bolS,slcV,AV.isSlD,asrtS,AV.dcells,D.cells?,stcV,stcS,leafOk,eqDs,eqD,packA,D.val?,↓reduceIte,reduceCtorEq,Nat.reduceAdd,Nat.reduceSub,Nat.reduceMul,List.reduceReplicate,Nat.reduceLeDiff,Nat.reduceLT,Nat.reduceBEq,Nat.reduceEqDiff,Int.reduceNeg,Int.reduceEq,Int.reduceLE,Int.reduceLT,tfb,ctz31,x31_43,z31_52,ctz52,z52_68,ctz68,x68_51,eq_self, Int.lt_irrefl, e1, e2, e3]
  refine loop_xu (O := O68) (tb := 68000) Ct68_ok hmix (by kernel_rfl) (σ := Nat) (fun k => [(8, .i k), (5, .any)]) (fun _ => []) (fun k => k ≤ t.groups.length ∧ ∀ q, q < k → grOk (t.groups.getD q default) = true) (fun k => t.groups.length - k) 0 ⟨Nat.zero_le _, fun q hq => by omega⟩ ?_ ?_
  · simp (maxSteps := 4000000) +contextual (disch := first | omega | exact qdb_ok (by kernel_rfl) | exact okb_ok (by kernel_rfl)) only [bw1,bw2,bw3,bw4,bw5,bw6,bw7,bc0,bc1,bc2,bc3,bc4,bc5,bc6,bc7,bb0,setPs,AV.owns,AV.datF,AV.frz,AV.cpy,ifV,isEqB,nilV,nilX,AV.isNilS,AV.isNoRows,wk,dclo,datOf,binIs,addF,AV.isPtr,idxV,AV.isSl,AV.isSlice,AV.rows,ps,pv,extV,extS,AV.outs,AV.outF,packD,AV.dl,fieldV,fieldS,AV.cells?,AV.upr,AV.menc,AV.one,D.one,Value.oneCell',tagOf,AV.isApp,strV,strS,bolV,bolS,slcV,AV.isSlD,asrtS,AV.dcells,D.cells?,stcV,stcS,leafOk,eqDs,eqD,packA,D.val?,↓reduceIte,reduceCtorEq,Nat.reduceAdd,Nat.reduceSub,Nat.reduceMul,List.reduceReplicate,Nat.reduceLeDiff,Nat.reduceLT,Nat.reduceBEq,Nat.reduceEqDiff,Int.reduceNeg,Int.reduceEq,Int.reduceLE,Int.reduceLT,tfb,ctz31,x31_43,z31_52,ctz52,z52_68,ctz68,x68_51,eq_self]
    try rfl
  rintro k ⟨hk, hkq⟩
  by_cases hlt : k < t.groups.length
  · have hlt' : (k : Int) < t.groups.length := by omega
    have hrw : (t.groups.map Gr.c).getD k [] = Gr.c (t.groups.getD k default) := Go.E.row_at hlt
    have hk0 : (0 : Int) ≤ k := by omega
    by_cases g1 : grOk (t.groups.getD k default) = true
    · simp (maxSteps := 4000000) +contextual (disch := first | omega | exact qdb_ok (by kernel_rfl) | exact okb_ok (by kernel_rfl)) only [bw1,bw2,bw3,bw4,bw5,bw6,bw7,bc0,bc1,bc2,bc3,bc4,bc5,bc6,bc7,bb0,setPs,AV.owns,AV.datF,AV.frz,AV.cpy,ifV,isEqB,nilV,nilX,AV.isNilS,AV.isNoRows,wk,dclo,datOf,binIs,addF,AV.isPtr,idxV,AV.isSl,AV.isSlice,AV.rows,ps,pv,extV,extS,AV.outs,AV.outF,packD,AV.dl,fieldV,fieldS,AV.cells?,AV.upr,AV.menc,AV.one,D.one,Value.oneCell',tagOf,AV.isApp,strV,strS,bolV,bolS,slcV,AV.isSlD,asrtS,AV.dcells,D.cells?,stcV,stcS,leafOk,eqDs,eqD,packA,D.val?,↓reduceIte,reduceCtorEq,Nat.reduceAdd,Nat.reduceSub,Nat.reduceMul,List.reduceReplicate,Nat.reduceLeDiff,Nat.reduceLT,Nat.reduceBEq,Nat.reduceEqDiff,Int.reduceNeg,Int.reduceEq,Int.reduceLE,Int.reduceLT,tfb,ctz31,x31_43,z31_52,ctz52,z52_68,ctz68,x68_51,eq_self, hlt', hrw, g1, hk0, Bool.not_true]
      exact ⟨k + 1, ⟨⟨by omega, fun q hq => by rcases Nat.lt_succ_iff_lt_or_eq.1 hq with h' | rfl; exact hkq q h'; exact g1⟩, by omega⟩, rfl⟩
    · have g1b : grOk (t.groups.getD k default) = false := by simpa using g1
      have hWf := hW.trans (tt_gr fun h => g1 (all_get.1 h k hlt))
      simp (maxSteps := 4000000) +contextual (disch := first | omega | exact qdb_ok (by kernel_rfl) | exact okb_ok (by kernel_rfl)) only [bw1,bw2,bw3,bw4,bw5,bw6,bw7,bc0,bc1,bc2,bc3,bc4,bc5,bc6,bc7,bb0,setPs,AV.owns,AV.datF,AV.frz,AV.cpy,ifV,isEqB,nilV,nilX,AV.isNilS,AV.isNoRows,wk,dclo,datOf,binIs,addF,AV.isPtr,idxV,AV.isSl,AV.isSlice,AV.rows,ps,pv,extV,extS,AV.outs,AV.outF,packD,AV.dl,fieldV,fieldS,AV.cells?,AV.upr,AV.menc,AV.one,D.one,Value.oneCell',tagOf,AV.isApp,strV,strS,bolV,bolS,slcV,AV.isSlD,asrtS,AV.dcells,D.cells?,stcV,stcS,leafOk,eqDs,eqD,packA,D.val?,↓reduceIte,reduceCtorEq,Nat.reduceAdd,Nat.reduceSub,Nat.reduceMul,List.reduceReplicate,Nat.reduceLeDiff,Nat.reduceLT,Nat.reduceBEq,Nat.reduceEqDiff,Int.reduceNeg,Int.reduceEq,Int.reduceLE,Int.reduceLT,tfb,ctz31,x31_43,z31_52,ctz52,z52_68,ctz68,x68_51,eq_self, hlt', hrw, g1b, hk0, Bool.not_false, hWf]
  obtain rfl : k = t.groups.length := by omega
  have hWt := hW.trans (tt_end ⟨e2, e3, e1⟩ (all_get.2 hkq) hq)
  simp (maxSteps := 4000000) +contextual (disch := first | omega | exact qdb_ok (by kernel_rfl) | exact okb_ok (by kernel_rfl)) only [bw1,bw2,bw3,bw4,bw5,bw6,bw7,bc0,bc1,bc2,bc3,bc4,bc5,bc6,bc7,bb0,setPs,AV.owns,AV.datF,AV.frz,AV.cpy,ifV,isEqB,nilV,nilX,AV.isNilS,AV.isNoRows,wk,dclo,datOf,binIs,addF,AV.isPtr,idxV,AV.isSl,AV.isSlice,AV.rows,ps,pv,extV,extS,AV.outs,AV.outF,packD,AV.dl,fieldV,fieldS,AV.cells?,AV.upr,AV.menc,AV.one,D.one,Value.oneCell',tagOf,AV.isApp,strV,strS,bolV,bolS,slcV,AV.isSlD,asrtS,AV.dcells,D.cells?,stcV,stcS,leafOk,eqDs,eqD,packA,D.val?,↓reduceIte,reduceCtorEq,Nat.reduceAdd,Nat.reduceSub,Nat.reduceMul,List.reduceReplicate,Nat.reduceLeDiff,Nat.reduceLT,Nat.reduceBEq,Nat.reduceEqDiff,Int.reduceNeg,Int.reduceEq,Int.reduceLE,Int.reduceLT,tfb,ctz31,x31_43,z31_52,ctz52,z52_68,ctz68,x68_51,eq_self, Int.lt_irrefl, hWt]
def ent31 (args : List AV) (K : AV → List AV → Sto → Prop) (e : List AV) (s : Sto) : Prop := ent (α := (Tt)) (fun aa => [.agg aa.c]) (fun aa => aa.hours.length ≤ 1000 ∧ aa.groups.length ≤ 1000) (fun aa => .b (ttOk aa)) args K e s
theorem ent31_ok {args : List AV} {K : AV → List AV → Sto → Prop} {Q : Kt} {e : List AV} {s : Sto} (h : ent31 args K e s) : pcall Tryd.prog 31 args K Q e s := ent_ok (fun aa h => pf31 aa h) h
theorem eq31 {t : Tt} {KK : AV → List AV → Sto → Prop} {ee : List AV} {ss : Sto} : ent31 [.d (.agg t.c)] KK ee ss = ((t.hours.length ≤ 1000 ∧ t.groups.length ≤ 1000) ∧ KK (.d (.b (ttOk t))) ee ss) := by
  unfold ent31; rw [ent_iff t (by intro b h; simpa [Prod.ext_iff, and_assoc, Int.ofNat_inj, ints_inj, hrs_inj, grs_inj, hr_inj, gr_inj, tt_inj] using h) rfl]; simp
def O21 : Nat → Sch := fun id => if id = 13 then .one 0 (.one 1 (.one 2 (.one 3 (.one 4 (.one 5 (.one 6 (.one 7 (.one 8 (.one 9 (.one 10 (.one 11 (.one 12 (.one 13 (.one 14 (.one 15 (.one 16 (.one 17 (.one 18 (.one 19 (.one 20 (.one 21 (.one 22 (.one 23 (.one 24 (.one 25 (.one 26 (.one 27 (.one 28 (.one 29 (.one 30 (.one 31 (.one 32 (.one 33 (.one 34 (.one 35 (.one 36 (.one 37 (.done)))))))))))))))))))))))))))))))))))))) else .done
theorem O21_13 : O21 13 = .one 0 (.one 1 (.one 2 (.one 3 (.one 4 (.one 5 (.one 6 (.one 7 (.one 8 (.one 9 (.one 10 (.one 11 (.one 12 (.one 13 (.one 14 (.one 15 (.one 16 (.one 17 (.one 18 (.one 19 (.one 20 (.one 21 (.one 22 (.one 23 (.one 24 (.one 25 (.one 26 (.one 27 (.one 28 (.one 29 (.one 30 (.one 31 (.one 32 (.one 33 (.one 34 (.one 35 (.one 36 (.one 37 (.done)))))))))))))))))))))))))))))))))))))) := rfl
theorem ho21 : Tryd.f21.body.map (okO O21) = some true := by kernel_rfl
def Cf21 : Nat → List AV → (AV → List AV → Sto → Prop) → Kt → List AV → Sto → Prop := fun f args K Q e s => match f with
  | 47 => ent47 args K e s
  | _ => False
def Ct21 : CT := { f := Cf21, y := noYld, z := fun d => false }
theorem ctz21 {d : Nat} : CT.z Ct21 d = (false) := id rfl
theorem Ct21_ok : Ct21.ok Tryd.prog := ok_of_f (fun f args K Q e s h => by
  have h : Cf21 f args K Q e s := h
  unfold Cf21 at h; split at h
  · exact ent47_ok h
  · exact h.elim) (fun _ _ _ _ _ _ _ _ _ h => h)
theorem x21_47 {n : Int} {lo : Int} {hi : Int} {KK : AV → List AV → Sto → Prop} {QQ : Kt} {ii : At KK} {jj : At QQ} {ee : List AV} {ss : Sto} : xC Ct21 47 [.d (.i n), .d (.i lo), .d (.i hi)] KK QQ ii jj ee ss = (KK (.d (.b (inB n lo hi))) ee ss) := eq47
theorem c21 : callable Tryd.prog 21 = true := by kernel_rfl
theorem pf21 (t : Tt) (h : t.hours.length ≤ 1000 ∧ t.groups.length ≤ 1000) : PF Tryd.prog 21 [.agg t.c] (fun zz => zz = .ret (.b (ttOk t))) := by
  obtain ⟨hh, hg⟩ := h
  obtain ⟨W, hW⟩ : ∃ W, W = ttOk t := ⟨_, rfl⟩
  rw [← hW]
  refine PF_nil (PF_start (O := O21) Ct21_ok hmix ho21 Tryd.func21 c21 rfl Tryd.ntmps21 Tryd.results21 ?_)
  simp (maxSteps := 4000000) +contextual (disch := first | omega | exact qdb_ok (by kernel_rfl) | exact okb_ok (by kernel_rfl)) only [bw1,bw2,bw3,bw4,bw5,bw6,bw7,bc0,bc1,bc2,bc3,bc4,bc5,bc6,bc7,bb0,setPs,AV.owns,AV.datF,AV.frz,AV.cpy,ifV,isEqB,nilV,nilX,AV.isNilS,AV.isNoRows,wk,dclo,datOf,binIs,addF,AV.isPtr,idxV,AV.isSl,AV.isSlice,AV.rows,ps,pv,extV,extS,AV.outs,AV.outF,packD,AV.dl,fieldV,fieldS,AV.cells?,AV.upr,AV.menc,AV.one,D.one,Value.oneCell',tagOf,AV.isApp,strV,strS,bolV,bolS,slcV,AV.isSlD,asrtS,AV.dcells,D.cells?,stcV,stcS,leafOk,eqDs,eqD,packA,D.val?,↓reduceIte,reduceCtorEq,Nat.reduceAdd,Nat.reduceSub,Nat.reduceMul,List.reduceReplicate,Nat.reduceLeDiff,Nat.reduceLT,Nat.reduceBEq,Nat.reduceEqDiff,Int.reduceNeg,Int.reduceEq,Int.reduceLE,Int.reduceLT,tfb,ctz21,O21_13,x21_47]
  refine loop_xu (O := O21) (tb := 0) Ct21_ok hmix (by kernel_rfl) (σ := Nat) (fun k => [(3, .i k), (4, .any)]) (fun _ => []) (fun k => k ≤ t.groups.length ∧ ∀ q, q < k → grOk (t.groups.getD q default) = true) (fun k => t.groups.length - k) 0 ⟨Nat.zero_le _, fun q hq => by omega⟩ ?_ ?_
  · simp (maxSteps := 4000000) +contextual (disch := first | omega | exact qdb_ok (by kernel_rfl) | exact okb_ok (by kernel_rfl)) only [bw1,bw2,bw3,bw4,bw5,bw6,bw7,bc0,bc1,bc2,bc3,bc4,bc5,bc6,bc7,bb0,setPs,AV.owns,AV.datF,AV.frz,AV.cpy,ifV,isEqB,nilV,nilX,AV.isNilS,AV.isNoRows,wk,dclo,datOf,binIs,addF,AV.isPtr,idxV,AV.isSl,AV.isSlice,AV.rows,ps,pv,extV,extS,AV.outs,AV.outF,packD,AV.dl,fieldV,fieldS,AV.cells?,AV.upr,AV.menc,AV.one,D.one,Value.oneCell',tagOf,AV.isApp,strV,strS,bolV,bolS,slcV,AV.isSlD,asrtS,AV.dcells,D.cells?,stcV,stcS,leafOk,eqDs,eqD,packA,D.val?,↓reduceIte,reduceCtorEq,Nat.reduceAdd,Nat.reduceSub,Nat.reduceMul,List.reduceReplicate,Nat.reduceLeDiff,Nat.reduceLT,Nat.reduceBEq,Nat.reduceEqDiff,Int.reduceNeg,Int.reduceEq,Int.reduceLE,Int.reduceLT,tfb,ctz21,O21_13,x21_47,eq_self]
    try rfl
  rintro k ⟨hk, hkq⟩
  by_cases hlt : k < t.groups.length
  · have hlt' : (k : Int) < t.groups.length := by omega
    have hrw : (t.groups.map Gr.c).getD k [] = Gr.c (t.groups.getD k default) := Go.E.row_at hlt
    have hk0 : (0 : Int) ≤ k := by omega
    have hWf : grOk (t.groups.getD k default) = false → W = false := fun h => hW.trans (tt_gr fun h' => by rw [all_get.1 h' k hlt] at h; cases h)
    unfold grOk at hWf
    by_cases c1 : inB (t.groups.getD k default).days 0 127 = true
    case neg =>
      have hW0 := hWf (Bool.eq_false_iff.2 fun h => c1 (by simp only [Bool.and_eq_true] at h; exact h.1))
      simp (maxSteps := 4000000) +contextual (disch := first | omega | exact qdb_ok (by kernel_rfl) | exact okb_ok (by kernel_rfl)) only [bw1,bw2,bw3,bw4,bw5,bw6,bw7,bc0,bc1,bc2,bc3,bc4,bc5,bc6,bc7,bb0,setPs,AV.owns,AV.datF,AV.frz,AV.cpy,ifV,isEqB,nilV,nilX,AV.isNilS,AV.isNoRows,wk,dclo,datOf,binIs,addF,AV.isPtr,idxV,AV.isSl,AV.isSlice,AV.rows,ps,pv,extV,extS,AV.outs,AV.outF,packD,AV.dl,fieldV,fieldS,AV.cells?,AV.upr,AV.menc,AV.one,D.one,Value.oneCell',tagOf,AV.isApp,strV,strS,bolV,bolS,slcV,AV.isSlD,asrtS,AV.dcells,D.cells?,stcV,stcS,leafOk,eqDs,eqD,packA,D.val?,↓reduceIte,reduceCtorEq,Nat.reduceAdd,Nat.reduceSub,Nat.reduceMul,List.reduceReplicate,Nat.reduceLeDiff,Nat.reduceLT,Nat.reduceBEq,Nat.reduceEqDiff,Int.reduceNeg,Int.reduceEq,Int.reduceLE,Int.reduceLT,tfb,ctz21,O21_13,x21_47,eq_self, hlt', hrw, hk0, c1, hW0]
    by_cases c2 : inB (t.groups.getD k default).early 0 1440 = true
    case neg =>
      have hW0 := hWf (Bool.eq_false_iff.2 fun h => c2 (by simp only [Bool.and_eq_true] at h; exact h.2.1))
      simp (maxSteps := 4000000) +contextual (disch := first | omega | exact qdb_ok (by kernel_rfl) | exact okb_ok (by kernel_rfl)) only [bw1,bw2,bw3,bw4,bw5,bw6,bw7,bc0,bc1,bc2,bc3,bc4,bc5,bc6,bc7,bb0,setPs,AV.owns,AV.datF,AV.frz,AV.cpy,ifV,isEqB,nilV,nilX,AV.isNilS,AV.isNoRows,wk,dclo,datOf,binIs,addF,AV.isPtr,idxV,AV.isSl,AV.isSlice,AV.rows,ps,pv,extV,extS,AV.outs,AV.outF,packD,AV.dl,fieldV,fieldS,AV.cells?,AV.upr,AV.menc,AV.one,D.one,Value.oneCell',tagOf,AV.isApp,strV,strS,bolV,bolS,slcV,AV.isSlD,asrtS,AV.dcells,D.cells?,stcV,stcS,leafOk,eqDs,eqD,packA,D.val?,↓reduceIte,reduceCtorEq,Nat.reduceAdd,Nat.reduceSub,Nat.reduceMul,List.reduceReplicate,Nat.reduceLeDiff,Nat.reduceLT,Nat.reduceBEq,Nat.reduceEqDiff,Int.reduceNeg,Int.reduceEq,Int.reduceLE,Int.reduceLT,tfb,ctz21,O21_13,x21_47,eq_self, hlt', hrw, hk0, c1, c2, hW0]
    by_cases c3 : inB (t.groups.getD k default).late 0 1440 = true
    case neg =>
      have hW0 := hWf (Bool.eq_false_iff.2 fun h => c3 (by simp only [Bool.and_eq_true] at h; exact h.2.2.1))
      simp (maxSteps := 4000000) +contextual (disch := first | omega | exact qdb_ok (by kernel_rfl) | exact okb_ok (by kernel_rfl)) only [bw1,bw2,bw3,bw4,bw5,bw6,bw7,bc0,bc1,bc2,bc3,bc4,bc5,bc6,bc7,bb0,setPs,AV.owns,AV.datF,AV.frz,AV.cpy,ifV,isEqB,nilV,nilX,AV.isNilS,AV.isNoRows,wk,dclo,datOf,binIs,addF,AV.isPtr,idxV,AV.isSl,AV.isSlice,AV.rows,ps,pv,extV,extS,AV.outs,AV.outF,packD,AV.dl,fieldV,fieldS,AV.cells?,AV.upr,AV.menc,AV.one,D.one,Value.oneCell',tagOf,AV.isApp,strV,strS,bolV,bolS,slcV,AV.isSlD,asrtS,AV.dcells,D.cells?,stcV,stcS,leafOk,eqDs,eqD,packA,D.val?,↓reduceIte,reduceCtorEq,Nat.reduceAdd,Nat.reduceSub,Nat.reduceMul,List.reduceReplicate,Nat.reduceLeDiff,Nat.reduceLT,Nat.reduceBEq,Nat.reduceEqDiff,Int.reduceNeg,Int.reduceEq,Int.reduceLE,Int.reduceLT,tfb,ctz21,O21_13,x21_47,eq_self, hlt', hrw, hk0, c1, c2, c3, hW0]
    by_cases c4 : inB (t.groups.getD k default).most 0 12 = true
    case neg =>
      have hW0 := hWf (Bool.eq_false_iff.2 fun h => c4 (by simp only [Bool.and_eq_true] at h; exact h.2.2.2.1))
      simp (maxSteps := 4000000) +contextual (disch := first | omega | exact qdb_ok (by kernel_rfl) | exact okb_ok (by kernel_rfl)) only [bw1,bw2,bw3,bw4,bw5,bw6,bw7,bc0,bc1,bc2,bc3,bc4,bc5,bc6,bc7,bb0,setPs,AV.owns,AV.datF,AV.frz,AV.cpy,ifV,isEqB,nilV,nilX,AV.isNilS,AV.isNoRows,wk,dclo,datOf,binIs,addF,AV.isPtr,idxV,AV.isSl,AV.isSlice,AV.rows,ps,pv,extV,extS,AV.outs,AV.outF,packD,AV.dl,fieldV,fieldS,AV.cells?,AV.upr,AV.menc,AV.one,D.one,Value.oneCell',tagOf,AV.isApp,strV,strS,bolV,bolS,slcV,AV.isSlD,asrtS,AV.dcells,D.cells?,stcV,stcS,leafOk,eqDs,eqD,packA,D.val?,↓reduceIte,reduceCtorEq,Nat.reduceAdd,Nat.reduceSub,Nat.reduceMul,List.reduceReplicate,Nat.reduceLeDiff,Nat.reduceLT,Nat.reduceBEq,Nat.reduceEqDiff,Int.reduceNeg,Int.reduceEq,Int.reduceLE,Int.reduceLT,tfb,ctz21,O21_13,x21_47,eq_self, hlt', hrw, hk0, c1, c2, c3, c4, hW0]
    by_cases c5 : inB (t.groups.getD k default).cred 0 1000 = true
    case neg =>
      have hW0 := hWf (Bool.eq_false_iff.2 fun h => c5 (by simp only [Bool.and_eq_true] at h; exact h.2.2.2.2))
      simp (maxSteps := 4000000) +contextual (disch := first | omega | exact qdb_ok (by kernel_rfl) | exact okb_ok (by kernel_rfl)) only [bw1,bw2,bw3,bw4,bw5,bw6,bw7,bc0,bc1,bc2,bc3,bc4,bc5,bc6,bc7,bb0,setPs,AV.owns,AV.datF,AV.frz,AV.cpy,ifV,isEqB,nilV,nilX,AV.isNilS,AV.isNoRows,wk,dclo,datOf,binIs,addF,AV.isPtr,idxV,AV.isSl,AV.isSlice,AV.rows,ps,pv,extV,extS,AV.outs,AV.outF,packD,AV.dl,fieldV,fieldS,AV.cells?,AV.upr,AV.menc,AV.one,D.one,Value.oneCell',tagOf,AV.isApp,strV,strS,bolV,bolS,slcV,AV.isSlD,asrtS,AV.dcells,D.cells?,stcV,stcS,leafOk,eqDs,eqD,packA,D.val?,↓reduceIte,reduceCtorEq,Nat.reduceAdd,Nat.reduceSub,Nat.reduceMul,List.reduceReplicate,Nat.reduceLeDiff,Nat.reduceLT,Nat.reduceBEq,Nat.reduceEqDiff,Int.reduceNeg,Int.reduceEq,Int.reduceLE,Int.reduceLT,tfb,ctz21,O21_13,x21_47,eq_self, hlt', hrw, hk0, c1, c2, c3, c4, c5, hW0]
    have g1 : grOk (t.groups.getD k default) = true := by unfold grOk; rw [c1, c2, c3, c4, c5]; rfl
    simp (maxSteps := 4000000) +contextual (disch := first | omega | exact qdb_ok (by kernel_rfl) | exact okb_ok (by kernel_rfl)) only [bw1,bw2,bw3,bw4,bw5,bw6,bw7,bc0,bc1,bc2,bc3,bc4,bc5,bc6,bc7,bb0,setPs,AV.owns,AV.datF,AV.frz,AV.cpy,ifV,isEqB,nilV,nilX,AV.isNilS,AV.isNoRows,wk,dclo,datOf,binIs,addF,AV.isPtr,idxV,AV.isSl,AV.isSlice,AV.rows,ps,pv,extV,extS,AV.outs,AV.outF,packD,AV.dl,fieldV,fieldS,AV.cells?,AV.upr,AV.menc,AV.one,D.one,Value.oneCell',tagOf,AV.isApp,strV,strS,bolV,bolS,slcV,AV.isSlD,asrtS,AV.dcells,D.cells?,stcV,stcS,leafOk,eqDs,eqD,packA,D.val?,↓reduceIte,reduceCtorEq,Nat.reduceAdd,Nat.reduceSub,Nat.reduceMul,List.reduceReplicate,Nat.reduceLeDiff,Nat.reduceLT,Nat.reduceBEq,Nat.reduceEqDiff,Int.reduceNeg,Int.reduceEq,Int.reduceLE,Int.reduceLT,tfb,ctz21,O21_13,x21_47,eq_self, hlt', hrw, hk0, c1, c2, c3, c4, c5]
    exact ⟨k + 1, ⟨⟨by omega, fun q hq => by rcases Nat.lt_succ_iff_lt_or_eq.1 hq with h' | rfl; exact hkq q h'; exact g1⟩, by omega⟩, rfl⟩
  obtain rfl : k = t.groups.length := by omega
  simp (maxSteps := 4000000) +contextual (disch := first | omega | exact qdb_ok (by kernel_rfl) | exact okb_ok (by kernel_rfl)) only [bw1,bw2,bw3,bw4,bw5,bw6,bw7,bc0,bc1,bc2,bc3,bc4,bc5,bc6,bc7,bb0,setPs,AV.owns,AV.datF,AV.frz,AV.cpy,ifV,isEqB,nilV,nilX,AV.isNilS,AV.isNoRows,wk,dclo,datOf,binIs,addF,AV.isPtr,idxV,AV.isSl,AV.isSlice,AV.rows,ps,pv,extV,extS,AV.outs,AV.outF,packD,AV.dl,fieldV,fieldS,AV.cells?,AV.upr,AV.menc,AV.one,D.one,Value.oneCell',tagOf,AV.isApp,strV,strS,bolV,bolS,slcV,AV.isSlD,asrtS,AV.dcells,D.cells?,stcV,stcS,leafOk,eqDs,eqD,packA,D.val?,↓reduceIte,reduceCtorEq,Nat.reduceAdd,Nat.reduceSub,Nat.reduceMul,List.reduceReplicate,Nat.reduceLeDiff,Nat.reduceLT,Nat.reduceBEq,Nat.reduceEqDiff,Int.reduceNeg,Int.reduceEq,Int.reduceLE,Int.reduceLT,tfb,ctz21,O21_13,x21_47,eq_self, Int.lt_irrefl]
  refine loop_xu (O := O21) (tb := 0) Ct21_ok hmix (by kernel_rfl) (σ := Nat) (fun i => [(5, .i i), (6, .any)]) (fun _ => []) (fun i => i ≤ t.hours.length ∧ ∀ q, q < i → hrAt t.hours q = true) (fun i => t.hours.length - i) 0 ⟨Nat.zero_le _, fun q hq => by omega⟩ ?_ ?_
  · simp (maxSteps := 4000000) +contextual (disch := first | omega | exact qdb_ok (by kernel_rfl) | exact okb_ok (by kernel_rfl)) only [bw1,bw2,bw3,bw4,bw5,bw6,bw7,bc0,bc1,bc2,bc3,bc4,bc5,bc6,bc7,bb0,setPs,AV.owns,AV.datF,AV.frz,AV.cpy,ifV,isEqB,nilV,nilX,AV.isNilS,AV.isNoRows,wk,dclo,datOf,binIs,addF,AV.isPtr,idxV,AV.isSl,AV.isSlice,AV.rows,ps,pv,extV,extS,AV.outs,AV.outF,packD,AV.dl,fieldV,fieldS,AV.cells?,AV.upr,AV.menc,AV.one,D.one,Value.oneCell',tagOf,AV.isApp,strV,strS,bolV,bolS,slcV,AV.isSlD,asrtS,AV.dcells,D.cells?,stcV,stcS,leafOk,eqDs,eqD,packA,D.val?,↓reduceIte,reduceCtorEq,Nat.reduceAdd,Nat.reduceSub,Nat.reduceMul,List.reduceReplicate,Nat.reduceLeDiff,Nat.reduceLT,Nat.reduceBEq,Nat.reduceEqDiff,Int.reduceNeg,Int.reduceEq,Int.reduceLE,Int.reduceLT,tfb,ctz21,O21_13,x21_47,eq_self]
    try rfl
  rintro i ⟨hi, hq⟩
  by_cases hlt : i < t.hours.length
  · have hlt' : (i : Int) < t.hours.length := by omega
    have hrw : (t.hours.map Hr.c).getD i [] = Hr.c (t.hours.getD i default) := Go.E.row_at hlt
    have hno : hrAt t.hours i = false → W = false := fun h => hW.trans (tt_hr hlt h)
    have hgo : hrAt t.hours i = true → ∀ q, q < i + 1 → hrAt t.hours q = true := fun h q hq' => by rcases Nat.lt_succ_iff_lt_or_eq.1 hq' with h' | rfl; exact hq q h'; exact h
    have hi0 : (0 : Int) ≤ i := by omega
    by_cases d1 : inB (t.hours.getD i default).day 0 6 = true
    case neg =>
      have hWf := hno (hrAt_no (hrOk_1 d1))
      simp (maxSteps := 4000000) +contextual (disch := first | omega | exact qdb_ok (by kernel_rfl) | exact okb_ok (by kernel_rfl)) only [bw1,bw2,bw3,bw4,bw5,bw6,bw7,bc0,bc1,bc2,bc3,bc4,bc5,bc6,bc7,bb0,setPs,AV.owns,AV.datF,AV.frz,AV.cpy,ifV,isEqB,nilV,nilX,AV.isNilS,AV.isNoRows,wk,dclo,datOf,binIs,addF,AV.isPtr,idxV,AV.isSl,AV.isSlice,AV.rows,ps,pv,extV,extS,AV.outs,AV.outF,packD,AV.dl,fieldV,fieldS,AV.cells?,AV.upr,AV.menc,AV.one,D.one,Value.oneCell',tagOf,AV.isApp,strV,strS,bolV,bolS,slcV,AV.isSlD,asrtS,AV.dcells,D.cells?,stcV,stcS,leafOk,eqDs,eqD,packA,D.val?,↓reduceIte,reduceCtorEq,Nat.reduceAdd,Nat.reduceSub,Nat.reduceMul,List.reduceReplicate,Nat.reduceLeDiff,Nat.reduceLT,Nat.reduceBEq,Nat.reduceEqDiff,Int.reduceNeg,Int.reduceEq,Int.reduceLE,Int.reduceLT,tfb,ctz21,O21_13,x21_47,eq_self, hlt', hrw, d1, hWf, hi0]
    by_cases d2 : (t.hours.getD i default).b < 0
    case pos =>
      have hWf := hno (hrAt_no (hrOk_2 d2))
      simp (maxSteps := 4000000) +contextual (disch := first | omega | exact qdb_ok (by kernel_rfl) | exact okb_ok (by kernel_rfl)) only [bw1,bw2,bw3,bw4,bw5,bw6,bw7,bc0,bc1,bc2,bc3,bc4,bc5,bc6,bc7,bb0,setPs,AV.owns,AV.datF,AV.frz,AV.cpy,ifV,isEqB,nilV,nilX,AV.isNilS,AV.isNoRows,wk,dclo,datOf,binIs,addF,AV.isPtr,idxV,AV.isSl,AV.isSlice,AV.rows,ps,pv,extV,extS,AV.outs,AV.outF,packD,AV.dl,fieldV,fieldS,AV.cells?,AV.upr,AV.menc,AV.one,D.one,Value.oneCell',tagOf,AV.isApp,strV,strS,bolV,bolS,slcV,AV.isSlD,asrtS,AV.dcells,D.cells?,stcV,stcS,leafOk,eqDs,eqD,packA,D.val?,↓reduceIte,reduceCtorEq,Nat.reduceAdd,Nat.reduceSub,Nat.reduceMul,List.reduceReplicate,Nat.reduceLeDiff,Nat.reduceLT,Nat.reduceBEq,Nat.reduceEqDiff,Int.reduceNeg,Int.reduceEq,Int.reduceLE,Int.reduceLT,tfb,ctz21,O21_13,x21_47,eq_self, hlt', hrw, d1, d2, hWf, hi0]
    by_cases d3 : (t.hours.getD i default).e ≤ (t.hours.getD i default).b
    case pos =>
      have hWf := hno (hrAt_no (hrOk_3 d3))
      simp (maxSteps := 4000000) +contextual (disch := first | omega | exact qdb_ok (by kernel_rfl) | exact okb_ok (by kernel_rfl)) only [bw1,bw2,bw3,bw4,bw5,bw6,bw7,bc0,bc1,bc2,bc3,bc4,bc5,bc6,bc7,bb0,setPs,AV.owns,AV.datF,AV.frz,AV.cpy,ifV,isEqB,nilV,nilX,AV.isNilS,AV.isNoRows,wk,dclo,datOf,binIs,addF,AV.isPtr,idxV,AV.isSl,AV.isSlice,AV.rows,ps,pv,extV,extS,AV.outs,AV.outF,packD,AV.dl,fieldV,fieldS,AV.cells?,AV.upr,AV.menc,AV.one,D.one,Value.oneCell',tagOf,AV.isApp,strV,strS,bolV,bolS,slcV,AV.isSlD,asrtS,AV.dcells,D.cells?,stcV,stcS,leafOk,eqDs,eqD,packA,D.val?,↓reduceIte,reduceCtorEq,Nat.reduceAdd,Nat.reduceSub,Nat.reduceMul,List.reduceReplicate,Nat.reduceLeDiff,Nat.reduceLT,Nat.reduceBEq,Nat.reduceEqDiff,Int.reduceNeg,Int.reduceEq,Int.reduceLE,Int.reduceLT,tfb,ctz21,O21_13,x21_47,eq_self, hlt', hrw, d1, d2, d3, hWf, hi0]
    by_cases d4 : 1440 < (t.hours.getD i default).e
    case pos =>
      have hWf := hno (hrAt_no (hrOk_4 d4))
      simp (maxSteps := 4000000) +contextual (disch := first | omega | exact qdb_ok (by kernel_rfl) | exact okb_ok (by kernel_rfl)) only [bw1,bw2,bw3,bw4,bw5,bw6,bw7,bc0,bc1,bc2,bc3,bc4,bc5,bc6,bc7,bb0,setPs,AV.owns,AV.datF,AV.frz,AV.cpy,ifV,isEqB,nilV,nilX,AV.isNilS,AV.isNoRows,wk,dclo,datOf,binIs,addF,AV.isPtr,idxV,AV.isSl,AV.isSlice,AV.rows,ps,pv,extV,extS,AV.outs,AV.outF,packD,AV.dl,fieldV,fieldS,AV.cells?,AV.upr,AV.menc,AV.one,D.one,Value.oneCell',tagOf,AV.isApp,strV,strS,bolV,bolS,slcV,AV.isSlD,asrtS,AV.dcells,D.cells?,stcV,stcS,leafOk,eqDs,eqD,packA,D.val?,↓reduceIte,reduceCtorEq,Nat.reduceAdd,Nat.reduceSub,Nat.reduceMul,List.reduceReplicate,Nat.reduceLeDiff,Nat.reduceLT,Nat.reduceBEq,Nat.reduceEqDiff,Int.reduceNeg,Int.reduceEq,Int.reduceLE,Int.reduceLT,tfb,ctz21,O21_13,x21_47,eq_self, hlt', hrw, d1, d2, d3, d4, hWf, hi0]
    by_cases z : i = 0
    · have hz : ¬ (0 : Int) < (i : Int) := by omega
      have ho := hgo (hrAt_ok d1 d2 d3 d4 (.inl z))
      simp (maxSteps := 4000000) +contextual (disch := first | omega | exact qdb_ok (by kernel_rfl) | exact okb_ok (by kernel_rfl)) only [bw1,bw2,bw3,bw4,bw5,bw6,bw7,bc0,bc1,bc2,bc3,bc4,bc5,bc6,bc7,bb0,setPs,AV.owns,AV.datF,AV.frz,AV.cpy,ifV,isEqB,nilV,nilX,AV.isNilS,AV.isNoRows,wk,dclo,datOf,binIs,addF,AV.isPtr,idxV,AV.isSl,AV.isSlice,AV.rows,ps,pv,extV,extS,AV.outs,AV.outF,packD,AV.dl,fieldV,fieldS,AV.cells?,AV.upr,AV.menc,AV.one,D.one,Value.oneCell',tagOf,AV.isApp,strV,strS,bolV,bolS,slcV,AV.isSlD,asrtS,AV.dcells,D.cells?,stcV,stcS,leafOk,eqDs,eqD,packA,D.val?,↓reduceIte,reduceCtorEq,Nat.reduceAdd,Nat.reduceSub,Nat.reduceMul,List.reduceReplicate,Nat.reduceLeDiff,Nat.reduceLT,Nat.reduceBEq,Nat.reduceEqDiff,Int.reduceNeg,Int.reduceEq,Int.reduceLE,Int.reduceLT,tfb,ctz21,O21_13,x21_47,eq_self, hlt', hrw, d1, d2, d3, d4, hz, hi0]
      exact ⟨i + 1, ⟨⟨by omega, ho⟩, by omega⟩, rfl⟩
    have hz : (0 : Int) < (i : Int) := by omega
    have hrw2 : (t.hours.map Hr.c).getD (i - 1) [] = Hr.c (t.hours.getD (i - 1) default) := Go.E.row_at (by omega)
    have y1 : ((i : Int) - 1).toNat = i - 1 := by omega
    have y2 : (0 : Int) ≤ (i : Int) - 1 := by omega
    have y3 : (i : Int) - 1 < t.hours.length := by omega
    by_cases d5 : (t.hours.getD i default).day < (t.hours.getD (i - 1) default).day
    · have hWf := hno (hrAt_or (by omega) (orNo_1 d5))
      simp (maxSteps := 4000000) +contextual (disch := first | omega | exact qdb_ok (by kernel_rfl) | exact okb_ok (by kernel_rfl)) only [bw1,bw2,bw3,bw4,bw5,bw6,bw7,bc0,bc1,bc2,bc3,bc4,bc5,bc6,bc7,bb0,setPs,AV.owns,AV.datF,AV.frz,AV.cpy,ifV,isEqB,nilV,nilX,AV.isNilS,AV.isNoRows,wk,dclo,datOf,binIs,addF,AV.isPtr,idxV,AV.isSl,AV.isSlice,AV.rows,ps,pv,extV,extS,AV.outs,AV.outF,packD,AV.dl,fieldV,fieldS,AV.cells?,AV.upr,AV.menc,AV.one,D.one,Value.oneCell',tagOf,AV.isApp,strV,strS,bolV,bolS,slcV,AV.isSlD,asrtS,AV.dcells,D.cells?,stcV,stcS,leafOk,eqDs,eqD,packA,D.val?,↓reduceIte,reduceCtorEq,Nat.reduceAdd,Nat.reduceSub,Nat.reduceMul,List.reduceReplicate,Nat.reduceLeDiff,Nat.reduceLT,Nat.reduceBEq,Nat.reduceEqDiff,Int.reduceNeg,Int.reduceEq,Int.reduceLE,Int.reduceLT,tfb,ctz21,O21_13,x21_47,eq_self, hlt', hrw, d1, d2, d3, d4, d5, hz, hrw2, y1, y2, y3, hWf, hi0]
    by_cases d6 : (t.hours.getD i default).day = (t.hours.getD (i - 1) default).day
    · have d6b : ((t.hours.getD i default).day == (t.hours.getD (i - 1) default).day) = true := by simpa using d6
      by_cases d7 : (t.hours.getD i default).b < (t.hours.getD (i - 1) default).e
      · have hWf := hno (hrAt_or (by omega) (orNo_2 d6 d7))
        simp (maxSteps := 4000000) +contextual (disch := first | omega | exact qdb_ok (by kernel_rfl) | exact okb_ok (by kernel_rfl)) only [bw1,bw2,bw3,bw4,bw5,bw6,bw7,bc0,bc1,bc2,bc3,bc4,bc5,bc6,bc7,bb0,setPs,AV.owns,AV.datF,AV.frz,AV.cpy,ifV,isEqB,nilV,nilX,AV.isNilS,AV.isNoRows,wk,dclo,datOf,binIs,addF,AV.isPtr,idxV,AV.isSl,AV.isSlice,AV.rows,ps,pv,extV,extS,AV.outs,AV.outF,packD,AV.dl,fieldV,fieldS,AV.cells?,AV.upr,AV.menc,AV.one,D.one,Value.oneCell',tagOf,AV.isApp,strV,strS,bolV,bolS,slcV,AV.isSlD,asrtS,AV.dcells,D.cells?,stcV,stcS,leafOk,eqDs,eqD,packA,D.val?,↓reduceIte,reduceCtorEq,Nat.reduceAdd,Nat.reduceSub,Nat.reduceMul,List.reduceReplicate,Nat.reduceLeDiff,Nat.reduceLT,Nat.reduceBEq,Nat.reduceEqDiff,Int.reduceNeg,Int.reduceEq,Int.reduceLE,Int.reduceLT,tfb,ctz21,O21_13,x21_47,eq_self, hlt', hrw, d1, d2, d3, d4, d5, d6b, d7, hz, hrw2, y1, y2, y3, hWf, hi0]
      · have ho := hgo (hrAt_ok d1 d2 d3 d4 (.inr (orNo_4 d5 d7)))
        simp (maxSteps := 4000000) +contextual (disch := first | omega | exact qdb_ok (by kernel_rfl) | exact okb_ok (by kernel_rfl)) only [bw1,bw2,bw3,bw4,bw5,bw6,bw7,bc0,bc1,bc2,bc3,bc4,bc5,bc6,bc7,bb0,setPs,AV.owns,AV.datF,AV.frz,AV.cpy,ifV,isEqB,nilV,nilX,AV.isNilS,AV.isNoRows,wk,dclo,datOf,binIs,addF,AV.isPtr,idxV,AV.isSl,AV.isSlice,AV.rows,ps,pv,extV,extS,AV.outs,AV.outF,packD,AV.dl,fieldV,fieldS,AV.cells?,AV.upr,AV.menc,AV.one,D.one,Value.oneCell',tagOf,AV.isApp,strV,strS,bolV,bolS,slcV,AV.isSlD,asrtS,AV.dcells,D.cells?,stcV,stcS,leafOk,eqDs,eqD,packA,D.val?,↓reduceIte,reduceCtorEq,Nat.reduceAdd,Nat.reduceSub,Nat.reduceMul,List.reduceReplicate,Nat.reduceLeDiff,Nat.reduceLT,Nat.reduceBEq,Nat.reduceEqDiff,Int.reduceNeg,Int.reduceEq,Int.reduceLE,Int.reduceLT,tfb,ctz21,O21_13,x21_47,eq_self, hlt', hrw, d1, d2, d3, d4, d5, d6b, d7, hz, hrw2, y1, y2, y3, hi0]
        exact ⟨i + 1, ⟨⟨by omega, ho⟩, by omega⟩, rfl⟩
    · have d6b : ((t.hours.getD i default).day == (t.hours.getD (i - 1) default).day) = false := by simpa using d6
      have ho := hgo (hrAt_ok d1 d2 d3 d4 (.inr (orNo_3 d5 d6)))
      simp (maxSteps := 4000000) +contextual (disch := first | omega | exact qdb_ok (by kernel_rfl) | exact okb_ok (by kernel_rfl)) only [bw1,bw2,bw3,bw4,bw5,bw6,bw7,bc0,bc1,bc2,bc3,bc4,bc5,bc6,bc7,bb0,setPs,AV.owns,AV.datF,AV.frz,AV.cpy,ifV,isEqB,nilV,nilX,AV.isNilS,AV.isNoRows,wk,dclo,datOf,binIs,addF,AV.isPtr,idxV,AV.isSl,AV.isSlice,AV.rows,ps,pv,extV,extS,AV.outs,AV.outF,packD,AV.dl,fieldV,fieldS,AV.cells?,AV.upr,AV.menc,AV.one,D.one,Value.oneCell',tagOf,AV.isApp,strV,strS,bolV,bolS,slcV,AV.isSlD,asrtS,AV.dcells,D.cells?,stcV,stcS,leafOk,eqDs,eqD,packA,D.val?,↓reduceIte,reduceCtorEq,Nat.reduceAdd,Nat.reduceSub,Nat.reduceMul,List.reduceReplicate,Nat.reduceLeDiff,Nat.reduceLT,Nat.reduceBEq,Nat.reduceEqDiff,Int.reduceNeg,Int.reduceEq,Int.reduceLE,Int.reduceLT,tfb,ctz21,O21_13,x21_47,eq_self, hlt', hrw, d1, d2, d3, d4, d5, d6b, hz, hrw2, y1, y2, y3, hi0]
      exact ⟨i + 1, ⟨⟨by omega, ho⟩, by omega⟩, rfl⟩
  obtain rfl : i = t.hours.length := by omega
  by_cases e1 : inB t.res 0 120 = true
  case neg =>
    have hWf := hW.trans (tt_big fun h => e1 h.2.2)
    simp (maxSteps := 4000000) +contextual (disch := first | omega | exact qdb_ok (by kernel_rfl) | exact okb_ok (by kernel_rfl)) only [bw1,bw2,bw3,bw4,bw5,bw6,bw7,bc0,bc1,bc2,bc3,bc4,bc5,bc6,bc7,bb0,setPs,AV.owns,AV.datF,AV.frz,AV.cpy,ifV,isEqB,nilV,nilX,AV.isNilS,AV.isNoRows,wk,dclo,datOf,binIs,addF,AV.isPtr,idxV,AV.isSl,AV.isSlice,AV.rows,ps,pv,extV,extS,AV.outs,AV.outF,packD,AV.dl,fieldV,fieldS,AV.cells?,AV.upr,AV.menc,AV.one,D.one,Value.oneCell',tagOf,AV.isApp,strV,strS,bolV,bolS,slcV,AV.isSlD,asrtS,AV.dcells,D.cells?,stcV,stcS,leafOk,eqDs,eqD,packA,D.val?,↓reduceIte,reduceCtorEq,Nat.reduceAdd,Nat.reduceSub,Nat.reduceMul,List.reduceReplicate,Nat.reduceLeDiff,Nat.reduceLT,Nat.reduceBEq,Nat.reduceEqDiff,Int.reduceNeg,Int.reduceEq,Int.reduceLE,Int.reduceLT,tfb,ctz21,O21_13,x21_47,eq_self, Int.lt_irrefl, e1, hWf]
  by_cases e2 : (t.groups.length : Int) ≤ 5
  case neg =>
    have hWf := hW.trans (tt_big fun h => e2 h.1)
    simp (maxSteps := 4000000) +contextual (disch := first | omega | exact qdb_ok (by kernel_rfl) | exact okb_ok (by kernel_rfl)) only [bw1,bw2,bw3,bw4,bw5,bw6,bw7,bc0,bc1,bc2,bc3,bc4,bc5,bc6,bc7,bb0,setPs,AV.owns,AV.datF,AV.frz,AV.cpy,ifV,isEqB,nilV,nilX,AV.isNilS,AV.isNoRows,wk,dclo,datOf,binIs,addF,AV.isPtr,idxV,AV.isSl,AV.isSlice,AV.rows,ps,pv,extV,extS,AV.outs,AV.outF,packD,AV.dl,fieldV,fieldS,AV.cells?,AV.upr,AV.menc,AV.one,D.one,Value.oneCell',tagOf,AV.isApp,strV,strS,bolV,bolS,slcV,AV.isSlD,asrtS,AV.dcells,D.cells?,stcV,stcS,leafOk,eqDs,eqD,packA,D.val?,↓reduceIte,reduceCtorEq,Nat.reduceAdd,Nat.reduceSub,Nat.reduceMul,List.reduceReplicate,Nat.reduceLeDiff,Nat.reduceLT,Nat.reduceBEq,Nat.reduceEqDiff,Int.reduceNeg,Int.reduceEq,Int.reduceLE,Int.reduceLT,tfb,ctz21,O21_13,x21_47,eq_self, Int.lt_irrefl, e1, e2, hWf]
  by_cases e3 : (t.hours.length : Int) ≤ 12
  case neg =>
    have hWf := hW.trans (tt_big fun h => e3 h.2.1)
    simp (maxSteps := 4000000) +contextual (disch := first | omega | exact qdb_ok (by kernel_rfl) | exact okb_ok (by kernel_rfl)) only [bw1,bw2,bw3,bw4,bw5,bw6,bw7,bc0,bc1,bc2,bc3,bc4,bc5,bc6,bc7,bb0,setPs,AV.owns,AV.datF,AV.frz,AV.cpy,ifV,isEqB,nilV,nilX,AV.isNilS,AV.isNoRows,wk,dclo,datOf,binIs,addF,AV.isPtr,idxV,AV.isSl,AV.isSlice,AV.rows,ps,pv,extV,extS,AV.outs,AV.outF,packD,AV.dl,fieldV,fieldS,AV.cells?,AV.upr,AV.menc,AV.one,D.one,Value.oneCell',tagOf,AV.isApp,strV,strS,bolV,bolS,slcV,AV.isSlD,asrtS,AV.dcells,D.cells?,stcV,stcS,leafOk,eqDs,eqD,packA,D.val?,↓reduceIte,reduceCtorEq,Nat.reduceAdd,Nat.reduceSub,Nat.reduceMul,List.reduceReplicate,Nat.reduceLeDiff,Nat.reduceLT,Nat.reduceBEq,Nat.reduceEqDiff,Int.reduceNeg,Int.reduceEq,Int.reduceLE,Int.reduceLT,tfb,ctz21,O21_13,x21_47,eq_self, Int.lt_irrefl, e1, e2, e3, hWf]
  have hWt := hW.trans (tt_end ⟨e2, e3, e1⟩ (all_get.2 hkq) hq)
  simp (maxSteps := 4000000) +contextual (disch := first | omega | exact qdb_ok (by kernel_rfl) | exact okb_ok (by kernel_rfl)) only [bw1,bw2,bw3,bw4,bw5,bw6,bw7,bc0,bc1,bc2,bc3,bc4,bc5,bc6,bc7,bb0,setPs,AV.owns,AV.datF,AV.frz,AV.cpy,ifV,isEqB,nilV,nilX,AV.isNilS,AV.isNoRows,wk,dclo,datOf,binIs,addF,AV.isPtr,idxV,AV.isSl,AV.isSlice,AV.rows,ps,pv,extV,extS,AV.outs,AV.outF,packD,AV.dl,fieldV,fieldS,AV.cells?,AV.upr,AV.menc,AV.one,D.one,Value.oneCell',tagOf,AV.isApp,strV,strS,bolV,bolS,slcV,AV.isSlD,asrtS,AV.dcells,D.cells?,stcV,stcS,leafOk,eqDs,eqD,packA,D.val?,↓reduceIte,reduceCtorEq,Nat.reduceAdd,Nat.reduceSub,Nat.reduceMul,List.reduceReplicate,Nat.reduceLeDiff,Nat.reduceLT,Nat.reduceBEq,Nat.reduceEqDiff,Int.reduceNeg,Int.reduceEq,Int.reduceLE,Int.reduceLT,tfb,ctz21,O21_13,x21_47,eq_self, Int.lt_irrefl, e1, e2, e3, hWt]
def ent21 (args : List AV) (K : AV → List AV → Sto → Prop) (e : List AV) (s : Sto) : Prop := ent (α := (Tt)) (fun aa => [.agg aa.c]) (fun aa => aa.hours.length ≤ 1000 ∧ aa.groups.length ≤ 1000) (fun aa => .b (ttOk aa)) args K e s
theorem ent21_ok {args : List AV} {K : AV → List AV → Sto → Prop} {Q : Kt} {e : List AV} {s : Sto} (h : ent21 args K e s) : pcall Tryd.prog 21 args K Q e s := ent_ok (fun aa h => pf21 aa h) h
theorem eq21 {t : Tt} {KK : AV → List AV → Sto → Prop} {ee : List AV} {ss : Sto} : ent21 [.d (.agg t.c)] KK ee ss = ((t.hours.length ≤ 1000 ∧ t.groups.length ≤ 1000) ∧ KK (.d (.b (ttOk t))) ee ss) := by
  unfold ent21; rw [ent_iff t (by intro b h; simpa [Prod.ext_iff, and_assoc, Int.ofNat_inj, ints_inj, hrs_inj, grs_inj, hr_inj, gr_inj, tt_inj] using h) rfl]; simp
end Go.Proofs.YtofbbkacihnjdaaDoor
