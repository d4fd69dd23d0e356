/- A part of the proof that the last text ends: what functions of the program do, told by plain data. -/
import Derived.Test.YtapglfcaghlpfaaEb
import Derived.Test.YtapglfcaghlpfaaEX
import Derived.Test.YtapglfcaghlpfaaEc
import Derived.Test.YtapglfcaghlpfaaTFS
set_option linter.unusedVariables false
set_option linter.unusedSimpArgs false
namespace Go.Proofs.Ytapglfcaghlpfaa
open Go Go.E
set_option maxRecDepth 100000
set_option maxHeartbeats 8000000
theorem hmix : Try.prog.follows .mixedOrders = true := by kernel_rfl
abbrev ic (n : Int) : List D := [.i n]
structure Cal where
  place : Int
  elem : Int
  under : Int
  late : Bool
  fall : Bool
  marks : List Int
  deriving Inhabited, DecidableEq
abbrev Cal.c (x : Cal) : List D := [.i x.place, .i x.elem, .i x.under, .b x.late, .b x.fall, .sl 1 (x.marks.map ic)]
abbrev pc (l : List Int) : List D := [.sl 1 (l.map ic)]
structure Ska where
  calls : List Cal
  parts : List (List Int)
  over : Int
  deriving Inhabited, DecidableEq
abbrev Ska.c (s : Ska) : List D := [.sl 6 (s.calls.map Cal.c), .sl 1 (s.parts.map pc), .i s.over]
structure Rul where
  bases : List Int
  factor : Int
  most : Int
  deriving Inhabited, DecidableEq
abbrev Rul.d (r : Rul) : D := .agg [.sl 1 (r.bases.map ic), .i r.factor, .i r.most]
structure Sco where
  elements : Int
  parts : Int
  off : Int
  total : Int
  deriving Inhabited, DecidableEq
abbrev Sco.c (s : Sco) : List D := [.i s.elements, .i s.parts, .i s.off, .i s.total]
theorem ints_inj {a b : List Int} : (a.map ic = b.map ic) = (a = b) := inj_map fun _ _ h => by simpa using h
theorem ic_inj {a b : List Int} (h : a.map ic = b.map ic) : a = b := by rw [ints_inj] at h; exact h
theorem Cal.inj {a b : Cal} (h : a.c = b.c) : a = b := by
  cases a; cases b
  simp only [Cal.c, List.cons.injEq, D.v.injEq, Value.int.injEq, Value.bool.injEq, D.sl.injEq, true_and, and_true] at h
  obtain ⟨h1, h2, h3, h4, h5, h6⟩ := h
  simp [h1, h2, h3, h4, h5, ic_inj h6]
theorem pc_inj {a b : List Int} (h : pc a = pc b) : a = b := by
  simp only [pc, List.cons.injEq, D.sl.injEq, true_and, and_true] at h
  exact ic_inj h
theorem cals_inj {a b : List Cal} : (a.map Cal.c = b.map Cal.c) = (a = b) := inj_map fun _ _ h => Cal.inj h
theorem pcs_inj {a b : List (List Int)} : (a.map pc = b.map pc) = (a = b) := inj_map fun _ _ h => pc_inj h
theorem ska_inj {a b : Ska} : (a.calls = b.calls ∧ a.parts = b.parts ∧ a.over = b.over) = (a = b) := by cases a; cases b; simp
theorem rul_inj {a b : Rul} : (a.bases = b.bases ∧ a.factor = b.factor ∧ a.most = b.most) = (a = b) := by cases a; cases b; simp
theorem sco_inj {a b : Sco} : (a.elements = b.elements ∧ a.parts = b.parts ∧ a.off = b.off ∧ a.total = b.total) = (a = b) := by cases a; cases b; simp
theorem cal_inj {a b : Cal} : (a.place = b.place ∧ a.elem = b.elem ∧ a.under = b.under ∧ a.late = b.late ∧ a.fall = b.fall ∧ a.marks = b.marks) = (a = b) := by cases a; cases b; simp
theorem Ska.inj {a b : Ska} (h : a.c = b.c) : a = b := by
  simp only [Ska.c, List.cons.injEq, D.v.injEq, Value.int.injEq, D.sl.injEq, true_and, and_true] at h
  obtain ⟨h1, h2, h3⟩ := h
  rw [cals_inj] at h1
  rw [pcs_inj] at h2
  rw [← ska_inj]; exact ⟨h1, h2, h3⟩
theorem skas_inj {a b : List Ska} : (a.map Ska.c = b.map Ska.c) = (a = b) := inj_map fun _ _ h => Ska.inj h
theorem Sco.inj {a b : Sco} (h : a.c = b.c) : a = b := by cases a; cases b; simp at h; simp [h]
theorem scos_inj {a b : List Sco} : (a.map Sco.c = b.map Sco.c) = (a = b) := inj_map fun _ _ h => Sco.inj h
theorem at_lt {α : Type} [Inhabited α] {l : List α} {i : Nat} (h : i < l.length) : l.getD i default = l[i] := by simp [List.getD, List.getElem?_eq_getElem h]
def inB (n lo hi : Int) : Bool := decide (lo ≤ n) && decide (n ≤ hi)
theorem inB_iff {n lo hi : Int} : inB n lo hi = true ↔ lo ≤ n ∧ n ≤ hi := by simp [inB]
theorem inB_no {n lo hi : Int} : inB n lo hi = false ↔ ¬ (lo ≤ n ∧ n ≤ hi) := by rw [← inB_iff]; simp
theorem all_yes {α : Type} [Inhabited α] {p : α → Bool} {l : List α} (h : ∀ j, j < l.length → p (l.getD j default) = true) : l.all p = true := by
  rw [List.all_eq_true]
  intro x hx
  obtain ⟨j, hj, rfl⟩ := List.getElem_of_mem hx
  have := h j hj
  rwa [at_lt hj] at this
theorem all_no {α : Type} [Inhabited α] {p : α → Bool} {l : List α} {j : Nat} (hj : j < l.length) (h : p (l.getD j default) = false) : l.all p = false := by
  rw [List.all_eq_false]
  exact ⟨_, List.getElem_mem hj, by rw [← at_lt hj, h]; decide⟩
def allB (l : List Int) (lo hi : Int) : Bool := l.all fun x => inB x lo hi
def marksOk (l : List Int) (n lo hi : Int) : Bool := decide ((l.length : Int) = n) && allB l lo hi
def Rul.ok (r : Rul) : Bool := inB r.bases.length 1 64 && allB r.bases 0 2000 && inB r.factor 0 1000 && inB r.most 1 16
def O44 : Nat → Sch := fun id => .done
theorem ho44 : Try.f44.body.map (okO O44) = some true := by kernel_rfl
def Cf44 : Nat → List AV → (AV → List AV → Sto → Prop) → Kt → List AV → Sto → Prop := fun f args K Q e s => match f with
  | _ => False
def Ct44 : CT := { f := Cf44, y := noYld, z := fun d => false }
theorem ctz44 {d : Nat} : CT.z Ct44 d = (false) := id rfl
theorem Ct44_ok : Ct44.ok Try.prog := ok_of_f (fun f args K Q e s h => by
  have h : Cf44 f args K Q e s := h
  unfold Cf44 at h; split at h
  · exact h.elim) (fun _ _ _ _ _ _ _ _ _ h => h)
theorem c44 : callable Try.prog 44 = true := by kernel_rfl
theorem pf44 (n lo hi : Int) : PF Try.prog 44 [.i n, .i lo, .i hi] (fun zz => zz = .ret (.b (inB n lo hi))) := by
  refine PF_nil (PF_start (O := O44) Ct44_ok hmix ho44 Try.func44 c44 rfl Try.ntmps44 Try.results44 ?_)
  simp (maxSteps := 4000000) +contextual (disch := first | omega | exact qdb_ok (by kernel_rfl) | exact okb_ok (by kernel_rfl)) only [bw1,bw2,bw3,bw4,bw5,bw6,bw7,bc0,bc1,bc2,bc3,bc4,bc5,bc6,bc7,setPs,AV.owns,AV.datF,AV.frz,AV.cpy,ifV,isEqB,nilV,nilX,AV.isNilS,AV.isNoRows,wk,dclo,datOf,binIs,addF,AV.isPtr,idxV,AV.isSl,AV.isSlice,AV.rows,ps,pv,extV,extS,AV.outs,AV.outF,packD,AV.dl,fieldV,fieldS,AV.cells?,AV.upr,AV.menc,AV.one,D.one,Value.oneCell',tagOf,AV.isApp,strV,strS,bolV,bolS,slcV,AV.isSlD,asrtS,AV.dcells,D.cells?,stcV,stcS,leafOk,eqDs,eqD,packA,D.val?,↓reduceIte,reduceCtorEq,Nat.reduceAdd,Nat.reduceSub,Nat.reduceMul,List.reduceReplicate,Nat.reduceLeDiff,Nat.reduceLT,Nat.reduceBEq,Nat.reduceEqDiff,Int.reduceNeg,Int.reduceEq,Int.reduceLE,Int.reduceLT,tfb,ctz44]
  unfold inB
  try simp_all
def ent44 (args : List AV) (K : AV → List AV → Sto → Prop) (e : List AV) (s : Sto) : Prop := ent (α := (Int) × (Int) × (Int)) (fun aa => [.i aa.1, .i aa.2.1, .i aa.2.2]) (fun aa => True) (fun aa => .b (inB aa.1 aa.2.1 aa.2.2)) args K e s
theorem ent44_ok {args : List AV} {K : AV → List AV → Sto → Prop} {Q : Kt} {e : List AV} {s : Sto} (h : ent44 args K e s) : pcall Try.prog 44 args K Q e s := ent_ok (fun aa h => pf44 aa.1 aa.2.1 aa.2.2) h
theorem eq44 {n : Int} {lo : Int} {hi : Int} {KK : AV → List AV → Sto → Prop} {ee : List AV} {ss : Sto} : ent44 [.d (.i n), .d (.i lo), .d (.i hi)] KK ee ss = (KK (.d (.b (inB n lo hi))) ee ss) := by
  unfold ent44; rw [ent_iff (n, lo, hi) (by intro b h; simpa [Prod.ext_iff, and_assoc, Int.ofNat_inj, ints_inj, cals_inj, pcs_inj, skas_inj, scos_inj, ska_inj, rul_inj, sco_inj, cal_inj] using h) rfl]; simp
def O51 : Nat → Sch := fun id => .done
theorem ho51 : Try.f51.body.map (okO O51) = some true := by kernel_rfl
def Cf51 : Nat → List AV → (AV → List AV → Sto → Prop) → Kt → List AV → Sto → Prop := fun f args K Q e s => match f with
  | _ => False
def Ct51 : CT := { f := Cf51, y := noYld, z := fun d => false }
theorem ctz51 {d : Nat} : CT.z Ct51 d = (false) := id rfl
theorem Ct51_ok : Ct51.ok Try.prog := ok_of_f (fun f args K Q e s h => by
  have h : Cf51 f args K Q e s := h
  unfold Cf51 at h; split at h
  · exact h.elim) (fun _ _ _ _ _ _ _ _ _ h => h)
theorem c51 : callable Try.prog 51 = true := by kernel_rfl
theorem pf51 (n lo hi : Int) : PF Try.prog 51 [.i n, .i lo, .i hi] (fun zz => zz = .ret (.b (inB n lo hi))) := by
  refine PF_nil (PF_start (O := O51) Ct51_ok hmix ho51 Try.func51 c51 rfl Try.ntmps51 Try.results51 ?_)
  by_cases h : lo ≤ n
  · simp (maxSteps := 4000000) +contextual (disch := first | omega | exact qdb_ok (by kernel_rfl) | exact okb_ok (by kernel_rfl)) only [bw1,bw2,bw3,bw4,bw5,bw6,bw7,bc0,bc1,bc2,bc3,bc4,bc5,bc6,bc7,setPs,AV.owns,AV.datF,AV.frz,AV.cpy,ifV,isEqB,nilV,nilX,AV.isNilS,AV.isNoRows,wk,dclo,datOf,binIs,addF,AV.isPtr,idxV,AV.isSl,AV.isSlice,AV.rows,ps,pv,extV,extS,AV.outs,AV.outF,packD,AV.dl,fieldV,fieldS,AV.cells?,AV.upr,AV.menc,AV.one,D.one,Value.oneCell',tagOf,AV.isApp,strV,strS,bolV,bolS,slcV,AV.isSlD,asrtS,AV.dcells,D.cells?,stcV,stcS,leafOk,eqDs,eqD,packA,D.val?,↓reduceIte,reduceCtorEq,Nat.reduceAdd,Nat.reduceSub,Nat.reduceMul,List.reduceReplicate,Nat.reduceLeDiff,Nat.reduceLT,Nat.reduceBEq,Nat.reduceEqDiff,Int.reduceNeg,Int.reduceEq,Int.reduceLE,Int.reduceLT,tfb,ctz51,h, inB]
  · simp (maxSteps := 4000000) +contextual (disch := first | omega | exact qdb_ok (by kernel_rfl) | exact okb_ok (by kernel_rfl)) only [bw1,bw2,bw3,bw4,bw5,bw6,bw7,bc0,bc1,bc2,bc3,bc4,bc5,bc6,bc7,setPs,AV.owns,AV.datF,AV.frz,AV.cpy,ifV,isEqB,nilV,nilX,AV.isNilS,AV.isNoRows,wk,dclo,datOf,binIs,addF,AV.isPtr,idxV,AV.isSl,AV.isSlice,AV.rows,ps,pv,extV,extS,AV.outs,AV.outF,packD,AV.dl,fieldV,fieldS,AV.cells?,AV.upr,AV.menc,AV.one,D.one,Value.oneCell',tagOf,AV.isApp,strV,strS,bolV,bolS,slcV,AV.isSlD,asrtS,AV.dcells,D.cells?,stcV,stcS,leafOk,eqDs,eqD,packA,D.val?,↓reduceIte,reduceCtorEq,Nat.reduceAdd,Nat.reduceSub,Nat.reduceMul,List.reduceReplicate,Nat.reduceLeDiff,Nat.reduceLT,Nat.reduceBEq,Nat.reduceEqDiff,Int.reduceNeg,Int.reduceEq,Int.reduceLE,Int.reduceLT,tfb,ctz51,h, inB, Bool.false_and]
def ent51 (args : List AV) (K : AV → List AV → Sto → Prop) (e : List AV) (s : Sto) : Prop := ent (α := (Int) × (Int) × (Int)) (fun aa => [.i aa.1, .i aa.2.1, .i aa.2.2]) (fun aa => True) (fun aa => .b (inB aa.1 aa.2.1 aa.2.2)) args K e s
theorem ent51_ok {args : List AV} {K : AV → List AV → Sto → Prop} {Q : Kt} {e : List AV} {s : Sto} (h : ent51 args K e s) : pcall Try.prog 51 args K Q e s := ent_ok (fun aa h => pf51 aa.1 aa.2.1 aa.2.2) h
theorem eq51 {n : Int} {lo : Int} {hi : Int} {KK : AV → List AV → Sto → Prop} {ee : List AV} {ss : Sto} : ent51 [.d (.i n), .d (.i lo), .d (.i hi)] KK ee ss = (KK (.d (.b (inB n lo hi))) ee ss) := by
  unfold ent51; rw [ent_iff (n, lo, hi) (by intro b h; simpa [Prod.ext_iff, and_assoc, Int.ofNat_inj, ints_inj, cals_inj, pcs_inj, skas_inj, scos_inj, ska_inj, rul_inj, sco_inj, cal_inj] using h) rfl]; simp
def O75 : Nat → Sch := fun id => .done
theorem ho75 : Try.f75.body.map (okO O75) = some true := by kernel_rfl
def Cf75 : Nat → List AV → (AV → List AV → Sto → Prop) → Kt → List AV → Sto → Prop := fun f args K Q e s => match f with
  | 44 => ent44 args K e s
  | _ => False
def Ct75 : CT := { f := Cf75, y := noYld, z := fun d => false }
theorem ctz75 {d : Nat} : CT.z Ct75 d = (false) := id rfl
theorem Ct75_ok : Ct75.ok Try.prog := ok_of_f (fun f args K Q e s h => by
  have h : Cf75 f args K Q e s := h
  unfold Cf75 at h; split at h
  · exact ent44_ok h
  · exact h.elim) (fun _ _ _ _ _ _ _ _ _ h => h)
theorem x75_44 {n : Int} {lo : Int} {hi : Int} {KK : AV → List AV → Sto → Prop} {QQ : Kt} {ii : At KK} {jj : At QQ} {ee : List AV} {ss : Sto} : xC Ct75 44 [.d (.i n), .d (.i lo), .d (.i hi)] KK QQ ii jj ee ss = (KK (.d (.b (inB n lo hi))) ee ss) := eq44
theorem c75 : callable Try.prog 75 = true := by kernel_rfl
theorem pf75 (n : Int) : PF Try.prog 75 [.i n] (fun zz => zz = .ret (.b (!inB n 0 2000))) := by
  refine PF_nil (PF_start (O := O75) Ct75_ok hmix ho75 Try.func75 c75 rfl Try.ntmps75 Try.results75 ?_)
  simp (maxSteps := 4000000) +contextual (disch := first | omega | exact qdb_ok (by kernel_rfl) | exact okb_ok (by kernel_rfl)) only [bw1,bw2,bw3,bw4,bw5,bw6,bw7,bc0,bc1,bc2,bc3,bc4,bc5,bc6,bc7,setPs,AV.owns,AV.datF,AV.frz,AV.cpy,ifV,isEqB,nilV,nilX,AV.isNilS,AV.isNoRows,wk,dclo,datOf,binIs,addF,AV.isPtr,idxV,AV.isSl,AV.isSlice,AV.rows,ps,pv,extV,extS,AV.outs,AV.outF,packD,AV.dl,fieldV,fieldS,AV.cells?,AV.upr,AV.menc,AV.one,D.one,Value.oneCell',tagOf,AV.isApp,strV,strS,bolV,bolS,slcV,AV.isSlD,asrtS,AV.dcells,D.cells?,stcV,stcS,leafOk,eqDs,eqD,packA,D.val?,↓reduceIte,reduceCtorEq,Nat.reduceAdd,Nat.reduceSub,Nat.reduceMul,List.reduceReplicate,Nat.reduceLeDiff,Nat.reduceLT,Nat.reduceBEq,Nat.reduceEqDiff,Int.reduceNeg,Int.reduceEq,Int.reduceLE,Int.reduceLT,tfb,ctz75,x75_44]
def ent75 (args : List AV) (K : AV → List AV → Sto → Prop) (e : List AV) (s : Sto) : Prop := ent (α := (Int)) (fun aa => [.i aa]) (fun aa => True) (fun aa => .b (!inB aa 0 2000)) args K e s
theorem ent75_ok {args : List AV} {K : AV → List AV → Sto → Prop} {Q : Kt} {e : List AV} {s : Sto} (h : ent75 args K e s) : pcall Try.prog 75 args K Q e s := ent_ok (fun aa h => pf75 aa) h
theorem eq75 {n : Int} {KK : AV → List AV → Sto → Prop} {ee : List AV} {ss : Sto} : ent75 [.d (.i n)] KK ee ss = (KK (.d (.b (!inB n 0 2000))) ee ss) := by
  unfold ent75; rw [ent_iff n (by intro b h; simpa [Prod.ext_iff, and_assoc, Int.ofNat_inj, ints_inj, cals_inj, pcs_inj, skas_inj, scos_inj, ska_inj, rul_inj, sco_inj, cal_inj] using h) rfl]; simp
def O101 : Nat → Sch := fun id => .done
theorem ho101 : Try.f101.body.map (okO O101) = some true := by kernel_rfl
def Cf101 : Nat → List AV → (AV → List AV → Sto → Prop) → Kt → List AV → Sto → Prop := fun f args K Q e s => match f with
  | 44 => ent44 args K e s
  | _ => False
def Ct101 : CT := { f := Cf101, y := noYld, z := fun d => false }
theorem ctz101 {d : Nat} : CT.z Ct101 d = (false) := id rfl
theorem Ct101_ok : Ct101.ok Try.prog := ok_of_f (fun f args K Q e s h => by
  have h : Cf101 f args K Q e s := h
  unfold Cf101 at h; split at h
  · exact ent44_ok h
  · exact h.elim) (fun _ _ _ _ _ _ _ _ _ h => h)
theorem x101_44 {n : Int} {lo : Int} {hi : Int} {KK : AV → List AV → Sto → Prop} {QQ : Kt} {ii : At KK} {jj : At QQ} {ee : List AV} {ss : Sto} : xC Ct101 44 [.d (.i n), .d (.i lo), .d (.i hi)] KK QQ ii jj ee ss = (KK (.d (.b (inB n lo hi))) ee ss) := eq44
theorem c101 : callable Try.prog 101 = true := by kernel_rfl
theorem pf101 (n lo hi : Int) : PF Try.prog 101 [.i n, .ptr [.i lo] 0, .ptr [.i hi] 0] (fun zz => zz = .ret (.b (!inB n lo hi))) := by
  refine PF_nil (PF_start (O := O101) Ct101_ok hmix ho101 Try.func101 c101 rfl Try.ntmps101 Try.results101 ?_)
  simp (maxSteps := 4000000) +contextual (disch := first | omega | exact qdb_ok (by kernel_rfl) | exact okb_ok (by kernel_rfl)) only [bw1,bw2,bw3,bw4,bw5,bw6,bw7,bc0,bc1,bc2,bc3,bc4,bc5,bc6,bc7,setPs,AV.owns,AV.datF,AV.frz,AV.cpy,ifV,isEqB,nilV,nilX,AV.isNilS,AV.isNoRows,wk,dclo,datOf,binIs,addF,AV.isPtr,idxV,AV.isSl,AV.isSlice,AV.rows,ps,pv,extV,extS,AV.outs,AV.outF,packD,AV.dl,fieldV,fieldS,AV.cells?,AV.upr,AV.menc,AV.one,D.one,Value.oneCell',tagOf,AV.isApp,strV,strS,bolV,bolS,slcV,AV.isSlD,asrtS,AV.dcells,D.cells?,stcV,stcS,leafOk,eqDs,eqD,packA,D.val?,↓reduceIte,reduceCtorEq,Nat.reduceAdd,Nat.reduceSub,Nat.reduceMul,List.reduceReplicate,Nat.reduceLeDiff,Nat.reduceLT,Nat.reduceBEq,Nat.reduceEqDiff,Int.reduceNeg,Int.reduceEq,Int.reduceLE,Int.reduceLT,tfb,ctz101,x101_44]
def ent101 (o : Option (List D)) (K : AV → List AV → Sto → Prop) (i : At K) (e : List AV) (s : Sto) : Prop := entS (α := (Int) × (Int) × (Int)) (fun aa => [.i aa.1, .ptr [.i aa.2.1] 0, .ptr [.i aa.2.2] 0]) (fun aa => True) (fun aa => .b (!inB aa.1 aa.2.1 aa.2.2)) o K i e s
theorem ent101_ok {args : List AV} {K : AV → List AV → Sto → Prop} {Q : Kt} {e : List AV} {s : Sto} (h : ent101 (AV.outs s args) K (mk _) e s) : pcall Try.prog 101 args K Q e s := entS_ok (fun aa h => pf101 aa.1 aa.2.1 aa.2.2) h
theorem eq101 {n : Int} {lo : Int} {hi : Int} {KK : AV → List AV → Sto → Prop} {ii : At KK} {ee : List AV} {ss : Sto} : ent101 (some [.i n, .ptr [.i lo] 0, .ptr [.i hi] 0]) KK ii ee ss = ((.b (!inB n lo hi) : D).flat = true ∧ KK (.d (.b (!inB n lo hi))) ee ss) := by
  unfold ent101; rw [entS_iff (n, lo, hi) (by intro b h; simpa [Prod.ext_iff, and_assoc, Int.ofNat_inj, ints_inj, cals_inj, pcs_inj, skas_inj, scos_inj, ska_inj, rul_inj, sco_inj, cal_inj] using h)] <;> simp
def O99 : Nat → Sch := fun id => .done
theorem ho99 : Try.f99.body.map (okO O99) = some true := by kernel_rfl
def Cf99 : Nat → List AV → (AV → List AV → Sto → Prop) → Kt → List AV → Sto → Prop := fun f args K Q e s => match f with
  | 75 => ent75 args K e s
  | 101 => ent101 (AV.outs s args) K (mk _) e s
  | _ => False
def Ct99 : CT := { f := Cf99, y := noYld, z := fun d => false }
theorem ctz99 {d : Nat} : CT.z Ct99 d = (false) := id rfl
theorem Ct99_ok : Ct99.ok Try.prog := ok_of_f (fun f args K Q e s h => by
  have h : Cf99 f args K Q e s := h
  unfold Cf99 at h; split at h
  · exact ent75_ok h
  · exact ent101_ok h
  · exact h.elim) (fun _ _ _ _ _ _ _ _ _ h => h)
theorem x99_75 {n : Int} {KK : AV → List AV → Sto → Prop} {QQ : Kt} {ii : At KK} {jj : At QQ} {ee : List AV} {ss : Sto} : xC Ct99 75 [.d (.i n)] KK QQ ii jj ee ss = (KK (.d (.b (!inB n 0 2000))) ee ss) := eq75
theorem x99_101 {args : List AV} {KK : AV → List AV → Sto → Prop} {QQ : Kt} {ii : At KK} {jj : At QQ} {ee : List AV} {ss : Sto} : xC Ct99 101 args KK QQ ii jj ee ss = ent101 (AV.outs ss args) KK (mk _) ee ss := id rfl
theorem c99 : callable Try.prog 99 = true := by kernel_rfl
def O76 : Nat → Sch := fun id => .done
theorem ho76 : Try.f76.body.map (okO O76) = some true := by kernel_rfl
def Cf76 : Nat → List AV → (AV → List AV → Sto → Prop) → Kt → List AV → Sto → Prop := fun f args K Q e s => match f with
  | 99 => inlE Try.prog Ct99 O99 99000 99 args K Q e s
  | _ => False
def Ct76 : CT := { f := Cf76, y := noYld, z := fun d => false }
theorem ctz76 {d : Nat} : CT.z Ct76 d = (false) := id rfl
theorem Ct76_ok : Ct76.ok Try.prog := ok_of_f (fun f args K Q e s h => by
  have h : Cf76 f args K Q e s := h
  unfold Cf76 at h; split at h
  · exact inlE_ok Ct99_ok hmix ho99 h
  · exact h.elim) (fun _ _ _ _ _ _ _ _ _ h => h)
theorem z76_99 : type_of% (@xinl Try.prog Ct76 Ct99 O99 99000 99 _ _ _ _ rfl c99 Try.func99 rfl Try.ntmps99 Try.results99) := @xinl Try.prog Ct76 Ct99 O99 99000 99 _ _ _ _ rfl c99 Try.func99 rfl Try.ntmps99 Try.results99
theorem c76 : callable Try.prog 76 = true := by kernel_rfl
def O80 : Nat → Sch := fun id => .done
theorem ho80 : Try.f80.body.map (okO O80) = some true := by kernel_rfl
def Cf80 : Nat → List AV → (AV → List AV → Sto → Prop) → Kt → List AV → Sto → Prop := fun f args K Q e s => match f with
  | 76 => inlE Try.prog Ct76 O76 76000 76 args K Q e s
  | _ => False
def Ct80 : CT := { f := Cf80, y := noYld, z := fun d => false }
theorem ctz80 {d : Nat} : CT.z Ct80 d = (false) := id rfl
theorem Ct80_ok : Ct80.ok Try.prog := ok_of_f (fun f args K Q e s h => by
  have h : Cf80 f args K Q e s := h
  unfold Cf80 at h; split at h
  · exact inlE_ok Ct76_ok hmix ho76 h
  · exact h.elim) (fun _ _ _ _ _ _ _ _ _ h => h)
theorem z80_76 : type_of% (@xinl Try.prog Ct80 Ct76 O76 76000 76 _ _ _ _ rfl c76 Try.func76 rfl Try.ntmps76 Try.results76) := @xinl Try.prog Ct80 Ct76 O76 76000 76 _ _ _ _ rfl c76 Try.func76 rfl Try.ntmps76 Try.results76
theorem c80 : callable Try.prog 80 = true := by kernel_rfl
theorem pf80 (l : List Int) (n lo hi : Int) (h : n ≤ 1000) : PF Try.prog 80 [.sl 1 (l.map ic), .i n, .i lo, .i hi] (fun zz => zz = .ret (.b (marksOk l n lo hi))) := by
  by_cases c : (l.length : Int) = n
  case neg =>
    have c' : ((l.length : Int) == n) = false := by simpa using c
    have hw : marksOk l n lo hi = false := by unfold marksOk; rw [decide_eq_false c]; rfl
    rw [hw]
    refine PF_nil (PF_start (O := O80) Ct80_ok hmix ho80 Try.func80 c80 rfl Try.ntmps80 Try.results80 ?_)
    simp (maxSteps := 4000000) +contextual (disch := first | omega | exact qdb_ok (by kernel_rfl) | exact okb_ok (by kernel_rfl)) only [bw1,bw2,bw3,bw4,bw5,bw6,bw7,bc0,bc1,bc2,bc3,bc4,bc5,bc6,bc7,setPs,AV.owns,AV.datF,AV.frz,AV.cpy,ifV,isEqB,nilV,nilX,AV.isNilS,AV.isNoRows,wk,dclo,datOf,binIs,addF,AV.isPtr,idxV,AV.isSl,AV.isSlice,AV.rows,ps,pv,extV,extS,AV.outs,AV.outF,packD,AV.dl,fieldV,fieldS,AV.cells?,AV.upr,AV.menc,AV.one,D.one,Value.oneCell',tagOf,AV.isApp,strV,strS,bolV,bolS,slcV,AV.isSlD,asrtS,AV.dcells,D.cells?,stcV,stcS,leafOk,eqDs,eqD,packA,D.val?,↓reduceIte,reduceCtorEq,Nat.reduceAdd,Nat.reduceSub,Nat.reduceMul,List.reduceReplicate,Nat.reduceLeDiff,Nat.reduceLT,Nat.reduceBEq,Nat.reduceEqDiff,Int.reduceNeg,Int.reduceEq,Int.reduceLE,Int.reduceLT,tfb,D.flat,D.flats,ctz80,z80_76,ctz76,z76_99,ctz99,x99_75,x99_101,eq101,c']
  have c' : ((l.length : Int) == n) = true := by simpa using c
  have hw : marksOk l n lo hi = allB l lo hi := by unfold marksOk; rw [decide_eq_true c]; rfl
  rw [hw]
  refine PF_nil (PF_start (O := O80) Ct80_ok hmix ho80 Try.func80 c80 rfl Try.ntmps80 Try.results80 ?_)
  simp (maxSteps := 4000000) +contextual (disch := first | omega | exact qdb_ok (by kernel_rfl) | exact okb_ok (by kernel_rfl)) only [bw1,bw2,bw3,bw4,bw5,bw6,bw7,bc0,bc1,bc2,bc3,bc4,bc5,bc6,bc7,setPs,AV.owns,AV.datF,AV.frz,AV.cpy,ifV,isEqB,nilV,nilX,AV.isNilS,AV.isNoRows,wk,dclo,datOf,binIs,addF,AV.isPtr,idxV,AV.isSl,AV.isSlice,AV.rows,ps,pv,extV,extS,AV.outs,AV.outF,packD,AV.dl,fieldV,fieldS,AV.cells?,AV.upr,AV.menc,AV.one,D.one,Value.oneCell',tagOf,AV.isApp,strV,strS,bolV,bolS,slcV,AV.isSlD,asrtS,AV.dcells,D.cells?,stcV,stcS,leafOk,eqDs,eqD,packA,D.val?,↓reduceIte,reduceCtorEq,Nat.reduceAdd,Nat.reduceSub,Nat.reduceMul,List.reduceReplicate,Nat.reduceLeDiff,Nat.reduceLT,Nat.reduceBEq,Nat.reduceEqDiff,Int.reduceNeg,Int.reduceEq,Int.reduceLE,Int.reduceLT,tfb,D.flat,D.flats,ctz80,z80_76,ctz76,z76_99,ctz99,x99_75,x99_101,eq101,c']
  refine loop_s (O := O99) (tb := 99000) Ct99_ok hmix (by kernel_rfl) (σ := Nat) (fun i => [(8, .i i)]) (fun i => i ≤ l.length ∧ ∀ j, j < i → inB (l.getD j default) lo hi = true) (fun i => l.length - i) (fun i => i + 1) 0 ⟨by omega, fun j h => by omega⟩ ?_ ?_
  · simp (maxSteps := 4000000) +contextual (disch := first | omega | exact qdb_ok (by kernel_rfl) | exact okb_ok (by kernel_rfl)) only [bw1,bw2,bw3,bw4,bw5,bw6,bw7,bc0,bc1,bc2,bc3,bc4,bc5,bc6,bc7,setPs,AV.owns,AV.datF,AV.frz,AV.cpy,ifV,isEqB,nilV,nilX,AV.isNilS,AV.isNoRows,wk,dclo,datOf,binIs,addF,AV.isPtr,idxV,AV.isSl,AV.isSlice,AV.rows,ps,pv,extV,extS,AV.outs,AV.outF,packD,AV.dl,fieldV,fieldS,AV.cells?,AV.upr,AV.menc,AV.one,D.one,Value.oneCell',tagOf,AV.isApp,strV,strS,bolV,bolS,slcV,AV.isSlD,asrtS,AV.dcells,D.cells?,stcV,stcS,leafOk,eqDs,eqD,packA,D.val?,↓reduceIte,reduceCtorEq,Nat.reduceAdd,Nat.reduceSub,Nat.reduceMul,List.reduceReplicate,Nat.reduceLeDiff,Nat.reduceLT,Nat.reduceBEq,Nat.reduceEqDiff,Int.reduceNeg,Int.reduceEq,Int.reduceLE,Int.reduceLT,tfb,D.flat,D.flats,ctz80,z80_76,ctz76,z76_99,ctz99,x99_75,x99_101,eq101]
  rintro i ⟨hi0, hf⟩
  by_cases hlt : i < l.length
  · have hlt' : (i : Int) < l.length := by omega
    by_cases d : inB (l.getD i default) lo hi = true
    · simp (maxSteps := 4000000) +contextual (disch := first | omega | exact qdb_ok (by kernel_rfl) | exact okb_ok (by kernel_rfl)) only [bw1,bw2,bw3,bw4,bw5,bw6,bw7,bc0,bc1,bc2,bc3,bc4,bc5,bc6,bc7,setPs,AV.owns,AV.datF,AV.frz,AV.cpy,ifV,isEqB,nilV,nilX,AV.isNilS,AV.isNoRows,wk,dclo,datOf,binIs,addF,AV.isPtr,idxV,AV.isSl,AV.isSlice,AV.rows,ps,pv,extV,extS,AV.outs,AV.outF,packD,AV.dl,fieldV,fieldS,AV.cells?,AV.upr,AV.menc,AV.one,D.one,Value.oneCell',tagOf,AV.isApp,strV,strS,bolV,bolS,slcV,AV.isSlD,asrtS,AV.dcells,D.cells?,stcV,stcS,leafOk,eqDs,eqD,packA,D.val?,↓reduceIte,reduceCtorEq,Nat.reduceAdd,Nat.reduceSub,Nat.reduceMul,List.reduceReplicate,Nat.reduceLeDiff,Nat.reduceLT,Nat.reduceBEq,Nat.reduceEqDiff,Int.reduceNeg,Int.reduceEq,Int.reduceLE,Int.reduceLT,tfb,D.flat,D.flats,ctz80,z80_76,ctz76,z76_99,ctz99,x99_75,x99_101,eq101,eq_self, hlt', d]
      refine ⟨by omega, ⟨by omega, fun j hj => ?_⟩, by omega⟩
      rcases Nat.lt_or_ge j i with h1 | h1
      · exact hf j h1
      · rw [show j = i by omega]; exact d
    · have d' := Bool.eq_false_iff.2 d
      have ha : allB l lo hi = false := all_no hlt d'
      simp (maxSteps := 4000000) +contextual (disch := first | omega | exact qdb_ok (by kernel_rfl) | exact okb_ok (by kernel_rfl)) only [bw1,bw2,bw3,bw4,bw5,bw6,bw7,bc0,bc1,bc2,bc3,bc4,bc5,bc6,bc7,setPs,AV.owns,AV.datF,AV.frz,AV.cpy,ifV,isEqB,nilV,nilX,AV.isNilS,AV.isNoRows,wk,dclo,datOf,binIs,addF,AV.isPtr,idxV,AV.isSl,AV.isSlice,AV.rows,ps,pv,extV,extS,AV.outs,AV.outF,packD,AV.dl,fieldV,fieldS,AV.cells?,AV.upr,AV.menc,AV.one,D.one,Value.oneCell',tagOf,AV.isApp,strV,strS,bolV,bolS,slcV,AV.isSlD,asrtS,AV.dcells,D.cells?,stcV,stcS,leafOk,eqDs,eqD,packA,D.val?,↓reduceIte,reduceCtorEq,Nat.reduceAdd,Nat.reduceSub,Nat.reduceMul,List.reduceReplicate,Nat.reduceLeDiff,Nat.reduceLT,Nat.reduceBEq,Nat.reduceEqDiff,Int.reduceNeg,Int.reduceEq,Int.reduceLE,Int.reduceLT,tfb,D.flat,D.flats,ctz80,z80_76,ctz76,z76_99,ctz99,x99_75,x99_101,eq101,eq_self, hlt', d', ha]
      and_intros <;> first | omega | simp
  · have hlt' : ¬ (i : Int) < l.length := by omega
    have ha : allB l lo hi = true := all_yes fun j hj => hf j (by omega)
    simp (maxSteps := 4000000) +contextual (disch := first | omega | exact qdb_ok (by kernel_rfl) | exact okb_ok (by kernel_rfl)) only [bw1,bw2,bw3,bw4,bw5,bw6,bw7,bc0,bc1,bc2,bc3,bc4,bc5,bc6,bc7,setPs,AV.owns,AV.datF,AV.frz,AV.cpy,ifV,isEqB,nilV,nilX,AV.isNilS,AV.isNoRows,wk,dclo,datOf,binIs,addF,AV.isPtr,idxV,AV.isSl,AV.isSlice,AV.rows,ps,pv,extV,extS,AV.outs,AV.outF,packD,AV.dl,fieldV,fieldS,AV.cells?,AV.upr,AV.menc,AV.one,D.one,Value.oneCell',tagOf,AV.isApp,strV,strS,bolV,bolS,slcV,AV.isSlD,asrtS,AV.dcells,D.cells?,stcV,stcS,leafOk,eqDs,eqD,packA,D.val?,↓reduceIte,reduceCtorEq,Nat.reduceAdd,Nat.reduceSub,Nat.reduceMul,List.reduceReplicate,Nat.reduceLeDiff,Nat.reduceLT,Nat.reduceBEq,Nat.reduceEqDiff,Int.reduceNeg,Int.reduceEq,Int.reduceLE,Int.reduceLT,tfb,D.flat,D.flats,ctz80,z80_76,ctz76,z76_99,ctz99,x99_75,x99_101,eq101,eq_self, hlt', ha]
def ent80 (args : List AV) (K : AV → List AV → Sto → Prop) (e : List AV) (s : Sto) : Prop := ent (α := (List Int) × (Int) × (Int) × (Int)) (fun aa => [.sl 1 (aa.1.map ic), .i aa.2.1, .i aa.2.2.1, .i aa.2.2.2]) (fun aa => aa.2.1 ≤ 1000) (fun aa => .b (marksOk aa.1 aa.2.1 aa.2.2.1 aa.2.2.2)) args K e s
theorem ent80_ok {args : List AV} {K : AV → List AV → Sto → Prop} {Q : Kt} {e : List AV} {s : Sto} (h : ent80 args K e s) : pcall Try.prog 80 args K Q e s := ent_ok (fun aa h => pf80 aa.1 aa.2.1 aa.2.2.1 aa.2.2.2 h) h
theorem eq80 {l : List Int} {n : Int} {lo : Int} {hi : Int} {KK : AV → List AV → Sto → Prop} {ee : List AV} {ss : Sto} : ent80 [.d (.sl 1 (l.map ic)), .d (.i n), .d (.i lo), .d (.i hi)] KK ee ss = ((n ≤ 1000) ∧ KK (.d (.b (marksOk l n lo hi))) ee ss) := by
  unfold ent80; rw [ent_iff (l, n, lo, hi) (by intro b h; simpa [Prod.ext_iff, and_assoc, Int.ofNat_inj, ints_inj, cals_inj, pcs_inj, skas_inj, scos_inj, ska_inj, rul_inj, sco_inj, cal_inj] using h) rfl]; simp
theorem eqo80 {l : List Int} {n : Int} {lo : Int} {hi : Int} {g1 el1 : Nat} {KK : AV → List AV → Sto → Prop} {ee : List AV} {ss : Sto} : ent80 [.own g1 el1 1 (l.map ic), .d (.i n), .d (.i lo), .d (.i hi)] KK ee ss = ((n ≤ 1000) ∧ (.b (marksOk l n lo hi) : D).flat = true ∧ KK (.d (.b (marksOk l n lo hi))) ee ss) := by
  unfold ent80; rw [ent_iff (l, n, lo, hi) (by intro b h; simpa [Prod.ext_iff, and_assoc, Int.ofNat_inj, ints_inj, cals_inj, pcs_inj, skas_inj, scos_inj, ska_inj, rul_inj, sco_inj, cal_inj] using h) rfl]; simp
def O53 : Nat → Sch := fun id => .done
theorem ho53 : Try.f53.body.map (okO O53) = some true := by kernel_rfl
def Cf53 : Nat → List AV → (AV → List AV → Sto → Prop) → Kt → List AV → Sto → Prop := fun f args K Q e s => match f with
  | 44 => ent44 args K e s
  | 75 => ent75 args K e s
  | 76 => inlE Try.prog Ct76 O76 76000 76 args K Q e s
  | _ => False
def Ct53 : CT := { f := Cf53, y := noYld, z := fun d => false }
theorem ctz53 {d : Nat} : CT.z Ct53 d = (false) := id rfl
theorem Ct53_ok : Ct53.ok Try.prog := ok_of_f (fun f args K Q e s h => by
  have h : Cf53 f args K Q e s := h
  unfold Cf53 at h; split at h
  · exact ent44_ok h
  · exact ent75_ok h
  · exact inlE_ok Ct76_ok hmix ho76 h
  · exact h.elim) (fun _ _ _ _ _ _ _ _ _ h => h)
theorem x53_44 {n : Int} {lo : Int} {hi : Int} {KK : AV → List AV → Sto → Prop} {QQ : Kt} {ii : At KK} {jj : At QQ} {ee : List AV} {ss : Sto} : xC Ct53 44 [.d (.i n), .d (.i lo), .d (.i hi)] KK QQ ii jj ee ss = (KK (.d (.b (inB n lo hi))) ee ss) := eq44
theorem x53_75 {n : Int} {KK : AV → List AV → Sto → Prop} {QQ : Kt} {ii : At KK} {jj : At QQ} {ee : List AV} {ss : Sto} : xC Ct53 75 [.d (.i n)] KK QQ ii jj ee ss = (KK (.d (.b (!inB n 0 2000))) ee ss) := eq75
theorem z53_76 : type_of% (@xinl Try.prog Ct53 Ct76 O76 76000 76 _ _ _ _ rfl c76 Try.func76 rfl Try.ntmps76 Try.results76) := @xinl Try.prog Ct53 Ct76 O76 76000 76 _ _ _ _ rfl c76 Try.func76 rfl Try.ntmps76 Try.results76
theorem c53 : callable Try.prog 53 = true := by kernel_rfl
theorem pf53 (r : Rul) : PF Try.prog 53 [r.d] (fun zz => zz = .ret (.b r.ok)) := by
  by_cases c : inB (r.bases.length : Int) 1 64 = true
  case neg =>
    have hw : r.ok = false := by unfold Rul.ok; rw [Bool.eq_false_iff.2 c]; rfl
    rw [hw]
    refine PF_nil (PF_start (O := O53) Ct53_ok hmix ho53 Try.func53 c53 rfl Try.ntmps53 Try.results53 ?_)
    simp (maxSteps := 4000000) +contextual (disch := first | omega | exact qdb_ok (by kernel_rfl) | exact okb_ok (by kernel_rfl)) only [bw1,bw2,bw3,bw4,bw5,bw6,bw7,bc0,bc1,bc2,bc3,bc4,bc5,bc6,bc7,setPs,AV.owns,AV.datF,AV.frz,AV.cpy,ifV,isEqB,nilV,nilX,AV.isNilS,AV.isNoRows,wk,dclo,datOf,binIs,addF,AV.isPtr,idxV,AV.isSl,AV.isSlice,AV.rows,ps,pv,extV,extS,AV.outs,AV.outF,packD,AV.dl,fieldV,fieldS,AV.cells?,AV.upr,AV.menc,AV.one,D.one,Value.oneCell',tagOf,AV.isApp,strV,strS,bolV,bolS,slcV,AV.isSlD,asrtS,AV.dcells,D.cells?,stcV,stcS,leafOk,eqDs,eqD,packA,D.val?,↓reduceIte,reduceCtorEq,Nat.reduceAdd,Nat.reduceSub,Nat.reduceMul,List.reduceReplicate,Nat.reduceLeDiff,Nat.reduceLT,Nat.reduceBEq,Nat.reduceEqDiff,Int.reduceNeg,Int.reduceEq,Int.reduceLE,Int.reduceLT,tfb,D.flat,D.flats,ctz53,x53_44,x53_75,z53_76,ctz76,z76_99,ctz99,x99_75,x99_101,eq101,c]
  have hl := inB_iff.1 c
  have hw : r.ok = (allB r.bases 0 2000 && (inB r.factor 0 1000 && inB r.most 1 16)) := by unfold Rul.ok; rw [c, Bool.true_and, Bool.and_assoc]
  rw [hw]
  refine PF_nil (PF_start (O := O53) Ct53_ok hmix ho53 Try.func53 c53 rfl Try.ntmps53 Try.results53 ?_)
  simp (maxSteps := 4000000) +contextual (disch := first | omega | exact qdb_ok (by kernel_rfl) | exact okb_ok (by kernel_rfl)) only [bw1,bw2,bw3,bw4,bw5,bw6,bw7,bc0,bc1,bc2,bc3,bc4,bc5,bc6,bc7,setPs,AV.owns,AV.datF,AV.frz,AV.cpy,ifV,isEqB,nilV,nilX,AV.isNilS,AV.isNoRows,wk,dclo,datOf,binIs,addF,AV.isPtr,idxV,AV.isSl,AV.isSlice,AV.rows,ps,pv,extV,extS,AV.outs,AV.outF,packD,AV.dl,fieldV,fieldS,AV.cells?,AV.upr,AV.menc,AV.one,D.one,Value.oneCell',tagOf,AV.isApp,strV,strS,bolV,bolS,slcV,AV.isSlD,asrtS,AV.dcells,D.cells?,stcV,stcS,leafOk,eqDs,eqD,packA,D.val?,↓reduceIte,reduceCtorEq,Nat.reduceAdd,Nat.reduceSub,Nat.reduceMul,List.reduceReplicate,Nat.reduceLeDiff,Nat.reduceLT,Nat.reduceBEq,Nat.reduceEqDiff,Int.reduceNeg,Int.reduceEq,Int.reduceLE,Int.reduceLT,tfb,D.flat,D.flats,ctz53,x53_44,x53_75,z53_76,ctz76,z76_99,ctz99,x99_75,x99_101,eq101,c]
  refine loop_s (O := O99) (tb := 99000) Ct99_ok hmix (by kernel_rfl) (σ := Nat) (fun i => [(8, .i i)]) (fun i => i ≤ r.bases.length ∧ ∀ j, j < i → inB (r.bases.getD j default) 0 2000 = true) (fun i => r.bases.length - i) (fun i => i + 1) 0 ⟨by omega, fun j h => by omega⟩ ?_ ?_
  · simp (maxSteps := 4000000) +contextual (disch := first | omega | exact qdb_ok (by kernel_rfl) | exact okb_ok (by kernel_rfl)) only [bw1,bw2,bw3,bw4,bw5,bw6,bw7,bc0,bc1,bc2,bc3,bc4,bc5,bc6,bc7,setPs,AV.owns,AV.datF,AV.frz,AV.cpy,ifV,isEqB,nilV,nilX,AV.isNilS,AV.isNoRows,wk,dclo,datOf,binIs,addF,AV.isPtr,idxV,AV.isSl,AV.isSlice,AV.rows,ps,pv,extV,extS,AV.outs,AV.outF,packD,AV.dl,fieldV,fieldS,AV.cells?,AV.upr,AV.menc,AV.one,D.one,Value.oneCell',tagOf,AV.isApp,strV,strS,bolV,bolS,slcV,AV.isSlD,asrtS,AV.dcells,D.cells?,stcV,stcS,leafOk,eqDs,eqD,packA,D.val?,↓reduceIte,reduceCtorEq,Nat.reduceAdd,Nat.reduceSub,Nat.reduceMul,List.reduceReplicate,Nat.reduceLeDiff,Nat.reduceLT,Nat.reduceBEq,Nat.reduceEqDiff,Int.reduceNeg,Int.reduceEq,Int.reduceLE,Int.reduceLT,tfb,D.flat,D.flats,ctz53,x53_44,x53_75,z53_76,ctz76,z76_99,ctz99,x99_75,x99_101,eq101]
  rintro i ⟨hi0, hf⟩
  by_cases hlt : i < r.bases.length
  · have hlt' : (i : Int) < r.bases.length := by omega
    by_cases d : inB (r.bases.getD i default) 0 2000 = true
    · simp (maxSteps := 4000000) +contextual (disch := first | omega | exact qdb_ok (by kernel_rfl) | exact okb_ok (by kernel_rfl)) only [bw1,bw2,bw3,bw4,bw5,bw6,bw7,bc0,bc1,bc2,bc3,bc4,bc5,bc6,bc7,setPs,AV.owns,AV.datF,AV.frz,AV.cpy,ifV,isEqB,nilV,nilX,AV.isNilS,AV.isNoRows,wk,dclo,datOf,binIs,addF,AV.isPtr,idxV,AV.isSl,AV.isSlice,AV.rows,ps,pv,extV,extS,AV.outs,AV.outF,packD,AV.dl,fieldV,fieldS,AV.cells?,AV.upr,AV.menc,AV.one,D.one,Value.oneCell',tagOf,AV.isApp,strV,strS,bolV,bolS,slcV,AV.isSlD,asrtS,AV.dcells,D.cells?,stcV,stcS,leafOk,eqDs,eqD,packA,D.val?,↓reduceIte,reduceCtorEq,Nat.reduceAdd,Nat.reduceSub,Nat.reduceMul,List.reduceReplicate,Nat.reduceLeDiff,Nat.reduceLT,Nat.reduceBEq,Nat.reduceEqDiff,Int.reduceNeg,Int.reduceEq,Int.reduceLE,Int.reduceLT,tfb,D.flat,D.flats,ctz53,x53_44,x53_75,z53_76,ctz76,z76_99,ctz99,x99_75,x99_101,eq101,eq_self, hlt', d]
      refine ⟨by omega, ⟨by omega, fun j hj => ?_⟩, by omega⟩
      rcases Nat.lt_or_ge j i with h1 | h1
      · exact hf j h1
      · rw [show j = i by omega]; exact d
    · have d' := Bool.eq_false_iff.2 d
      have ha : allB r.bases 0 2000 = false := all_no hlt d'
      have hge : decide (0 ≤ (i : Int)) = true := decide_eq_true (by omega)
      simp (maxSteps := 4000000) +contextual (disch := first | omega | exact qdb_ok (by kernel_rfl) | exact okb_ok (by kernel_rfl)) only [bw1,bw2,bw3,bw4,bw5,bw6,bw7,bc0,bc1,bc2,bc3,bc4,bc5,bc6,bc7,setPs,AV.owns,AV.datF,AV.frz,AV.cpy,ifV,isEqB,nilV,nilX,AV.isNilS,AV.isNoRows,wk,dclo,datOf,binIs,addF,AV.isPtr,idxV,AV.isSl,AV.isSlice,AV.rows,ps,pv,extV,extS,AV.outs,AV.outF,packD,AV.dl,fieldV,fieldS,AV.cells?,AV.upr,AV.menc,AV.one,D.one,Value.oneCell',tagOf,AV.isApp,strV,strS,bolV,bolS,slcV,AV.isSlD,asrtS,AV.dcells,D.cells?,stcV,stcS,leafOk,eqDs,eqD,packA,D.val?,↓reduceIte,reduceCtorEq,Nat.reduceAdd,Nat.reduceSub,Nat.reduceMul,List.reduceReplicate,Nat.reduceLeDiff,Nat.reduceLT,Nat.reduceBEq,Nat.reduceEqDiff,Int.reduceNeg,Int.reduceEq,Int.reduceLE,Int.reduceLT,tfb,D.flat,D.flats,ctz53,x53_44,x53_75,z53_76,ctz76,z76_99,ctz99,x99_75,x99_101,eq101,eq_self, hlt', d', ha, hge]
      exact ⟨by omega, rfl⟩
  · have hlt' : ¬ (i : Int) < r.bases.length := by omega
    have ha : allB r.bases 0 2000 = true := all_yes fun j hj => hf j (by omega)
    by_cases e1 : inB r.factor 0 1000 = true
    · simp (maxSteps := 4000000) +contextual (disch := first | omega | exact qdb_ok (by kernel_rfl) | exact okb_ok (by kernel_rfl)) only [bw1,bw2,bw3,bw4,bw5,bw6,bw7,bc0,bc1,bc2,bc3,bc4,bc5,bc6,bc7,setPs,AV.owns,AV.datF,AV.frz,AV.cpy,ifV,isEqB,nilV,nilX,AV.isNilS,AV.isNoRows,wk,dclo,datOf,binIs,addF,AV.isPtr,idxV,AV.isSl,AV.isSlice,AV.rows,ps,pv,extV,extS,AV.outs,AV.outF,packD,AV.dl,fieldV,fieldS,AV.cells?,AV.upr,AV.menc,AV.one,D.one,Value.oneCell',tagOf,AV.isApp,strV,strS,bolV,bolS,slcV,AV.isSlD,asrtS,AV.dcells,D.cells?,stcV,stcS,leafOk,eqDs,eqD,packA,D.val?,↓reduceIte,reduceCtorEq,Nat.reduceAdd,Nat.reduceSub,Nat.reduceMul,List.reduceReplicate,Nat.reduceLeDiff,Nat.reduceLT,Nat.reduceBEq,Nat.reduceEqDiff,Int.reduceNeg,Int.reduceEq,Int.reduceLE,Int.reduceLT,tfb,D.flat,D.flats,ctz53,x53_44,x53_75,z53_76,ctz76,z76_99,ctz99,x99_75,x99_101,eq101,eq_self, hlt', ha, e1]
    · have e1 := Bool.eq_false_iff.2 e1
      simp (maxSteps := 4000000) +contextual (disch := first | omega | exact qdb_ok (by kernel_rfl) | exact okb_ok (by kernel_rfl)) only [bw1,bw2,bw3,bw4,bw5,bw6,bw7,bc0,bc1,bc2,bc3,bc4,bc5,bc6,bc7,setPs,AV.owns,AV.datF,AV.frz,AV.cpy,ifV,isEqB,nilV,nilX,AV.isNilS,AV.isNoRows,wk,dclo,datOf,binIs,addF,AV.isPtr,idxV,AV.isSl,AV.isSlice,AV.rows,ps,pv,extV,extS,AV.outs,AV.outF,packD,AV.dl,fieldV,fieldS,AV.cells?,AV.upr,AV.menc,AV.one,D.one,Value.oneCell',tagOf,AV.isApp,strV,strS,bolV,bolS,slcV,AV.isSlD,asrtS,AV.dcells,D.cells?,stcV,stcS,leafOk,eqDs,eqD,packA,D.val?,↓reduceIte,reduceCtorEq,Nat.reduceAdd,Nat.reduceSub,Nat.reduceMul,List.reduceReplicate,Nat.reduceLeDiff,Nat.reduceLT,Nat.reduceBEq,Nat.reduceEqDiff,Int.reduceNeg,Int.reduceEq,Int.reduceLE,Int.reduceLT,tfb,D.flat,D.flats,ctz53,x53_44,x53_75,z53_76,ctz76,z76_99,ctz99,x99_75,x99_101,eq101,eq_self, hlt', ha, e1]
      rfl
def ent53 (args : List AV) (K : AV → List AV → Sto → Prop) (e : List AV) (s : Sto) : Prop := ent (α := (Rul)) (fun aa => [aa.d]) (fun aa => True) (fun aa => .b aa.ok) args K e s
theorem ent53_ok {args : List AV} {K : AV → List AV → Sto → Prop} {Q : Kt} {e : List AV} {s : Sto} (h : ent53 args K e s) : pcall Try.prog 53 args K Q e s := ent_ok (fun aa h => pf53 aa) h
theorem eq53 {r : Rul} {KK : AV → List AV → Sto → Prop} {ee : List AV} {ss : Sto} : ent53 [.d (r.d)] KK ee ss = (KK (.d (.b r.ok)) ee ss) := by
  unfold ent53; rw [ent_iff r (by intro b h; simpa [Prod.ext_iff, and_assoc, Int.ofNat_inj, ints_inj, cals_inj, pcs_inj, skas_inj, scos_inj, ska_inj, rul_inj, sco_inj, cal_inj] using h) rfl]; simp
def O52 : Nat → Sch := fun id => .done
theorem ho52 : Try.f52.body.map (okO O52) = some true := by kernel_rfl
def Cf52 : Nat → List AV → (AV → List AV → Sto → Prop) → Kt → List AV → Sto → Prop := fun f args K Q e s => match f with
  | 51 => ent51 args K e s
  | _ => False
def Ct52 : CT := { f := Cf52, y := noYld, z := fun d => false }
theorem ctz52 {d : Nat} : CT.z Ct52 d = (false) := id rfl
theorem Ct52_ok : Ct52.ok Try.prog := ok_of_f (fun f args K Q e s h => by
  have h : Cf52 f args K Q e s := h
  unfold Cf52 at h; split at h
  · exact ent51_ok h
  · exact h.elim) (fun _ _ _ _ _ _ _ _ _ h => h)
theorem x52_51 {n : Int} {lo : Int} {hi : Int} {KK : AV → List AV → Sto → Prop} {QQ : Kt} {ii : At KK} {jj : At QQ} {ee : List AV} {ss : Sto} : xC Ct52 51 [.d (.i n), .d (.i lo), .d (.i hi)] KK QQ ii jj ee ss = (KK (.d (.b (inB n lo hi))) ee ss) := eq51
theorem c52 : callable Try.prog 52 = true := by kernel_rfl
theorem pf52 (l : List Int) (n lo hi : Int) (h : n ≤ 1000) : PF Try.prog 52 [.sl 1 (l.map ic), .i n, .i lo, .i hi] (fun zz => zz = .ret (.b (marksOk l n lo hi))) := by
  by_cases c : (l.length : Int) = n
  case neg =>
    have hw : marksOk l n lo hi = false := by unfold marksOk; rw [decide_eq_false c]; rfl
    rw [hw]
    refine PF_nil (PF_start (O := O52) Ct52_ok hmix ho52 Try.func52 c52 rfl Try.ntmps52 Try.results52 ?_)
    simp (maxSteps := 4000000) +contextual (disch := first | omega | exact qdb_ok (by kernel_rfl) | exact okb_ok (by kernel_rfl)) only [bw1,bw2,bw3,bw4,bw5,bw6,bw7,bc0,bc1,bc2,bc3,bc4,bc5,bc6,bc7,setPs,AV.owns,AV.datF,AV.frz,AV.cpy,ifV,isEqB,nilV,nilX,AV.isNilS,AV.isNoRows,wk,dclo,datOf,binIs,addF,AV.isPtr,idxV,AV.isSl,AV.isSlice,AV.rows,ps,pv,extV,extS,AV.outs,AV.outF,packD,AV.dl,fieldV,fieldS,AV.cells?,AV.upr,AV.menc,AV.one,D.one,Value.oneCell',tagOf,AV.isApp,strV,strS,bolV,bolS,slcV,AV.isSlD,asrtS,AV.dcells,D.cells?,stcV,stcS,leafOk,eqDs,eqD,packA,D.val?,↓reduceIte,reduceCtorEq,Nat.reduceAdd,Nat.reduceSub,Nat.reduceMul,List.reduceReplicate,Nat.reduceLeDiff,Nat.reduceLT,Nat.reduceBEq,Nat.reduceEqDiff,Int.reduceNeg,Int.reduceEq,Int.reduceLE,Int.reduceLT,tfb,D.flat,D.flats,ctz52,x52_51,c]
  have hw : marksOk l n lo hi = allB l lo hi := by unfold marksOk; rw [decide_eq_true c]; rfl
  rw [hw]
  refine PF_nil (PF_start (O := O52) Ct52_ok hmix ho52 Try.func52 c52 rfl Try.ntmps52 Try.results52 ?_)
  simp (maxSteps := 4000000) +contextual (disch := first | omega | exact qdb_ok (by kernel_rfl) | exact okb_ok (by kernel_rfl)) only [bw1,bw2,bw3,bw4,bw5,bw6,bw7,bc0,bc1,bc2,bc3,bc4,bc5,bc6,bc7,setPs,AV.owns,AV.datF,AV.frz,AV.cpy,ifV,isEqB,nilV,nilX,AV.isNilS,AV.isNoRows,wk,dclo,datOf,binIs,addF,AV.isPtr,idxV,AV.isSl,AV.isSlice,AV.rows,ps,pv,extV,extS,AV.outs,AV.outF,packD,AV.dl,fieldV,fieldS,AV.cells?,AV.upr,AV.menc,AV.one,D.one,Value.oneCell',tagOf,AV.isApp,strV,strS,bolV,bolS,slcV,AV.isSlD,asrtS,AV.dcells,D.cells?,stcV,stcS,leafOk,eqDs,eqD,packA,D.val?,↓reduceIte,reduceCtorEq,Nat.reduceAdd,Nat.reduceSub,Nat.reduceMul,List.reduceReplicate,Nat.reduceLeDiff,Nat.reduceLT,Nat.reduceBEq,Nat.reduceEqDiff,Int.reduceNeg,Int.reduceEq,Int.reduceLE,Int.reduceLT,tfb,D.flat,D.flats,ctz52,x52_51,c]
  refine loop_s (O := O52) (tb := 0) Ct52_ok hmix (by kernel_rfl) (σ := Nat) (fun i => [(9, .i i)]) (fun i => i ≤ l.length ∧ ∀ j, j < i → inB (l.getD j default) lo hi = true) (fun i => l.length - i) (fun i => i + 1) 0 ⟨by omega, fun j h => by omega⟩ ?_ ?_
  · simp (maxSteps := 4000000) +contextual (disch := first | omega | exact qdb_ok (by kernel_rfl) | exact okb_ok (by kernel_rfl)) only [bw1,bw2,bw3,bw4,bw5,bw6,bw7,bc0,bc1,bc2,bc3,bc4,bc5,bc6,bc7,setPs,AV.owns,AV.datF,AV.frz,AV.cpy,ifV,isEqB,nilV,nilX,AV.isNilS,AV.isNoRows,wk,dclo,datOf,binIs,addF,AV.isPtr,idxV,AV.isSl,AV.isSlice,AV.rows,ps,pv,extV,extS,AV.outs,AV.outF,packD,AV.dl,fieldV,fieldS,AV.cells?,AV.upr,AV.menc,AV.one,D.one,Value.oneCell',tagOf,AV.isApp,strV,strS,bolV,bolS,slcV,AV.isSlD,asrtS,AV.dcells,D.cells?,stcV,stcS,leafOk,eqDs,eqD,packA,D.val?,↓reduceIte,reduceCtorEq,Nat.reduceAdd,Nat.reduceSub,Nat.reduceMul,List.reduceReplicate,Nat.reduceLeDiff,Nat.reduceLT,Nat.reduceBEq,Nat.reduceEqDiff,Int.reduceNeg,Int.reduceEq,Int.reduceLE,Int.reduceLT,tfb,D.flat,D.flats,ctz52,x52_51]
  rintro i ⟨hi0, hf⟩
  by_cases hlt : i < l.length
  · have hlt' : (i : Int) < l.length := by omega
    have hlt2 : (i : Int) < n := by omega
    by_cases d : inB (l.getD i default) lo hi = true
    · simp (maxSteps := 4000000) +contextual (disch := first | omega | exact qdb_ok (by kernel_rfl) | exact okb_ok (by kernel_rfl)) only [bw1,bw2,bw3,bw4,bw5,bw6,bw7,bc0,bc1,bc2,bc3,bc4,bc5,bc6,bc7,setPs,AV.owns,AV.datF,AV.frz,AV.cpy,ifV,isEqB,nilV,nilX,AV.isNilS,AV.isNoRows,wk,dclo,datOf,binIs,addF,AV.isPtr,idxV,AV.isSl,AV.isSlice,AV.rows,ps,pv,extV,extS,AV.outs,AV.outF,packD,AV.dl,fieldV,fieldS,AV.cells?,AV.upr,AV.menc,AV.one,D.one,Value.oneCell',tagOf,AV.isApp,strV,strS,bolV,bolS,slcV,AV.isSlD,asrtS,AV.dcells,D.cells?,stcV,stcS,leafOk,eqDs,eqD,packA,D.val?,↓reduceIte,reduceCtorEq,Nat.reduceAdd,Nat.reduceSub,Nat.reduceMul,List.reduceReplicate,Nat.reduceLeDiff,Nat.reduceLT,Nat.reduceBEq,Nat.reduceEqDiff,Int.reduceNeg,Int.reduceEq,Int.reduceLE,Int.reduceLT,tfb,D.flat,D.flats,ctz52,x52_51,eq_self, hlt', hlt2, c, d]
      refine ⟨by omega, ⟨by omega, fun j hj => ?_⟩, by omega⟩
      rcases Nat.lt_or_ge j i with h1 | h1
      · exact hf j h1
      · rw [show j = i by omega]; exact d
    · have ha : allB l lo hi = false := all_no hlt (Bool.eq_false_iff.2 d)
      simp (maxSteps := 4000000) +contextual (disch := first | omega | exact qdb_ok (by kernel_rfl) | exact okb_ok (by kernel_rfl)) only [bw1,bw2,bw3,bw4,bw5,bw6,bw7,bc0,bc1,bc2,bc3,bc4,bc5,bc6,bc7,setPs,AV.owns,AV.datF,AV.frz,AV.cpy,ifV,isEqB,nilV,nilX,AV.isNilS,AV.isNoRows,wk,dclo,datOf,binIs,addF,AV.isPtr,idxV,AV.isSl,AV.isSlice,AV.rows,ps,pv,extV,extS,AV.outs,AV.outF,packD,AV.dl,fieldV,fieldS,AV.cells?,AV.upr,AV.menc,AV.one,D.one,Value.oneCell',tagOf,AV.isApp,strV,strS,bolV,bolS,slcV,AV.isSlD,asrtS,AV.dcells,D.cells?,stcV,stcS,leafOk,eqDs,eqD,packA,D.val?,↓reduceIte,reduceCtorEq,Nat.reduceAdd,Nat.reduceSub,Nat.reduceMul,List.reduceReplicate,Nat.reduceLeDiff,Nat.reduceLT,Nat.reduceBEq,Nat.reduceEqDiff,Int.reduceNeg,Int.reduceEq,Int.reduceLE,Int.reduceLT,tfb,D.flat,D.flats,ctz52,x52_51,eq_self, hlt', hlt2, c, d, ha]
      omega
  · have hlt' : ¬ (i : Int) < l.length := by omega
    have hlt2 : ¬ (i : Int) < n := by omega
    have ha : allB l lo hi = true := all_yes fun j hj => hf j (by omega)
    simp (maxSteps := 4000000) +contextual (disch := first | omega | exact qdb_ok (by kernel_rfl) | exact okb_ok (by kernel_rfl)) only [bw1,bw2,bw3,bw4,bw5,bw6,bw7,bc0,bc1,bc2,bc3,bc4,bc5,bc6,bc7,setPs,AV.owns,AV.datF,AV.frz,AV.cpy,ifV,isEqB,nilV,nilX,AV.isNilS,AV.isNoRows,wk,dclo,datOf,binIs,addF,AV.isPtr,idxV,AV.isSl,AV.isSlice,AV.rows,ps,pv,extV,extS,AV.outs,AV.outF,packD,AV.dl,fieldV,fieldS,AV.cells?,AV.upr,AV.menc,AV.one,D.one,Value.oneCell',tagOf,AV.isApp,strV,strS,bolV,bolS,slcV,AV.isSlD,asrtS,AV.dcells,D.cells?,stcV,stcS,leafOk,eqDs,eqD,packA,D.val?,↓reduceIte,reduceCtorEq,Nat.reduceAdd,Nat.reduceSub,Nat.reduceMul,List.reduceReplicate,Nat.reduceLeDiff,Nat.reduceLT,Nat.reduceBEq,Nat.reduceEqDiff,Int.reduceNeg,Int.reduceEq,Int.reduceLE,Int.reduceLT,tfb,D.flat,D.flats,ctz52,x52_51,eq_self, hlt', hlt2, c, ha]
def callOk (r : Rul) (x : Cal) (n : Int) : Bool := inB x.place 0 99 && (inB x.elem 0 ((r.bases.length : Int) - 1) && (inB x.under 0 2 && marksOk x.marks n (-5) 5))
def ent52 (args : List AV) (K : AV → List AV → Sto → Prop) (e : List AV) (s : Sto) : Prop := ent (α := (List Int) × (Int) × (Int) × (Int)) (fun aa => [.sl 1 (aa.1.map ic), .i aa.2.1, .i aa.2.2.1, .i aa.2.2.2]) (fun aa => aa.2.1 ≤ 1000) (fun aa => .b (marksOk aa.1 aa.2.1 aa.2.2.1 aa.2.2.2)) args K e s
theorem ent52_ok {args : List AV} {K : AV → List AV → Sto → Prop} {Q : Kt} {e : List AV} {s : Sto} (h : ent52 args K e s) : pcall Try.prog 52 args K Q e s := ent_ok (fun aa h => pf52 aa.1 aa.2.1 aa.2.2.1 aa.2.2.2 h) h
theorem eq52 {l : List Int} {n : Int} {lo : Int} {hi : Int} {KK : AV → List AV → Sto → Prop} {ee : List AV} {ss : Sto} : ent52 [.d (.sl 1 (l.map ic)), .d (.i n), .d (.i lo), .d (.i hi)] KK ee ss = ((n ≤ 1000) ∧ KK (.d (.b (marksOk l n lo hi))) ee ss) := by
  unfold ent52; rw [ent_iff (l, n, lo, hi) (by intro b h; simpa [Prod.ext_iff, and_assoc, Int.ofNat_inj, ints_inj, cals_inj, pcs_inj, skas_inj, scos_inj, ska_inj, rul_inj, sco_inj, cal_inj] using h) rfl]; simp
theorem eqo52 {l : List Int} {n : Int} {lo : Int} {hi : Int} {g1 el1 : Nat} {KK : AV → List AV → Sto → Prop} {ee : List AV} {ss : Sto} : ent52 [.own g1 el1 1 (l.map ic), .d (.i n), .d (.i lo), .d (.i hi)] KK ee ss = ((n ≤ 1000) ∧ (.b (marksOk l n lo hi) : D).flat = true ∧ KK (.d (.b (marksOk l n lo hi))) ee ss) := by
  unfold ent52; rw [ent_iff (l, n, lo, hi) (by intro b h; simpa [Prod.ext_iff, and_assoc, Int.ofNat_inj, ints_inj, cals_inj, pcs_inj, skas_inj, scos_inj, ska_inj, rul_inj, sco_inj, cal_inj] using h) rfl]; simp
def O77 : Nat → Sch := fun id => .done
theorem ho77 : Try.f77.body.map (okO O77) = some true := by kernel_rfl
def Cf77 : Nat → List AV → (AV → List AV → Sto → Prop) → Kt → List AV → Sto → Prop := fun f args K Q e s => match f with
  | 44 => ent44 args K e s
  | 80 => ent80 args K e s
  | _ => False
def Ct77 : CT := { f := Cf77, y := noYld, z := fun d => false }
theorem ctz77 {d : Nat} : CT.z Ct77 d = (false) := id rfl
theorem Ct77_ok : Ct77.ok Try.prog := ok_of_f (fun f args K Q e s h => by
  have h : Cf77 f args K Q e s := h
  unfold Cf77 at h; split at h
  · exact ent44_ok h
  · exact ent80_ok h
  · exact h.elim) (fun _ _ _ _ _ _ _ _ _ h => h)
theorem x77_44 {n : Int} {lo : Int} {hi : Int} {KK : AV → List AV → Sto → Prop} {QQ : Kt} {ii : At KK} {jj : At QQ} {ee : List AV} {ss : Sto} : xC Ct77 44 [.d (.i n), .d (.i lo), .d (.i hi)] KK QQ ii jj ee ss = (KK (.d (.b (inB n lo hi))) ee ss) := eq44
theorem x77_80 {l : List Int} {n : Int} {lo : Int} {hi : Int} {KK : AV → List AV → Sto → Prop} {QQ : Kt} {ii : At KK} {jj : At QQ} {ee : List AV} {ss : Sto} : xC Ct77 80 [.d (.sl 1 (l.map ic)), .d (.i n), .d (.i lo), .d (.i hi)] KK QQ ii jj ee ss = ((n ≤ 1000) ∧ KK (.d (.b (marksOk l n lo hi))) ee ss) := eq80
theorem x77_80_m1 {l : List Int} {n : Int} {lo : Int} {hi : Int} {g1 el1 : Nat} {KK : AV → List AV → Sto → Prop} {QQ : Kt} {ii : At KK} {jj : At QQ} {ee : List AV} {ss : Sto} : xC Ct77 80 [.own g1 el1 1 (l.map ic), .d (.i n), .d (.i lo), .d (.i hi)] KK QQ ii jj ee ss = ((n ≤ 1000) ∧ (.b (marksOk l n lo hi) : D).flat = true ∧ KK (.d (.b (marksOk l n lo hi))) ee ss) := eqo80
theorem c77 : callable Try.prog 77 = true := by kernel_rfl
theorem pf77 (r : Rul) (x : Cal) (n : Int) (h : n ≤ 1000 ∧ r.bases.length ≤ 1000) : PF Try.prog 77 [r.d, .agg x.c, .i n] (fun zz => zz = .ret (.b (callOk r x n))) := by
  refine PF_nil (PF_start (O := O77) Ct77_ok hmix ho77 Try.func77 c77 rfl Try.ntmps77 Try.results77 ?_)
  unfold callOk
  by_cases c1 : inB x.place 0 99 = true
  · by_cases c2 : inB x.elem 0 ((r.bases.length : Int) - 1) = true
    · by_cases c3 : inB x.under 0 2 = true
      · simp (maxSteps := 4000000) +contextual (disch := first | omega | exact qdb_ok (by kernel_rfl) | exact okb_ok (by kernel_rfl)) only [bw1,bw2,bw3,bw4,bw5,bw6,bw7,bc0,bc1,bc2,bc3,bc4,bc5,bc6,bc7,setPs,AV.owns,AV.datF,AV.frz,AV.cpy,ifV,isEqB,nilV,nilX,AV.isNilS,AV.isNoRows,wk,dclo,datOf,binIs,addF,AV.isPtr,idxV,AV.isSl,AV.isSlice,AV.rows,ps,pv,extV,extS,AV.outs,AV.outF,packD,AV.dl,fieldV,fieldS,AV.cells?,AV.upr,AV.menc,AV.one,D.one,Value.oneCell',tagOf,AV.isApp,strV,strS,bolV,bolS,slcV,AV.isSlD,asrtS,AV.dcells,D.cells?,stcV,stcS,leafOk,eqDs,eqD,packA,D.val?,↓reduceIte,reduceCtorEq,Nat.reduceAdd,Nat.reduceSub,Nat.reduceMul,List.reduceReplicate,Nat.reduceLeDiff,Nat.reduceLT,Nat.reduceBEq,Nat.reduceEqDiff,Int.reduceNeg,Int.reduceEq,Int.reduceLE,Int.reduceLT,tfb,D.flat,D.flats,ctz77,x77_44,x77_80,x77_80_m1,c1, c2, c3]
        exact h.1
      · have c3 := Bool.eq_false_iff.2 c3
        simp (maxSteps := 4000000) +contextual (disch := first | omega | exact qdb_ok (by kernel_rfl) | exact okb_ok (by kernel_rfl)) only [bw1,bw2,bw3,bw4,bw5,bw6,bw7,bc0,bc1,bc2,bc3,bc4,bc5,bc6,bc7,setPs,AV.owns,AV.datF,AV.frz,AV.cpy,ifV,isEqB,nilV,nilX,AV.isNilS,AV.isNoRows,wk,dclo,datOf,binIs,addF,AV.isPtr,idxV,AV.isSl,AV.isSlice,AV.rows,ps,pv,extV,extS,AV.outs,AV.outF,packD,AV.dl,fieldV,fieldS,AV.cells?,AV.upr,AV.menc,AV.one,D.one,Value.oneCell',tagOf,AV.isApp,strV,strS,bolV,bolS,slcV,AV.isSlD,asrtS,AV.dcells,D.cells?,stcV,stcS,leafOk,eqDs,eqD,packA,D.val?,↓reduceIte,reduceCtorEq,Nat.reduceAdd,Nat.reduceSub,Nat.reduceMul,List.reduceReplicate,Nat.reduceLeDiff,Nat.reduceLT,Nat.reduceBEq,Nat.reduceEqDiff,Int.reduceNeg,Int.reduceEq,Int.reduceLE,Int.reduceLT,tfb,D.flat,D.flats,ctz77,x77_44,x77_80,x77_80_m1,c1, c2, c3]
        rfl
    · have c2 := Bool.eq_false_iff.2 c2
      simp (maxSteps := 4000000) +contextual (disch := first | omega | exact qdb_ok (by kernel_rfl) | exact okb_ok (by kernel_rfl)) only [bw1,bw2,bw3,bw4,bw5,bw6,bw7,bc0,bc1,bc2,bc3,bc4,bc5,bc6,bc7,setPs,AV.owns,AV.datF,AV.frz,AV.cpy,ifV,isEqB,nilV,nilX,AV.isNilS,AV.isNoRows,wk,dclo,datOf,binIs,addF,AV.isPtr,idxV,AV.isSl,AV.isSlice,AV.rows,ps,pv,extV,extS,AV.outs,AV.outF,packD,AV.dl,fieldV,fieldS,AV.cells?,AV.upr,AV.menc,AV.one,D.one,Value.oneCell',tagOf,AV.isApp,strV,strS,bolV,bolS,slcV,AV.isSlD,asrtS,AV.dcells,D.cells?,stcV,stcS,leafOk,eqDs,eqD,packA,D.val?,↓reduceIte,reduceCtorEq,Nat.reduceAdd,Nat.reduceSub,Nat.reduceMul,List.reduceReplicate,Nat.reduceLeDiff,Nat.reduceLT,Nat.reduceBEq,Nat.reduceEqDiff,Int.reduceNeg,Int.reduceEq,Int.reduceLE,Int.reduceLT,tfb,D.flat,D.flats,ctz77,x77_44,x77_80,x77_80_m1,c1, c2]
      rfl
  · have c1 := Bool.eq_false_iff.2 c1
    simp (maxSteps := 4000000) +contextual (disch := first | omega | exact qdb_ok (by kernel_rfl) | exact okb_ok (by kernel_rfl)) only [bw1,bw2,bw3,bw4,bw5,bw6,bw7,bc0,bc1,bc2,bc3,bc4,bc5,bc6,bc7,setPs,AV.owns,AV.datF,AV.frz,AV.cpy,ifV,isEqB,nilV,nilX,AV.isNilS,AV.isNoRows,wk,dclo,datOf,binIs,addF,AV.isPtr,idxV,AV.isSl,AV.isSlice,AV.rows,ps,pv,extV,extS,AV.outs,AV.outF,packD,AV.dl,fieldV,fieldS,AV.cells?,AV.upr,AV.menc,AV.one,D.one,Value.oneCell',tagOf,AV.isApp,strV,strS,bolV,bolS,slcV,AV.isSlD,asrtS,AV.dcells,D.cells?,stcV,stcS,leafOk,eqDs,eqD,packA,D.val?,↓reduceIte,reduceCtorEq,Nat.reduceAdd,Nat.reduceSub,Nat.reduceMul,List.reduceReplicate,Nat.reduceLeDiff,Nat.reduceLT,Nat.reduceBEq,Nat.reduceEqDiff,Int.reduceNeg,Int.reduceEq,Int.reduceLE,Int.reduceLT,tfb,D.flat,D.flats,ctz77,x77_44,x77_80,x77_80_m1,c1]
    rfl
def ent77 (args : List AV) (K : AV → List AV → Sto → Prop) (e : List AV) (s : Sto) : Prop := ent (α := (Rul) × (Cal) × (Int)) (fun aa => [aa.1.d, .agg aa.2.1.c, .i aa.2.2]) (fun aa => aa.2.2 ≤ 1000 ∧ aa.1.bases.length ≤ 1000) (fun aa => .b (callOk aa.1 aa.2.1 aa.2.2)) args K e s
theorem ent77_ok {args : List AV} {K : AV → List AV → Sto → Prop} {Q : Kt} {e : List AV} {s : Sto} (h : ent77 args K e s) : pcall Try.prog 77 args K Q e s := ent_ok (fun aa h => pf77 aa.1 aa.2.1 aa.2.2 h) h
theorem eq77 {r : Rul} {x : Cal} {n : Int} {KK : AV → List AV → Sto → Prop} {ee : List AV} {ss : Sto} : ent77 [.d (r.d), .d (.agg x.c), .d (.i n)] KK ee ss = ((n ≤ 1000 ∧ r.bases.length ≤ 1000) ∧ KK (.d (.b (callOk r x n))) ee ss) := by
  unfold ent77; rw [ent_iff (r, x, n) (by intro b h; simpa [Prod.ext_iff, and_assoc, Int.ofNat_inj, ints_inj, cals_inj, pcs_inj, skas_inj, scos_inj, ska_inj, rul_inj, sco_inj, cal_inj] using h) rfl]; simp
end Go.Proofs.Ytapglfcaghlpfaa
