/- A part of the proof that the last text ends: what functions of the program do, told by plain data. -/
import Derived.Test.YtohkngiflfkjjaaEc
import Derived.Test.YtohkngiflfkjjaaEX
import Derived.Test.YtohkngiflfkjjaaTFR
set_option linter.unusedVariables false
set_option linter.unusedSimpArgs false
namespace Go.Proofs.Ytohkngiflfkjjaa
open Go Go.E
set_option maxRecDepth 100000
set_option maxHeartbeats 8000000
theorem hmix : Try.prog.follows .mixedOrders = true := by kernel_rfl
/-! ### Plain data -/
abbrev ic (n : Int) : List D := [.i n]
structure Ev where
  day : Int
  kind : Int
  person : Int
  n : Int
  sheet : List Int
  deriving Inhabited, DecidableEq
abbrev Ev.c (x : Ev) : List D := [.i x.day, .i x.kind, .i x.person, .i x.n, .sl 1 (x.sheet.map ic)]
structure Mem where
  person : Int
  club : Int
  ban : Int
  stage : Int
  since : Int
  deriving Inhabited, DecidableEq
abbrev Mem.c (x : Mem) : List D := [.i x.person, .i x.club, .i x.ban, .i x.stage, .i x.since]
theorem ints_inj {a b : List Int} : (a.map ic = b.map ic) = (a = b) := inj_map fun _ _ h => by simpa using h
theorem ic_inj {a b : List Int} (h : a.map ic = b.map ic) : a = b := by rw [ints_inj] at h; exact h
theorem Ev.inj {a b : Ev} (h : a.c = b.c) : a = b := by
  cases a; cases b
  simp only [Ev.c, List.cons.injEq, D.v.injEq, Value.int.injEq, D.sl.injEq, true_and, and_true] at h
  obtain ⟨h1, h2, h3, h4, h5⟩ := h
  simp [h1, h2, h3, h4, ic_inj h5]
theorem evs_inj {a b : List Ev} : (a.map Ev.c = b.map Ev.c) = (a = b) := inj_map fun _ _ h => Ev.inj h
theorem Mem.inj {a b : Mem} (h : a.c = b.c) : a = b := by cases a; cases b; simp at h; simp [h]
theorem mems_inj {a b : List Mem} : (a.map Mem.c = b.map Mem.c) = (a = b) := inj_map fun _ _ h => Mem.inj h
theorem ev_inj {a b : Ev} : (a.day = b.day ∧ a.kind = b.kind ∧ a.person = b.person ∧ a.n = b.n ∧ a.sheet = b.sheet) = (a = b) := by cases a; cases b; simp
theorem mem_inj {a b : Mem} : (a.person = b.person ∧ a.club = b.club ∧ a.ban = b.ban ∧ a.stage = b.stage ∧ a.since = b.since) = (a = b) := by cases a; cases b; simp
theorem at_lt {α : Type} [Inhabited α] {l : List α} {i : Nat} (h : i < l.length) : l.getD i default = l[i] := by simp [List.getD, List.getElem?_eq_getElem h]
def inB (n lo hi : Int) : Bool := decide (lo ≤ n) && decide (n ≤ hi)
theorem inB_iff {n lo hi : Int} : inB n lo hi = true ↔ lo ≤ n ∧ n ≤ hi := by simp [inB]
theorem inB_no {n lo hi : Int} : inB n lo hi = false ↔ ¬ (lo ≤ n ∧ n ≤ hi) := by rw [← inB_iff]; simp
/-- The persons of a sheet, from the i-th one on: each a person's number, and rising. -/
def shN (l : List Int) : Nat → Nat → Bool
  | 0, _ => true
  | k + 1, i => inB (l.getD i default) 0 4095 && (decide (i = 0) || decide (l.getD (i - 1) default < l.getD i default)) && shN l k (i + 1)
def shOk (l : List Int) : Bool := shN l l.length 0 && decide ((l.length : Int) ≤ 20)
def evOk (x : Ev) : Bool := inB x.day 0 16384 && inB x.kind 0 6 && (if x.kind = 6 then decide (x.person = 0) && inB x.n 0 255 && shOk x.sheet
  else inB x.person 0 4095 && decide ((x.sheet.length : Int) = 0) && (if x.kind = 0 then inB x.n 0 255 else if x.kind = 1 then inB x.n 1 20 else decide (x.n = 0)))
def O55 : Nat → Sch := fun id => .done
theorem ho55 : Try.f55.body.map (okO O55) = some true := by kernel_rfl
def Cf55 : Nat → List AV → (AV → List AV → Sto → Prop) → Kt → List AV → Sto → Prop := fun f args K Q e s => match f with
  | _ => False
def Ct55 : CT := { f := Cf55, y := noYld, z := fun d => false }
theorem ctz55 {d : Nat} : CT.z Ct55 d = (false) := id rfl
theorem Ct55_ok : Ct55.ok Try.prog := ok_of_f (fun f args K Q e s h => by
  have h : Cf55 f args K Q e s := h
  unfold Cf55 at h; split at h
  · exact h.elim) (fun _ _ _ _ _ _ _ _ _ h => h)
theorem c55 : callable Try.prog 55 = true := by kernel_rfl
theorem pf55 (n lo hi : Int) : PF Try.prog 55 [.i n, .i lo, .i hi] (fun zz => zz = .ret (.b (inB n lo hi))) := by
  refine PF_nil (PF_start (O := O55) Ct55_ok hmix ho55 Try.func55 c55 rfl Try.ntmps55 Try.results55 ?_)
  by_cases h : lo ≤ n
  · simp (maxSteps := 4000000) +contextual (disch := first | omega | exact qdb_ok (by kernel_rfl) | exact okb_ok (by kernel_rfl)) only [bw1,bw2,bw3,bw4,bw5,bw6,bw7,bc0,bc1,bc2,bc3,bc4,bc5,bc6,bc7,bb0,setPs,AV.owns,AV.datF,AV.frz,AV.cpy,ifV,isEqB,nilV,nilX,AV.isNilS,AV.isNoRows,wk,dclo,datOf,binIs,addF,AV.isPtr,idxV,AV.isSl,AV.isSlice,AV.rows,ps,pv,extV,extS,AV.outs,AV.outF,packD,AV.dl,fieldV,fieldS,AV.cells?,AV.upr,AV.menc,AV.one,D.one,Value.oneCell',tagOf,AV.isApp,strV,strS,bolV,bolS,slcV,AV.isSlD,asrtS,AV.dcells,D.cells?,stcV,stcS,leafOk,eqDs,eqD,packA,D.val?,↓reduceIte,reduceCtorEq,Nat.reduceAdd,Nat.reduceSub,Nat.reduceMul,List.reduceReplicate,Nat.reduceLeDiff,Nat.reduceLT,Nat.reduceBEq,Nat.reduceEqDiff,Int.reduceNeg,Int.reduceEq,Int.reduceLE,Int.reduceLT,tfb,ctz55,h, inB]
  · simp (maxSteps := 4000000) +contextual (disch := first | omega | exact qdb_ok (by kernel_rfl) | exact okb_ok (by kernel_rfl)) only [bw1,bw2,bw3,bw4,bw5,bw6,bw7,bc0,bc1,bc2,bc3,bc4,bc5,bc6,bc7,bb0,setPs,AV.owns,AV.datF,AV.frz,AV.cpy,ifV,isEqB,nilV,nilX,AV.isNilS,AV.isNoRows,wk,dclo,datOf,binIs,addF,AV.isPtr,idxV,AV.isSl,AV.isSlice,AV.rows,ps,pv,extV,extS,AV.outs,AV.outF,packD,AV.dl,fieldV,fieldS,AV.cells?,AV.upr,AV.menc,AV.one,D.one,Value.oneCell',tagOf,AV.isApp,strV,strS,bolV,bolS,slcV,AV.isSlD,asrtS,AV.dcells,D.cells?,stcV,stcS,leafOk,eqDs,eqD,packA,D.val?,↓reduceIte,reduceCtorEq,Nat.reduceAdd,Nat.reduceSub,Nat.reduceMul,List.reduceReplicate,Nat.reduceLeDiff,Nat.reduceLT,Nat.reduceBEq,Nat.reduceEqDiff,Int.reduceNeg,Int.reduceEq,Int.reduceLE,Int.reduceLT,tfb,ctz55,h, inB, Bool.false_and]
def ent55 (args : List AV) (K : AV → List AV → Sto → Prop) (e : List AV) (s : Sto) : Prop := ent (α := (Int) × (Int) × (Int)) (fun aa => [.i aa.1, .i aa.2.1, .i aa.2.2]) (fun aa => True) (fun aa => .b (inB aa.1 aa.2.1 aa.2.2)) args K e s
theorem ent55_ok {args : List AV} {K : AV → List AV → Sto → Prop} {Q : Kt} {e : List AV} {s : Sto} (h : ent55 args K e s) : pcall Try.prog 55 args K Q e s := ent_ok (fun aa h => pf55 aa.1 aa.2.1 aa.2.2) h
theorem eq55 {n : Int} {lo : Int} {hi : Int} {KK : AV → List AV → Sto → Prop} {ee : List AV} {ss : Sto} : ent55 [.d (.i n), .d (.i lo), .d (.i hi)] KK ee ss = (KK (.d (.b (inB n lo hi))) ee ss) := by
  unfold ent55; rw [ent_iff (n, lo, hi) (by intro b h; simpa [Prod.ext_iff, and_assoc, Int.ofNat_inj, ints_inj, evs_inj, mems_inj, ev_inj, mem_inj] using h) rfl]; simp
def O33 : Nat → Sch := fun id => .done
theorem ho33 : Try.f33.body.map (okO O33) = some true := by kernel_rfl
def Cf33 : Nat → List AV → (AV → List AV → Sto → Prop) → Kt → List AV → Sto → Prop := fun f args K Q e s => match f with
  | 55 => ent55 args K e s
  | _ => False
def Ct33 : CT := { f := Cf33, y := noYld, z := fun d => false }
theorem ctz33 {d : Nat} : CT.z Ct33 d = (false) := id rfl
theorem Ct33_ok : Ct33.ok Try.prog := ok_of_f (fun f args K Q e s h => by
  have h : Cf33 f args K Q e s := h
  unfold Cf33 at h; split at h
  · exact ent55_ok h
  · exact h.elim) (fun _ _ _ _ _ _ _ _ _ h => h)
theorem x33_55 {n : Int} {lo : Int} {hi : Int} {KK : AV → List AV → Sto → Prop} {QQ : Kt} {ii : At KK} {jj : At QQ} {ee : List AV} {ss : Sto} : xC Ct33 55 [.d (.i n), .d (.i lo), .d (.i hi)] KK QQ ii jj ee ss = (KK (.d (.b (inB n lo hi))) ee ss) := eq55
theorem c33 : callable Try.prog 33 = true := by kernel_rfl
theorem pf33 (n : Int) : PF Try.prog 33 [.i n] (fun zz => zz = .ret (.b (inB n 0 255))) := by
  refine PF_nil (PF_start (O := O33) Ct33_ok hmix ho33 Try.func33 c33 rfl Try.ntmps33 Try.results33 ?_)
  simp (maxSteps := 4000000) +contextual (disch := first | omega | exact qdb_ok (by kernel_rfl) | exact okb_ok (by kernel_rfl)) only [bw1,bw2,bw3,bw4,bw5,bw6,bw7,bc0,bc1,bc2,bc3,bc4,bc5,bc6,bc7,bb0,setPs,AV.owns,AV.datF,AV.frz,AV.cpy,ifV,isEqB,nilV,nilX,AV.isNilS,AV.isNoRows,wk,dclo,datOf,binIs,addF,AV.isPtr,idxV,AV.isSl,AV.isSlice,AV.rows,ps,pv,extV,extS,AV.outs,AV.outF,packD,AV.dl,fieldV,fieldS,AV.cells?,AV.upr,AV.menc,AV.one,D.one,Value.oneCell',tagOf,AV.isApp,strV,strS,bolV,bolS,slcV,AV.isSlD,asrtS,AV.dcells,D.cells?,stcV,stcS,leafOk,eqDs,eqD,packA,D.val?,↓reduceIte,reduceCtorEq,Nat.reduceAdd,Nat.reduceSub,Nat.reduceMul,List.reduceReplicate,Nat.reduceLeDiff,Nat.reduceLT,Nat.reduceBEq,Nat.reduceEqDiff,Int.reduceNeg,Int.reduceEq,Int.reduceLE,Int.reduceLT,tfb,ctz33,x33_55]
def ent33 (args : List AV) (K : AV → List AV → Sto → Prop) (e : List AV) (s : Sto) : Prop := ent (α := (Int)) (fun aa => [.i aa]) (fun aa => True) (fun aa => .b (inB aa 0 255)) args K e s
theorem ent33_ok {args : List AV} {K : AV → List AV → Sto → Prop} {Q : Kt} {e : List AV} {s : Sto} (h : ent33 args K e s) : pcall Try.prog 33 args K Q e s := ent_ok (fun aa h => pf33 aa) h
theorem eq33 {n : Int} {KK : AV → List AV → Sto → Prop} {ee : List AV} {ss : Sto} : ent33 [.d (.i n)] KK ee ss = (KK (.d (.b (inB n 0 255))) ee ss) := by
  unfold ent33; rw [ent_iff n (by intro b h; simpa [Prod.ext_iff, and_assoc, Int.ofNat_inj, ints_inj, evs_inj, mems_inj, ev_inj, mem_inj] using h) rfl]; simp
def O56 : Nat → Sch := fun id => .done
theorem ho56 : Try.f56.body.map (okO O56) = some true := by kernel_rfl
def Cf56 : Nat → List AV → (AV → List AV → Sto → Prop) → Kt → List AV → Sto → Prop := fun f args K Q e s => match f with
  | 55 => ent55 args K e s
  | _ => False
def Ct56 : CT := { f := Cf56, y := noYld, z := fun d => false }
theorem ctz56 {d : Nat} : CT.z Ct56 d = (false) := id rfl
theorem Ct56_ok : Ct56.ok Try.prog := ok_of_f (fun f args K Q e s h => by
  have h : Cf56 f args K Q e s := h
  unfold Cf56 at h; split at h
  · exact ent55_ok h
  · exact h.elim) (fun _ _ _ _ _ _ _ _ _ h => h)
theorem x56_55 {n : Int} {lo : Int} {hi : Int} {KK : AV → List AV → Sto → Prop} {QQ : Kt} {ii : At KK} {jj : At QQ} {ee : List AV} {ss : Sto} : xC Ct56 55 [.d (.i n), .d (.i lo), .d (.i hi)] KK QQ ii jj ee ss = (KK (.d (.b (inB n lo hi))) ee ss) := eq55
theorem c56 : callable Try.prog 56 = true := by kernel_rfl
theorem pf56 (n : Int) : PF Try.prog 56 [.i n] (fun zz => zz = .ret (.b (inB n 0 16384))) := by
  refine PF_nil (PF_start (O := O56) Ct56_ok hmix ho56 Try.func56 c56 rfl Try.ntmps56 Try.results56 ?_)
  simp (maxSteps := 4000000) +contextual (disch := first | omega | exact qdb_ok (by kernel_rfl) | exact okb_ok (by kernel_rfl)) only [bw1,bw2,bw3,bw4,bw5,bw6,bw7,bc0,bc1,bc2,bc3,bc4,bc5,bc6,bc7,bb0,setPs,AV.owns,AV.datF,AV.frz,AV.cpy,ifV,isEqB,nilV,nilX,AV.isNilS,AV.isNoRows,wk,dclo,datOf,binIs,addF,AV.isPtr,idxV,AV.isSl,AV.isSlice,AV.rows,ps,pv,extV,extS,AV.outs,AV.outF,packD,AV.dl,fieldV,fieldS,AV.cells?,AV.upr,AV.menc,AV.one,D.one,Value.oneCell',tagOf,AV.isApp,strV,strS,bolV,bolS,slcV,AV.isSlD,asrtS,AV.dcells,D.cells?,stcV,stcS,leafOk,eqDs,eqD,packA,D.val?,↓reduceIte,reduceCtorEq,Nat.reduceAdd,Nat.reduceSub,Nat.reduceMul,List.reduceReplicate,Nat.reduceLeDiff,Nat.reduceLT,Nat.reduceBEq,Nat.reduceEqDiff,Int.reduceNeg,Int.reduceEq,Int.reduceLE,Int.reduceLT,tfb,ctz56,x56_55]
def ent56 (args : List AV) (K : AV → List AV → Sto → Prop) (e : List AV) (s : Sto) : Prop := ent (α := (Int)) (fun aa => [.i aa]) (fun aa => True) (fun aa => .b (inB aa 0 16384)) args K e s
theorem ent56_ok {args : List AV} {K : AV → List AV → Sto → Prop} {Q : Kt} {e : List AV} {s : Sto} (h : ent56 args K e s) : pcall Try.prog 56 args K Q e s := ent_ok (fun aa h => pf56 aa) h
theorem eq56 {n : Int} {KK : AV → List AV → Sto → Prop} {ee : List AV} {ss : Sto} : ent56 [.d (.i n)] KK ee ss = (KK (.d (.b (inB n 0 16384))) ee ss) := by
  unfold ent56; rw [ent_iff n (by intro b h; simpa [Prod.ext_iff, and_assoc, Int.ofNat_inj, ints_inj, evs_inj, mems_inj, ev_inj, mem_inj] using h) rfl]; simp
def O70 : Nat → Sch := fun id => .done
theorem ho70 : Try.f70.body.map (okO O70) = some true := by kernel_rfl
def Cf70 : Nat → List AV → (AV → List AV → Sto → Prop) → Kt → List AV → Sto → Prop := fun f args K Q e s => match f with
  | 55 => ent55 args K e s
  | _ => False
def Ct70 : CT := { f := Cf70, y := noYld, z := fun d => false }
theorem ctz70 {d : Nat} : CT.z Ct70 d = (false) := id rfl
theorem Ct70_ok : Ct70.ok Try.prog := ok_of_f (fun f args K Q e s h => by
  have h : Cf70 f args K Q e s := h
  unfold Cf70 at h; split at h
  · exact ent55_ok h
  · exact h.elim) (fun _ _ _ _ _ _ _ _ _ h => h)
theorem x70_55 {n : Int} {lo : Int} {hi : Int} {KK : AV → List AV → Sto → Prop} {QQ : Kt} {ii : At KK} {jj : At QQ} {ee : List AV} {ss : Sto} : xC Ct70 55 [.d (.i n), .d (.i lo), .d (.i hi)] KK QQ ii jj ee ss = (KK (.d (.b (inB n lo hi))) ee ss) := eq55
theorem c70 : callable Try.prog 70 = true := by kernel_rfl
theorem pf70 (n : Int) : PF Try.prog 70 [.i n] (fun zz => zz = .ret (.b (inB n 0 4095))) := by
  refine PF_nil (PF_start (O := O70) Ct70_ok hmix ho70 Try.func70 c70 rfl Try.ntmps70 Try.results70 ?_)
  simp (maxSteps := 4000000) +contextual (disch := first | omega | exact qdb_ok (by kernel_rfl) | exact okb_ok (by kernel_rfl)) only [bw1,bw2,bw3,bw4,bw5,bw6,bw7,bc0,bc1,bc2,bc3,bc4,bc5,bc6,bc7,bb0,setPs,AV.owns,AV.datF,AV.frz,AV.cpy,ifV,isEqB,nilV,nilX,AV.isNilS,AV.isNoRows,wk,dclo,datOf,binIs,addF,AV.isPtr,idxV,AV.isSl,AV.isSlice,AV.rows,ps,pv,extV,extS,AV.outs,AV.outF,packD,AV.dl,fieldV,fieldS,AV.cells?,AV.upr,AV.menc,AV.one,D.one,Value.oneCell',tagOf,AV.isApp,strV,strS,bolV,bolS,slcV,AV.isSlD,asrtS,AV.dcells,D.cells?,stcV,stcS,leafOk,eqDs,eqD,packA,D.val?,↓reduceIte,reduceCtorEq,Nat.reduceAdd,Nat.reduceSub,Nat.reduceMul,List.reduceReplicate,Nat.reduceLeDiff,Nat.reduceLT,Nat.reduceBEq,Nat.reduceEqDiff,Int.reduceNeg,Int.reduceEq,Int.reduceLE,Int.reduceLT,tfb,ctz70,x70_55]
def ent70 (args : List AV) (K : AV → List AV → Sto → Prop) (e : List AV) (s : Sto) : Prop := ent (α := (Int)) (fun aa => [.i aa]) (fun aa => True) (fun aa => .b (inB aa 0 4095)) args K e s
theorem ent70_ok {args : List AV} {K : AV → List AV → Sto → Prop} {Q : Kt} {e : List AV} {s : Sto} (h : ent70 args K e s) : pcall Try.prog 70 args K Q e s := ent_ok (fun aa h => pf70 aa) h
theorem eq70 {n : Int} {KK : AV → List AV → Sto → Prop} {ee : List AV} {ss : Sto} : ent70 [.d (.i n)] KK ee ss = (KK (.d (.b (inB n 0 4095))) ee ss) := by
  unfold ent70; rw [ent_iff n (by intro b h; simpa [Prod.ext_iff, and_assoc, Int.ofNat_inj, ints_inj, evs_inj, mems_inj, ev_inj, mem_inj] using h) rfl]; simp
def O71 : Nat → Sch := fun id => .done
theorem ho71 : Try.f71.body.map (okO O71) = some true := by kernel_rfl
def Cf71 : Nat → List AV → (AV → List AV → Sto → Prop) → Kt → List AV → Sto → Prop := fun f args K Q e s => match f with
  | 70 => ent70 args K e s
  | _ => False
def Ct71 : CT := { f := Cf71, y := noYld, z := fun d => false }
theorem ctz71 {d : Nat} : CT.z Ct71 d = (false) := id rfl
theorem Ct71_ok : Ct71.ok Try.prog := ok_of_f (fun f args K Q e s h => by
  have h : Cf71 f args K Q e s := h
  unfold Cf71 at h; split at h
  · exact ent70_ok h
  · exact h.elim) (fun _ _ _ _ _ _ _ _ _ h => h)
theorem x71_70 {n : Int} {KK : AV → List AV → Sto → Prop} {QQ : Kt} {ii : At KK} {jj : At QQ} {ee : List AV} {ss : Sto} : xC Ct71 70 [.d (.i n)] KK QQ ii jj ee ss = (KK (.d (.b (inB n 0 4095))) ee ss) := eq70
theorem c71 : callable Try.prog 71 = true := by kernel_rfl
theorem pf71 (l : List Int) (h : l.length ≤ 100000) : PF Try.prog 71 [.sl 1 (l.map ic)] (fun zz => zz = .ret (.b (shOk l))) := by
  refine PF_nil (PF_start (O := O71) Ct71_ok hmix ho71 Try.func71 c71 rfl Try.ntmps71 Try.results71 ?_)
  simp (maxSteps := 4000000) +contextual (disch := first | omega | exact qdb_ok (by kernel_rfl) | exact okb_ok (by kernel_rfl)) only [bw1,bw2,bw3,bw4,bw5,bw6,bw7,bc0,bc1,bc2,bc3,bc4,bc5,bc6,bc7,bb0,setPs,AV.owns,AV.datF,AV.frz,AV.cpy,ifV,isEqB,nilV,nilX,AV.isNilS,AV.isNoRows,wk,dclo,datOf,binIs,addF,AV.isPtr,idxV,AV.isSl,AV.isSlice,AV.rows,ps,pv,extV,extS,AV.outs,AV.outF,packD,AV.dl,fieldV,fieldS,AV.cells?,AV.upr,AV.menc,AV.one,D.one,Value.oneCell',tagOf,AV.isApp,strV,strS,bolV,bolS,slcV,AV.isSlD,asrtS,AV.dcells,D.cells?,stcV,stcS,leafOk,eqDs,eqD,packA,D.val?,↓reduceIte,reduceCtorEq,Nat.reduceAdd,Nat.reduceSub,Nat.reduceMul,List.reduceReplicate,Nat.reduceLeDiff,Nat.reduceLT,Nat.reduceBEq,Nat.reduceEqDiff,Int.reduceNeg,Int.reduceEq,Int.reduceLE,Int.reduceLT,tfb,D.flat,D.flats,ctz71,x71_70]
  refine loop_s (O := O71) (tb := 0) Ct71_ok hmix (by kernel_rfl) (σ := Nat) (fun i => [(3, .any), (4, .any), (7, .i i)]) (fun i => i ≤ l.length ∧ shN l (l.length - i) i = shN l l.length 0) (fun i => l.length - i) (fun i => i + 1) 0 ⟨by omega, rfl⟩ ?_ ?_
  · simp (maxSteps := 4000000) +contextual (disch := first | omega | exact qdb_ok (by kernel_rfl) | exact okb_ok (by kernel_rfl)) only [bw1,bw2,bw3,bw4,bw5,bw6,bw7,bc0,bc1,bc2,bc3,bc4,bc5,bc6,bc7,bb0,setPs,AV.owns,AV.datF,AV.frz,AV.cpy,ifV,isEqB,nilV,nilX,AV.isNilS,AV.isNoRows,wk,dclo,datOf,binIs,addF,AV.isPtr,idxV,AV.isSl,AV.isSlice,AV.rows,ps,pv,extV,extS,AV.outs,AV.outF,packD,AV.dl,fieldV,fieldS,AV.cells?,AV.upr,AV.menc,AV.one,D.one,Value.oneCell',tagOf,AV.isApp,strV,strS,bolV,bolS,slcV,AV.isSlD,asrtS,AV.dcells,D.cells?,stcV,stcS,leafOk,eqDs,eqD,packA,D.val?,↓reduceIte,reduceCtorEq,Nat.reduceAdd,Nat.reduceSub,Nat.reduceMul,List.reduceReplicate,Nat.reduceLeDiff,Nat.reduceLT,Nat.reduceBEq,Nat.reduceEqDiff,Int.reduceNeg,Int.reduceEq,Int.reduceLE,Int.reduceLT,tfb,D.flat,D.flats,ctz71,x71_70]
  rintro i ⟨hi, hw⟩
  by_cases hlt : i < l.length
  · have hlt' : (i : Int) < l.length := by omega
    rw [show l.length - i = (l.length - (i + 1)) + 1 by omega, shN] at hw
    by_cases d : inB (l.getD i default) 0 4095 = true
    case neg =>
      have d := Bool.eq_false_iff.2 d
      have hw2 : shOk l = false := by unfold shOk; rw [← hw, d]; simp
      rw [hw2]
      simp (maxSteps := 4000000) +contextual (disch := first | omega | exact qdb_ok (by kernel_rfl) | exact okb_ok (by kernel_rfl)) only [bw1,bw2,bw3,bw4,bw5,bw6,bw7,bc0,bc1,bc2,bc3,bc4,bc5,bc6,bc7,bb0,setPs,AV.owns,AV.datF,AV.frz,AV.cpy,ifV,isEqB,nilV,nilX,AV.isNilS,AV.isNoRows,wk,dclo,datOf,binIs,addF,AV.isPtr,idxV,AV.isSl,AV.isSlice,AV.rows,ps,pv,extV,extS,AV.outs,AV.outF,packD,AV.dl,fieldV,fieldS,AV.cells?,AV.upr,AV.menc,AV.one,D.one,Value.oneCell',tagOf,AV.isApp,strV,strS,bolV,bolS,slcV,AV.isSlD,asrtS,AV.dcells,D.cells?,stcV,stcS,leafOk,eqDs,eqD,packA,D.val?,↓reduceIte,reduceCtorEq,Nat.reduceAdd,Nat.reduceSub,Nat.reduceMul,List.reduceReplicate,Nat.reduceLeDiff,Nat.reduceLT,Nat.reduceBEq,Nat.reduceEqDiff,Int.reduceNeg,Int.reduceEq,Int.reduceLE,Int.reduceLT,tfb,D.flat,D.flats,ctz71,x71_70,eq_self, hlt', d]
      try omega
    rw [d, Bool.true_and] at hw
    by_cases z : i = 0
    · have z' : ¬ (0 : Int) < i := by omega
      rw [decide_eq_true z, Bool.true_or, Bool.true_and] at hw
      simp (maxSteps := 4000000) +contextual (disch := first | omega | exact qdb_ok (by kernel_rfl) | exact okb_ok (by kernel_rfl)) only [bw1,bw2,bw3,bw4,bw5,bw6,bw7,bc0,bc1,bc2,bc3,bc4,bc5,bc6,bc7,bb0,setPs,AV.owns,AV.datF,AV.frz,AV.cpy,ifV,isEqB,nilV,nilX,AV.isNilS,AV.isNoRows,wk,dclo,datOf,binIs,addF,AV.isPtr,idxV,AV.isSl,AV.isSlice,AV.rows,ps,pv,extV,extS,AV.outs,AV.outF,packD,AV.dl,fieldV,fieldS,AV.cells?,AV.upr,AV.menc,AV.one,D.one,Value.oneCell',tagOf,AV.isApp,strV,strS,bolV,bolS,slcV,AV.isSlD,asrtS,AV.dcells,D.cells?,stcV,stcS,leafOk,eqDs,eqD,packA,D.val?,↓reduceIte,reduceCtorEq,Nat.reduceAdd,Nat.reduceSub,Nat.reduceMul,List.reduceReplicate,Nat.reduceLeDiff,Nat.reduceLT,Nat.reduceBEq,Nat.reduceEqDiff,Int.reduceNeg,Int.reduceEq,Int.reduceLE,Int.reduceLT,tfb,D.flat,D.flats,ctz71,x71_70,eq_self, hlt', d, z']
      and_intros <;> first | omega | exact hw
    · have z' : (0 : Int) < i := by omega
      have e1 : (i : Int) - 1 = ((i - 1 : Nat) : Int) := by omega
      rw [decide_eq_false z, Bool.false_or] at hw
      by_cases q : l.getD (i - 1) default < l.getD i default
      · rw [decide_eq_true q, Bool.true_and] at hw
        have q' : ¬ l.getD i default ≤ l.getD (i - 1) default := by omega
        simp (maxSteps := 4000000) +contextual (disch := first | omega | exact qdb_ok (by kernel_rfl) | exact okb_ok (by kernel_rfl)) only [bw1,bw2,bw3,bw4,bw5,bw6,bw7,bc0,bc1,bc2,bc3,bc4,bc5,bc6,bc7,bb0,setPs,AV.owns,AV.datF,AV.frz,AV.cpy,ifV,isEqB,nilV,nilX,AV.isNilS,AV.isNoRows,wk,dclo,datOf,binIs,addF,AV.isPtr,idxV,AV.isSl,AV.isSlice,AV.rows,ps,pv,extV,extS,AV.outs,AV.outF,packD,AV.dl,fieldV,fieldS,AV.cells?,AV.upr,AV.menc,AV.one,D.one,Value.oneCell',tagOf,AV.isApp,strV,strS,bolV,bolS,slcV,AV.isSlD,asrtS,AV.dcells,D.cells?,stcV,stcS,leafOk,eqDs,eqD,packA,D.val?,↓reduceIte,reduceCtorEq,Nat.reduceAdd,Nat.reduceSub,Nat.reduceMul,List.reduceReplicate,Nat.reduceLeDiff,Nat.reduceLT,Nat.reduceBEq,Nat.reduceEqDiff,Int.reduceNeg,Int.reduceEq,Int.reduceLE,Int.reduceLT,tfb,D.flat,D.flats,ctz71,x71_70,eq_self, hlt', d, z', e1, q']
        and_intros <;> first | omega | exact hw
      · have q' : l.getD i default ≤ l.getD (i - 1) default := by omega
        have hw2 : shOk l = false := by unfold shOk; rw [← hw, decide_eq_false q]; simp
        rw [hw2]
        simp (maxSteps := 4000000) +contextual (disch := first | omega | exact qdb_ok (by kernel_rfl) | exact okb_ok (by kernel_rfl)) only [bw1,bw2,bw3,bw4,bw5,bw6,bw7,bc0,bc1,bc2,bc3,bc4,bc5,bc6,bc7,bb0,setPs,AV.owns,AV.datF,AV.frz,AV.cpy,ifV,isEqB,nilV,nilX,AV.isNilS,AV.isNoRows,wk,dclo,datOf,binIs,addF,AV.isPtr,idxV,AV.isSl,AV.isSlice,AV.rows,ps,pv,extV,extS,AV.outs,AV.outF,packD,AV.dl,fieldV,fieldS,AV.cells?,AV.upr,AV.menc,AV.one,D.one,Value.oneCell',tagOf,AV.isApp,strV,strS,bolV,bolS,slcV,AV.isSlD,asrtS,AV.dcells,D.cells?,stcV,stcS,leafOk,eqDs,eqD,packA,D.val?,↓reduceIte,reduceCtorEq,Nat.reduceAdd,Nat.reduceSub,Nat.reduceMul,List.reduceReplicate,Nat.reduceLeDiff,Nat.reduceLT,Nat.reduceBEq,Nat.reduceEqDiff,Int.reduceNeg,Int.reduceEq,Int.reduceLE,Int.reduceLT,tfb,D.flat,D.flats,ctz71,x71_70,eq_self, hlt', d, z', e1, q']
        and_intros <;> omega
  · have hlt' : ¬ (i : Int) < l.length := by omega
    rw [show l.length - i = 0 by omega, shN] at hw
    unfold shOk
    rw [← hw]
    simp (maxSteps := 4000000) +contextual (disch := first | omega | exact qdb_ok (by kernel_rfl) | exact okb_ok (by kernel_rfl)) only [bw1,bw2,bw3,bw4,bw5,bw6,bw7,bc0,bc1,bc2,bc3,bc4,bc5,bc6,bc7,bb0,setPs,AV.owns,AV.datF,AV.frz,AV.cpy,ifV,isEqB,nilV,nilX,AV.isNilS,AV.isNoRows,wk,dclo,datOf,binIs,addF,AV.isPtr,idxV,AV.isSl,AV.isSlice,AV.rows,ps,pv,extV,extS,AV.outs,AV.outF,packD,AV.dl,fieldV,fieldS,AV.cells?,AV.upr,AV.menc,AV.one,D.one,Value.oneCell',tagOf,AV.isApp,strV,strS,bolV,bolS,slcV,AV.isSlD,asrtS,AV.dcells,D.cells?,stcV,stcS,leafOk,eqDs,eqD,packA,D.val?,↓reduceIte,reduceCtorEq,Nat.reduceAdd,Nat.reduceSub,Nat.reduceMul,List.reduceReplicate,Nat.reduceLeDiff,Nat.reduceLT,Nat.reduceBEq,Nat.reduceEqDiff,Int.reduceNeg,Int.reduceEq,Int.reduceLE,Int.reduceLT,tfb,D.flat,D.flats,ctz71,x71_70,eq_self, hlt']
def ent71 (args : List AV) (K : AV → List AV → Sto → Prop) (e : List AV) (s : Sto) : Prop := ent (α := (List Int)) (fun aa => [.sl 1 (aa.map ic)]) (fun aa => aa.length ≤ 100000) (fun aa => .b (shOk aa)) args K e s
theorem ent71_ok {args : List AV} {K : AV → List AV → Sto → Prop} {Q : Kt} {e : List AV} {s : Sto} (h : ent71 args K e s) : pcall Try.prog 71 args K Q e s := ent_ok (fun aa h => pf71 aa h) h
theorem eq71 {l : List Int} {KK : AV → List AV → Sto → Prop} {ee : List AV} {ss : Sto} : ent71 [.d (.sl 1 (l.map ic))] KK ee ss = ((l.length ≤ 100000) ∧ KK (.d (.b (shOk l))) ee ss) := by
  unfold ent71; rw [ent_iff l (by intro b h; simpa [Prod.ext_iff, and_assoc, Int.ofNat_inj, ints_inj, evs_inj, mems_inj, ev_inj, mem_inj] using h) rfl]; simp
theorem eqo71 {l : List Int} {g1 el1 : Nat} {KK : AV → List AV → Sto → Prop} {ee : List AV} {ss : Sto} : ent71 [.own g1 el1 1 (l.map ic)] KK ee ss = ((l.length ≤ 100000) ∧ (.b (shOk l) : D).flat = true ∧ KK (.d (.b (shOk l))) ee ss) := by
  unfold ent71; rw [ent_iff l (by intro b h; simpa [Prod.ext_iff, and_assoc, Int.ofNat_inj, ints_inj, evs_inj, mems_inj, ev_inj, mem_inj] using h) rfl]; simp
end Go.Proofs.Ytohkngiflfkjjaa
