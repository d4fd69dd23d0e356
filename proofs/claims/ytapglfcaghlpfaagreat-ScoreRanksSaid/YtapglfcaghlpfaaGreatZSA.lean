/- A part of the proof that the last text ends: what functions of the program do, told by plain data. -/
import Derived.Test.YtapglfcaghlpfaaGreatEc
import Derived.Test.YtapglfcaghlpfaaGreatEX
import Derived.Test.YtapglfcaghlpfaaGreatTFZ
set_option linter.unusedVariables false
set_option linter.unusedSimpArgs false
namespace Go.Proofs.YtapglfcaghlpfaaGreat
open Go Go.E
set_option maxRecDepth 100000
set_option maxHeartbeats 8000000
theorem hmix : Tryz.prog.follows .mixedOrders = true := by kernel_rfl
abbrev ic (n : Int) : List D := [.i n]
structure Cal where
  place : Int
  elem : Int
  under : Int
  late : Bool
  fall : Bool
  marks : List Int
  deriving Inhabited, DecidableEq
abbrev Cal.c (x : Cal) : List D := [.i x.place, .i x.elem, .i x.under, .b x.late, .b x.fall, .sl 1 (x.marks.map ic)]
abbrev pc (l : List Int) : List D := [.sl 1 (l.map ic)]
structure Ska where
  calls : List Cal
  parts : List (List Int)
  over : Int
  deriving Inhabited, DecidableEq
abbrev Ska.c (s : Ska) : List D := [.sl 6 (s.calls.map Cal.c), .sl 1 (s.parts.map pc), .i s.over]
structure Rul where
  bases : List Int
  factor : Int
  most : Int
  deriving Inhabited, DecidableEq
abbrev Rul.d (r : Rul) : D := .agg [.sl 1 (r.bases.map ic), .i r.factor, .i r.most]
structure Sco where
  elements : Int
  parts : Int
  off : Int
  total : Int
  deriving Inhabited, DecidableEq
abbrev Sco.c (s : Sco) : List D := [.i s.elements, .i s.parts, .i s.off, .i s.total]
theorem ints_inj {a b : List Int} : (a.map ic = b.map ic) = (a = b) := inj_map fun _ _ h => by simpa using h
theorem ic_inj {a b : List Int} (h : a.map ic = b.map ic) : a = b := by rw [ints_inj] at h; exact h
theorem Cal.inj {a b : Cal} (h : a.c = b.c) : a = b := by
  cases a; cases b
  simp only [Cal.c, List.cons.injEq, D.v.injEq, Value.int.injEq, Value.bool.injEq, D.sl.injEq, true_and, and_true] at h
  obtain ⟨h1, h2, h3, h4, h5, h6⟩ := h
  simp [h1, h2, h3, h4, h5, ic_inj h6]
theorem pc_inj {a b : List Int} (h : pc a = pc b) : a = b := by
  simp only [pc, List.cons.injEq, D.sl.injEq, true_and, and_true] at h
  exact ic_inj h
theorem cals_inj {a b : List Cal} : (a.map Cal.c = b.map Cal.c) = (a = b) := inj_map fun _ _ h => Cal.inj h
theorem pcs_inj {a b : List (List Int)} : (a.map pc = b.map pc) = (a = b) := inj_map fun _ _ h => pc_inj h
theorem ska_inj {a b : Ska} : (a.calls = b.calls ∧ a.parts = b.parts ∧ a.over = b.over) = (a = b) := by cases a; cases b; simp
theorem rul_inj {a b : Rul} : (a.bases = b.bases ∧ a.factor = b.factor ∧ a.most = b.most) = (a = b) := by cases a; cases b; simp
theorem sco_inj {a b : Sco} : (a.elements = b.elements ∧ a.parts = b.parts ∧ a.off = b.off ∧ a.total = b.total) = (a = b) := by cases a; cases b; simp
theorem cal_inj {a b : Cal} : (a.place = b.place ∧ a.elem = b.elem ∧ a.under = b.under ∧ a.late = b.late ∧ a.fall = b.fall ∧ a.marks = b.marks) = (a = b) := by cases a; cases b; simp
theorem Ska.inj {a b : Ska} (h : a.c = b.c) : a = b := by
  simp only [Ska.c, List.cons.injEq, D.v.injEq, Value.int.injEq, D.sl.injEq, true_and, and_true] at h
  obtain ⟨h1, h2, h3⟩ := h
  rw [cals_inj] at h1
  rw [pcs_inj] at h2
  rw [← ska_inj]; exact ⟨h1, h2, h3⟩
theorem skas_inj {a b : List Ska} : (a.map Ska.c = b.map Ska.c) = (a = b) := inj_map fun _ _ h => Ska.inj h
theorem Sco.inj {a b : Sco} (h : a.c = b.c) : a = b := by cases a; cases b; simp at h; simp [h]
theorem scos_inj {a b : List Sco} : (a.map Sco.c = b.map Sco.c) = (a = b) := inj_map fun _ _ h => Sco.inj h
theorem at_lt {α : Type} [Inhabited α] {l : List α} {i : Nat} (h : i < l.length) : l.getD i default = l[i] := by simp [List.getD, List.getElem?_eq_getElem h]
def inB (n lo hi : Int) : Bool := decide (lo ≤ n) && decide (n ≤ hi)
theorem inB_iff {n lo hi : Int} : inB n lo hi = true ↔ lo ≤ n ∧ n ≤ hi := by simp [inB]
theorem inB_no {n lo hi : Int} : inB n lo hi = false ↔ ¬ (lo ≤ n ∧ n ≤ hi) := by rw [← inB_iff]; simp
theorem all_yes {α : Type} [Inhabited α] {p : α → Bool} {l : List α} (h : ∀ j, j < l.length → p (l.getD j default) = true) : l.all p = true := by
  rw [List.all_eq_true]
  intro x hx
  obtain ⟨j, hj, rfl⟩ := List.getElem_of_mem hx
  have := h j hj
  rwa [at_lt hj] at this
theorem all_no {α : Type} [Inhabited α] {p : α → Bool} {l : List α} {j : Nat} (hj : j < l.length) (h : p (l.getD j default) = false) : l.all p = false := by
  rw [List.all_eq_false]
  exact ⟨_, List.getElem_mem hj, by rw [← at_lt hj, h]; decide⟩
def allB (l : List Int) (lo hi : Int) : Bool := l.all fun x => inB x lo hi
def marksOk (l : List Int) (n lo hi : Int) : Bool := decide ((l.length : Int) = n) && allB l lo hi
def Rul.ok (r : Rul) : Bool := inB r.bases.length 1 64 && allB r.bases 0 2000 && inB r.factor 0 1000 && inB r.most 1 16
def O23 : Nat → Sch := fun id => .done
theorem ho23 : Tryz.f23.body.map (okO O23) = some true := by kernel_rfl
def Cf23 : Nat → List AV → (AV → List AV → Sto → Prop) → Kt → List AV → Sto → Prop := fun f args K Q e s => match f with
  | _ => False
def Ct23 : CT := { f := Cf23, y := noYld, z := fun d => false }
theorem Ct23_ok : Ct23.ok Tryz.prog := ok_of_f (fun f args K Q e s h => by
  have h : Cf23 f args K Q e s := h
  unfold Cf23 at h; split at h
  · exact h.elim) (fun _ _ _ _ _ _ _ _ _ h => h)
theorem c23 : callable Tryz.prog 23 = true := by kernel_rfl
theorem pf23 (n lo hi : Int) : PF Tryz.prog 23 [.i n, .i lo, .i hi] (fun zz => zz = .ret (.b (inB n lo hi))) := by
  refine PF_nil (PF_start (O := O23) Ct23_ok hmix ho23 Tryz.func23 c23 rfl Tryz.ntmps23 Tryz.results23 ?_)
  simp (maxSteps := 4000000) +contextual (disch := first | omega | exact qdb_ok (by kernel_rfl) | exact okb_ok (by kernel_rfl)) only [bw1,bw2,bw3,bw5,bw6,bw7,bc0,bc1,bc2,bc3,bc4,bc5,bc6,bc7,binIs,AV.outs,AV.outF,packD,↓reduceIte,Nat.reduceAdd,Nat.reduceSub,List.reduceReplicate,tfb]
  unfold inB
  try simp_all
def ent23 (args : List AV) (K : AV → List AV → Sto → Prop) (e : List AV) (s : Sto) : Prop := ent (α := (Int) × (Int) × (Int)) (fun aa => [.i aa.1, .i aa.2.1, .i aa.2.2]) (fun aa => True) (fun aa => .b (inB aa.1 aa.2.1 aa.2.2)) args K e s
theorem ent23_ok {args : List AV} {K : AV → List AV → Sto → Prop} {Q : Kt} {e : List AV} {s : Sto} (h : ent23 args K e s) : pcall Tryz.prog 23 args K Q e s := ent_ok (fun aa h => pf23 aa.1 aa.2.1 aa.2.2) h
theorem eq23 {n : Int} {lo : Int} {hi : Int} {KK : AV → List AV → Sto → Prop} {ee : List AV} {ss : Sto} : ent23 [.d (.i n), .d (.i lo), .d (.i hi)] KK ee ss = (KK (.d (.b (inB n lo hi))) ee ss) := by
  unfold ent23; rw [ent_iff (n, lo, hi) (by intro b h; simpa [Prod.ext_iff, and_assoc, Int.ofNat_inj, ints_inj, cals_inj, pcs_inj, skas_inj, scos_inj, ska_inj, rul_inj, sco_inj, cal_inj] using h) rfl]; simp
def O26 : Nat → Sch := fun id => .done
theorem ho26 : Tryz.f26.body.map (okO O26) = some true := by kernel_rfl
def Cf26 : Nat → List AV → (AV → List AV → Sto → Prop) → Kt → List AV → Sto → Prop := fun f args K Q e s => match f with
  | _ => False
def Ct26 : CT := { f := Cf26, y := noYld, z := fun d => false }
theorem Ct26_ok : Ct26.ok Tryz.prog := ok_of_f (fun f args K Q e s h => by
  have h : Cf26 f args K Q e s := h
  unfold Cf26 at h; split at h
  · exact h.elim) (fun _ _ _ _ _ _ _ _ _ h => h)
theorem c26 : callable Tryz.prog 26 = true := by kernel_rfl
theorem pf26 (n lo hi : Int) : PF Tryz.prog 26 [.i n, .i lo, .i hi] (fun zz => zz = .ret (.b (inB n lo hi))) := by
  refine PF_nil (PF_start (O := O26) Ct26_ok hmix ho26 Tryz.func26 c26 rfl Tryz.ntmps26 Tryz.results26 ?_)
  by_cases h : lo ≤ n
  · simp (maxSteps := 4000000) +contextual (disch := first | omega | exact qdb_ok (by kernel_rfl) | exact okb_ok (by kernel_rfl)) only [bw1,bw2,bw3,bw5,bw6,bw7,bc0,bc1,bc2,bc3,bc4,bc5,bc6,binIs,AV.outs,AV.outF,packD,↓reduceIte,Nat.reduceAdd,Nat.reduceSub,List.reduceReplicate,tfb,h, inB]
  · simp (maxSteps := 4000000) +contextual (disch := first | omega | exact qdb_ok (by kernel_rfl) | exact okb_ok (by kernel_rfl)) only [bw1,bw2,bw3,bw5,bw6,bw7,bc0,bc1,bc2,bc3,bc4,bc5,bc6,binIs,AV.outs,AV.outF,packD,↓reduceIte,Nat.reduceAdd,Nat.reduceSub,List.reduceReplicate,tfb,h, inB, Bool.false_and]
def ent26 (args : List AV) (K : AV → List AV → Sto → Prop) (e : List AV) (s : Sto) : Prop := ent (α := (Int) × (Int) × (Int)) (fun aa => [.i aa.1, .i aa.2.1, .i aa.2.2]) (fun aa => True) (fun aa => .b (inB aa.1 aa.2.1 aa.2.2)) args K e s
theorem ent26_ok {args : List AV} {K : AV → List AV → Sto → Prop} {Q : Kt} {e : List AV} {s : Sto} (h : ent26 args K e s) : pcall Tryz.prog 26 args K Q e s := ent_ok (fun aa h => pf26 aa.1 aa.2.1 aa.2.2) h
theorem eq26 {n : Int} {lo : Int} {hi : Int} {KK : AV → List AV → Sto → Prop} {ee : List AV} {ss : Sto} : ent26 [.d (.i n), .d (.i lo), .d (.i hi)] KK ee ss = (KK (.d (.b (inB n lo hi))) ee ss) := by
  unfold ent26; rw [ent_iff (n, lo, hi) (by intro b h; simpa [Prod.ext_iff, and_assoc, Int.ofNat_inj, ints_inj, cals_inj, pcs_inj, skas_inj, scos_inj, ska_inj, rul_inj, sco_inj, cal_inj] using h) rfl]; simp
def O75 : Nat → Sch := fun id => .done
theorem ho75 : Tryz.f75.body.map (okO O75) = some true := by kernel_rfl
def Cf75 : Nat → List AV → (AV → List AV → Sto → Prop) → Kt → List AV → Sto → Prop := fun f args K Q e s => match f with
  | 23 => ent23 args K e s
  | _ => False
def Ct75 : CT := { f := Cf75, y := noYld, z := fun d => false }
theorem Ct75_ok : Ct75.ok Tryz.prog := ok_of_f (fun f args K Q e s h => by
  have h : Cf75 f args K Q e s := h
  unfold Cf75 at h; split at h
  · exact ent23_ok h
  · exact h.elim) (fun _ _ _ _ _ _ _ _ _ h => h)
theorem x75_23 {n : Int} {lo : Int} {hi : Int} {KK : AV → List AV → Sto → Prop} {QQ : Kt} {ii : At KK} {jj : At QQ} {ee : List AV} {ss : Sto} : xC Ct75 23 [.d (.i n), .d (.i lo), .d (.i hi)] KK QQ ii jj ee ss = (KK (.d (.b (inB n lo hi))) ee ss) := eq23
theorem c75 : callable Tryz.prog 75 = true := by kernel_rfl
theorem pf75 (n : Int) : PF Tryz.prog 75 [.i n] (fun zz => zz = .ret (.b (!inB n 0 2000))) := by
  refine PF_nil (PF_start (O := O75) Ct75_ok hmix ho75 Tryz.func75 c75 rfl Tryz.ntmps75 Tryz.results75 ?_)
  simp (maxSteps := 4000000) +contextual (disch := first | omega | exact qdb_ok (by kernel_rfl) | exact okb_ok (by kernel_rfl)) only [bw1,bw2,bw3,bw5,bw6,bc1,bc2,bc3,bc4,bc5,AV.outs,AV.outF,packD,↓reduceIte,Nat.reduceSub,List.reduceReplicate,x75_23]
def ent75 (args : List AV) (K : AV → List AV → Sto → Prop) (e : List AV) (s : Sto) : Prop := ent (α := (Int)) (fun aa => [.i aa]) (fun aa => True) (fun aa => .b (!inB aa 0 2000)) args K e s
theorem ent75_ok {args : List AV} {K : AV → List AV → Sto → Prop} {Q : Kt} {e : List AV} {s : Sto} (h : ent75 args K e s) : pcall Tryz.prog 75 args K Q e s := ent_ok (fun aa h => pf75 aa) h
theorem eq75 {n : Int} {KK : AV → List AV → Sto → Prop} {ee : List AV} {ss : Sto} : ent75 [.d (.i n)] KK ee ss = (KK (.d (.b (!inB n 0 2000))) ee ss) := by
  unfold ent75; rw [ent_iff n (by intro b h; simpa [Prod.ext_iff, and_assoc, Int.ofNat_inj, ints_inj, cals_inj, pcs_inj, skas_inj, scos_inj, ska_inj, rul_inj, sco_inj, cal_inj] using h) rfl]; simp
def O93 : Nat → Sch := fun id => .done
theorem ho93 : Tryz.f93.body.map (okO O93) = some true := by kernel_rfl
def Cf93 : Nat → List AV → (AV → List AV → Sto → Prop) → Kt → List AV → Sto → Prop := fun f args K Q e s => match f with
  | 23 => ent23 args K e s
  | _ => False
def Ct93 : CT := { f := Cf93, y := noYld, z := fun d => false }
theorem Ct93_ok : Ct93.ok Tryz.prog := ok_of_f (fun f args K Q e s h => by
  have h : Cf93 f args K Q e s := h
  unfold Cf93 at h; split at h
  · exact ent23_ok h
  · exact h.elim) (fun _ _ _ _ _ _ _ _ _ h => h)
theorem x93_23 {n : Int} {lo : Int} {hi : Int} {KK : AV → List AV → Sto → Prop} {QQ : Kt} {ii : At KK} {jj : At QQ} {ee : List AV} {ss : Sto} : xC Ct93 23 [.d (.i n), .d (.i lo), .d (.i hi)] KK QQ ii jj ee ss = (KK (.d (.b (inB n lo hi))) ee ss) := eq23
theorem c93 : callable Tryz.prog 93 = true := by kernel_rfl
theorem pf93 (n lo hi : Int) : PF Tryz.prog 93 [.i n, .ptr [.i lo] 0, .ptr [.i hi] 0] (fun zz => zz = .ret (.b (!inB n lo hi))) := by
  refine PF_nil (PF_start (O := O93) Ct93_ok hmix ho93 Tryz.func93 c93 rfl Tryz.ntmps93 Tryz.results93 ?_)
  simp (maxSteps := 4000000) +contextual (disch := first | omega | exact qdb_ok (by kernel_rfl) | exact okb_ok (by kernel_rfl)) only [bw1,bw2,bw3,bw5,bw6,bc1,bc2,bc3,bc4,bc5,AV.outs,AV.outF,packD,↓reduceIte,Nat.reduceAdd,Nat.reduceSub,List.reduceReplicate,Nat.reduceLeDiff,tfb,x93_23]
def ent93 (o : Option (List D)) (K : AV → List AV → Sto → Prop) (i : At K) (e : List AV) (s : Sto) : Prop := entS (α := (Int) × (Int) × (Int)) (fun aa => [.i aa.1, .ptr [.i aa.2.1] 0, .ptr [.i aa.2.2] 0]) (fun aa => True) (fun aa => .b (!inB aa.1 aa.2.1 aa.2.2)) o K i e s
theorem ent93_ok {args : List AV} {K : AV → List AV → Sto → Prop} {Q : Kt} {e : List AV} {s : Sto} (h : ent93 (AV.outs s args) K (mk _) e s) : pcall Tryz.prog 93 args K Q e s := entS_ok (fun aa h => pf93 aa.1 aa.2.1 aa.2.2) h
theorem eq93 {n : Int} {lo : Int} {hi : Int} {KK : AV → List AV → Sto → Prop} {ii : At KK} {ee : List AV} {ss : Sto} : ent93 (some [.i n, .ptr [.i lo] 0, .ptr [.i hi] 0]) KK ii ee ss = ((.b (!inB n lo hi) : D).flat = true ∧ KK (.d (.b (!inB n lo hi))) ee ss) := by
  unfold ent93; rw [entS_iff (n, lo, hi) (by intro b h; simpa [Prod.ext_iff, and_assoc, Int.ofNat_inj, ints_inj, cals_inj, pcs_inj, skas_inj, scos_inj, ska_inj, rul_inj, sco_inj, cal_inj] using h)] <;> simp
def O91 : Nat → Sch := fun id => .done
theorem ho91 : Tryz.f91.body.map (okO O91) = some true := by kernel_rfl
def Cf91 : Nat → List AV → (AV → List AV → Sto → Prop) → Kt → List AV → Sto → Prop := fun f args K Q e s => match f with
  | 75 => ent75 args K e s
  | 93 => ent93 (AV.outs s args) K (mk _) e s
  | _ => False
def Ct91 : CT := { f := Cf91, y := noYld, z := fun d => false }
theorem Ct91_ok : Ct91.ok Tryz.prog := ok_of_f (fun f args K Q e s h => by
  have h : Cf91 f args K Q e s := h
  unfold Cf91 at h; split at h
  · exact ent75_ok h
  · exact ent93_ok h
  · exact h.elim) (fun _ _ _ _ _ _ _ _ _ h => h)
theorem x91_75 {n : Int} {KK : AV → List AV → Sto → Prop} {QQ : Kt} {ii : At KK} {jj : At QQ} {ee : List AV} {ss : Sto} : xC Ct91 75 [.d (.i n)] KK QQ ii jj ee ss = (KK (.d (.b (!inB n 0 2000))) ee ss) := eq75
theorem x91_93 {args : List AV} {KK : AV → List AV → Sto → Prop} {QQ : Kt} {ii : At KK} {jj : At QQ} {ee : List AV} {ss : Sto} : xC Ct91 93 args KK QQ ii jj ee ss = ent93 (AV.outs ss args) KK (mk _) ee ss := id rfl
theorem c91 : callable Tryz.prog 91 = true := by kernel_rfl
def O76 : Nat → Sch := fun id => .done
theorem ho76 : Tryz.f76.body.map (okO O76) = some true := by kernel_rfl
def Cf76 : Nat → List AV → (AV → List AV → Sto → Prop) → Kt → List AV → Sto → Prop := fun f args K Q e s => match f with
  | 91 => inlE Tryz.prog Ct91 O91 91000 91 args K Q e s
  | _ => False
def Ct76 : CT := { f := Cf76, y := noYld, z := fun d => false }
theorem Ct76_ok : Ct76.ok Tryz.prog := ok_of_f (fun f args K Q e s h => by
  have h : Cf76 f args K Q e s := h
  unfold Cf76 at h; split at h
  · exact inlE_ok Ct91_ok hmix ho91 h
  · exact h.elim) (fun _ _ _ _ _ _ _ _ _ h => h)
theorem z76_91 : type_of% (@xinl Tryz.prog Ct76 Ct91 O91 91000 91 _ _ _ _ rfl c91 Tryz.func91 rfl Tryz.ntmps91 Tryz.results91) := @xinl Tryz.prog Ct76 Ct91 O91 91000 91 _ _ _ _ rfl c91 Tryz.func91 rfl Tryz.ntmps91 Tryz.results91
theorem c76 : callable Tryz.prog 76 = true := by kernel_rfl
def O80 : Nat → Sch := fun id => .done
theorem ho80 : Tryz.f80.body.map (okO O80) = some true := by kernel_rfl
def Cf80 : Nat → List AV → (AV → List AV → Sto → Prop) → Kt → List AV → Sto → Prop := fun f args K Q e s => match f with
  | 76 => inlE Tryz.prog Ct76 O76 76000 76 args K Q e s
  | _ => False
def Ct80 : CT := { f := Cf80, y := noYld, z := fun d => false }
theorem Ct80_ok : Ct80.ok Tryz.prog := ok_of_f (fun f args K Q e s h => by
  have h : Cf80 f args K Q e s := h
  unfold Cf80 at h; split at h
  · exact inlE_ok Ct76_ok hmix ho76 h
  · exact h.elim) (fun _ _ _ _ _ _ _ _ _ h => h)
theorem z80_76 : type_of% (@xinl Tryz.prog Ct80 Ct76 O76 76000 76 _ _ _ _ rfl c76 Tryz.func76 rfl Tryz.ntmps76 Tryz.results76) := @xinl Tryz.prog Ct80 Ct76 O76 76000 76 _ _ _ _ rfl c76 Tryz.func76 rfl Tryz.ntmps76 Tryz.results76
theorem c80 : callable Tryz.prog 80 = true := by kernel_rfl
theorem pf80 (l : List Int) (n lo hi : Int) (h : n ≤ 1000) : PF Tryz.prog 80 [.sl 1 (l.map ic), .i n, .i lo, .i hi] (fun zz => zz = .ret (.b (marksOk l n lo hi))) := by
  by_cases c : (l.length : Int) = n
  case neg =>
    have c' : ((l.length : Int) == n) = false := by simpa using c
    have hw : marksOk l n lo hi = false := by unfold marksOk; rw [decide_eq_false c]; rfl
    rw [hw]
    refine PF_nil (PF_start (O := O80) Ct80_ok hmix ho80 Tryz.func80 c80 rfl Tryz.ntmps80 Tryz.results80 ?_)
    simp (maxSteps := 4000000) +contextual (disch := first | omega | exact qdb_ok (by kernel_rfl) | exact okb_ok (by kernel_rfl)) only [bw1,bw2,bw3,bw4,bw5,bw6,bw7,bc0,bc1,bc2,bc3,bc4,bc5,bc6,binIs,AV.isSlice,AV.rows,AV.outs,AV.outF,packD,AV.cells?,Value.oneCell',↓reduceIte,reduceCtorEq,Nat.reduceAdd,Nat.reduceSub,List.reduceReplicate,Nat.reduceLT,Nat.reduceBEq,Nat.reduceEqDiff,tfb,c']
  have c' : ((l.length : Int) == n) = true := by simpa using c
  have hw : marksOk l n lo hi = allB l lo hi := by unfold marksOk; rw [decide_eq_true c]; rfl
  rw [hw]
  refine PF_nil (PF_start (O := O80) Ct80_ok hmix ho80 Tryz.func80 c80 rfl Tryz.ntmps80 Tryz.results80 ?_)
  simp (maxSteps := 4000000) +contextual (disch := first | omega | exact qdb_ok (by kernel_rfl) | exact okb_ok (by kernel_rfl)) only [bw1,bw2,bw3,bw4,bw5,bw6,bc0,bc1,bc3,bc4,bc5,bc6,binIs,AV.isSlice,AV.rows,AV.dl,AV.cells?,Value.oneCell',↓reduceIte,reduceCtorEq,Nat.reduceAdd,Nat.reduceSub,List.reduceReplicate,Nat.reduceLT,Nat.reduceBEq,Nat.reduceEqDiff,Int.reduceNeg,tfb,z80_76,z76_91,c']
  refine loop_s (O := O91) (tb := 91000) Ct91_ok hmix (by kernel_rfl) (σ := Nat) (fun i => [(8, .i i)]) (fun i => i ≤ l.length ∧ ∀ j, j < i → inB (l.getD j default) lo hi = true) (fun i => l.length - i) (fun i => i + 1) 0 ⟨by omega, fun j h => by omega⟩ ?_ ?_
  · simp (maxSteps := 4000000) +contextual (disch := first | omega | exact qdb_ok (by kernel_rfl) | exact okb_ok (by kernel_rfl)) only [bw4,bw6,bc0,bc5,bc6,AV.isNilS,AV.isNoRows,wk,reduceCtorEq]
  rintro i ⟨hi0, hf⟩
  by_cases hlt : i < l.length
  · have hlt' : (i : Int) < l.length := by omega
    by_cases d : inB (l.getD i default) lo hi = true
    · simp (maxSteps := 4000000) +contextual (disch := first | omega | exact qdb_ok (by kernel_rfl) | exact okb_ok (by kernel_rfl)) only [bw1,bw2,bw3,bw4,bw5,bw6,bw7,bc0,bc1,bc2,bc3,bc4,bc5,bc6,AV.isNilS,AV.isNoRows,wk,binIs,idxV,AV.isSl,AV.rows,ps,pv,AV.outs,AV.outF,AV.one,D.one,Value.oneCell',↓reduceIte,reduceCtorEq,Nat.reduceLeDiff,Nat.reduceEqDiff,Int.reduceNeg,tfb,D.flat,x91_93,eq93,eq_self, hlt', d]
      refine ⟨by omega, ⟨by omega, fun j hj => ?_⟩, by omega⟩
      rcases Nat.lt_or_ge j i with h1 | h1
      · exact hf j h1
      · rw [show j = i by omega]; exact d
    · have d' := Bool.eq_false_iff.2 d
      have ha : allB l lo hi = false := all_no hlt d'
      simp (maxSteps := 4000000) +contextual (disch := first | omega | exact qdb_ok (by kernel_rfl) | exact okb_ok (by kernel_rfl)) only [bw1,bw2,bw3,bw4,bw5,bw6,bw7,bc0,bc1,bc2,bc3,bc4,bc5,bc6,bc7,binIs,idxV,AV.isSl,AV.rows,ps,pv,AV.outs,AV.outF,packD,AV.one,D.one,Value.oneCell',packA,↓reduceIte,reduceCtorEq,Nat.reduceAdd,Nat.reduceLeDiff,Nat.reduceEqDiff,Int.reduceNeg,tfb,D.flat,x91_93,eq93,eq_self, hlt', d', ha]
      and_intros <;> first | omega | simp
  · have hlt' : ¬ (i : Int) < l.length := by omega
    have ha : allB l lo hi = true := all_yes fun j hj => hf j (by omega)
    simp (maxSteps := 4000000) +contextual (disch := first | omega | exact qdb_ok (by kernel_rfl) | exact okb_ok (by kernel_rfl)) only [bw1,bw2,bw3,bw5,bw6,bw7,bc0,bc1,bc2,bc3,bc4,bc5,bc6,binIs,AV.outs,AV.outF,packD,packA,↓reduceIte,Nat.reduceAdd,Int.reduceNeg,Int.reduceLE,tfb,eq_self, hlt', ha]
def ent80 (args : List AV) (K : AV → List AV → Sto → Prop) (e : List AV) (s : Sto) : Prop := ent (α := (List Int) × (Int) × (Int) × (Int)) (fun aa => [.sl 1 (aa.1.map ic), .i aa.2.1, .i aa.2.2.1, .i aa.2.2.2]) (fun aa => aa.2.1 ≤ 1000) (fun aa => .b (marksOk aa.1 aa.2.1 aa.2.2.1 aa.2.2.2)) args K e s
theorem ent80_ok {args : List AV} {K : AV → List AV → Sto → Prop} {Q : Kt} {e : List AV} {s : Sto} (h : ent80 args K e s) : pcall Tryz.prog 80 args K Q e s := ent_ok (fun aa h => pf80 aa.1 aa.2.1 aa.2.2.1 aa.2.2.2 h) h
theorem eq80 {l : List Int} {n : Int} {lo : Int} {hi : Int} {KK : AV → List AV → Sto → Prop} {ee : List AV} {ss : Sto} : ent80 [.d (.sl 1 (l.map ic)), .d (.i n), .d (.i lo), .d (.i hi)] KK ee ss = ((n ≤ 1000) ∧ KK (.d (.b (marksOk l n lo hi))) ee ss) := by
  unfold ent80; rw [ent_iff (l, n, lo, hi) (by intro b h; simpa [Prod.ext_iff, and_assoc, Int.ofNat_inj, ints_inj, cals_inj, pcs_inj, skas_inj, scos_inj, ska_inj, rul_inj, sco_inj, cal_inj] using h) rfl]; simp
def O41 : Nat → Sch := fun id => .done
theorem ho41 : Tryz.f41.body.map (okO O41) = some true := by kernel_rfl
def Cf41 : Nat → List AV → (AV → List AV → Sto → Prop) → Kt → List AV → Sto → Prop := fun f args K Q e s => match f with
  | 23 => ent23 args K e s
  | 75 => ent75 args K e s
  | 76 => inlE Tryz.prog Ct76 O76 76000 76 args K Q e s
  | _ => False
def Ct41 : CT := { f := Cf41, y := noYld, z := fun d => false }
theorem Ct41_ok : Ct41.ok Tryz.prog := ok_of_f (fun f args K Q e s h => by
  have h : Cf41 f args K Q e s := h
  unfold Cf41 at h; split at h
  · exact ent23_ok h
  · exact ent75_ok h
  · exact inlE_ok Ct76_ok hmix ho76 h
  · exact h.elim) (fun _ _ _ _ _ _ _ _ _ h => h)
theorem x41_23 {n : Int} {lo : Int} {hi : Int} {KK : AV → List AV → Sto → Prop} {QQ : Kt} {ii : At KK} {jj : At QQ} {ee : List AV} {ss : Sto} : xC Ct41 23 [.d (.i n), .d (.i lo), .d (.i hi)] KK QQ ii jj ee ss = (KK (.d (.b (inB n lo hi))) ee ss) := eq23
theorem z41_76 : type_of% (@xinl Tryz.prog Ct41 Ct76 O76 76000 76 _ _ _ _ rfl c76 Tryz.func76 rfl Tryz.ntmps76 Tryz.results76) := @xinl Tryz.prog Ct41 Ct76 O76 76000 76 _ _ _ _ rfl c76 Tryz.func76 rfl Tryz.ntmps76 Tryz.results76
theorem c41 : callable Tryz.prog 41 = true := by kernel_rfl
theorem pf41 (r : Rul) : PF Tryz.prog 41 [r.d] (fun zz => zz = .ret (.b r.ok)) := by
  by_cases c : inB (r.bases.length : Int) 1 64 = true
  case neg =>
    have hw : r.ok = false := by unfold Rul.ok; rw [Bool.eq_false_iff.2 c]; rfl
    rw [hw]
    refine PF_nil (PF_start (O := O41) Ct41_ok hmix ho41 Tryz.func41 c41 rfl Tryz.ntmps41 Tryz.results41 ?_)
    simp (maxSteps := 4000000) +contextual (disch := first | omega | exact qdb_ok (by kernel_rfl) | exact okb_ok (by kernel_rfl)) only [bw1,bw2,bw3,bw4,bw5,bw6,bw7,bc0,bc2,bc3,bc4,bc5,bc6,addF,AV.isPtr,AV.isSlice,AV.rows,AV.outs,AV.outF,packD,AV.cells?,↓reduceIte,reduceCtorEq,Nat.reduceAdd,Nat.reduceSub,List.reduceReplicate,Nat.reduceLeDiff,Nat.reduceLT,tfb,x41_23,c]
  have hl := inB_iff.1 c
  have hw : r.ok = (allB r.bases 0 2000 && (inB r.factor 0 1000 && inB r.most 1 16)) := by unfold Rul.ok; rw [c, Bool.true_and, Bool.and_assoc]
  rw [hw]
  refine PF_nil (PF_start (O := O41) Ct41_ok hmix ho41 Tryz.func41 c41 rfl Tryz.ntmps41 Tryz.results41 ?_)
  simp (maxSteps := 4000000) +contextual (disch := first | omega | exact qdb_ok (by kernel_rfl) | exact okb_ok (by kernel_rfl)) only [bw1,bw2,bw3,bw4,bw5,bw6,bc0,bc2,bc3,bc4,bc5,bc6,addF,AV.isPtr,AV.isSlice,AV.rows,AV.cells?,↓reduceIte,reduceCtorEq,Nat.reduceAdd,Nat.reduceSub,List.reduceReplicate,Nat.reduceLeDiff,Nat.reduceLT,Int.reduceNeg,tfb,x41_23,z41_76,z76_91,c]
  refine loop_s (O := O91) (tb := 91000) Ct91_ok hmix (by kernel_rfl) (σ := Nat) (fun i => [(8, .i i)]) (fun i => i ≤ r.bases.length ∧ ∀ j, j < i → inB (r.bases.getD j default) 0 2000 = true) (fun i => r.bases.length - i) (fun i => i + 1) 0 ⟨by omega, fun j h => by omega⟩ ?_ ?_
  · simp (maxSteps := 4000000) +contextual (disch := first | omega | exact qdb_ok (by kernel_rfl) | exact okb_ok (by kernel_rfl)) only [bw4,bw6,bc0,bc5,bc6,AV.isNilS,AV.isNoRows,wk,reduceCtorEq]
  rintro i ⟨hi0, hf⟩
  by_cases hlt : i < r.bases.length
  · have hlt' : (i : Int) < r.bases.length := by omega
    by_cases d : inB (r.bases.getD i default) 0 2000 = true
    · simp (maxSteps := 4000000) +contextual (disch := first | omega | exact qdb_ok (by kernel_rfl) | exact okb_ok (by kernel_rfl)) only [bw1,bw2,bw4,bw5,bw6,bw7,bc0,bc1,bc2,bc3,bc4,bc5,bc6,AV.isNilS,AV.isNoRows,wk,binIs,idxV,AV.isSl,AV.rows,ps,pv,↓reduceIte,reduceCtorEq,Nat.reduceLeDiff,Int.reduceNeg,tfb,x91_75,eq_self, hlt', d]
      refine ⟨by omega, ⟨by omega, fun j hj => ?_⟩, by omega⟩
      rcases Nat.lt_or_ge j i with h1 | h1
      · exact hf j h1
      · rw [show j = i by omega]; exact d
    · have d' := Bool.eq_false_iff.2 d
      have ha : allB r.bases 0 2000 = false := all_no hlt d'
      have hge : decide (0 ≤ (i : Int)) = true := decide_eq_true (by omega)
      simp (maxSteps := 4000000) +contextual (disch := first | omega | exact qdb_ok (by kernel_rfl) | exact okb_ok (by kernel_rfl)) only [bw1,bw2,bw3,bw4,bw5,bw6,bw7,bc0,bc1,bc2,bc3,bc4,bc5,bc6,bc7,binIs,idxV,AV.isSl,AV.rows,ps,pv,AV.outs,AV.outF,packD,packA,↓reduceIte,Nat.reduceAdd,Nat.reduceLeDiff,Int.reduceNeg,tfb,x91_75,eq_self, hlt', d', ha, hge]
      exact ⟨by omega, rfl⟩
  · have hlt' : ¬ (i : Int) < r.bases.length := by omega
    have ha : allB r.bases 0 2000 = true := all_yes fun j hj => hf j (by omega)
    by_cases e1 : inB r.factor 0 1000 = true
    · simp (maxSteps := 4000000) +contextual (disch := first | omega | exact qdb_ok (by kernel_rfl) | exact okb_ok (by kernel_rfl)) only [bw1,bw2,bw3,bw5,bw6,bw7,bc0,bc1,bc2,bc3,bc4,bc5,bc6,binIs,addF,AV.isPtr,AV.outs,AV.outF,packD,packA,↓reduceIte,reduceCtorEq,Nat.reduceAdd,Nat.reduceLeDiff,Int.reduceNeg,Int.reduceLE,tfb,x41_23,eq_self, hlt', ha, e1]
    · have e1 := Bool.eq_false_iff.2 e1
      simp (maxSteps := 4000000) +contextual (disch := first | omega | exact qdb_ok (by kernel_rfl) | exact okb_ok (by kernel_rfl)) only [bw1,bw2,bw3,bw5,bw6,bw7,bc0,bc1,bc2,bc3,bc4,bc5,bc6,bc7,binIs,addF,AV.isPtr,AV.outs,AV.outF,packD,packA,↓reduceIte,reduceCtorEq,Nat.reduceAdd,Nat.reduceLeDiff,Int.reduceNeg,Int.reduceLE,tfb,x41_23,eq_self, hlt', ha, e1]
      rfl
def ent41 (args : List AV) (K : AV → List AV → Sto → Prop) (e : List AV) (s : Sto) : Prop := ent (α := (Rul)) (fun aa => [aa.d]) (fun aa => True) (fun aa => .b aa.ok) args K e s
theorem ent41_ok {args : List AV} {K : AV → List AV → Sto → Prop} {Q : Kt} {e : List AV} {s : Sto} (h : ent41 args K e s) : pcall Tryz.prog 41 args K Q e s := ent_ok (fun aa h => pf41 aa) h
theorem eq41 {r : Rul} {KK : AV → List AV → Sto → Prop} {ee : List AV} {ss : Sto} : ent41 [.d (r.d)] KK ee ss = (KK (.d (.b r.ok)) ee ss) := by
  unfold ent41; rw [ent_iff r (by intro b h; simpa [Prod.ext_iff, and_assoc, Int.ofNat_inj, ints_inj, cals_inj, pcs_inj, skas_inj, scos_inj, ska_inj, rul_inj, sco_inj, cal_inj] using h) rfl]; simp
def O58 : Nat → Sch := fun id => .done
theorem ho58 : Tryz.f58.body.map (okO O58) = some true := by kernel_rfl
def Cf58 : Nat → List AV → (AV → List AV → Sto → Prop) → Kt → List AV → Sto → Prop := fun f args K Q e s => match f with
  | 26 => ent26 args K e s
  | _ => False
def Ct58 : CT := { f := Cf58, y := noYld, z := fun d => false }
theorem Ct58_ok : Ct58.ok Tryz.prog := ok_of_f (fun f args K Q e s h => by
  have h : Cf58 f args K Q e s := h
  unfold Cf58 at h; split at h
  · exact ent26_ok h
  · exact h.elim) (fun _ _ _ _ _ _ _ _ _ h => h)
theorem x58_26 {n : Int} {lo : Int} {hi : Int} {KK : AV → List AV → Sto → Prop} {QQ : Kt} {ii : At KK} {jj : At QQ} {ee : List AV} {ss : Sto} : xC Ct58 26 [.d (.i n), .d (.i lo), .d (.i hi)] KK QQ ii jj ee ss = (KK (.d (.b (inB n lo hi))) ee ss) := eq26
theorem c58 : callable Tryz.prog 58 = true := by kernel_rfl
theorem pf58 (l : List Int) (n lo hi : Int) (h : n ≤ 1000) : PF Tryz.prog 58 [.sl 1 (l.map ic), .i n, .i lo, .i hi] (fun zz => zz = .ret (.b (marksOk l n lo hi))) := by
  by_cases c : (l.length : Int) = n
  case neg =>
    have hw : marksOk l n lo hi = false := by unfold marksOk; rw [decide_eq_false c]; rfl
    rw [hw]
    refine PF_nil (PF_start (O := O58) Ct58_ok hmix ho58 Tryz.func58 c58 rfl Tryz.ntmps58 Tryz.results58 ?_)
    simp (maxSteps := 4000000) +contextual (disch := first | omega | exact qdb_ok (by kernel_rfl) | exact okb_ok (by kernel_rfl)) only [bw1,bw2,bw3,bw4,bw5,bw6,bc1,bc2,bc3,bc4,bc5,bc6,binIs,AV.isSlice,AV.rows,AV.outs,AV.outF,packD,↓reduceIte,Nat.reduceAdd,Nat.reduceSub,List.reduceReplicate,tfb,c]
  have hw : marksOk l n lo hi = allB l lo hi := by unfold marksOk; rw [decide_eq_true c]; rfl
  rw [hw]
  refine PF_nil (PF_start (O := O58) Ct58_ok hmix ho58 Tryz.func58 c58 rfl Tryz.ntmps58 Tryz.results58 ?_)
  simp (maxSteps := 4000000) +contextual (disch := first | omega | exact qdb_ok (by kernel_rfl) | exact okb_ok (by kernel_rfl)) only [bw1,bw2,bw4,bw5,bw6,bc1,bc4,bc5,bc6,binIs,AV.isSlice,AV.rows,↓reduceIte,Nat.reduceAdd,Nat.reduceSub,List.reduceReplicate,tfb,c]
  refine loop_s (O := O58) (tb := 0) Ct58_ok hmix (by kernel_rfl) (σ := Nat) (fun i => [(9, .i i)]) (fun i => i ≤ l.length ∧ ∀ j, j < i → inB (l.getD j default) lo hi = true) (fun i => l.length - i) (fun i => i + 1) 0 ⟨by omega, fun j h => by omega⟩ ?_ ?_
  · simp (maxSteps := 4000000) +contextual (disch := first | omega | exact qdb_ok (by kernel_rfl) | exact okb_ok (by kernel_rfl)) only [bw4,bw6,bc0,bc5,bc6,AV.isNilS,AV.isNoRows,wk,reduceCtorEq]
  rintro i ⟨hi0, hf⟩
  by_cases hlt : i < l.length
  · have hlt' : (i : Int) < l.length := by omega
    have hlt2 : (i : Int) < n := by omega
    by_cases d : inB (l.getD i default) lo hi = true
    · simp (maxSteps := 4000000) +contextual (disch := first | omega | exact qdb_ok (by kernel_rfl) | exact okb_ok (by kernel_rfl)) only [bw1,bw2,bw4,bw5,bw6,bw7,bc0,bc1,bc2,bc3,bc4,bc5,bc6,AV.isNilS,AV.isNoRows,wk,binIs,idxV,AV.isSl,AV.isSlice,AV.rows,ps,pv,↓reduceIte,reduceCtorEq,Nat.reduceLeDiff,tfb,x58_26,eq_self, hlt2, c, d]
      refine ⟨by omega, ⟨by omega, fun j hj => ?_⟩, by omega⟩
      rcases Nat.lt_or_ge j i with h1 | h1
      · exact hf j h1
      · rw [show j = i by omega]; exact d
    · have ha : allB l lo hi = false := all_no hlt (Bool.eq_false_iff.2 d)
      simp (maxSteps := 4000000) +contextual (disch := first | omega | exact qdb_ok (by kernel_rfl) | exact okb_ok (by kernel_rfl)) only [bw1,bw2,bw3,bw4,bw5,bw6,bw7,bc0,bc1,bc2,bc3,bc4,bc5,bc6,binIs,idxV,AV.isSl,AV.isSlice,AV.rows,ps,pv,AV.outs,AV.outF,packD,↓reduceIte,Nat.reduceLeDiff,tfb,x58_26,eq_self, hlt2, c, d, ha]
      omega
  · have hlt' : ¬ (i : Int) < l.length := by omega
    have hlt2 : ¬ (i : Int) < n := by omega
    have ha : allB l lo hi = true := all_yes fun j hj => hf j (by omega)
    simp (maxSteps := 4000000) +contextual (disch := first | omega | exact qdb_ok (by kernel_rfl) | exact okb_ok (by kernel_rfl)) only [bw1,bw2,bw3,bw4,bw5,bw6,bw7,bc0,bc1,bc2,bc3,bc4,bc5,bc6,binIs,AV.isSlice,AV.rows,AV.outs,AV.outF,packD,↓reduceIte,tfb,eq_self, hlt2, c, ha]
def callOk (r : Rul) (x : Cal) (n : Int) : Bool := inB x.place 0 99 && (inB x.elem 0 ((r.bases.length : Int) - 1) && (inB x.under 0 2 && marksOk x.marks n (-5) 5))
def ent58 (args : List AV) (K : AV → List AV → Sto → Prop) (e : List AV) (s : Sto) : Prop := ent (α := (List Int) × (Int) × (Int) × (Int)) (fun aa => [.sl 1 (aa.1.map ic), .i aa.2.1, .i aa.2.2.1, .i aa.2.2.2]) (fun aa => aa.2.1 ≤ 1000) (fun aa => .b (marksOk aa.1 aa.2.1 aa.2.2.1 aa.2.2.2)) args K e s
theorem ent58_ok {args : List AV} {K : AV → List AV → Sto → Prop} {Q : Kt} {e : List AV} {s : Sto} (h : ent58 args K e s) : pcall Tryz.prog 58 args K Q e s := ent_ok (fun aa h => pf58 aa.1 aa.2.1 aa.2.2.1 aa.2.2.2 h) h
theorem eq58 {l : List Int} {n : Int} {lo : Int} {hi : Int} {KK : AV → List AV → Sto → Prop} {ee : List AV} {ss : Sto} : ent58 [.d (.sl 1 (l.map ic)), .d (.i n), .d (.i lo), .d (.i hi)] KK ee ss = ((n ≤ 1000) ∧ KK (.d (.b (marksOk l n lo hi))) ee ss) := by
  unfold ent58; rw [ent_iff (l, n, lo, hi) (by intro b h; simpa [Prod.ext_iff, and_assoc, Int.ofNat_inj, ints_inj, cals_inj, pcs_inj, skas_inj, scos_inj, ska_inj, rul_inj, sco_inj, cal_inj] using h) rfl]; simp
def O77 : Nat → Sch := fun id => .done
theorem ho77 : Tryz.f77.body.map (okO O77) = some true := by kernel_rfl
def Cf77 : Nat → List AV → (AV → List AV → Sto → Prop) → Kt → List AV → Sto → Prop := fun f args K Q e s => match f with
  | 23 => ent23 args K e s
  | 80 => ent80 args K e s
  | _ => False
def Ct77 : CT := { f := Cf77, y := noYld, z := fun d => false }
theorem Ct77_ok : Ct77.ok Tryz.prog := ok_of_f (fun f args K Q e s h => by
  have h : Cf77 f args K Q e s := h
  unfold Cf77 at h; split at h
  · exact ent23_ok h
  · exact ent80_ok h
  · exact h.elim) (fun _ _ _ _ _ _ _ _ _ h => h)
theorem x77_23 {n : Int} {lo : Int} {hi : Int} {KK : AV → List AV → Sto → Prop} {QQ : Kt} {ii : At KK} {jj : At QQ} {ee : List AV} {ss : Sto} : xC Ct77 23 [.d (.i n), .d (.i lo), .d (.i hi)] KK QQ ii jj ee ss = (KK (.d (.b (inB n lo hi))) ee ss) := eq23
theorem x77_80 {l : List Int} {n : Int} {lo : Int} {hi : Int} {KK : AV → List AV → Sto → Prop} {QQ : Kt} {ii : At KK} {jj : At QQ} {ee : List AV} {ss : Sto} : xC Ct77 80 [.d (.sl 1 (l.map ic)), .d (.i n), .d (.i lo), .d (.i hi)] KK QQ ii jj ee ss = ((n ≤ 1000) ∧ KK (.d (.b (marksOk l n lo hi))) ee ss) := eq80
theorem c77 : callable Tryz.prog 77 = true := by kernel_rfl
theorem pf77 (r : Rul) (x : Cal) (n : Int) (h : n ≤ 1000 ∧ r.bases.length ≤ 1000) : PF Tryz.prog 77 [r.d, .agg x.c, .i n] (fun zz => zz = .ret (.b (callOk r x n))) := by
  refine PF_nil (PF_start (O := O77) Ct77_ok hmix ho77 Tryz.func77 c77 rfl Tryz.ntmps77 Tryz.results77 ?_)
  unfold callOk
  by_cases c1 : inB x.place 0 99 = true
  · by_cases c2 : inB x.elem 0 ((r.bases.length : Int) - 1) = true
    · by_cases c3 : inB x.under 0 2 = true
      · simp (maxSteps := 4000000) +contextual (disch := first | omega | exact qdb_ok (by kernel_rfl) | exact okb_ok (by kernel_rfl)) only [bw1,bw2,bw3,bw4,bw5,bw6,bw7,bc0,bc1,bc2,bc3,bc4,bc5,bc6,binIs,addF,AV.isPtr,AV.isSlice,AV.rows,AV.outs,AV.outF,packD,AV.cells?,↓reduceIte,reduceCtorEq,Nat.reduceAdd,Nat.reduceSub,List.reduceReplicate,Nat.reduceLeDiff,Nat.reduceLT,Nat.reduceBEq,Nat.reduceEqDiff,Int.reduceNeg,tfb,x77_23,x77_80,c1, c2, c3]
        exact h.1
      · have c3 := Bool.eq_false_iff.2 c3
        simp (maxSteps := 4000000) +contextual (disch := first | omega | exact qdb_ok (by kernel_rfl) | exact okb_ok (by kernel_rfl)) only [bw1,bw2,bw3,bw4,bw5,bw6,bw7,bc0,bc1,bc2,bc3,bc4,bc5,bc6,bc7,binIs,addF,AV.isPtr,AV.isSlice,AV.rows,AV.outs,AV.outF,packD,AV.cells?,↓reduceIte,reduceCtorEq,Nat.reduceAdd,Nat.reduceSub,List.reduceReplicate,Nat.reduceLeDiff,Nat.reduceLT,Nat.reduceBEq,Nat.reduceEqDiff,Int.reduceNeg,tfb,x77_23,c1, c2, c3]
        rfl
    · have c2 := Bool.eq_false_iff.2 c2
      simp (maxSteps := 4000000) +contextual (disch := first | omega | exact qdb_ok (by kernel_rfl) | exact okb_ok (by kernel_rfl)) only [bw1,bw2,bw3,bw4,bw5,bw6,bw7,bc0,bc1,bc2,bc3,bc4,bc5,bc6,bc7,binIs,addF,AV.isPtr,AV.isSlice,AV.rows,AV.outs,AV.outF,packD,AV.cells?,↓reduceIte,reduceCtorEq,Nat.reduceAdd,Nat.reduceSub,List.reduceReplicate,Nat.reduceLeDiff,Nat.reduceLT,Nat.reduceBEq,Nat.reduceEqDiff,Int.reduceNeg,tfb,x77_23,c1, c2]
      rfl
  · have c1 := Bool.eq_false_iff.2 c1
    simp (maxSteps := 4000000) +contextual (disch := first | omega | exact qdb_ok (by kernel_rfl) | exact okb_ok (by kernel_rfl)) only [bw1,bw2,bw3,bw5,bw6,bw7,bc0,bc2,bc3,bc4,bc5,bc6,bc7,addF,AV.isPtr,AV.outs,AV.outF,packD,AV.cells?,↓reduceIte,reduceCtorEq,Nat.reduceAdd,Nat.reduceSub,List.reduceReplicate,Nat.reduceLeDiff,Nat.reduceLT,Nat.reduceBEq,Nat.reduceEqDiff,Int.reduceNeg,tfb,x77_23,c1]
    rfl
def ent77 (args : List AV) (K : AV → List AV → Sto → Prop) (e : List AV) (s : Sto) : Prop := ent (α := (Rul) × (Cal) × (Int)) (fun aa => [aa.1.d, .agg aa.2.1.c, .i aa.2.2]) (fun aa => aa.2.2 ≤ 1000 ∧ aa.1.bases.length ≤ 1000) (fun aa => .b (callOk aa.1 aa.2.1 aa.2.2)) args K e s
theorem ent77_ok {args : List AV} {K : AV → List AV → Sto → Prop} {Q : Kt} {e : List AV} {s : Sto} (h : ent77 args K e s) : pcall Tryz.prog 77 args K Q e s := ent_ok (fun aa h => pf77 aa.1 aa.2.1 aa.2.2 h) h
theorem eq77 {r : Rul} {x : Cal} {n : Int} {KK : AV → List AV → Sto → Prop} {ee : List AV} {ss : Sto} : ent77 [.d (r.d), .d (.agg x.c), .d (.i n)] KK ee ss = ((n ≤ 1000 ∧ r.bases.length ≤ 1000) ∧ KK (.d (.b (callOk r x n))) ee ss) := by
  unfold ent77; rw [ent_iff (r, x, n) (by intro b h; simpa [Prod.ext_iff, and_assoc, Int.ofNat_inj, ints_inj, cals_inj, pcs_inj, skas_inj, scos_inj, ska_inj, rul_inj, sco_inj, cal_inj] using h) rfl]; simp
end Go.Proofs.YtapglfcaghlpfaaGreat
