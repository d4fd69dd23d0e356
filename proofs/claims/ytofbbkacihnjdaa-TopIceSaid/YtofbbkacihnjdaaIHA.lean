/- A part of the proof that the last text ends: what functions of the program do, told by plain data. -/
import Derived.Test.YtofbbkacihnjdaaEc
import Derived.Test.YtofbbkacihnjdaaEX
import Derived.Test.YtofbbkacihnjdaaTFI
set_option linter.unusedVariables false
set_option linter.unusedSimpArgs false
namespace Go.Proofs.Ytofbbkacihnjdaa
open Go Go.E
set_option maxRecDepth 100000
set_option maxHeartbeats 16000000
theorem hmix : Try.prog.follows .mixedOrders = true := by kernel_rfl
abbrev ic (n : Int) : List D := [.i n]
theorem ints_inj {a b : List Int} : (a.map ic = b.map ic) = (a = b) := inj_map fun _ _ h => by simpa using h
theorem at_lt {α : Type} [Inhabited α] {l : List α} {i : Nat} (h : i < l.length) : l.getD i default = l[i] := by simp [List.getD, List.getElem?_eq_getElem h]
theorem take_succ {α : Type} [Inhabited α] {l : List α} {k : Nat} (h : k < l.length) : l.take (k + 1) = l.take k ++ [l.getD k default] := by
  rw [List.take_succ_eq_append_getElem h, at_lt h]
theorem all_get {α : Type} [Inhabited α] {l : List α} {p : α → Bool} : l.all p = true ↔ ∀ j, j < l.length → p (l.getD j default) = true := by
  rw [List.all_eq_true]
  constructor
  · intro h j hj; rw [at_lt hj]; exact h _ (List.getElem_mem _)
  · intro h x hx
    obtain ⟨j, hj, rfl⟩ := List.getElem_of_mem hx
    have := h j hj
    rwa [at_lt hj] at this
def inB (n lo hi : Int) : Bool := decide (lo ≤ n) && decide (n ≤ hi)
theorem inB_iff {n lo hi : Int} : inB n lo hi = true ↔ lo ≤ n ∧ n ≤ hi := by simp [inB]
theorem inB_no {n lo hi : Int} : inB n lo hi = false ↔ ¬ (lo ≤ n ∧ n ≤ hi) := by rw [← inB_iff]; simp
structure Hr where
  day : Int
  b : Int
  e : Int
  deriving Inhabited, DecidableEq
structure Gr where
  days : Int
  early : Int
  late : Int
  most : Int
  cred : Int
  deriving Inhabited, DecidableEq
structure Tt where
  hours : List Hr
  groups : List Gr
  res : Int
  deriving Inhabited, DecidableEq
abbrev Hr.c (h : Hr) : List D := [.i h.day, .i h.b, .i h.e]
abbrev Gr.c (g : Gr) : List D := [.i g.days, .i g.early, .i g.late, .i g.most, .i g.cred]
abbrev Tt.c (t : Tt) : List D := [.sl 3 (t.hours.map Hr.c), .sl 5 (t.groups.map Gr.c), .i t.res]
theorem Hr.inj {a b : Hr} (h : a.c = b.c) : a = b := by cases a; cases b; simp at h; simp [h]
theorem Gr.inj {a b : Gr} (h : a.c = b.c) : a = b := by cases a; cases b; simp at h; simp [h]
theorem hrs_inj {a b : List Hr} : (a.map Hr.c = b.map Hr.c) = (a = b) := inj_map fun _ _ h => Hr.inj h
theorem grs_inj {a b : List Gr} : (a.map Gr.c = b.map Gr.c) = (a = b) := inj_map fun _ _ h => Gr.inj h
theorem hr_inj {a b : Hr} : (a.day = b.day ∧ a.b = b.b ∧ a.e = b.e) = (a = b) := by cases a; cases b; simp
theorem gr_inj {a b : Gr} : (a.days = b.days ∧ a.early = b.early ∧ a.late = b.late ∧ a.most = b.most ∧ a.cred = b.cred) = (a = b) := by cases a; cases b; simp
theorem tt_inj {a b : Tt} : (a.hours = b.hours ∧ a.groups = b.groups ∧ a.res = b.res) = (a = b) := by cases a; cases b; simp
def grOk (g : Gr) : Bool := inB g.days 0 127 && (inB g.early 0 1440 && (inB g.late 0 1440 && (inB g.most 0 12 && inB g.cred 0 1000)))
def hrOk (h : Hr) : Bool := inB h.day 0 6 && (!decide (h.b < 0) && (!decide (h.e ≤ h.b) && !decide (1440 < h.e)))
def orNo (p h : Hr) : Bool := decide (h.day < p.day) || (decide (h.day = p.day) && decide (h.b < p.e))
def hrAt (l : List Hr) (i : Nat) : Bool := hrOk (l.getD i default) && (decide (i = 0) || !orNo (l.getD (i - 1) default) (l.getD i default))
def ttOk (t : Tt) : Bool := decide ((t.groups.length : Int) ≤ 5) && (decide ((t.hours.length : Int) ≤ 12) && (inB t.res 0 120 && (t.groups.all grOk && (List.range t.hours.length).all (hrAt t.hours))))
theorem tt_hr {t : Tt} {i : Nat} (hi : i < t.hours.length) (h : hrAt t.hours i = false) : ttOk t = false := by
  cases hb : ttOk t with
  | false => rfl
  | true =>
    unfold ttOk at hb
    simp only [Bool.and_eq_true] at hb
    rw [List.all_eq_true.1 hb.2.2.2.2 i (List.mem_range.2 hi)] at h; cases h
theorem tt_gr {t : Tt} (h : ¬ t.groups.all grOk = true) : ttOk t = false := by
  cases hb : ttOk t with
  | false => rfl
  | true =>
    unfold ttOk at hb
    simp only [Bool.and_eq_true] at hb
    exact absurd hb.2.2.2.1 h
theorem tt_big {t : Tt} (h : ¬ ((t.groups.length : Int) ≤ 5 ∧ (t.hours.length : Int) ≤ 12 ∧ inB t.res 0 120 = true)) : ttOk t = false := by
  cases hb : ttOk t with
  | false => rfl
  | true =>
    unfold ttOk at hb
    simp only [Bool.and_eq_true, decide_eq_true_eq] at hb
    exact absurd ⟨hb.1, hb.2.1, hb.2.2.1⟩ h
theorem tt_end {t : Tt} (h : (t.groups.length : Int) ≤ 5 ∧ (t.hours.length : Int) ≤ 12 ∧ inB t.res 0 120 = true) (h1 : t.groups.all grOk = true) (h2 : ∀ i, i < t.hours.length → hrAt t.hours i = true) : ttOk t = true := by
  unfold ttOk
  rw [decide_eq_true h.1, decide_eq_true h.2.1, h.2.2, h1, List.all_eq_true.2 fun i hi => h2 i (List.mem_range.1 hi)]; rfl
def O38 : Nat → Sch := fun id => .done
theorem ho38 : Try.f38.body.map (okO O38) = some true := by kernel_rfl
def Cf38 : Nat → List AV → (AV → List AV → Sto → Prop) → Kt → List AV → Sto → Prop := fun f args K Q e s => match f with
  | _ => False
def Ct38 : CT := { f := Cf38, y := noYld, z := fun d => false }
theorem Ct38_ok : Ct38.ok Try.prog := ok_of_f (fun f args K Q e s h => by
  have h : Cf38 f args K Q e s := h
  unfold Cf38 at h; split at h
  · exact h.elim) (fun _ _ _ _ _ _ _ _ _ h => h)
theorem c38 : callable Try.prog 38 = true := by kernel_rfl
theorem pf38 (n lo hi : Int) : PF Try.prog 38 [.i n, .i lo, .i hi] (fun zz => zz = .ret (.b (inB n lo hi))) := by
  refine PF_nil (PF_start (O := O38) Ct38_ok hmix ho38 Try.func38 c38 rfl Try.ntmps38 Try.results38 ?_)
  by_cases h : lo ≤ n
  · simp (maxSteps := 4000000) +contextual (disch := first | omega | exact qdb_ok (by kernel_rfl) | exact okb_ok (by kernel_rfl)) only [bw1,bw2,bw3,bw5,bw6,bw7,bc0,bc1,bc2,bc3,bc4,bc5,bc6,binIs,AV.outs,AV.outF,packD,↓reduceIte,Nat.reduceAdd,Nat.reduceSub,List.reduceReplicate,tfb,h, inB]
  · simp (maxSteps := 4000000) +contextual (disch := first | omega | exact qdb_ok (by kernel_rfl) | exact okb_ok (by kernel_rfl)) only [bw1,bw2,bw3,bw5,bw6,bw7,bc0,bc1,bc2,bc3,bc4,bc5,bc6,binIs,AV.outs,AV.outF,packD,↓reduceIte,Nat.reduceAdd,Nat.reduceSub,List.reduceReplicate,tfb,h, inB, Bool.false_and]
def ent38 (args : List AV) (K : AV → List AV → Sto → Prop) (e : List AV) (s : Sto) : Prop := ent (α := (Int) × (Int) × (Int)) (fun aa => [.i aa.1, .i aa.2.1, .i aa.2.2]) (fun aa => True) (fun aa => .b (inB aa.1 aa.2.1 aa.2.2)) args K e s
theorem ent38_ok {args : List AV} {K : AV → List AV → Sto → Prop} {Q : Kt} {e : List AV} {s : Sto} (h : ent38 args K e s) : pcall Try.prog 38 args K Q e s := ent_ok (fun aa h => pf38 aa.1 aa.2.1 aa.2.2) h
theorem eq38 {n : Int} {lo : Int} {hi : Int} {KK : AV → List AV → Sto → Prop} {ee : List AV} {ss : Sto} : ent38 [.d (.i n), .d (.i lo), .d (.i hi)] KK ee ss = (KK (.d (.b (inB n lo hi))) ee ss) := by
  unfold ent38; rw [ent_iff (n, lo, hi) (by intro b h; simpa [Prod.ext_iff, and_assoc, Int.ofNat_inj, ints_inj, hrs_inj, grs_inj, hr_inj, gr_inj, tt_inj] using h) rfl]; simp
def O18 : Nat → Sch := fun id => .done
theorem ho18 : Try.f18.body.map (okO O18) = some true := by kernel_rfl
def Cf18 : Nat → List AV → (AV → List AV → Sto → Prop) → Kt → List AV → Sto → Prop := fun f args K Q e s => match f with
  | _ => False
def Ct18 : CT := { f := Cf18, y := noYld, z := fun d => false }
theorem Ct18_ok : Ct18.ok Try.prog := ok_of_f (fun f args K Q e s h => by
  have h : Cf18 f args K Q e s := h
  unfold Cf18 at h; split at h
  · exact h.elim) (fun _ _ _ _ _ _ _ _ _ h => h)
theorem c18 : callable Try.prog 18 = true := by kernel_rfl
theorem pf18 (n lo hi : Int) : PF Try.prog 18 [.i n, .i lo, .i hi] (fun zz => zz = .ret (.b (inB n lo hi))) := by
  refine PF_nil (PF_start (O := O18) Ct18_ok hmix ho18 Try.func18 c18 rfl Try.ntmps18 Try.results18 ?_)
  by_cases h : lo ≤ n
  · simp (maxSteps := 4000000) +contextual (disch := first | omega | exact qdb_ok (by kernel_rfl) | exact okb_ok (by kernel_rfl)) only [bw1,bw2,bw3,bw5,bw6,bw7,bc0,bc1,bc2,bc3,bc4,bc5,bc6,binIs,AV.outs,AV.outF,packD,↓reduceIte,Nat.reduceAdd,Nat.reduceSub,List.reduceReplicate,tfb,h, inB]
  · simp (maxSteps := 4000000) +contextual (disch := first | omega | exact qdb_ok (by kernel_rfl) | exact okb_ok (by kernel_rfl)) only [bw1,bw2,bw3,bw5,bw6,bw7,bc0,bc1,bc2,bc3,bc4,bc5,bc6,binIs,AV.outs,AV.outF,packD,↓reduceIte,Nat.reduceAdd,Nat.reduceSub,List.reduceReplicate,tfb,h, inB, Bool.false_and]
def ent18 (args : List AV) (K : AV → List AV → Sto → Prop) (e : List AV) (s : Sto) : Prop := ent (α := (Int) × (Int) × (Int)) (fun aa => [.i aa.1, .i aa.2.1, .i aa.2.2]) (fun aa => True) (fun aa => .b (inB aa.1 aa.2.1 aa.2.2)) args K e s
theorem ent18_ok {args : List AV} {K : AV → List AV → Sto → Prop} {Q : Kt} {e : List AV} {s : Sto} (h : ent18 args K e s) : pcall Try.prog 18 args K Q e s := ent_ok (fun aa h => pf18 aa.1 aa.2.1 aa.2.2) h
theorem eq18 {n : Int} {lo : Int} {hi : Int} {KK : AV → List AV → Sto → Prop} {ee : List AV} {ss : Sto} : ent18 [.d (.i n), .d (.i lo), .d (.i hi)] KK ee ss = (KK (.d (.b (inB n lo hi))) ee ss) := by
  unfold ent18; rw [ent_iff (n, lo, hi) (by intro b h; simpa [Prod.ext_iff, and_assoc, Int.ofNat_inj, ints_inj, hrs_inj, grs_inj, hr_inj, gr_inj, tt_inj] using h) rfl]; simp
def O37 : Nat → Sch := fun id => .done
theorem ho37 : Try.f37.body.map (okO O37) = some true := by kernel_rfl
def Cf37 : Nat → List AV → (AV → List AV → Sto → Prop) → Kt → List AV → Sto → Prop := fun f args K Q e s => match f with
  | 38 => ent38 args K e s
  | _ => False
def Ct37 : CT := { f := Cf37, y := noYld, z := fun d => false }
theorem Ct37_ok : Ct37.ok Try.prog := ok_of_f (fun f args K Q e s h => by
  have h : Cf37 f args K Q e s := h
  unfold Cf37 at h; split at h
  · exact ent38_ok h
  · exact h.elim) (fun _ _ _ _ _ _ _ _ _ h => h)
theorem x37_38 {n : Int} {lo : Int} {hi : Int} {KK : AV → List AV → Sto → Prop} {QQ : Kt} {ii : At KK} {jj : At QQ} {ee : List AV} {ss : Sto} : xC Ct37 38 [.d (.i n), .d (.i lo), .d (.i hi)] KK QQ ii jj ee ss = (KK (.d (.b (inB n lo hi))) ee ss) := eq38
theorem c37 : callable Try.prog 37 = true := by kernel_rfl
theorem pf37 (g : Gr) : PF Try.prog 37 [.agg g.c] (fun zz => zz = .ret (.b (!grOk g))) := by
  unfold grOk
  by_cases c1 : inB g.days 0 127 = true
  case neg =>
    refine PF_nil (PF_start (O := O37) Ct37_ok hmix ho37 Try.func37 c37 rfl Try.ntmps37 Try.results37 ?_)
    simp (maxSteps := 4000000) +contextual (disch := first | omega | exact qdb_ok (by kernel_rfl) | exact okb_ok (by kernel_rfl)) only [bw1,bw2,bw3,bw5,bw6,bw7,bc0,bc1,bc2,bc3,bc4,bc5,bc6,bc7,addF,AV.isPtr,AV.outs,AV.outF,packD,AV.cells?,↓reduceIte,reduceCtorEq,Nat.reduceAdd,Nat.reduceSub,List.reduceReplicate,Nat.reduceLeDiff,Nat.reduceLT,tfb,x37_38,c1]
    try simp [c1]
  by_cases c2 : inB g.early 0 1440 = true
  case neg =>
    refine PF_nil (PF_start (O := O37) Ct37_ok hmix ho37 Try.func37 c37 rfl Try.ntmps37 Try.results37 ?_)
    simp (maxSteps := 4000000) +contextual (disch := first | omega | exact qdb_ok (by kernel_rfl) | exact okb_ok (by kernel_rfl)) only [bw1,bw2,bw3,bw5,bw6,bw7,bc0,bc1,bc2,bc3,bc4,bc5,bc6,bc7,addF,AV.isPtr,AV.outs,AV.outF,packD,AV.cells?,↓reduceIte,reduceCtorEq,Nat.reduceAdd,Nat.reduceSub,List.reduceReplicate,Nat.reduceLeDiff,Nat.reduceLT,tfb,x37_38,c1, c2]
    try simp [c1, c2]
  by_cases c3 : inB g.late 0 1440 = true
  case neg =>
    refine PF_nil (PF_start (O := O37) Ct37_ok hmix ho37 Try.func37 c37 rfl Try.ntmps37 Try.results37 ?_)
    simp (maxSteps := 4000000) +contextual (disch := first | omega | exact qdb_ok (by kernel_rfl) | exact okb_ok (by kernel_rfl)) only [bw1,bw2,bw3,bw5,bw6,bw7,bc0,bc1,bc2,bc3,bc4,bc5,bc6,bc7,addF,AV.isPtr,AV.outs,AV.outF,packD,AV.cells?,↓reduceIte,reduceCtorEq,Nat.reduceAdd,Nat.reduceSub,List.reduceReplicate,Nat.reduceLeDiff,Nat.reduceLT,tfb,x37_38,c1, c2, c3]
    try simp [c1, c2, c3]
  by_cases c4 : inB g.most 0 12 = true
  case neg =>
    refine PF_nil (PF_start (O := O37) Ct37_ok hmix ho37 Try.func37 c37 rfl Try.ntmps37 Try.results37 ?_)
    simp (maxSteps := 4000000) +contextual (disch := first | omega | exact qdb_ok (by kernel_rfl) | exact okb_ok (by kernel_rfl)) only [bw1,bw2,bw3,bw5,bw6,bw7,bc0,bc1,bc2,bc3,bc4,bc5,bc6,bc7,addF,AV.isPtr,AV.outs,AV.outF,packD,AV.cells?,↓reduceIte,reduceCtorEq,Nat.reduceAdd,Nat.reduceSub,List.reduceReplicate,Nat.reduceLeDiff,Nat.reduceLT,tfb,x37_38,c1, c2, c3, c4]
    try simp [c1, c2, c3, c4]
  refine PF_nil (PF_start (O := O37) Ct37_ok hmix ho37 Try.func37 c37 rfl Try.ntmps37 Try.results37 ?_)
  simp (maxSteps := 4000000) +contextual (disch := first | omega | exact qdb_ok (by kernel_rfl) | exact okb_ok (by kernel_rfl)) only [bw1,bw2,bw3,bw5,bw6,bc0,bc1,bc2,bc3,bc4,bc5,bc6,addF,AV.isPtr,AV.outs,AV.outF,packD,AV.cells?,↓reduceIte,reduceCtorEq,Nat.reduceAdd,Nat.reduceSub,List.reduceReplicate,Nat.reduceLeDiff,Nat.reduceLT,tfb,x37_38,c1, c2, c3, c4]
  try simp [c1, c2, c3, c4]
def ent37 (args : List AV) (K : AV → List AV → Sto → Prop) (e : List AV) (s : Sto) : Prop := ent (α := (Gr)) (fun aa => [.agg aa.c]) (fun aa => True) (fun aa => .b (!grOk aa)) args K e s
theorem ent37_ok {args : List AV} {K : AV → List AV → Sto → Prop} {Q : Kt} {e : List AV} {s : Sto} (h : ent37 args K e s) : pcall Try.prog 37 args K Q e s := ent_ok (fun aa h => pf37 aa) h
theorem eq37 {g : Gr} {KK : AV → List AV → Sto → Prop} {ee : List AV} {ss : Sto} : ent37 [.d (.agg g.c)] KK ee ss = (KK (.d (.b (!grOk g))) ee ss) := by
  unfold ent37; rw [ent_iff g (by intro b h; simpa [Prod.ext_iff, and_assoc, Int.ofNat_inj, ints_inj, hrs_inj, grs_inj, hr_inj, gr_inj, tt_inj] using h) rfl]; simp
def O56 : Nat → Sch := fun id => .done
theorem ho56 : Try.f56.body.map (okO O56) = some true := by kernel_rfl
def Cf56 : Nat → List AV → (AV → List AV → Sto → Prop) → Kt → List AV → Sto → Prop := fun f args K Q e s => match f with
  | 37 => ent37 args K e s
  | _ => False
def Ct56 : CT := { f := Cf56, y := noYld, z := fun d => false }
theorem Ct56_ok : Ct56.ok Try.prog := ok_of_f (fun f args K Q e s h => by
  have h : Cf56 f args K Q e s := h
  unfold Cf56 at h; split at h
  · exact ent37_ok h
  · exact h.elim) (fun _ _ _ _ _ _ _ _ _ h => h)
theorem x56_37 {g : Gr} {KK : AV → List AV → Sto → Prop} {QQ : Kt} {ii : At KK} {jj : At QQ} {ee : List AV} {ss : Sto} : xC Ct56 37 [.d (.agg g.c)] KK QQ ii jj ee ss = (KK (.d (.b (!grOk g))) ee ss) := eq37
theorem c56 : callable Try.prog 56 = true := by kernel_rfl
def O39 : Nat → Sch := fun id => .done
theorem ho39 : Try.f39.body.map (okO O39) = some true := by kernel_rfl
def Cf39 : Nat → List AV → (AV → List AV → Sto → Prop) → Kt → List AV → Sto → Prop := fun f args K Q e s => match f with
  | 56 => inlE Try.prog Ct56 O56 56000 56 args K Q e s
  | _ => False
def Ct39 : CT := { f := Cf39, y := noYld, z := fun d => false }
theorem Ct39_ok : Ct39.ok Try.prog := ok_of_f (fun f args K Q e s h => by
  have h : Cf39 f args K Q e s := h
  unfold Cf39 at h; split at h
  · exact inlE_ok Ct56_ok hmix ho56 h
  · exact h.elim) (fun _ _ _ _ _ _ _ _ _ h => h)
theorem z39_56 : type_of% (@xinl Try.prog Ct39 Ct56 O56 56000 56 _ _ _ _ rfl c56 Try.func56 rfl Try.ntmps56 Try.results56) := @xinl Try.prog Ct39 Ct56 O56 56000 56 _ _ _ _ rfl c56 Try.func56 rfl Try.ntmps56 Try.results56
theorem c39 : callable Try.prog 39 = true := by kernel_rfl
theorem hrAt_no {l : List Hr} {i : Nat} (h : hrOk (l.getD i default) = false) : hrAt l i = false := by unfold hrAt; rw [h]; rfl
theorem hrAt_or {l : List Hr} {i : Nat} (h0 : 0 < i) (h : orNo (l.getD (i - 1) default) (l.getD i default) = true) : hrAt l i = false := by
  unfold hrAt; rw [h, decide_eq_false (show ¬ i = 0 by omega)]; simp
theorem hrAt_ok {l : List Hr} {i : Nat} (h1 : inB (l.getD i default).day 0 6 = true) (h2 : ¬ (l.getD i default).b < 0) (h3 : ¬ (l.getD i default).e ≤ (l.getD i default).b) (h4 : ¬ 1440 < (l.getD i default).e) (h5 : i = 0 ∨ ¬ orNo (l.getD (i - 1) default) (l.getD i default) = true) : hrAt l i = true := by
  unfold hrAt hrOk
  rw [h1, decide_eq_false h2, decide_eq_false h3, decide_eq_false h4]
  rcases h5 with h5 | h5
  · rw [decide_eq_true h5]; rfl
  · have : orNo (l.getD (i - 1) default) (l.getD i default) = false := by simpa using h5
    rw [this]; simp
theorem hrOk_1 {h : Hr} (c : ¬ inB h.day 0 6 = true) : hrOk h = false := by
  have : inB h.day 0 6 = false := by simpa using c
  unfold hrOk; rw [this]; rfl
theorem hrOk_2 {h : Hr} (c : h.b < 0) : hrOk h = false := by unfold hrOk; rw [decide_eq_true c]; simp
theorem hrOk_3 {h : Hr} (c : h.e ≤ h.b) : hrOk h = false := by unfold hrOk; rw [decide_eq_true c]; simp
theorem hrOk_4 {h : Hr} (c : 1440 < h.e) : hrOk h = false := by unfold hrOk; rw [decide_eq_true c]; simp
theorem orNo_1 {p h : Hr} (c : h.day < p.day) : orNo p h = true := by unfold orNo; rw [decide_eq_true c]; rfl
theorem orNo_2 {p h : Hr} (c : h.day = p.day) (d : h.b < p.e) : orNo p h = true := by unfold orNo; rw [decide_eq_true c, decide_eq_true d]; simp
theorem orNo_3 {p h : Hr} (a : ¬ h.day < p.day) (c : ¬ h.day = p.day) : ¬ orNo p h = true := by unfold orNo; rw [decide_eq_false a, decide_eq_false c]; simp
theorem orNo_4 {p h : Hr} (a : ¬ h.day < p.day) (d : ¬ h.b < p.e) : ¬ orNo p h = true := by unfold orNo; rw [decide_eq_false a, decide_eq_false d]; simp
def O13 : Nat → Sch := fun id => .done
theorem ho13 : Try.f13.body.map (okO O13) = some true := by kernel_rfl
def Cf13 : Nat → List AV → (AV → List AV → Sto → Prop) → Kt → List AV → Sto → Prop := fun f args K Q e s => match f with
  | 38 => ent38 args K e s
  | 39 => inlE Try.prog Ct39 O39 39000 39 args K Q e s
  | _ => False
def Ct13 : CT := { f := Cf13, y := noYld, z := fun d => false }
theorem Ct13_ok : Ct13.ok Try.prog := ok_of_f (fun f args K Q e s h => by
  have h : Cf13 f args K Q e s := h
  unfold Cf13 at h; split at h
  · exact ent38_ok h
  · exact inlE_ok Ct39_ok hmix ho39 h
  · exact h.elim) (fun _ _ _ _ _ _ _ _ _ h => h)
theorem x13_38 {n : Int} {lo : Int} {hi : Int} {KK : AV → List AV → Sto → Prop} {QQ : Kt} {ii : At KK} {jj : At QQ} {ee : List AV} {ss : Sto} : xC Ct13 38 [.d (.i n), .d (.i lo), .d (.i hi)] KK QQ ii jj ee ss = (KK (.d (.b (inB n lo hi))) ee ss) := eq38
theorem z13_39 : type_of% (@xinl Try.prog Ct13 Ct39 O39 39000 39 _ _ _ _ rfl c39 Try.func39 rfl Try.ntmps39 Try.results39) := @xinl Try.prog Ct13 Ct39 O39 39000 39 _ _ _ _ rfl c39 Try.func39 rfl Try.ntmps39 Try.results39
theorem c13 : callable Try.prog 13 = true := by kernel_rfl
theorem pf13 (t : Tt) (h : t.hours.length ≤ 1000 ∧ t.groups.length ≤ 1000) : PF Try.prog 13 [.agg t.c] (fun zz => zz = .ret (.b (ttOk t))) := by
  obtain ⟨hh, hg⟩ := h
  obtain ⟨W, hW⟩ : ∃ W, W = ttOk t := ⟨_, rfl⟩
  rw [← hW]
  refine PF_nil (PF_start (O := O13) Ct13_ok hmix ho13 Try.func13 c13 rfl Try.ntmps13 Try.results13 ?_)
  simp (maxSteps := 4000000) +contextual (disch := first | omega | exact qdb_ok (by kernel_rfl) | exact okb_ok (by kernel_rfl)) only [bw1,bw2,bw4,bw5,bw6,bc2,bc3,bc4,bc5,bc6,addF,AV.isPtr,AV.isSlice,AV.rows,AV.cells?,↓reduceIte,reduceCtorEq,Nat.reduceAdd,Nat.reduceSub,List.reduceReplicate,Nat.reduceLeDiff,Nat.reduceLT,tfb]
  refine loop_xu (O := O13) (tb := 0) Ct13_ok hmix (by kernel_rfl) (σ := Nat) (fun i => [(10, .i i), (4, .any), (5, .any), (6, .any)]) (fun _ => []) (fun i => i ≤ t.hours.length ∧ ∀ q, q < i → hrAt t.hours q = true) (fun i => t.hours.length - i) 0 ⟨Nat.zero_le _, fun q hq => by omega⟩ ?_ ?_
  · simp (maxSteps := 4000000) +contextual (disch := first | omega | exact qdb_ok (by kernel_rfl) | exact okb_ok (by kernel_rfl)) only [bw4,bw5,bw6,bc0,bc3,bc5,bc6,AV.isNilS,AV.isNoRows,wk,↓reduceIte,reduceCtorEq,eq_self]
    try rfl
  rintro i ⟨hi, hq⟩
  by_cases hlt : i < t.hours.length
  · have hlt' : (i : Int) < t.hours.length := by omega
    have hrw : (t.hours.map Hr.c).getD i [] = Hr.c (t.hours.getD i default) := Go.E.row_at hlt
    have hno : hrAt t.hours i = false → W = false := fun h => hW.trans (tt_hr hlt h)
    have hgo : hrAt t.hours i = true → ∀ q, q < i + 1 → hrAt t.hours q = true := fun h q hq' => by rcases Nat.lt_succ_iff_lt_or_eq.1 hq' with h' | rfl; exact hq q h'; exact h
    have hi0 : (0 : Int) ≤ i := by omega
    by_cases d1 : inB (t.hours.getD i default).day 0 6 = true
    case neg =>
      have hWf := hno (hrAt_no (hrOk_1 d1))
      simp (maxSteps := 4000000) +contextual (disch := first | omega | exact qdb_ok (by kernel_rfl) | exact okb_ok (by kernel_rfl)) only [bw1,bw2,bw3,bw4,bw5,bw6,bw7,bc0,bc1,bc2,bc3,bc4,bc5,bc6,binIs,addF,AV.isPtr,idxV,AV.isSl,AV.rows,ps,pv,AV.outs,AV.outF,packD,AV.cells?,AV.menc,AV.one,D.one,Value.oneCell',↓reduceIte,reduceCtorEq,Nat.reduceAdd,Nat.reduceLeDiff,Nat.reduceLT,Nat.reduceBEq,Nat.reduceEqDiff,tfb,x13_38,eq_self, hlt', hrw, d1, hWf, hi0]
    by_cases d2 : (t.hours.getD i default).b < 0
    case pos =>
      have hWf := hno (hrAt_no (hrOk_2 d2))
      simp (maxSteps := 4000000) +contextual (disch := first | omega | exact qdb_ok (by kernel_rfl) | exact okb_ok (by kernel_rfl)) only [bw1,bw2,bw3,bw4,bw5,bw6,bw7,bc0,bc1,bc2,bc3,bc4,bc5,bc6,binIs,addF,AV.isPtr,idxV,AV.isSl,AV.rows,ps,pv,AV.outs,AV.outF,packD,AV.cells?,AV.menc,AV.one,D.one,Value.oneCell',↓reduceIte,reduceCtorEq,Nat.reduceAdd,Nat.reduceLeDiff,Nat.reduceLT,Nat.reduceBEq,Nat.reduceEqDiff,tfb,x13_38,eq_self, hlt', hrw, d1, d2, hWf, hi0]
    by_cases d3 : (t.hours.getD i default).e ≤ (t.hours.getD i default).b
    case pos =>
      have hWf := hno (hrAt_no (hrOk_3 d3))
      simp (maxSteps := 4000000) +contextual (disch := first | omega | exact qdb_ok (by kernel_rfl) | exact okb_ok (by kernel_rfl)) only [bw1,bw2,bw3,bw4,bw5,bw6,bw7,bc0,bc1,bc2,bc3,bc4,bc5,bc6,binIs,addF,AV.isPtr,idxV,AV.isSl,AV.rows,ps,pv,AV.outs,AV.outF,packD,AV.cells?,AV.menc,AV.one,D.one,Value.oneCell',↓reduceIte,reduceCtorEq,Nat.reduceAdd,Nat.reduceLeDiff,Nat.reduceLT,Nat.reduceBEq,Nat.reduceEqDiff,tfb,x13_38,eq_self, hlt', hrw, d1, d2, d3, hWf, hi0]
    by_cases d4 : 1440 < (t.hours.getD i default).e
    case pos =>
      have hWf := hno (hrAt_no (hrOk_4 d4))
      simp (maxSteps := 4000000) +contextual (disch := first | omega | exact qdb_ok (by kernel_rfl) | exact okb_ok (by kernel_rfl)) only [bw1,bw2,bw3,bw4,bw5,bw6,bw7,bc0,bc1,bc2,bc3,bc4,bc5,bc6,binIs,addF,AV.isPtr,idxV,AV.isSl,AV.rows,ps,pv,AV.outs,AV.outF,packD,AV.cells?,AV.menc,AV.one,D.one,Value.oneCell',↓reduceIte,reduceCtorEq,Nat.reduceAdd,Nat.reduceLeDiff,Nat.reduceLT,Nat.reduceBEq,Nat.reduceEqDiff,tfb,x13_38,eq_self, hlt', hrw, d1, d2, d3, d4, hWf, hi0]
    by_cases z : i = 0
    · have hz : ((i : Int) == 0) = true := by rw [beq_iff_eq]; omega
      have ho := hgo (hrAt_ok d1 d2 d3 d4 (.inl z))
      simp (maxSteps := 4000000) +contextual (disch := first | omega | exact qdb_ok (by kernel_rfl) | exact okb_ok (by kernel_rfl)) only [bw1,bw2,bw3,bw4,bw5,bw6,bw7,bc0,bc1,bc2,bc3,bc4,bc5,bc6,AV.isNilS,AV.isNoRows,wk,binIs,addF,AV.isPtr,idxV,AV.isSl,AV.rows,ps,pv,AV.cells?,AV.menc,AV.one,D.one,Value.oneCell',↓reduceIte,reduceCtorEq,Nat.reduceAdd,Nat.reduceLeDiff,Nat.reduceLT,Nat.reduceBEq,Nat.reduceEqDiff,tfb,x13_38,eq_self, hlt', hrw, d1, d2, d3, d4, hz, hi0]
      exact ⟨i + 1, ⟨⟨by omega, ho⟩, by omega⟩, rfl⟩
    have hz : ((i : Int) == 0) = false := by rw [beq_eq_false_iff_ne]; omega
    have hrw2 : (t.hours.map Hr.c).getD (i - 1) [] = Hr.c (t.hours.getD (i - 1) default) := Go.E.row_at (by omega)
    have y1 : ((i : Int) - 1).toNat = i - 1 := by omega
    have y2 : (0 : Int) ≤ (i : Int) - 1 := by omega
    have y3 : (i : Int) - 1 < t.hours.length := by omega
    by_cases d5 : (t.hours.getD i default).day < (t.hours.getD (i - 1) default).day
    · have hWf := hno (hrAt_or (by omega) (orNo_1 d5))
      simp (maxSteps := 4000000) +contextual (disch := first | omega | exact qdb_ok (by kernel_rfl) | exact okb_ok (by kernel_rfl)) only [bw1,bw2,bw3,bw4,bw5,bw6,bw7,bc0,bc1,bc2,bc3,bc4,bc5,bc6,binIs,addF,AV.isPtr,idxV,AV.isSl,AV.rows,ps,pv,AV.outs,AV.outF,packD,AV.cells?,AV.menc,AV.one,D.one,Value.oneCell',↓reduceIte,reduceCtorEq,Nat.reduceAdd,Nat.reduceLeDiff,Nat.reduceLT,Nat.reduceBEq,Nat.reduceEqDiff,tfb,x13_38,eq_self, hlt', hrw, d1, d2, d3, d4, d5, hz, hrw2, y1, y2, y3, hWf, hi0]
    by_cases d6 : (t.hours.getD i default).day = (t.hours.getD (i - 1) default).day
    · have d6b : ((t.hours.getD i default).day == (t.hours.getD (i - 1) default).day) = true := by simpa using d6
      by_cases d7 : (t.hours.getD i default).b < (t.hours.getD (i - 1) default).e
      · have hWf := hno (hrAt_or (by omega) (orNo_2 d6 d7))
        simp (maxSteps := 4000000) +contextual (disch := first | omega | exact qdb_ok (by kernel_rfl) | exact okb_ok (by kernel_rfl)) only [bw1,bw2,bw3,bw4,bw5,bw6,bw7,bc0,bc1,bc2,bc3,bc4,bc5,bc6,binIs,addF,AV.isPtr,idxV,AV.isSl,AV.rows,ps,pv,AV.outs,AV.outF,packD,AV.cells?,AV.menc,AV.one,D.one,Value.oneCell',↓reduceIte,reduceCtorEq,Nat.reduceAdd,Nat.reduceLeDiff,Nat.reduceLT,Nat.reduceBEq,Nat.reduceEqDiff,tfb,x13_38,eq_self, hlt', hrw, d1, d2, d3, d4, d5, d6b, d7, hz, hrw2, y1, y2, y3, hWf, hi0]
      · have ho := hgo (hrAt_ok d1 d2 d3 d4 (.inr (orNo_4 d5 d7)))
        simp (maxSteps := 4000000) +contextual (disch := first | omega | exact qdb_ok (by kernel_rfl) | exact okb_ok (by kernel_rfl)) only [bw1,bw2,bw3,bw4,bw5,bw6,bw7,bc0,bc1,bc2,bc3,bc4,bc5,bc6,AV.isNilS,AV.isNoRows,wk,binIs,addF,AV.isPtr,idxV,AV.isSl,AV.rows,ps,pv,AV.cells?,AV.menc,AV.one,D.one,Value.oneCell',↓reduceIte,reduceCtorEq,Nat.reduceAdd,Nat.reduceLeDiff,Nat.reduceLT,Nat.reduceBEq,Nat.reduceEqDiff,tfb,x13_38,eq_self, hlt', hrw, d1, d2, d3, d4, d5, d6b, d7, hz, hrw2, y1, y2, y3, hi0]
        exact ⟨i + 1, ⟨⟨by omega, ho⟩, by omega⟩, rfl⟩
    · have d6b : ((t.hours.getD i default).day == (t.hours.getD (i - 1) default).day) = false := by simpa using d6
      have ho := hgo (hrAt_ok d1 d2 d3 d4 (.inr (orNo_3 d5 d6)))
      simp (maxSteps := 4000000) +contextual (disch := first | omega | exact qdb_ok (by kernel_rfl) | exact okb_ok (by kernel_rfl)) only [bw1,bw2,bw3,bw4,bw5,bw6,bw7,bc0,bc1,bc2,bc3,bc4,bc5,bc6,AV.isNilS,AV.isNoRows,wk,binIs,addF,AV.isPtr,idxV,AV.isSl,AV.rows,ps,pv,AV.cells?,AV.menc,AV.one,D.one,Value.oneCell',↓reduceIte,reduceCtorEq,Nat.reduceAdd,Nat.reduceLeDiff,Nat.reduceLT,Nat.reduceBEq,Nat.reduceEqDiff,tfb,x13_38,eq_self, hlt', hrw, d1, d2, d3, d4, d5, d6b, hz, hrw2, y1, y2, y3, hi0]
      exact ⟨i + 1, ⟨⟨by omega, ho⟩, by omega⟩, rfl⟩
  obtain rfl : i = t.hours.length := by omega
  by_cases e1 : inB t.res 0 120 = true
  case neg =>
    have hWf := hW.trans (tt_big fun h => e1 h.2.2)
    simp (maxSteps := 4000000) +contextual (disch := first | omega | exact qdb_ok (by kernel_rfl) | exact okb_ok (by kernel_rfl)) only [bw1,bw2,bw3,bw5,bw6,bw7,bc0,bc1,bc2,bc3,bc4,bc5,bc6,binIs,addF,AV.isPtr,AV.outs,AV.outF,packD,↓reduceIte,reduceCtorEq,Nat.reduceAdd,Nat.reduceLeDiff,tfb,x13_38,eq_self, Int.lt_irrefl, e1, hWf]
  by_cases e2 : (t.groups.length : Int) ≤ 5
  case neg =>
    have hWf := hW.trans (tt_big fun h => e2 h.1)
    simp (maxSteps := 4000000) +contextual (disch := first | omega | exact qdb_ok (by kernel_rfl) | exact okb_ok (by kernel_rfl)) only [bw1,bw2,bw3,bw4,bw5,bw6,bw7,bc0,bc1,bc2,bc3,bc4,bc5,bc6,binIs,addF,AV.isPtr,AV.isSlice,AV.rows,AV.outs,AV.outF,packD,↓reduceIte,reduceCtorEq,Nat.reduceAdd,Nat.reduceLeDiff,tfb,x13_38,eq_self, Int.lt_irrefl, e1, e2, hWf]
  by_cases e3 : (t.hours.length : Int) ≤ 12
  case neg =>
    have hWf := hW.trans (tt_big fun h => e3 h.2.1)
    simp (maxSteps := 4000000) +contextual (disch := first | omega | exact qdb_ok (by kernel_rfl) | exact okb_ok (by kernel_rfl)) only [bw1,bw2,bw3,bw4,bw5,bw6,bw7,bc0,bc1,bc2,bc3,bc4,bc5,bc6,binIs,addF,AV.isPtr,AV.isSlice,AV.rows,AV.outs,AV.outF,packD,↓reduceIte,reduceCtorEq,Nat.reduceAdd,Nat.reduceLeDiff,tfb,x13_38,eq_self, Int.lt_irrefl, e1, e2, e3, hWf]
  simp (maxSteps := 4000000) +contextual (disch := first | omega | exact qdb_ok (by kernel_rfl) | exact okb_ok (by kernel_rfl)) only [bw1,bw2,bw3,bw4,bw5,bw6,bw7,bc0,bc1,bc2,bc3,bc4,bc5,bc6,binIs,addF,AV.isPtr,AV.isSlice,AV.rows,↓reduceIte,reduceCtorEq,Nat.reduceAdd,Nat.reduceSub,List.reduceReplicate,Nat.reduceLeDiff,Int.reduceNeg,tfb,x13_38,z13_39,z39_56,eq_self, Int.lt_irrefl, e1, e2, e3]
  refine loop_xu (O := O56) (tb := 42000) Ct56_ok hmix (by kernel_rfl) (σ := Nat) (fun k => [(8, .i k), (5, .any)]) (fun _ => []) (fun k => k ≤ t.groups.length ∧ ∀ q, q < k → grOk (t.groups.getD q default) = true) (fun k => t.groups.length - k) 0 ⟨Nat.zero_le _, fun q hq => by omega⟩ ?_ ?_
  · simp (maxSteps := 4000000) +contextual (disch := first | omega | exact qdb_ok (by kernel_rfl) | exact okb_ok (by kernel_rfl)) only [bw4,bw5,bw6,bc0,bc3,bc5,bc6,AV.isNilS,AV.isNoRows,wk,↓reduceIte,reduceCtorEq,eq_self]
    try rfl
  rintro k ⟨hk, hkq⟩
  by_cases hlt : k < t.groups.length
  · have hlt' : (k : Int) < t.groups.length := by omega
    have hrw : (t.groups.map Gr.c).getD k [] = Gr.c (t.groups.getD k default) := Go.E.row_at hlt
    have hk0 : (0 : Int) ≤ k := by omega
    by_cases g1 : grOk (t.groups.getD k default) = true
    · simp (maxSteps := 4000000) +contextual (disch := first | omega | exact qdb_ok (by kernel_rfl) | exact okb_ok (by kernel_rfl)) only [bw1,bw2,bw4,bw5,bw6,bw7,bc0,bc1,bc2,bc3,bc4,bc5,bc6,AV.isNilS,AV.isNoRows,wk,binIs,idxV,AV.isSl,AV.rows,ps,pv,↓reduceIte,reduceCtorEq,Nat.reduceAdd,Nat.reduceLeDiff,Int.reduceNeg,tfb,x56_37,eq_self, hlt', hrw, g1, hk0]
      exact ⟨k + 1, ⟨⟨by omega, fun q hq => by rcases Nat.lt_succ_iff_lt_or_eq.1 hq with h' | rfl; exact hkq q h'; exact g1⟩, by omega⟩, rfl⟩
    · have g1b : grOk (t.groups.getD k default) = false := by simpa using g1
      have hWf := hW.trans (tt_gr fun h => g1 (all_get.1 h k hlt))
      simp (maxSteps := 4000000) +contextual (disch := first | omega | exact qdb_ok (by kernel_rfl) | exact okb_ok (by kernel_rfl)) only [bw1,bw2,bw3,bw4,bw5,bw6,bw7,bc0,bc1,bc2,bc3,bc4,bc5,bc6,binIs,idxV,AV.isSl,AV.rows,ps,pv,AV.outs,AV.outF,packD,packA,↓reduceIte,Nat.reduceAdd,Nat.reduceLeDiff,Int.reduceNeg,tfb,x56_37,eq_self, hlt', hrw, g1b, hk0, hWf]
  obtain rfl : k = t.groups.length := by omega
  have hWt := hW.trans (tt_end ⟨e2, e3, e1⟩ (all_get.2 hkq) hq)
  simp (maxSteps := 4000000) +contextual (disch := first | omega | exact qdb_ok (by kernel_rfl) | exact okb_ok (by kernel_rfl)) only [bw1,bw2,bw3,bw5,bw6,bw7,bc0,bc1,bc2,bc3,bc4,bc5,bc6,binIs,AV.outs,AV.outF,packD,packA,↓reduceIte,Nat.reduceAdd,Int.reduceNeg,Int.reduceLE,tfb,eq_self, Int.lt_irrefl, hWt]
def ent13 (args : List AV) (K : AV → List AV → Sto → Prop) (e : List AV) (s : Sto) : Prop := ent (α := (Tt)) (fun aa => [.agg aa.c]) (fun aa => aa.hours.length ≤ 1000 ∧ aa.groups.length ≤ 1000) (fun aa => .b (ttOk aa)) args K e s
theorem ent13_ok {args : List AV} {K : AV → List AV → Sto → Prop} {Q : Kt} {e : List AV} {s : Sto} (h : ent13 args K e s) : pcall Try.prog 13 args K Q e s := ent_ok (fun aa h => pf13 aa h) h
theorem eq13 {t : Tt} {KK : AV → List AV → Sto → Prop} {ee : List AV} {ss : Sto} : ent13 [.d (.agg t.c)] KK ee ss = ((t.hours.length ≤ 1000 ∧ t.groups.length ≤ 1000) ∧ KK (.d (.b (ttOk t))) ee ss) := by
  unfold ent13; rw [ent_iff t (by intro b h; simpa [Prod.ext_iff, and_assoc, Int.ofNat_inj, ints_inj, hrs_inj, grs_inj, hr_inj, gr_inj, tt_inj] using h) rfl]; simp
def O6 : Nat → Sch := fun id => if id = 13 then .one 0 (.one 1 (.one 2 (.one 3 (.one 4 (.one 5 (.one 6 (.one 7 (.one 8 (.one 9 (.one 10 (.one 11 (.one 12 (.one 13 (.one 14 (.one 15 (.one 16 (.one 17 (.one 18 (.one 19 (.one 20 (.one 21 (.one 22 (.one 23 (.one 24 (.one 25 (.one 26 (.one 27 (.one 28 (.one 29 (.one 30 (.one 31 (.one 32 (.one 33 (.one 34 (.one 35 (.one 36 (.one 37 (.done)))))))))))))))))))))))))))))))))))))) else .done
theorem O6_13 : O6 13 = .one 0 (.one 1 (.one 2 (.one 3 (.one 4 (.one 5 (.one 6 (.one 7 (.one 8 (.one 9 (.one 10 (.one 11 (.one 12 (.one 13 (.one 14 (.one 15 (.one 16 (.one 17 (.one 18 (.one 19 (.one 20 (.one 21 (.one 22 (.one 23 (.one 24 (.one 25 (.one 26 (.one 27 (.one 28 (.one 29 (.one 30 (.one 31 (.one 32 (.one 33 (.one 34 (.one 35 (.one 36 (.one 37 (.done)))))))))))))))))))))))))))))))))))))) := rfl
theorem ho6 : Try.f6.body.map (okO O6) = some true := by kernel_rfl
def Cf6 : Nat → List AV → (AV → List AV → Sto → Prop) → Kt → List AV → Sto → Prop := fun f args K Q e s => match f with
  | 18 => ent18 args K e s
  | _ => False
def Ct6 : CT := { f := Cf6, y := noYld, z := fun d => false }
theorem Ct6_ok : Ct6.ok Try.prog := ok_of_f (fun f args K Q e s h => by
  have h : Cf6 f args K Q e s := h
  unfold Cf6 at h; split at h
  · exact ent18_ok h
  · exact h.elim) (fun _ _ _ _ _ _ _ _ _ h => h)
theorem x6_18 {n : Int} {lo : Int} {hi : Int} {KK : AV → List AV → Sto → Prop} {QQ : Kt} {ii : At KK} {jj : At QQ} {ee : List AV} {ss : Sto} : xC Ct6 18 [.d (.i n), .d (.i lo), .d (.i hi)] KK QQ ii jj ee ss = (KK (.d (.b (inB n lo hi))) ee ss) := eq18
theorem c6 : callable Try.prog 6 = true := by kernel_rfl
theorem pf6 (t : Tt) (h : t.hours.length ≤ 1000 ∧ t.groups.length ≤ 1000) : PF Try.prog 6 [.agg t.c] (fun zz => zz = .ret (.b (ttOk t))) := by
  obtain ⟨hh, hg⟩ := h
  obtain ⟨W, hW⟩ : ∃ W, W = ttOk t := ⟨_, rfl⟩
  rw [← hW]
  refine PF_nil (PF_start (O := O6) Ct6_ok hmix ho6 Try.func6 c6 rfl Try.ntmps6 Try.results6 ?_)
  simp (maxSteps := 4000000) +contextual (disch := first | omega | exact qdb_ok (by kernel_rfl) | exact okb_ok (by kernel_rfl)) only [bw1,bw2,bw5,bw6,bc3,bc4,bc5,bc6,AV.cells?,↓reduceIte,reduceCtorEq,Nat.reduceAdd,Nat.reduceSub,List.reduceReplicate,Nat.reduceLT]
  refine loop_xu (O := O6) (tb := 0) Ct6_ok hmix (by kernel_rfl) (σ := Nat) (fun k => [(3, .i k), (4, .any)]) (fun _ => []) (fun k => k ≤ t.groups.length ∧ ∀ q, q < k → grOk (t.groups.getD q default) = true) (fun k => t.groups.length - k) 0 ⟨Nat.zero_le _, fun q hq => by omega⟩ ?_ ?_
  · simp (maxSteps := 4000000) +contextual (disch := first | omega | exact qdb_ok (by kernel_rfl) | exact okb_ok (by kernel_rfl)) only [bw4,bw5,bw6,bc0,bc3,bc5,bc6,AV.isNilS,AV.isNoRows,wk,↓reduceIte,reduceCtorEq,eq_self]
    try rfl
  rintro k ⟨hk, hkq⟩
  by_cases hlt : k < t.groups.length
  · have hlt' : (k : Int) < t.groups.length := by omega
    have hrw : (t.groups.map Gr.c).getD k [] = Gr.c (t.groups.getD k default) := Go.E.row_at hlt
    have hk0 : (0 : Int) ≤ k := by omega
    have hWf : grOk (t.groups.getD k default) = false → W = false := fun h => hW.trans (tt_gr fun h' => by rw [all_get.1 h' k hlt] at h; cases h)
    unfold grOk at hWf
    by_cases c1 : inB (t.groups.getD k default).days 0 127 = true
    case neg =>
      have hW0 := hWf (Bool.eq_false_iff.2 fun h => c1 (by simp only [Bool.and_eq_true] at h; exact h.1))
      simp (maxSteps := 4000000) +contextual (disch := first | omega | exact qdb_ok (by kernel_rfl) | exact okb_ok (by kernel_rfl)) only [bw1,bw2,bw3,bw4,bw5,bw6,bw7,bc0,bc1,bc2,bc3,bc4,bc5,bc6,binIs,addF,AV.isPtr,idxV,AV.isSl,AV.isSlice,AV.rows,ps,pv,AV.outs,AV.outF,packD,AV.cells?,AV.menc,AV.one,D.one,Value.oneCell',↓reduceIte,reduceCtorEq,Nat.reduceAdd,Nat.reduceLeDiff,Nat.reduceLT,Nat.reduceBEq,Nat.reduceEqDiff,tfb,x6_18,eq_self, hlt', hrw, hk0, c1, hW0]
    by_cases c2 : inB (t.groups.getD k default).early 0 1440 = true
    case neg =>
      have hW0 := hWf (Bool.eq_false_iff.2 fun h => c2 (by simp only [Bool.and_eq_true] at h; exact h.2.1))
      simp (maxSteps := 4000000) +contextual (disch := first | omega | exact qdb_ok (by kernel_rfl) | exact okb_ok (by kernel_rfl)) only [bw1,bw2,bw3,bw4,bw5,bw6,bw7,bc0,bc1,bc2,bc3,bc4,bc5,bc6,binIs,addF,AV.isPtr,idxV,AV.isSl,AV.isSlice,AV.rows,ps,pv,AV.outs,AV.outF,packD,AV.cells?,AV.menc,AV.one,D.one,Value.oneCell',↓reduceIte,reduceCtorEq,Nat.reduceAdd,Nat.reduceLeDiff,Nat.reduceLT,Nat.reduceBEq,Nat.reduceEqDiff,tfb,x6_18,eq_self, hlt', hrw, hk0, c1, c2, hW0]
    by_cases c3 : inB (t.groups.getD k default).late 0 1440 = true
    case neg =>
      have hW0 := hWf (Bool.eq_false_iff.2 fun h => c3 (by simp only [Bool.and_eq_true] at h; exact h.2.2.1))
      simp (maxSteps := 4000000) +contextual (disch := first | omega | exact qdb_ok (by kernel_rfl) | exact okb_ok (by kernel_rfl)) only [bw1,bw2,bw3,bw4,bw5,bw6,bw7,bc0,bc1,bc2,bc3,bc4,bc5,bc6,binIs,addF,AV.isPtr,idxV,AV.isSl,AV.isSlice,AV.rows,ps,pv,AV.outs,AV.outF,packD,AV.cells?,AV.menc,AV.one,D.one,Value.oneCell',↓reduceIte,reduceCtorEq,Nat.reduceAdd,Nat.reduceLeDiff,Nat.reduceLT,Nat.reduceBEq,Nat.reduceEqDiff,tfb,x6_18,eq_self, hlt', hrw, hk0, c1, c2, c3, hW0]
    by_cases c4 : inB (t.groups.getD k default).most 0 12 = true
    case neg =>
      have hW0 := hWf (Bool.eq_false_iff.2 fun h => c4 (by simp only [Bool.and_eq_true] at h; exact h.2.2.2.1))
      simp (maxSteps := 4000000) +contextual (disch := first | omega | exact qdb_ok (by kernel_rfl) | exact okb_ok (by kernel_rfl)) only [bw1,bw2,bw3,bw4,bw5,bw6,bw7,bc0,bc1,bc2,bc3,bc4,bc5,bc6,binIs,addF,AV.isPtr,idxV,AV.isSl,AV.isSlice,AV.rows,ps,pv,AV.outs,AV.outF,packD,AV.cells?,AV.menc,AV.one,D.one,Value.oneCell',↓reduceIte,reduceCtorEq,Nat.reduceAdd,Nat.reduceLeDiff,Nat.reduceLT,Nat.reduceBEq,Nat.reduceEqDiff,tfb,x6_18,eq_self, hlt', hrw, hk0, c1, c2, c3, c4, hW0]
    by_cases c5 : inB (t.groups.getD k default).cred 0 1000 = true
    case neg =>
      have hW0 := hWf (Bool.eq_false_iff.2 fun h => c5 (by simp only [Bool.and_eq_true] at h; exact h.2.2.2.2))
      simp (maxSteps := 4000000) +contextual (disch := first | omega | exact qdb_ok (by kernel_rfl) | exact okb_ok (by kernel_rfl)) only [bw1,bw2,bw3,bw4,bw5,bw6,bw7,bc0,bc1,bc2,bc3,bc4,bc5,bc6,binIs,addF,AV.isPtr,idxV,AV.isSl,AV.isSlice,AV.rows,ps,pv,AV.outs,AV.outF,packD,AV.cells?,AV.menc,AV.one,D.one,Value.oneCell',↓reduceIte,reduceCtorEq,Nat.reduceAdd,Nat.reduceLeDiff,Nat.reduceLT,Nat.reduceBEq,Nat.reduceEqDiff,tfb,x6_18,eq_self, hlt', hrw, hk0, c1, c2, c3, c4, c5, hW0]
    have g1 : grOk (t.groups.getD k default) = true := by unfold grOk; rw [c1, c2, c3, c4, c5]; rfl
    simp (maxSteps := 4000000) +contextual (disch := first | omega | exact qdb_ok (by kernel_rfl) | exact okb_ok (by kernel_rfl)) only [bw1,bw2,bw3,bw4,bw5,bw6,bw7,bc0,bc1,bc2,bc3,bc4,bc5,bc6,AV.isNilS,AV.isNoRows,wk,binIs,addF,AV.isPtr,idxV,AV.isSl,AV.isSlice,AV.rows,ps,pv,AV.cells?,AV.menc,AV.one,D.one,Value.oneCell',↓reduceIte,reduceCtorEq,Nat.reduceAdd,Nat.reduceLeDiff,Nat.reduceLT,Nat.reduceBEq,Nat.reduceEqDiff,tfb,x6_18,eq_self, hlt', hrw, hk0, c1, c2, c3, c4, c5]
    exact ⟨k + 1, ⟨⟨by omega, fun q hq => by rcases Nat.lt_succ_iff_lt_or_eq.1 hq with h' | rfl; exact hkq q h'; exact g1⟩, by omega⟩, rfl⟩
  obtain rfl : k = t.groups.length := by omega
  simp (maxSteps := 4000000) +contextual (disch := first | omega | exact qdb_ok (by kernel_rfl) | exact okb_ok (by kernel_rfl)) only [bw1,bw2,bw4,bw5,bw6,bw7,bc0,bc1,bc2,bc3,bc4,bc5,bc6,binIs,addF,AV.isPtr,AV.isSlice,AV.rows,↓reduceIte,reduceCtorEq,Nat.reduceAdd,Nat.reduceLeDiff,tfb,eq_self, Int.lt_irrefl]
  refine loop_xu (O := O6) (tb := 0) Ct6_ok hmix (by kernel_rfl) (σ := Nat) (fun i => [(5, .i i), (6, .any)]) (fun _ => []) (fun i => i ≤ t.hours.length ∧ ∀ q, q < i → hrAt t.hours q = true) (fun i => t.hours.length - i) 0 ⟨Nat.zero_le _, fun q hq => by omega⟩ ?_ ?_
  · simp (maxSteps := 4000000) +contextual (disch := first | omega | exact qdb_ok (by kernel_rfl) | exact okb_ok (by kernel_rfl)) only [bw4,bw5,bw6,bc0,bc3,bc5,bc6,AV.isNilS,AV.isNoRows,wk,↓reduceIte,reduceCtorEq,eq_self]
    try rfl
  rintro i ⟨hi, hq⟩
  by_cases hlt : i < t.hours.length
  · have hlt' : (i : Int) < t.hours.length := by omega
    have hrw : (t.hours.map Hr.c).getD i [] = Hr.c (t.hours.getD i default) := Go.E.row_at hlt
    have hno : hrAt t.hours i = false → W = false := fun h => hW.trans (tt_hr hlt h)
    have hgo : hrAt t.hours i = true → ∀ q, q < i + 1 → hrAt t.hours q = true := fun h q hq' => by rcases Nat.lt_succ_iff_lt_or_eq.1 hq' with h' | rfl; exact hq q h'; exact h
    have hi0 : (0 : Int) ≤ i := by omega
    by_cases d1 : inB (t.hours.getD i default).day 0 6 = true
    case neg =>
      have hWf := hno (hrAt_no (hrOk_1 d1))
      simp (maxSteps := 4000000) +contextual (disch := first | omega | exact qdb_ok (by kernel_rfl) | exact okb_ok (by kernel_rfl)) only [bw1,bw2,bw3,bw4,bw5,bw6,bw7,bc0,bc1,bc2,bc3,bc4,bc5,bc6,binIs,addF,AV.isPtr,idxV,AV.isSl,AV.isSlice,AV.rows,ps,pv,AV.outs,AV.outF,packD,AV.cells?,AV.menc,AV.one,D.one,Value.oneCell',↓reduceIte,reduceCtorEq,Nat.reduceAdd,Nat.reduceLeDiff,Nat.reduceLT,Nat.reduceBEq,Nat.reduceEqDiff,tfb,x6_18,eq_self, hlt', hrw, d1, hWf, hi0]
    by_cases d2 : (t.hours.getD i default).b < 0
    case pos =>
      have hWf := hno (hrAt_no (hrOk_2 d2))
      simp (maxSteps := 4000000) +contextual (disch := first | omega | exact qdb_ok (by kernel_rfl) | exact okb_ok (by kernel_rfl)) only [bw1,bw2,bw3,bw4,bw5,bw6,bw7,bc0,bc1,bc2,bc3,bc4,bc5,bc6,binIs,addF,AV.isPtr,idxV,AV.isSl,AV.isSlice,AV.rows,ps,pv,AV.outs,AV.outF,packD,AV.cells?,AV.menc,AV.one,D.one,Value.oneCell',↓reduceIte,reduceCtorEq,Nat.reduceAdd,Nat.reduceLeDiff,Nat.reduceLT,Nat.reduceBEq,Nat.reduceEqDiff,tfb,x6_18,eq_self, hlt', hrw, d1, d2, hWf, hi0]
    by_cases d3 : (t.hours.getD i default).e ≤ (t.hours.getD i default).b
    case pos =>
      have hWf := hno (hrAt_no (hrOk_3 d3))
      simp (maxSteps := 4000000) +contextual (disch := first | omega | exact qdb_ok (by kernel_rfl) | exact okb_ok (by kernel_rfl)) only [bw1,bw2,bw3,bw4,bw5,bw6,bw7,bc0,bc1,bc2,bc3,bc4,bc5,bc6,binIs,addF,AV.isPtr,idxV,AV.isSl,AV.isSlice,AV.rows,ps,pv,AV.outs,AV.outF,packD,AV.cells?,AV.menc,AV.one,D.one,Value.oneCell',↓reduceIte,reduceCtorEq,Nat.reduceAdd,Nat.reduceLeDiff,Nat.reduceLT,Nat.reduceBEq,Nat.reduceEqDiff,tfb,x6_18,eq_self, hlt', hrw, d1, d2, d3, hWf, hi0]
    by_cases d4 : 1440 < (t.hours.getD i default).e
    case pos =>
      have hWf := hno (hrAt_no (hrOk_4 d4))
      simp (maxSteps := 4000000) +contextual (disch := first | omega | exact qdb_ok (by kernel_rfl) | exact okb_ok (by kernel_rfl)) only [bw1,bw2,bw3,bw4,bw5,bw6,bw7,bc0,bc1,bc2,bc3,bc4,bc5,bc6,binIs,addF,AV.isPtr,idxV,AV.isSl,AV.isSlice,AV.rows,ps,pv,AV.outs,AV.outF,packD,AV.cells?,AV.menc,AV.one,D.one,Value.oneCell',↓reduceIte,reduceCtorEq,Nat.reduceAdd,Nat.reduceLeDiff,Nat.reduceLT,Nat.reduceBEq,Nat.reduceEqDiff,tfb,x6_18,eq_self, hlt', hrw, d1, d2, d3, d4, hWf, hi0]
    by_cases z : i = 0
    · have hz : ¬ (0 : Int) < (i : Int) := by omega
      have ho := hgo (hrAt_ok d1 d2 d3 d4 (.inl z))
      simp (maxSteps := 4000000) +contextual (disch := first | omega | exact qdb_ok (by kernel_rfl) | exact okb_ok (by kernel_rfl)) only [bw1,bw2,bw3,bw4,bw5,bw6,bw7,bc0,bc1,bc2,bc3,bc4,bc5,bc6,AV.isNilS,AV.isNoRows,wk,binIs,addF,AV.isPtr,idxV,AV.isSl,AV.isSlice,AV.rows,ps,pv,AV.cells?,AV.menc,AV.one,D.one,Value.oneCell',↓reduceIte,reduceCtorEq,Nat.reduceAdd,Nat.reduceLeDiff,Nat.reduceLT,Nat.reduceBEq,Nat.reduceEqDiff,tfb,O6_13,x6_18,eq_self, hlt', hrw, d1, d2, d3, d4, hz, hi0]
      exact ⟨i + 1, ⟨⟨by omega, ho⟩, by omega⟩, rfl⟩
    have hz : (0 : Int) < (i : Int) := by omega
    have hrw2 : (t.hours.map Hr.c).getD (i - 1) [] = Hr.c (t.hours.getD (i - 1) default) := Go.E.row_at (by omega)
    have y1 : ((i : Int) - 1).toNat = i - 1 := by omega
    have y2 : (0 : Int) ≤ (i : Int) - 1 := by omega
    have y3 : (i : Int) - 1 < t.hours.length := by omega
    by_cases d5 : (t.hours.getD i default).day < (t.hours.getD (i - 1) default).day
    · have hWf := hno (hrAt_or (by omega) (orNo_1 d5))
      simp (maxSteps := 4000000) +contextual (disch := first | omega | exact qdb_ok (by kernel_rfl) | exact okb_ok (by kernel_rfl)) only [bw1,bw2,bw3,bw4,bw5,bw6,bw7,bc0,bc1,bc2,bc3,bc4,bc5,bc6,binIs,addF,AV.isPtr,idxV,AV.isSl,AV.isSlice,AV.rows,ps,pv,AV.outs,AV.outF,packD,AV.cells?,AV.menc,AV.one,D.one,Value.oneCell',↓reduceIte,reduceCtorEq,Nat.reduceAdd,Nat.reduceLeDiff,Nat.reduceLT,Nat.reduceBEq,Nat.reduceEqDiff,tfb,O6_13,x6_18,eq_self, hlt', hrw, d1, d2, d3, d4, d5, hz, hrw2, y1, y2, y3, hWf, hi0]
    by_cases d6 : (t.hours.getD i default).day = (t.hours.getD (i - 1) default).day
    · have d6b : ((t.hours.getD i default).day == (t.hours.getD (i - 1) default).day) = true := by simpa using d6
      by_cases d7 : (t.hours.getD i default).b < (t.hours.getD (i - 1) default).e
      · have hWf := hno (hrAt_or (by omega) (orNo_2 d6 d7))
        simp (maxSteps := 4000000) +contextual (disch := first | omega | exact qdb_ok (by kernel_rfl) | exact okb_ok (by kernel_rfl)) only [bw1,bw2,bw3,bw4,bw5,bw6,bw7,bc0,bc1,bc2,bc3,bc4,bc5,bc6,binIs,addF,AV.isPtr,idxV,AV.isSl,AV.isSlice,AV.rows,ps,pv,AV.outs,AV.outF,packD,AV.cells?,AV.menc,AV.one,D.one,Value.oneCell',↓reduceIte,reduceCtorEq,Nat.reduceAdd,Nat.reduceLeDiff,Nat.reduceLT,Nat.reduceBEq,Nat.reduceEqDiff,tfb,O6_13,x6_18,eq_self, hlt', hrw, d1, d2, d3, d4, d5, d6b, d7, hz, hrw2, y1, y2, y3, hWf, hi0]
      · have ho := hgo (hrAt_ok d1 d2 d3 d4 (.inr (orNo_4 d5 d7)))
        simp (maxSteps := 4000000) +contextual (disch := first | omega | exact qdb_ok (by kernel_rfl) | exact okb_ok (by kernel_rfl)) only [bw1,bw2,bw3,bw4,bw5,bw6,bw7,bc0,bc1,bc2,bc3,bc4,bc5,bc6,AV.isNilS,AV.isNoRows,wk,binIs,addF,AV.isPtr,idxV,AV.isSl,AV.isSlice,AV.rows,ps,pv,AV.cells?,AV.menc,AV.one,D.one,Value.oneCell',↓reduceIte,reduceCtorEq,Nat.reduceAdd,Nat.reduceLeDiff,Nat.reduceLT,Nat.reduceBEq,Nat.reduceEqDiff,tfb,O6_13,x6_18,eq_self, hlt', hrw, d1, d2, d3, d4, d5, d6b, d7, hz, hrw2, y1, y2, y3, hi0]
        exact ⟨i + 1, ⟨⟨by omega, ho⟩, by omega⟩, rfl⟩
    · have d6b : ((t.hours.getD i default).day == (t.hours.getD (i - 1) default).day) = false := by simpa using d6
      have ho := hgo (hrAt_ok d1 d2 d3 d4 (.inr (orNo_3 d5 d6)))
      simp (maxSteps := 4000000) +contextual (disch := first | omega | exact qdb_ok (by kernel_rfl) | exact okb_ok (by kernel_rfl)) only [bw1,bw2,bw3,bw4,bw5,bw6,bw7,bc0,bc1,bc2,bc3,bc4,bc5,bc6,AV.isNilS,AV.isNoRows,wk,binIs,addF,AV.isPtr,idxV,AV.isSl,AV.isSlice,AV.rows,ps,pv,AV.cells?,AV.menc,AV.one,D.one,Value.oneCell',↓reduceIte,reduceCtorEq,Nat.reduceAdd,Nat.reduceLeDiff,Nat.reduceLT,Nat.reduceBEq,Nat.reduceEqDiff,tfb,O6_13,x6_18,eq_self, hlt', hrw, d1, d2, d3, d4, d5, d6b, hz, hrw2, y1, y2, y3, hi0]
      exact ⟨i + 1, ⟨⟨by omega, ho⟩, by omega⟩, rfl⟩
  obtain rfl : i = t.hours.length := by omega
  by_cases e1 : inB t.res 0 120 = true
  case neg =>
    have hWf := hW.trans (tt_big fun h => e1 h.2.2)
    simp (maxSteps := 4000000) +contextual (disch := first | omega | exact qdb_ok (by kernel_rfl) | exact okb_ok (by kernel_rfl)) only [bw1,bw2,bw3,bw4,bw5,bw6,bw7,bc0,bc1,bc2,bc3,bc4,bc5,bc6,binIs,addF,AV.isPtr,AV.isSlice,AV.rows,AV.outs,AV.outF,packD,↓reduceIte,reduceCtorEq,Nat.reduceAdd,Nat.reduceLeDiff,tfb,x6_18,eq_self, Int.lt_irrefl, e1, hWf]
  by_cases e2 : (t.groups.length : Int) ≤ 5
  case neg =>
    have hWf := hW.trans (tt_big fun h => e2 h.1)
    simp (maxSteps := 4000000) +contextual (disch := first | omega | exact qdb_ok (by kernel_rfl) | exact okb_ok (by kernel_rfl)) only [bw1,bw2,bw3,bw4,bw5,bw6,bw7,bc0,bc1,bc2,bc3,bc4,bc5,bc6,binIs,addF,AV.isPtr,AV.isSlice,AV.rows,AV.outs,AV.outF,packD,↓reduceIte,reduceCtorEq,Nat.reduceAdd,Nat.reduceLeDiff,tfb,x6_18,eq_self, Int.lt_irrefl, e1, e2, hWf]
  by_cases e3 : (t.hours.length : Int) ≤ 12
  case neg =>
    have hWf := hW.trans (tt_big fun h => e3 h.2.1)
    simp (maxSteps := 4000000) +contextual (disch := first | omega | exact qdb_ok (by kernel_rfl) | exact okb_ok (by kernel_rfl)) only [bw1,bw2,bw3,bw4,bw5,bw6,bw7,bc0,bc1,bc2,bc3,bc4,bc5,bc6,binIs,addF,AV.isPtr,AV.isSlice,AV.rows,AV.outs,AV.outF,packD,↓reduceIte,reduceCtorEq,Nat.reduceAdd,Nat.reduceLeDiff,tfb,x6_18,eq_self, Int.lt_irrefl, e1, e2, e3, hWf]
  have hWt := hW.trans (tt_end ⟨e2, e3, e1⟩ (all_get.2 hkq) hq)
  simp (maxSteps := 4000000) +contextual (disch := first | omega | exact qdb_ok (by kernel_rfl) | exact okb_ok (by kernel_rfl)) only [bw1,bw2,bw3,bw4,bw5,bw6,bw7,bc0,bc1,bc2,bc3,bc4,bc5,bc6,binIs,addF,AV.isPtr,AV.isSlice,AV.rows,AV.outs,AV.outF,packD,↓reduceIte,reduceCtorEq,Nat.reduceAdd,Nat.reduceLeDiff,tfb,x6_18,eq_self, Int.lt_irrefl, e1, e2, e3, hWt]
def ent6 (args : List AV) (K : AV → List AV → Sto → Prop) (e : List AV) (s : Sto) : Prop := ent (α := (Tt)) (fun aa => [.agg aa.c]) (fun aa => aa.hours.length ≤ 1000 ∧ aa.groups.length ≤ 1000) (fun aa => .b (ttOk aa)) args K e s
theorem ent6_ok {args : List AV} {K : AV → List AV → Sto → Prop} {Q : Kt} {e : List AV} {s : Sto} (h : ent6 args K e s) : pcall Try.prog 6 args K Q e s := ent_ok (fun aa h => pf6 aa h) h
theorem eq6 {t : Tt} {KK : AV → List AV → Sto → Prop} {ee : List AV} {ss : Sto} : ent6 [.d (.agg t.c)] KK ee ss = ((t.hours.length ≤ 1000 ∧ t.groups.length ≤ 1000) ∧ KK (.d (.b (ttOk t))) ee ss) := by
  unfold ent6; rw [ent_iff t (by intro b h; simpa [Prod.ext_iff, and_assoc, Int.ofNat_inj, ints_inj, hrs_inj, grs_inj, hr_inj, gr_inj, tt_inj] using h) rfl]; simp
end Go.Proofs.Ytofbbkacihnjdaa
