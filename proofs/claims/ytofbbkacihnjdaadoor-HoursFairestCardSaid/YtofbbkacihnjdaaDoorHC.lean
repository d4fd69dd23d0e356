/- A part of the proof that the last text ends: what functions of the program do, told by plain data. -/
import Derived.Test.YtofbbkacihnjdaaDoorHB
set_option linter.unusedVariables false
set_option linter.unusedSimpArgs false
namespace Go.Proofs.YtofbbkacihnjdaaDoor
open Go Go.E
set_option maxRecDepth 100000
set_option maxHeartbeats 16000000
def dayB (days day : Int) : Bool := decide (days / (2 ^ day.toNat : Nat) % 2 = 1)
def mayB (g : Gr) (h : Hr) : Bool := dayB g.days h.day && (decide (g.early ≤ h.b) && decide (h.e ≤ g.late))
theorem p2_b {k : Nat} (h : k ≤ 6) : 1 ≤ 2 ^ k ∧ 2 ^ k ≤ 64 := by
  have h1 : 2 ^ k ≤ 2 ^ 6 := Nat.pow_le_pow_right (by decide) h
  have h2 : 0 < 2 ^ k := Nat.pow_pos (by decide)
  omega
def O50 : Nat → Sch := fun id => .done
theorem ho50 : Tryd.f50.body.map (okO O50) = some true := by kernel_rfl
def Cf50 : Nat → List AV → (AV → List AV → Sto → Prop) → Kt → List AV → Sto → Prop := fun f args K Q e s => match f with
  | _ => False
def Ct50 : CT := { f := Cf50, y := noYld, z := fun d => false }
theorem Ct50_ok : Ct50.ok Tryd.prog := ok_of_f (fun f args K Q e s h => by
  have h : Cf50 f args K Q e s := h
  unfold Cf50 at h; split at h
  · exact h.elim) (fun _ _ _ _ _ _ _ _ _ h => h)
theorem c50 : callable Tryd.prog 50 = true := by kernel_rfl
theorem pf50 (g : Gr) (h' : Hr) (h : (0 ≤ g.days ∧ g.days ≤ 127) ∧ 0 ≤ h'.day ∧ h'.day ≤ 6) : PF Tryd.prog 50 [.agg g.c, .agg h'.c] (fun zz => zz = .ret (.b (mayB g h'))) := by
  obtain ⟨⟨hg1, hg2⟩, hd1, hd2⟩ := h
  obtain ⟨n, hn⟩ : ∃ n : Nat, h'.day = (n : Int) := ⟨h'.day.toNat, by omega⟩
  have hn6 : n ≤ 6 := by omega
  obtain ⟨W, hW⟩ : ∃ W, W = mayB g h' := ⟨_, rfl⟩
  rw [← hW]
  unfold mayB dayB at hW
  rw [hn, Int.toNat_natCast] at hW
  refine PF_nil (PF_start (O := O50) Ct50_ok hmix ho50 Tryd.func50 c50 rfl Tryd.ntmps50 Tryd.results50 ?_)
  simp (maxSteps := 4000000) +contextual (disch := first | omega | exact qdb_ok (by kernel_rfl) | exact okb_ok (by kernel_rfl)) only [bw1,bw2,bw5,bw6,bc3,bc4,bc5,bc6,AV.cells?,↓reduceIte,reduceCtorEq,Nat.reduceAdd,Nat.reduceSub,List.reduceReplicate,Nat.reduceLT,Nat.reduceBEq,Nat.reduceEqDiff,hn]
  refine loop_xu (O := O50) (tb := 0) Ct50_ok hmix (by kernel_rfl) (σ := Nat) (fun k => [(5, .i ((2 ^ k : Nat) : Int)), (6, .i k)]) (fun _ => []) (fun k => k ≤ n) (fun k => n - k) 0 (Nat.zero_le _) ?_ ?_
  · have hz : (2 ^ 0 : Nat) = 1 := rfl
    simp (maxSteps := 4000000) +contextual (disch := first | omega | exact qdb_ok (by kernel_rfl) | exact okb_ok (by kernel_rfl)) only [bw4,bw5,bw6,bc0,bc3,bc5,bc6,AV.isNilS,AV.isNoRows,wk,↓reduceIte,reduceCtorEq,Nat.reduceEqDiff,eq_self, hz]
    try rfl
  rintro k hk
  have hb := p2_b (k := k) (by omega)
  by_cases hlt : k < n
  · have hlt' : (k : Int) < n := by omega
    have hs : ((2 ^ (k + 1) : Nat) : Int) = 2 * ((2 ^ k : Nat) : Int) := by rw [Nat.pow_succ]; omega
    obtain ⟨P, hP⟩ : ∃ P : Nat, P = 2 ^ k := ⟨_, rfl⟩
    rw [← hP] at hs hb ⊢
    simp (maxSteps := 4000000) +contextual (disch := first | omega | exact qdb_ok (by kernel_rfl) | exact okb_ok (by kernel_rfl)) only [bw1,bw2,bw5,bw6,bw7,bc0,bc1,bc2,bc3,bc4,bc5,bc6,AV.isNilS,AV.isNoRows,wk,binIs,addF,AV.isPtr,↓reduceIte,reduceCtorEq,Nat.reduceAdd,Nat.reduceLeDiff,Nat.reduceEqDiff,tfb,eq_self, hlt']
    repeat (refine And.intro (by omega) ?_)
    exact ⟨k + 1, ⟨by omega, by omega⟩, by rw [hs], rfl⟩
  obtain rfl : k = n := by omega
  obtain ⟨P, hP⟩ : ∃ P : Nat, P = 2 ^ k := ⟨_, rfl⟩
  rw [← hP] at hb hW ⊢
  have hP0 : ¬ (P : Int) = 0 := by omega
  have hq : g.days.tdiv (P : Int) = g.days / (P : Int) := Int.tdiv_eq_ediv_of_nonneg hg1
  have hq0 : 0 ≤ g.days / (P : Int) := Int.ediv_nonneg hg1 (by omega)
  have hq1 : g.days / (P : Int) ≤ g.days := Int.ediv_le_self _ hg1
  by_cases e1 : g.days / (P : Int) % 2 = 1
  · have e1b : (g.days / (P : Int) % 2 == 1) = true := by simpa using e1
    rw [decide_eq_true e1, Bool.true_and] at hW
    by_cases e2 : g.early ≤ h'.b
    · rw [decide_eq_true e2, Bool.true_and] at hW
      simp (maxSteps := 4000000) +contextual (disch := first | omega | exact qdb_ok (by kernel_rfl) | exact okb_ok (by kernel_rfl)) only [bw1,bw2,bw3,bw4,bw5,bw6,bw7,bc0,bc1,bc2,bc3,bc4,bc5,bc6,binIs,addF,AV.isPtr,AV.outs,AV.outF,packD,↓reduceIte,reduceCtorEq,Nat.reduceAdd,Nat.reduceLeDiff,Nat.reduceEqDiff,Int.reduceEq,tfb,eq_self, Int.lt_irrefl, hP0, e1b, e2, hW]
      try (and_intros <;> first | omega | rfl)
    · rw [decide_eq_false e2, Bool.false_and] at hW
      simp (maxSteps := 4000000) +contextual (disch := first | omega | exact qdb_ok (by kernel_rfl) | exact okb_ok (by kernel_rfl)) only [bw1,bw2,bw3,bw4,bw5,bw6,bw7,bc0,bc1,bc2,bc3,bc4,bc5,bc6,binIs,addF,AV.isPtr,AV.outs,AV.outF,packD,↓reduceIte,reduceCtorEq,Nat.reduceAdd,Nat.reduceLeDiff,Nat.reduceEqDiff,Int.reduceEq,tfb,eq_self, Int.lt_irrefl, hP0, e1b, e2, hW]
      try (and_intros <;> first | omega | rfl)
  · have e1b : (g.days / (P : Int) % 2 == 1) = false := by simpa using e1
    rw [decide_eq_false e1, Bool.false_and] at hW
    simp (maxSteps := 4000000) +contextual (disch := first | omega | exact qdb_ok (by kernel_rfl) | exact okb_ok (by kernel_rfl)) only [bw1,bw2,bw3,bw4,bw5,bw6,bw7,bc0,bc1,bc2,bc3,bc4,bc5,bc6,binIs,addF,AV.isPtr,AV.outs,AV.outF,packD,↓reduceIte,reduceCtorEq,Nat.reduceAdd,Nat.reduceLeDiff,Nat.reduceEqDiff,Int.reduceEq,tfb,eq_self, Int.lt_irrefl, hP0, e1b, hW]
    try (and_intros <;> first | omega | rfl)
def neB (t : Tt) (i : Nat) : Bool := decide (0 < i) && (decide ((t.hours.getD i default).day = (t.hours.getD (i - 1) default).day) && decide ((t.hours.getD i default).b - (t.hours.getD (i - 1) default).e < t.res))
theorem tt_hours {t : Tt} (h : ttOk t = true) : t.hours.length ≤ 12 ∧ t.groups.length ≤ 5 ∧ (0 ≤ t.res ∧ t.res ≤ 120) := by
  unfold ttOk at h
  simp only [Bool.and_eq_true, decide_eq_true_eq, inB_iff] at h
  omega
theorem tt_hour {t : Tt} (h : ttOk t = true) {i : Nat} (hi : i < t.hours.length) : (0 ≤ (t.hours.getD i default).day ∧ (t.hours.getD i default).day ≤ 6) ∧ 0 ≤ (t.hours.getD i default).b ∧ (t.hours.getD i default).b < (t.hours.getD i default).e ∧ (t.hours.getD i default).e ≤ 1440 := by
  unfold ttOk at h
  simp only [Bool.and_eq_true] at h
  have := List.all_eq_true.1 h.2.2.2.2 i (List.mem_range.2 hi)
  unfold hrAt hrOk at this
  simp only [Bool.and_eq_true, Bool.not_eq_true', decide_eq_false_iff_not, inB_iff] at this
  omega
theorem tt_group {t : Tt} (h : ttOk t = true) {i : Nat} (hi : i < t.groups.length) : (0 ≤ (t.groups.getD i default).days ∧ (t.groups.getD i default).days ≤ 127) ∧ (0 ≤ (t.groups.getD i default).most ∧ (t.groups.getD i default).most ≤ 12) ∧ 0 ≤ (t.groups.getD i default).cred ∧ (t.groups.getD i default).cred ≤ 1000 := by
  unfold ttOk at h
  simp only [Bool.and_eq_true] at h
  have := all_get.1 h.2.2.2.1 i hi
  unfold grOk at this
  simp only [Bool.and_eq_true, inB_iff] at this
  omega
def ent50 (args : List AV) (K : AV → List AV → Sto → Prop) (e : List AV) (s : Sto) : Prop := ent (α := (Gr) × (Hr)) (fun aa => [.agg aa.1.c, .agg aa.2.c]) (fun aa => (0 ≤ aa.1.days ∧ aa.1.days ≤ 127) ∧ 0 ≤ aa.2.day ∧ aa.2.day ≤ 6) (fun aa => .b (mayB aa.1 aa.2)) args K e s
theorem ent50_ok {args : List AV} {K : AV → List AV → Sto → Prop} {Q : Kt} {e : List AV} {s : Sto} (h : ent50 args K e s) : pcall Tryd.prog 50 args K Q e s := ent_ok (fun aa h => pf50 aa.1 aa.2 h) h
theorem eq50 {g : Gr} {h' : Hr} {KK : AV → List AV → Sto → Prop} {ee : List AV} {ss : Sto} : ent50 [.d (.agg g.c), .d (.agg h'.c)] KK ee ss = (((0 ≤ g.days ∧ g.days ≤ 127) ∧ 0 ≤ h'.day ∧ h'.day ≤ 6) ∧ KK (.d (.b (mayB g h'))) ee ss) := by
  unfold ent50; rw [ent_iff (g, h') (by intro b h; simpa [Prod.ext_iff, and_assoc, Int.ofNat_inj, ints_inj, hrs_inj, grs_inj, hr_inj, gr_inj, tt_inj] using h) rfl]; simp
def O57 : Nat → Sch := fun id => if id = 1 then .one 0 (.one 1 (.one 2 (.one 3 (.one 4 (.one 5 (.one 6 (.one 7 (.one 8 (.one 9 (.one 10 (.one 11 (.one 12 (.one 13 (.one 14 (.one 15 (.one 16 (.one 17 (.one 18 (.one 19 (.one 20 (.one 21 (.one 22 (.one 23 (.one 24 (.one 25 (.one 26 (.one 27 (.one 28 (.one 29 (.one 30 (.one 31 (.one 32 (.one 33 (.one 34 (.one 35 (.one 36 (.one 37 (.done)))))))))))))))))))))))))))))))))))))) else .done
theorem O57_1 : O57 1 = .one 0 (.one 1 (.one 2 (.one 3 (.one 4 (.one 5 (.one 6 (.one 7 (.one 8 (.one 9 (.one 10 (.one 11 (.one 12 (.one 13 (.one 14 (.one 15 (.one 16 (.one 17 (.one 18 (.one 19 (.one 20 (.one 21 (.one 22 (.one 23 (.one 24 (.one 25 (.one 26 (.one 27 (.one 28 (.one 29 (.one 30 (.one 31 (.one 32 (.one 33 (.one 34 (.one 35 (.one 36 (.one 37 (.done)))))))))))))))))))))))))))))))))))))) := rfl
theorem ho57 : Tryd.f57.body.map (okO O57) = some true := by kernel_rfl
def Cf57 : Nat → List AV → (AV → List AV → Sto → Prop) → Kt → List AV → Sto → Prop := fun f args K Q e s => match f with
  | _ => False
def Ct57 : CT := { f := Cf57, y := noYld, z := fun d => false }
theorem Ct57_ok : Ct57.ok Tryd.prog := ok_of_f (fun f args K Q e s h => by
  have h : Cf57 f args K Q e s := h
  unfold Cf57 at h; split at h
  · exact h.elim) (fun _ _ _ _ _ _ _ _ _ h => h)
theorem c57 : callable Tryd.prog 57 = true := by kernel_rfl
theorem pf57 (t : Tt) (i : Nat) (h : ttOk t = true ∧ i < t.hours.length) : PF Tryd.prog 57 [.agg t.c, .i (i : Int)] (fun zz => zz = .ret (.b (neB t i))) := by
  obtain ⟨ht, hi⟩ := h
  have hi' : (i : Int) < t.hours.length := by omega
  have hrw : (t.hours.map Hr.c).getD i [] = Hr.c (t.hours.getD i default) := Go.E.row_at hi
  have hb := tt_hour ht hi
  have hbig := tt_hours ht
  unfold neB
  by_cases z : i = 0
  · have hz : ¬ (0 : Int) < (i : Int) := by omega
    rw [decide_eq_false (show ¬ 0 < i by omega)]
    refine PF_nil (PF_start (O := O57) Ct57_ok hmix ho57 Tryd.func57 c57 rfl Tryd.ntmps57 Tryd.results57 ?_)
    simp (maxSteps := 4000000) +contextual (disch := first | omega | exact qdb_ok (by kernel_rfl) | exact okb_ok (by kernel_rfl)) only [bw1,bw2,bw3,bw5,bw6,bw7,bc0,bc1,bc2,bc3,bc4,bc5,bc6,binIs,AV.outs,AV.outF,packD,AV.cells?,↓reduceIte,reduceCtorEq,Nat.reduceAdd,Nat.reduceSub,List.reduceReplicate,Nat.reduceLT,tfb,O57_1,hz, Bool.false_and]
  have hz : (0 : Int) < (i : Int) := by omega
  rw [decide_eq_true (show 0 < i by omega)]
  have hb2 := tt_hour ht (i := i - 1) (by omega)
  have hrw2 : (t.hours.map Hr.c).getD (i - 1) [] = Hr.c (t.hours.getD (i - 1) default) := Go.E.row_at (by omega)
  have y1 : ((i : Int) - 1).toNat = i - 1 := by omega
  have y2 : (0 : Int) ≤ (i : Int) - 1 := by omega
  have y3 : (i : Int) - 1 < t.hours.length := by omega
  by_cases d6 : (t.hours.getD i default).day = (t.hours.getD (i - 1) default).day
  · have d6b : ((t.hours.getD i default).day == (t.hours.getD (i - 1) default).day) = true := by simpa using d6
    rw [decide_eq_true d6]
    refine PF_nil (PF_start (O := O57) Ct57_ok hmix ho57 Tryd.func57 c57 rfl Tryd.ntmps57 Tryd.results57 ?_)
    simp (maxSteps := 4000000) +contextual (disch := first | omega | exact qdb_ok (by kernel_rfl) | exact okb_ok (by kernel_rfl)) only [bw1,bw2,bw3,bw4,bw5,bw6,bw7,bc0,bc1,bc2,bc3,bc4,bc5,bc6,binIs,addF,AV.isPtr,idxV,AV.isSl,AV.rows,ps,pv,AV.outs,AV.outF,packD,AV.cells?,↓reduceIte,reduceCtorEq,Nat.reduceAdd,Nat.reduceSub,List.reduceReplicate,Nat.reduceLeDiff,Nat.reduceLT,tfb,O57_1,hz, hi', hrw, y1, y2, y3, hrw2, d6b]
    try (and_intros <;> first | omega | rfl)
  · have d6b : ((t.hours.getD i default).day == (t.hours.getD (i - 1) default).day) = false := by simpa using d6
    rw [decide_eq_false d6]
    refine PF_nil (PF_start (O := O57) Ct57_ok hmix ho57 Tryd.func57 c57 rfl Tryd.ntmps57 Tryd.results57 ?_)
    simp (maxSteps := 4000000) +contextual (disch := first | omega | exact qdb_ok (by kernel_rfl) | exact okb_ok (by kernel_rfl)) only [bw1,bw2,bw3,bw4,bw5,bw6,bw7,bc0,bc1,bc2,bc3,bc4,bc5,bc6,bc7,binIs,addF,AV.isPtr,idxV,AV.isSl,AV.rows,ps,pv,AV.outs,AV.outF,packD,AV.cells?,↓reduceIte,reduceCtorEq,Nat.reduceAdd,Nat.reduceSub,List.reduceReplicate,Nat.reduceLeDiff,Nat.reduceLT,tfb,O57_1,hz, hi', hrw, y1, y2, y3, hrw2, d6b]
    try (and_intros <;> first | omega | rfl)
def erR (t : Tt) (p : List Int) (i : Nat) : Int :=
  if p.getD i default < 0 then 0
  else if ¬ mayB (t.groups.getD (p.getD i default).toNat default) (t.hours.getD i default) = true then 11
  else if (t.groups.getD (p.getD i default).toNat default).most < (cnG p (i + 1) (p.getD i default) : Int) then 12
  else if neB t i = true ∧ 0 ≤ p.getD (i - 1) default ∧ ¬ p.getD (i - 1) default = p.getD i default then 6
  else 0
def foP (t : Tt) (p : List Int) : Prop := ∀ j, j < p.length → -1 ≤ p.getD j default ∧ p.getD j default < t.groups.length
def ent57 (args : List AV) (K : AV → List AV → Sto → Prop) (e : List AV) (s : Sto) : Prop := ent (α := (Tt) × (Nat)) (fun aa => [.agg aa.1.c, .i (aa.2 : Int)]) (fun aa => ttOk aa.1 = true ∧ aa.2 < aa.1.hours.length) (fun aa => .b (neB aa.1 aa.2)) args K e s
theorem ent57_ok {args : List AV} {K : AV → List AV → Sto → Prop} {Q : Kt} {e : List AV} {s : Sto} (h : ent57 args K e s) : pcall Tryd.prog 57 args K Q e s := ent_ok (fun aa h => pf57 aa.1 aa.2 h) h
theorem eq57 {t : Tt} {i : Nat} {KK : AV → List AV → Sto → Prop} {ee : List AV} {ss : Sto} : ent57 [.d (.agg t.c), .d (.i (i : Int))] KK ee ss = ((ttOk t = true ∧ i < t.hours.length) ∧ KK (.d (.b (neB t i))) ee ss) := by
  unfold ent57; rw [ent_iff (t, i) (by intro b h; simpa [Prod.ext_iff, and_assoc, Int.ofNat_inj, ints_inj, hrs_inj, grs_inj, hr_inj, gr_inj, tt_inj] using h) rfl]; simp
def O33 : Nat → Sch := fun id => if id = 4 then .one 0 (.one 1 (.one 2 (.one 3 (.one 4 (.one 5 (.one 6 (.one 7 (.one 8 (.one 9 (.one 10 (.one 11 (.done)))))))))))) else if id = 6 then .one 0 (.one 1 (.one 2 (.one 3 (.one 5 (.one 8 (.one 10 (.alt (.one 4 (.one 6 (.one 7 (.one 9 (.one 11 (.one 12 (.one 13 (.one 14 (.done))))))))) (.one 9 (.one 11 (.one 12 (.alt (.one 4 (.one 6 (.one 7 (.one 13 (.one 14 (.done)))))) (.one 13 (.one 4 (.one 6 (.one 7 (.one 14 (.done))))))))))))))))) else .done
theorem O33_4 : O33 4 = .one 0 (.one 1 (.one 2 (.one 3 (.one 4 (.one 5 (.one 6 (.one 7 (.one 8 (.one 9 (.one 10 (.one 11 (.done)))))))))))) := rfl
theorem O33_6 : O33 6 = .one 0 (.one 1 (.one 2 (.one 3 (.one 5 (.one 8 (.one 10 (.alt (.one 4 (.one 6 (.one 7 (.one 9 (.one 11 (.one 12 (.one 13 (.one 14 (.done))))))))) (.one 9 (.one 11 (.one 12 (.alt (.one 4 (.one 6 (.one 7 (.one 13 (.one 14 (.done)))))) (.one 13 (.one 4 (.one 6 (.one 7 (.one 14 (.done))))))))))))))))) := rfl
theorem ho33 : Tryd.f33.body.map (okO O33) = some true := by kernel_rfl
def Cf33 : Nat → List AV → (AV → List AV → Sto → Prop) → Kt → List AV → Sto → Prop := fun f args K Q e s => match f with
  | 29 => ent29 args K e s
  | 50 => ent50 args K e s
  | 57 => ent57 args K e s
  | _ => False
def Ct33 : CT := { f := Cf33, y := noYld, z := fun d => false }
theorem Ct33_ok : Ct33.ok Tryd.prog := ok_of_f (fun f args K Q e s h => by
  have h : Cf33 f args K Q e s := h
  unfold Cf33 at h; split at h
  · exact ent29_ok h
  · exact ent50_ok h
  · exact ent57_ok h
  · exact h.elim) (fun _ _ _ _ _ _ _ _ _ h => h)
theorem x33_50 {g : Gr} {h' : Hr} {KK : AV → List AV → Sto → Prop} {QQ : Kt} {ii : At KK} {jj : At QQ} {ee : List AV} {ss : Sto} : xC Ct33 50 [.d (.agg g.c), .d (.agg h'.c)] KK QQ ii jj ee ss = (((0 ≤ g.days ∧ g.days ≤ 127) ∧ 0 ≤ h'.day ∧ h'.day ≤ 6) ∧ KK (.d (.b (mayB g h'))) ee ss) := eq50
theorem x33_57 {t : Tt} {i : Nat} {KK : AV → List AV → Sto → Prop} {QQ : Kt} {ii : At KK} {jj : At QQ} {ee : List AV} {ss : Sto} : xC Ct33 57 [.d (.agg t.c), .d (.i (i : Int))] KK QQ ii jj ee ss = ((ttOk t = true ∧ i < t.hours.length) ∧ KK (.d (.b (neB t i))) ee ss) := eq57
theorem x33_29 {t : Tt} {p : List Int} {f : Nat} {KK : AV → List AV → Sto → Prop} {QQ : Kt} {ii : At KK} {jj : At QQ} {ee : List AV} {ss : Sto} : xC Ct33 29 [.d (.agg t.c), .d (.sl 1 (p.map ic)), .d (.i (f : Int))] KK QQ ii jj ee ss = (((t.groups.length ≤ 1000 ∧ f ≤ p.length ∧ p.length ≤ 1000) ∧ ∀ j, j < f → -1 ≤ p.getD j default ∧ p.getD j default < t.groups.length) ∧ KK (.own 29001 3 1 ((cnL t.groups.length p f).map ic)) (ee.map (AV.kill 29001)) (ss.kill 29001)) := eq29
theorem c33 : callable Tryd.prog 33 = true := by kernel_rfl
theorem pf33 (t : Tt) (p : List Int) (i : Nat) (h : ttOk t = true ∧ i < t.hours.length ∧ i < p.length ∧ p.length ≤ 1000 ∧ foP t p) : PF Tryd.prog 33 [.agg t.c, .sl 1 (p.map ic), .i (i : Int)] (fun zz => zz = .ret (.i (erR t p i))) := by
  obtain ⟨ht, hi, hip, hp, hfo⟩ := h
  have hi' : (i : Int) < t.hours.length := by omega
  have hip' : (i : Int) < p.length := by omega
  have hrw : (t.hours.map Hr.c).getD i [] = Hr.c (t.hours.getD i default) := Go.E.row_at hi
  have hrp : (p.map ic).getD i [] = ic (p.getD i default) := Go.E.row_at hip
  have hb := tt_hour ht hi
  have hbig := tt_hours ht
  have hgb := hfo i hip
  obtain ⟨W, hW⟩ : ∃ W, W = erR t p i := ⟨_, rfl⟩
  rw [← hW]
  unfold erR at hW
  by_cases d1 : p.getD i default < 0
  · rw [if_pos d1] at hW
    refine PF_nil (PF_start (O := O33) Ct33_ok hmix ho33 Tryd.func33 c33 rfl Tryd.ntmps33 Tryd.results33 ?_)
    simp (maxSteps := 4000000) +contextual (disch := first | omega | exact qdb_ok (by kernel_rfl) | exact okb_ok (by kernel_rfl)) only [bw1,bw2,bw3,bw4,bw5,bw6,bw7,bc1,bc2,bc3,bc4,bc5,bc6,binIs,idxV,AV.isSl,AV.rows,ps,pv,AV.outs,AV.outF,packD,AV.cells?,↓reduceIte,reduceCtorEq,Nat.reduceAdd,Nat.reduceSub,List.reduceReplicate,Nat.reduceLeDiff,Nat.reduceLT,tfb,hip', hrp, d1, hW]
    try (and_intros <;> first | omega | rfl)
  rw [if_neg d1] at hW
  obtain ⟨g, hgg⟩ : ∃ g : Nat, p.getD i default = (g : Int) := ⟨(p.getD i default).toNat, by omega⟩
  rw [hgg, Int.toNat_natCast] at hW
  have hgn : g < t.groups.length := by omega
  have hgn' : (g : Int) < t.groups.length := by omega
  have hg0 : (0 : Int) ≤ (g : Int) := by omega
  have hgl : ¬ (g : Int) < 0 := by omega
  have hrg : (t.groups.map Gr.c).getD g [] = Gr.c (t.groups.getD g default) := Go.E.row_at hgn
  have hgr := tt_group ht hgn
  have hgd : 0 ≤ (t.groups.getD g default).days ∧ (t.groups.getD g default).days ≤ 127 := hgr.1
  have hhd : 0 ≤ (t.hours.getD i default).day ∧ (t.hours.getD i default).day ≤ 6 := hb.1
  by_cases d2 : mayB (t.groups.getD g default) (t.hours.getD i default) = true
  case neg =>
    rw [if_pos d2] at hW
    refine PF_nil (PF_start (O := O33) Ct33_ok hmix ho33 Tryd.func33 c33 rfl Tryd.ntmps33 Tryd.results33 ?_)
    simp (maxSteps := 4000000) +contextual (disch := first | omega | exact qdb_ok (by kernel_rfl) | exact okb_ok (by kernel_rfl)) only [bw1,bw2,bw3,bw4,bw5,bw6,bw7,bc1,bc2,bc3,bc4,bc5,bc6,binIs,addF,AV.isPtr,idxV,AV.isSl,AV.rows,ps,pv,AV.outs,AV.outF,packD,AV.cells?,↓reduceIte,reduceCtorEq,Nat.reduceAdd,Nat.reduceSub,List.reduceReplicate,Nat.reduceLeDiff,Nat.reduceLT,tfb,O33_4,x33_50,hip', hi', hrp, hgg, hgl, hg0, hgn', hrg, hrw, hgd, hhd, d2, hW]
    try (and_intros <;> first | omega | rfl)
  rw [if_neg (fun h => h d2)] at hW
  have hcl := cnL_len (n := t.groups.length) (p := p) (k := i + 1)
  have hcr : ((cnL t.groups.length p (i + 1)).map ic).getD g [] = ic (cnG p (i + 1) (g : Int) : Int) := by
    rw [Go.E.row_at (by omega), cnL_at hgn]
  have hw1 : IntKind.i64.wrap ((i : Int) + 1) = ((i + 1 : Nat) : Int) := by rw [wrap_ok (by omega) (by omega)]; rfl
  have hpre : (t.groups.length ≤ 1000 ∧ i + 1 ≤ p.length ∧ p.length ≤ 1000) ∧ ∀ j, j < i + 1 → -1 ≤ p.getD j default ∧ p.getD j default < t.groups.length := ⟨⟨by omega, by omega, hp⟩, fun j hj => hfo j (by omega)⟩
  have hx29 : ∀ {KK : AV → List AV → Sto → Prop} {QQ : Kt} {ii : At KK} {jj : At QQ} {ee : List AV} {ss : Sto}, xC Ct33 29 [.d (.agg [.sl 3 (t.hours.map Hr.c), .sl 5 (t.groups.map Gr.c), .i t.res]), .d (.sl 1 (p.map ic)), .d (.v (.int .i64 ((i : Int) + 1)))] KK QQ ii jj ee ss = KK (.own 29001 3 1 ((cnL t.groups.length p (i + 1)).map ic)) (ee.map (AV.kill 29001)) (ss.kill 29001) := by
    intro KK QQ ii jj ee ss
    have h := x33_29 (t := t) (p := p) (f := i + 1) (KK := KK) (QQ := QQ) (ii := ii) (jj := jj) (ee := ee) (ss := ss)
    exact h.trans (propext ⟨fun h => h.2, fun h => ⟨hpre, h⟩⟩)
  by_cases d3 : (t.groups.getD g default).most < (cnG p (i + 1) (g : Int) : Int)
  · rw [if_pos d3] at hW
    refine PF_nil (PF_start (O := O33) Ct33_ok hmix ho33 Tryd.func33 c33 rfl Tryd.ntmps33 Tryd.results33 ?_)
    simp (maxSteps := 4000000) +contextual (disch := first | omega | exact qdb_ok (by kernel_rfl) | exact okb_ok (by kernel_rfl)) only [bw1,bw2,bw3,bw4,bw5,bw6,bw7,bc1,bc2,bc3,bc4,bc5,bc6,binIs,addF,AV.isPtr,idxV,AV.isSl,AV.rows,ps,pv,AV.outs,AV.outF,packD,AV.dl,AV.cells?,↓reduceIte,reduceCtorEq,Nat.reduceAdd,Nat.reduceSub,List.reduceReplicate,Nat.reduceLeDiff,Nat.reduceLT,Nat.reduceBEq,Nat.reduceEqDiff,tfb,O33_4,O33_6,x33_50,hip', hi', hrp, hgg, hgl, hg0, hgn', hrg, hrw, hgd, hhd, d2, hx29, hcl, hcr, d3, hW]
    try (and_intros <;> first | omega | rfl)
  rw [if_neg d3] at hW
  by_cases d4 : neB t i = true
  case neg =>
    rw [if_neg (fun h => d4 h.1)] at hW
    refine PF_nil (PF_start (O := O33) Ct33_ok hmix ho33 Tryd.func33 c33 rfl Tryd.ntmps33 Tryd.results33 ?_)
    simp (maxSteps := 4000000) +contextual (disch := first | omega | exact qdb_ok (by kernel_rfl) | exact okb_ok (by kernel_rfl)) only [bw1,bw2,bw3,bw4,bw5,bw6,bw7,bc0,bc1,bc2,bc3,bc4,bc5,bc6,binIs,addF,AV.isPtr,idxV,AV.isSl,AV.rows,ps,pv,AV.outs,AV.outF,packD,AV.dl,AV.cells?,↓reduceIte,reduceCtorEq,Nat.reduceAdd,Nat.reduceSub,List.reduceReplicate,Nat.reduceLeDiff,Nat.reduceLT,Nat.reduceBEq,Nat.reduceEqDiff,tfb,O33_4,O33_6,x33_50,x33_57,hip', hi', hrp, hgg, hgl, hg0, hgn', hrg, hrw, hgd, hhd, d2, hx29, hcl, hcr, d3, d4, ht, hi, hW]
    try (and_intros <;> first | omega | rfl)
  have hi0 : 0 < i := by
    unfold neB at d4
    simp only [Bool.and_eq_true, decide_eq_true_eq] at d4
    exact d4.1
  have y1 : ((i : Int) - 1).toNat = i - 1 := by omega
  have y2 : (0 : Int) ≤ (i : Int) - 1 := by omega
  have y3 : (i : Int) - 1 < p.length := by omega
  have hrp2 : (p.map ic).getD (i - 1) [] = ic (p.getD (i - 1) default) := Go.E.row_at (by omega)
  by_cases d5 : 0 ≤ p.getD (i - 1) default
  case neg =>
    rw [if_neg (fun h => d5 h.2.1)] at hW
    refine PF_nil (PF_start (O := O33) Ct33_ok hmix ho33 Tryd.func33 c33 rfl Tryd.ntmps33 Tryd.results33 ?_)
    simp (maxSteps := 4000000) +contextual (disch := first | omega | exact qdb_ok (by kernel_rfl) | exact okb_ok (by kernel_rfl)) only [bw1,bw2,bw3,bw4,bw5,bw6,bw7,bc0,bc1,bc2,bc3,bc4,bc5,bc6,binIs,addF,AV.isPtr,idxV,AV.isSl,AV.rows,ps,pv,AV.outs,AV.outF,packD,AV.dl,AV.cells?,↓reduceIte,reduceCtorEq,Nat.reduceAdd,Nat.reduceSub,List.reduceReplicate,Nat.reduceLeDiff,Nat.reduceLT,Nat.reduceBEq,Nat.reduceEqDiff,tfb,O33_4,O33_6,x33_50,x33_57,hip', hi', hrp, hgg, hgl, hg0, hgn', hrg, hrw, hgd, hhd, d2, hx29, hcl, hcr, d3, d4, ht, hi, y1, y2, y3, hrp2, d5, hW]
    try (and_intros <;> first | omega | rfl)
  by_cases d6 : p.getD (i - 1) default = (g : Int)
  · have d6b : (p.getD (i - 1) default != (g : Int)) = false := by simpa using d6
    rw [if_neg (fun h => h.2.2 d6)] at hW
    refine PF_nil (PF_start (O := O33) Ct33_ok hmix ho33 Tryd.func33 c33 rfl Tryd.ntmps33 Tryd.results33 ?_)
    simp (maxSteps := 4000000) +contextual (disch := first | omega | exact qdb_ok (by kernel_rfl) | exact okb_ok (by kernel_rfl)) only [bw1,bw2,bw3,bw4,bw5,bw6,bw7,bc0,bc1,bc2,bc3,bc4,bc5,bc6,binIs,addF,AV.isPtr,idxV,AV.isSl,AV.rows,ps,pv,AV.outs,AV.outF,packD,AV.dl,AV.cells?,↓reduceIte,reduceCtorEq,Nat.reduceAdd,Nat.reduceSub,List.reduceReplicate,Nat.reduceLeDiff,Nat.reduceLT,Nat.reduceBEq,Nat.reduceEqDiff,tfb,O33_4,O33_6,x33_50,x33_57,hip', hi', hrp, hgg, hgl, hg0, hgn', hrg, hrw, hgd, hhd, d2, hx29, hcl, hcr, d3, d4, ht, hi, y1, y2, y3, hrp2, d5, d6b, hW]
    try (and_intros <;> first | omega | rfl)
  · have d6b : (p.getD (i - 1) default != (g : Int)) = true := by simpa using d6
    rw [if_pos ⟨d4, d5, d6⟩] at hW
    refine PF_nil (PF_start (O := O33) Ct33_ok hmix ho33 Tryd.func33 c33 rfl Tryd.ntmps33 Tryd.results33 ?_)
    simp (maxSteps := 4000000) +contextual (disch := first | omega | exact qdb_ok (by kernel_rfl) | exact okb_ok (by kernel_rfl)) only [bw1,bw2,bw3,bw4,bw5,bw6,bw7,bc0,bc1,bc2,bc3,bc4,bc5,bc6,binIs,addF,AV.isPtr,idxV,AV.isSl,AV.rows,ps,pv,AV.outs,AV.outF,packD,AV.dl,AV.cells?,↓reduceIte,reduceCtorEq,Nat.reduceAdd,Nat.reduceSub,List.reduceReplicate,Nat.reduceLeDiff,Nat.reduceLT,Nat.reduceBEq,Nat.reduceEqDiff,tfb,O33_4,O33_6,x33_50,x33_57,hip', hi', hrp, hgg, hgl, hg0, hgn', hrg, hrw, hgd, hhd, d2, hx29, hcl, hcr, d3, d4, ht, hi, y1, y2, y3, hrp2, d5, d6b, hW]
    try (and_intros <;> first | omega | rfl)
def ent33 (args : List AV) (K : AV → List AV → Sto → Prop) (e : List AV) (s : Sto) : Prop := ent (α := (Tt) × (List Int) × (Nat)) (fun aa => [.agg aa.1.c, .sl 1 (aa.2.1.map ic), .i (aa.2.2 : Int)]) (fun aa => ttOk aa.1 = true ∧ aa.2.2 < aa.1.hours.length ∧ aa.2.2 < aa.2.1.length ∧ aa.2.1.length ≤ 1000 ∧ foP aa.1 aa.2.1) (fun aa => .i (erR aa.1 aa.2.1 aa.2.2)) args K e s
theorem ent33_ok {args : List AV} {K : AV → List AV → Sto → Prop} {Q : Kt} {e : List AV} {s : Sto} (h : ent33 args K e s) : pcall Tryd.prog 33 args K Q e s := ent_ok (fun aa h => pf33 aa.1 aa.2.1 aa.2.2 h) h
theorem eqo33 {t : Tt} {p : List Int} {i : Nat} {g1 el1 : Nat} {KK : AV → List AV → Sto → Prop} {ee : List AV} {ss : Sto} : ent33 [.d (.agg t.c), .own g1 el1 1 (p.map ic), .d (.i (i : Int))] KK ee ss = ((ttOk t = true ∧ i < t.hours.length ∧ i < p.length ∧ p.length ≤ 1000 ∧ foP t p) ∧ (.i (erR t p i) : D).flat = true ∧ KK (.d (.i (erR t p i))) ee ss) := by
  unfold ent33; rw [ent_iff (t, p, i) (by intro b h; simpa [Prod.ext_iff, and_assoc, Int.ofNat_inj, ints_inj, hrs_inj, grs_inj, hr_inj, gr_inj, tt_inj] using h) rfl]; simp
end Go.Proofs.YtofbbkacihnjdaaDoor
