/- A part of the proof that the last text ends: what functions of the program do, told by plain data. -/
import Derived.Test.YtapglfcaghlpfaaGreatZUB
set_option linter.unusedVariables false
set_option linter.unusedSimpArgs false
namespace Go.Proofs.YtapglfcaghlpfaaGreat
open Go Go.E Go.Maps
set_option maxRecDepth 100000
set_option maxHeartbeats 16000000
def errG (r : Rul) (l : List Ska) : Int := if (40 : Int) < l.length then 3 else if conOk r l = true then 0 else 1
def O21 : Nat → Sch := fun id => .done
theorem ho21 : Tryz.f21.body.map (okO O21) = some true := by kernel_rfl
def Cf21 : Nat → List AV → (AV → List AV → Sto → Prop) → Kt → List AV → Sto → Prop := fun f args K Q e s => match f with
  | 30 => ent30 args K e s
  | _ => False
def Ct21 : CT := { f := Cf21, y := noYld, z := fun d => false }
theorem Ct21_ok : Ct21.ok Tryz.prog := ok_of_f (fun f args K Q e s h => by
  have h : Cf21 f args K Q e s := h
  unfold Cf21 at h; split at h
  · exact ent30_ok h
  · exact h.elim) (fun _ _ _ _ _ _ _ _ _ h => h)
theorem x21_30 {r : Rul} {l : List Ska} {KK : AV → List AV → Sto → Prop} {QQ : Kt} {ii : At KK} {jj : At QQ} {ee : List AV} {ss : Sto} : xC Ct21 30 [.d (r.d), .d (.sl 3 (l.map Ska.c))] KK QQ ii jj ee ss = ((l.length ≤ 1000 ∧ ∀ s ∈ l, ∀ x ∈ s.calls, i64 x.place) ∧ KK (.d (.b (conOk r l))) ee ss) := eq30
theorem c21 : callable Tryz.prog 21 = true := by kernel_rfl
theorem pf21 (r : Rul) (l : List Ska) (h : l.length ≤ 1000 ∧ ∀ s ∈ l, ∀ x ∈ s.calls, i64 x.place) : PF Tryz.prog 21 [r.d, .sl 3 (l.map Ska.c)] (fun zz => zz = .ret (.i (errG r l))) := by
  obtain ⟨h1, h2⟩ := h
  unfold errG
  by_cases c1 : (40 : Int) < l.length
  · rw [if_pos c1]
    refine PF_nil (PF_start (O := O21) Ct21_ok hmix ho21 Tryz.func21 c21 rfl Tryz.ntmps21 Tryz.results21 ?_)
    simp (maxSteps := 4000000) +contextual (disch := first | omega | exact qdb_ok (by kernel_rfl) | exact okb_ok (by kernel_rfl)) only [bw1,bw2,bw3,bw4,bw5,bw6,bw7,bc1,bc2,bc3,bc4,bc5,bc6,binIs,AV.isSlice,AV.rows,AV.outs,AV.outF,packD,AV.cells?,↓reduceIte,reduceCtorEq,Nat.reduceAdd,Nat.reduceSub,List.reduceReplicate,Nat.reduceLT,tfb,c1]
    try rfl
  rw [if_neg c1]
  by_cases c2 : conOk r l = true
  · rw [if_pos c2]
    refine PF_nil (PF_start (O := O21) Ct21_ok hmix ho21 Tryz.func21 c21 rfl Tryz.ntmps21 Tryz.results21 ?_)
    simp (maxSteps := 4000000) +contextual (disch := first | omega | exact qdb_ok (by kernel_rfl) | exact okb_ok (by kernel_rfl)) only [bw1,bw2,bw3,bw4,bw5,bw6,bw7,bc1,bc2,bc3,bc4,bc5,bc6,binIs,AV.isSlice,AV.rows,AV.outs,AV.outF,packD,AV.dl,AV.cells?,↓reduceIte,reduceCtorEq,Nat.reduceAdd,Nat.reduceSub,List.reduceReplicate,Nat.reduceLeDiff,Nat.reduceLT,tfb,x21_30,c1, c2, h1]
    exact h2
  · rw [if_neg c2]
    refine PF_nil (PF_start (O := O21) Ct21_ok hmix ho21 Tryz.func21 c21 rfl Tryz.ntmps21 Tryz.results21 ?_)
    simp (maxSteps := 4000000) +contextual (disch := first | omega | exact qdb_ok (by kernel_rfl) | exact okb_ok (by kernel_rfl)) only [bw1,bw2,bw3,bw4,bw5,bw6,bw7,bc1,bc2,bc3,bc4,bc5,bc6,binIs,AV.isSlice,AV.rows,AV.outs,AV.outF,packD,AV.dl,AV.cells?,↓reduceIte,reduceCtorEq,Nat.reduceAdd,Nat.reduceSub,List.reduceReplicate,Nat.reduceLeDiff,Nat.reduceLT,tfb,x21_30,c1, c2, h1]
    exact h2
def swG (r : Rul) (l : List Ska) (j : Int) : List Spn × Int := if errG r l = 0 then (if inB j 0 ((jud l).1 - 1) = true then (swR r l j.toNat, 0) else ([], 2)) else ([], errG r l)
theorem judN_true {l : List Ska} : ∀ k i j, i ≤ j → j < i + k → (0 < (l.getD j default).calls.length ∨ 0 < (l.getD j default).parts.length) → (judN l k i).2 = true
  | 0, i, j, h1, h2, _ => by omega
  | k + 1, i, j, h1, h2, h3 => by
    unfold judN
    split
    · rfl
    · split
      · rfl
      · rcases Nat.lt_or_ge i j with h4 | h4
        · exact judN_true k (i + 1) j (by omega) (by omega) h3
        · obtain rfl : j = i := by omega
          omega
theorem jud_true {l : List Ska} {s : Ska} (hs : s ∈ l) (h : 0 < s.calls.length ∨ 0 < s.parts.length) : (jud l).2 = true := by
  obtain ⟨j, hj, rfl⟩ := List.getElem_of_mem hs
  exact judN_true l.length 0 j (Nat.zero_le j) (by omega) (by rw [at_lt hj]; exact h)
theorem con_jud {r : Rul} {l : List Ska} (h : conOk r l = true) : ((jud l).2 = true → 1 ≤ (jud l).1) ∧ 0 ≤ (jud l).1 ∧ (jud l).1 ≤ 9 := by
  unfold conOk at h
  simp only [Bool.and_eq_true] at h
  by_cases c : (jud l).2 = true
  · have := h.1.2
    rw [c] at this
    have := inB_iff.1 (by simpa using this)
    exact ⟨fun _ => this.1, by omega, this.2⟩
  · have := (judN_b (l := l) l.length 0).2 (Bool.eq_false_iff.2 c)
    have : (jud l).1 = 0 := this
    exact ⟨fun h => absurd h c, by omega, by omega⟩
theorem con_valid {r : Rul} {l : List Ska} (h : conOk r l = true) {s : Ska} (hs : s ∈ l) : Valid r s (jud l).1 := by
  have h3 := ska_ok h hs
  obtain ⟨hn1, hn0⟩ := con_jud h
  have hn := fun hh => hn1 (jud_true hs hh)
  unfold conOk at h
  simp only [Bool.and_eq_true] at h
  obtain ⟨⟨h1, h2⟩, _⟩ := h
  unfold Rul.ok at h1
  simp only [Bool.and_eq_true, inB_iff] at h1
  obtain ⟨⟨⟨b1, b2⟩, b3⟩, b4⟩ := h1
  generalize (jud l).1 = n at h3 hn hn0
  unfold skaOk at h3
  simp only [Bool.and_eq_true, decide_eq_true_eq, inB_iff] at h3
  obtain ⟨⟨⟨⟨c1, c2⟩, c3⟩, c4⟩, c5⟩ := h3
  refine ⟨by omega, allB_el b2, b3, b4, hn0, c1, c2, c3, fun x hx => ?_, fun p hp => ?_⟩
  · obtain ⟨j, hj, rfl⟩ := List.getElem_of_mem hx
    have := okN_all _ _ c4 j (by omega) (by omega)
    rw [at_lt hj] at this
    unfold callOk marksOk at this
    simp only [Bool.and_eq_true, inB_iff, decide_eq_true_eq] at this
    obtain ⟨d1, d2, d3, d4, d5⟩ := this
    have := hn (.inl (by omega))
    exact ⟨d1, by omega, d3, ⟨d4, by omega⟩, allB_el d5⟩
  · unfold partsOk at c5
    rw [List.all_eq_true] at c5
    have := c5 p hp
    unfold marksOk at this
    simp only [Bool.and_eq_true, decide_eq_true_eq] at this
    have h6 : 0 < s.parts.length := List.length_pos_of_mem hp
    have := hn (.inr h6)
    rename_i d
    exact ⟨⟨d.1, by omega⟩, allB_el d.2⟩
theorem con_dup {r : Rul} {l : List Ska} (h : conOk r l = true) {s : Ska} (hs : s ∈ l) : (s.calls.map Cal.place).Nodup := by
  have hk := ska_ok h hs
  unfold skaOk at hk
  simp only [Bool.and_eq_true] at hk
  exact dup_nodup fun j hj => okN_dup _ _ hk.1.2 j (Nat.zero_le j) (by rw [Nat.zero_add]; exact hj)
theorem vk_valid {r : Rul} {s : Ska} {n : Int} (hv : Valid r s n) (hd : (s.calls.map Cal.place).Nodup) : VK r s := by
  have hbl := hv.bases
  have hjn := hv.jn
  refine ⟨⟨hv.calls, fun c hc => ?_, hd, by have := hv.most; omega⟩, ⟨n, hv⟩, hv.parts, fun p hp => ?_, hv.over⟩
  · obtain ⟨h1, h2, h3, h4, h5⟩ := hv.call c hc
    exact ⟨by omega, hv.base, h2, h3, ⟨h4.2, by omega⟩, h5⟩
  · obtain ⟨h1, h2⟩ := hv.part p hp
    exact ⟨hv.factor, ⟨h1.2, by omega⟩, h2⟩
theorem con_vg {r : Rul} {l : List Ska} (h : conOk r l = true) {j : Nat} (hj : (j : Int) < (jud l).1) : ∀ s ∈ l, VG r j s := fun s hs => by
  have hv := con_valid h hs
  have := (con_jud h).2
  exact ⟨vk_valid hv (con_dup h hs), fun c hc => by have := (hv.call c hc).2.2.2.1; omega, fun p hp => by have := (hv.part p hp).1; omega⟩
theorem err_ok {r : Rul} {l : List Ska} (h : errG r l = 0) : conOk r l = true ∧ l.length ≤ 40 := by
  unfold errG at h
  split at h
  · omega
  · split at h
    · rename_i h2; exact ⟨h2, by omega⟩
    · omega
def ent21 (args : List AV) (K : AV → List AV → Sto → Prop) (e : List AV) (s : Sto) : Prop := ent (α := (Rul) × (List Ska)) (fun aa => [aa.1.d, .sl 3 (aa.2.map Ska.c)]) (fun aa => aa.2.length ≤ 1000 ∧ ∀ s ∈ aa.2, ∀ x ∈ s.calls, i64 x.place) (fun aa => .i (errG aa.1 aa.2)) args K e s
theorem ent21_ok {args : List AV} {K : AV → List AV → Sto → Prop} {Q : Kt} {e : List AV} {s : Sto} (h : ent21 args K e s) : pcall Tryz.prog 21 args K Q e s := ent_ok (fun aa h => pf21 aa.1 aa.2 h) h
theorem eq21 {r : Rul} {l : List Ska} {KK : AV → List AV → Sto → Prop} {ee : List AV} {ss : Sto} : ent21 [.d (r.d), .d (.sl 3 (l.map Ska.c))] KK ee ss = ((l.length ≤ 1000 ∧ ∀ s ∈ l, ∀ x ∈ s.calls, i64 x.place) ∧ KK (.d (.i (errG r l))) ee ss) := by
  unfold ent21; rw [ent_iff (r, l) (by intro b h; simpa [Prod.ext_iff, and_assoc, Int.ofNat_inj, ints_inj, cals_inj, pcs_inj, skas_inj, scos_inj, ska_inj, rul_inj, sco_inj, cal_inj, ods_inj, od_inj, spns_inj] using h) rfl]; simp
def O8 : Nat → Sch := fun id => .done
theorem ho8 : Tryz.f8.body.map (okO O8) = some true := by kernel_rfl
def Cf8 : Nat → List AV → (AV → List AV → Sto → Prop) → Kt → List AV → Sto → Prop := fun f args K Q e s => match f with
  | 21 => ent21 args K e s
  | 22 => ent22 args K e s
  | 23 => ent23 args K e s
  | 24 => ent24 args K e s
  | _ => False
def Ct8 : CT := { f := Cf8, y := noYld, z := fun d => false }
theorem Ct8_ok : Ct8.ok Tryz.prog := ok_of_f (fun f args K Q e s h => by
  have h : Cf8 f args K Q e s := h
  unfold Cf8 at h; split at h
  · exact ent21_ok h
  · exact ent22_ok h
  · exact ent23_ok h
  · exact ent24_ok h
  · exact h.elim) (fun _ _ _ _ _ _ _ _ _ h => h)
theorem x8_21 {r : Rul} {l : List Ska} {KK : AV → List AV → Sto → Prop} {QQ : Kt} {ii : At KK} {jj : At QQ} {ee : List AV} {ss : Sto} : xC Ct8 21 [.d (r.d), .d (.sl 3 (l.map Ska.c))] KK QQ ii jj ee ss = ((l.length ≤ 1000 ∧ ∀ s ∈ l, ∀ x ∈ s.calls, i64 x.place) ∧ KK (.d (.i (errG r l))) ee ss) := eq21
theorem x8_22 {l : List Ska} {KK : AV → List AV → Sto → Prop} {QQ : Kt} {ii : At KK} {jj : At QQ} {ee : List AV} {ss : Sto} : xC Ct8 22 [.d (.sl 3 (l.map Ska.c))] KK QQ ii jj ee ss = ((l.length ≤ 1000) ∧ KK (.d (.tup [.i (jud l).1, .b (jud l).2])) ee ss) := eq22
theorem x8_23 {n : Int} {lo : Int} {hi : Int} {KK : AV → List AV → Sto → Prop} {QQ : Kt} {ii : At KK} {jj : At QQ} {ee : List AV} {ss : Sto} : xC Ct8 23 [.d (.i n), .d (.i lo), .d (.i hi)] KK QQ ii jj ee ss = (KK (.d (.b (inB n lo hi))) ee ss) := eq23
theorem x8_24 {r : Rul} {l : List Ska} {j : Nat} {KK : AV → List AV → Sto → Prop} {QQ : Kt} {ii : At KK} {jj : At QQ} {ee : List AV} {ss : Sto} : xC Ct8 24 [.d (r.d), .d (.sl 3 (l.map Ska.c)), .d (.i (j : Int))] KK QQ ii jj ee ss = ((l.length ≤ 1000 ∧ ∀ s ∈ l, VG r j s) ∧ KK (.d (.sl 2 ((swR r l j).map Spn.c))) ee ss) := eq24
theorem c8 : callable Tryz.prog 8 = true := by kernel_rfl
theorem pf8 (r : Rul) (l : List Ska) (j : Int) (h : l.length ≤ 1000 ∧ ∀ s ∈ l, ∀ x ∈ s.calls, i64 x.place) : PF Tryz.prog 8 [r.d, .sl 3 (l.map Ska.c), .i j] (fun zz => zz = .ret (.tup [.sl 2 ((swG r l j).1.map Spn.c), .i (swG r l j).2])) := by
  obtain ⟨h1, h2⟩ := h
  by_cases c1 : errG r l = 0
  case neg =>
    have hw : swG r l j = ([], errG r l) := by unfold swG; rw [if_neg c1]
    have c1' : (errG r l == 0) = false := by simpa using c1
    rw [hw]
    refine PF_nil (PF_start (O := O8) Ct8_ok hmix ho8 Tryz.func8 c8 rfl Tryz.ntmps8 Tryz.results8 ?_)
    simp (maxSteps := 4000000) +contextual (disch := first | omega | exact qdb_ok (by kernel_rfl) | exact okb_ok (by kernel_rfl)) only [bw1,bw2,bw3,bw5,bw6,bc1,bc2,bc3,bc4,bc5,bc6,binIs,AV.outs,AV.outF,packD,AV.dl,AV.cells?,↓reduceIte,reduceCtorEq,Nat.reduceAdd,Nat.reduceSub,List.reduceReplicate,Nat.reduceLeDiff,Nat.reduceLT,tfb,x8_21,c1, h1]
    exact h2
  obtain ⟨hco, hl40⟩ := err_ok c1
  have hjb := (con_jud hco).2
  have hjw : IntKind.i64.wrap ((jud l).1 - 1) = (jud l).1 - 1 := wrap_ok (by omega) (by omega)
  by_cases c2 : inB j 0 ((jud l).1 - 1) = true
  case neg =>
    have hw : swG r l j = ([], 2) := by unfold swG; rw [if_pos c1, if_neg c2]
    rw [hw]
    refine PF_nil (PF_start (O := O8) Ct8_ok hmix ho8 Tryz.func8 c8 rfl Tryz.ntmps8 Tryz.results8 ?_)
    simp (maxSteps := 4000000) +contextual (disch := first | omega | exact qdb_ok (by kernel_rfl) | exact okb_ok (by kernel_rfl)) only [bw1,bw2,bw3,bw5,bw6,bc1,bc2,bc3,bc4,bc5,bc6,binIs,extV,extS,AV.outs,AV.outF,packD,AV.dl,AV.cells?,↓reduceIte,reduceCtorEq,Nat.reduceAdd,Nat.reduceSub,List.reduceReplicate,Nat.reduceLeDiff,Nat.reduceLT,tfb,x8_21,x8_22,x8_23,c1, h1, hjw, c2]
    try exact h2
  have hw : swG r l j = (swR r l j.toNat, 0) := by unfold swG; rw [if_pos c1, if_pos c2]
  obtain ⟨hj0, hj1⟩ := inB_iff.1 c2
  obtain ⟨j, rfl⟩ : ∃ k : Nat, j = k := ⟨j.toNat, by omega⟩
  have hvg := con_vg hco (j := j) (by omega)
  rw [hw]
  refine PF_nil (PF_start (O := O8) Ct8_ok hmix ho8 Tryz.func8 c8 rfl Tryz.ntmps8 Tryz.results8 ?_)
  simp (maxSteps := 4000000) +contextual (disch := first | omega | exact qdb_ok (by kernel_rfl) | exact okb_ok (by kernel_rfl)) only [bw1,bw2,bw3,bw4,bw5,bw6,bc1,bc2,bc3,bc4,bc5,bc6,binIs,extV,extS,AV.outs,AV.outF,packD,AV.dl,AV.cells?,↓reduceIte,reduceCtorEq,Nat.reduceAdd,Nat.reduceSub,List.reduceReplicate,Nat.reduceLeDiff,Nat.reduceLT,tfb,x8_21,x8_22,x8_23,x8_24,c1, h1, hjw, c2]
  exact ⟨h2, hvg⟩
def ent8 (args : List AV) (K : AV → List AV → Sto → Prop) (e : List AV) (s : Sto) : Prop := ent (α := (Rul) × (List Ska) × (Int)) (fun aa => [aa.1.d, .sl 3 (aa.2.1.map Ska.c), .i aa.2.2]) (fun aa => aa.2.1.length ≤ 1000 ∧ ∀ s ∈ aa.2.1, ∀ x ∈ s.calls, i64 x.place) (fun aa => .tup [.sl 2 ((swG aa.1 aa.2.1 aa.2.2).1.map Spn.c), .i (swG aa.1 aa.2.1 aa.2.2).2]) args K e s
theorem ent8_ok {args : List AV} {K : AV → List AV → Sto → Prop} {Q : Kt} {e : List AV} {s : Sto} (h : ent8 args K e s) : pcall Tryz.prog 8 args K Q e s := ent_ok (fun aa h => pf8 aa.1 aa.2.1 aa.2.2 h) h
theorem eq8 {r : Rul} {l : List Ska} {j : Int} {KK : AV → List AV → Sto → Prop} {ee : List AV} {ss : Sto} : ent8 [.d (r.d), .d (.sl 3 (l.map Ska.c)), .d (.i j)] KK ee ss = ((l.length ≤ 1000 ∧ ∀ s ∈ l, ∀ x ∈ s.calls, i64 x.place) ∧ KK (.d (.tup [.sl 2 ((swG r l j).1.map Spn.c), .i (swG r l j).2])) ee ss) := by
  unfold ent8; rw [ent_iff (r, l, j) (by intro b h; simpa [Prod.ext_iff, and_assoc, Int.ofNat_inj, ints_inj, cals_inj, pcs_inj, skas_inj, scos_inj, ska_inj, rul_inj, sco_inj, cal_inj, ods_inj, od_inj, spns_inj] using h) rfl]; simp
def O13 : Nat → Sch := fun id => if id = 6 then .one 0 (.one 1 (.one 2 (.one 3 (.one 4 (.one 5 (.one 6 (.one 7 (.one 8 (.done))))))))) else .done
theorem O13_6 : O13 6 = .one 0 (.one 1 (.one 2 (.one 3 (.one 4 (.one 5 (.one 6 (.one 7 (.one 8 (.done))))))))) := rfl
theorem ho13 : Tryz.f13.body.map (okO O13) = some true := by kernel_rfl
def Cf13 : Nat → List AV → (AV → List AV → Sto → Prop) → Kt → List AV → Sto → Prop := fun f args K Q e s => match f with
  | _ => False
def Ct13 : CT := { f := Cf13, y := noYld, z := fun d => false }
theorem Ct13_ok : Ct13.ok Tryz.prog := ok_of_f (fun f args K Q e s h => by
  have h : Cf13 f args K Q e s := h
  unfold Cf13 at h; split at h
  · exact h.elim) (fun _ _ _ _ _ _ _ _ _ h => h)
theorem c13 : callable Tryz.prog 13 = true := by kernel_rfl
theorem pf13 (a b : List Spn) (h : a.length ≤ 1000000) : PF Tryz.prog 13 [.sl 2 (a.map Spn.c), .sl 2 (b.map Spn.c)] (fun zz => zz = .ret (.b (decide (a = b)))) := by
  by_cases c : a.length = b.length
  case neg =>
    have c' : ¬ (a.length : Int) = b.length := by omega
    have hw : decide (a = b) = false := decide_eq_false fun h => c (by rw [h])
    rw [hw]
    refine PF_nil (PF_start (O := O13) Ct13_ok hmix ho13 Tryz.func13 c13 rfl Tryz.ntmps13 Tryz.results13 ?_)
    simp (maxSteps := 4000000) +contextual (disch := first | omega | exact qdb_ok (by kernel_rfl) | exact okb_ok (by kernel_rfl)) only [bw1,bw2,bw3,bw4,bw5,bw6,bc1,bc2,bc3,bc4,bc5,bc6,binIs,AV.isSlice,AV.rows,AV.outs,AV.outF,packD,↓reduceIte,Nat.reduceAdd,Nat.reduceSub,List.reduceReplicate,tfb,c']
  have c' : (a.length : Int) = b.length := by omega
  refine PF_nil (PF_start (O := O13) Ct13_ok hmix ho13 Tryz.func13 c13 rfl Tryz.ntmps13 Tryz.results13 ?_)
  simp (maxSteps := 4000000) +contextual (disch := first | omega | exact qdb_ok (by kernel_rfl) | exact okb_ok (by kernel_rfl)) only [bw1,bw2,bw4,bw5,bw6,bc1,bc4,bc5,bc6,binIs,AV.isSlice,AV.rows,↓reduceIte,Nat.reduceAdd,Nat.reduceSub,List.reduceReplicate,tfb,c']
  refine loop_s (O := O13) (tb := 0) Ct13_ok hmix (by kernel_rfl) (σ := Nat) (fun i => [(5, .i i)]) (fun i => i ≤ a.length ∧ ∀ j, j < i → a.getD j default = b.getD j default) (fun i => a.length - i) (fun i => i + 1) 0 ⟨by omega, fun j h => by omega⟩ ?_ ?_
  · simp (maxSteps := 4000000) +contextual (disch := first | omega | exact qdb_ok (by kernel_rfl) | exact okb_ok (by kernel_rfl)) only [bw4,bw6,bc0,bc5,bc6,AV.isNilS,AV.isNoRows,wk,reduceCtorEq]
  rintro i ⟨hi, hf⟩
  by_cases hlt : i < a.length
  · have hlt' : (i : Int) < b.length := by omega
    have hlt2 : (i : Int) < a.length := by omega
    have hsq : ∀ x y : Spn, (x.lo == y.lo && x.hi == y.hi) = decide (x = y) := fun x y => by cases x; cases y; rw [Bool.eq_iff_iff]; simp
    have hsi := hsq (a.getD i default) (b.getD i default)
    by_cases d : a.getD i default = b.getD i default
    · have hf' : ∀ j, j < i + 1 → a.getD j default = b.getD j default := fun j hj => by
        rcases Nat.lt_or_ge j i with h | h
        · exact hf j h
        · rw [show j = i by omega]; exact d
      rw [decide_eq_true d] at hsi
      simp (maxSteps := 4000000) +contextual (disch := first | omega | exact qdb_ok (by kernel_rfl) | exact okb_ok (by kernel_rfl)) only [bw1,bw2,bw3,bw4,bw5,bw6,bw7,bc0,bc1,bc2,bc3,bc4,bc5,bc6,AV.isNilS,AV.isNoRows,wk,binIs,idxV,AV.isSl,AV.isSlice,AV.rows,ps,pv,stcV,stcS,leafOk,eqDs,eqD,↓reduceIte,reduceCtorEq,Nat.reduceAdd,Nat.reduceLeDiff,tfb,O13_6,eq_self, hlt', c', hsi]
      and_intros <;> first | omega | exact hf'
    · rw [decide_eq_false d] at hsi
      have hw : decide (a = b) = false := decide_eq_false fun h => d (by rw [h])
      simp (maxSteps := 4000000) +contextual (disch := first | omega | exact qdb_ok (by kernel_rfl) | exact okb_ok (by kernel_rfl)) only [bw1,bw2,bw3,bw4,bw5,bw6,bw7,bc0,bc1,bc2,bc3,bc4,bc5,bc6,binIs,idxV,AV.isSl,AV.isSlice,AV.rows,ps,pv,AV.outs,AV.outF,packD,stcV,stcS,leafOk,eqDs,eqD,↓reduceIte,Nat.reduceAdd,Nat.reduceLeDiff,tfb,O13_6,eq_self, hlt', c', hsi, hw]
      and_intros <;> first | omega | rfl
  · have hlt' : ¬ (i : Int) < b.length := by omega
    have hlt2 : ¬ (i : Int) < a.length := by omega
    have hw : decide (a = b) = true := decide_eq_true (List.ext_getElem c fun j h1 h2 => by
      have := hf j (by omega)
      rwa [at_lt h1, at_lt h2] at this)
    simp (maxSteps := 4000000) +contextual (disch := first | omega | exact qdb_ok (by kernel_rfl) | exact okb_ok (by kernel_rfl)) only [bw1,bw2,bw3,bw4,bw5,bw6,bw7,bc0,bc1,bc2,bc3,bc4,bc5,bc6,binIs,AV.isSlice,AV.rows,AV.outs,AV.outF,packD,↓reduceIte,tfb,eq_self, hlt', c', hw]
def ent13 (args : List AV) (K : AV → List AV → Sto → Prop) (e : List AV) (s : Sto) : Prop := ent (α := (List Spn) × (List Spn)) (fun aa => [.sl 2 (aa.1.map Spn.c), .sl 2 (aa.2.map Spn.c)]) (fun aa => aa.1.length ≤ 1000000) (fun aa => .b (decide (aa.1 = aa.2))) args K e s
theorem ent13_ok {args : List AV} {K : AV → List AV → Sto → Prop} {Q : Kt} {e : List AV} {s : Sto} (h : ent13 args K e s) : pcall Tryz.prog 13 args K Q e s := ent_ok (fun aa h => pf13 aa.1 aa.2 h) h
theorem eq13 {a : List Spn} {b : List Spn} {KK : AV → List AV → Sto → Prop} {ee : List AV} {ss : Sto} : ent13 [.d (.sl 2 (a.map Spn.c)), .d (.sl 2 (b.map Spn.c))] KK ee ss = ((a.length ≤ 1000000) ∧ KK (.d (.b (decide (a = b)))) ee ss) := by
  unfold ent13; rw [ent_iff (a, b) (by intro b h; simpa [Prod.ext_iff, and_assoc, Int.ofNat_inj, ints_inj, cals_inj, pcs_inj, skas_inj, scos_inj, ska_inj, rul_inj, sco_inj, cal_inj, ods_inj, od_inj, spns_inj] using h) rfl]; simp
end Go.Proofs.YtapglfcaghlpfaaGreat
