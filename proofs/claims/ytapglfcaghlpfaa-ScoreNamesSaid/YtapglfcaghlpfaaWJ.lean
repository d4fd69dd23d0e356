/- A part of the proof that the last text ends: what functions of the program do, told by plain data. -/
import Derived.Test.YtapglfcaghlpfaaWF
set_option linter.unusedVariables false
set_option linter.unusedSimpArgs false
namespace Go.Proofs.Ytapglfcaghlpfaa.N0
open Go Go.E Go.Maps
set_option maxRecDepth 100000
set_option maxHeartbeats 16000000
/-! ### ScoreNames -/
abbrev sB : List (List D) := [[.i 800], [.i 500], [.i 420]]
abbrev sC : List (List D) := [[.i 1, .i 0, .i 0, .b false, .b false, .sl 1 [[.i 2], [.i 3], [.i 1], [.i 2], [.i (-1)]]], [.i 2, .i 1, .i 1, .b true, .b true, .sl 1 [[.i (-5)], [.i (-5)], [.i (-4)], [.i (-5)], [.i (-3)]]], [.i 3, .i 2, .i 0, .b false, .b false, .sl 1 [[.i 0], [.i 0], [.i 0], [.i 0], [.i 0]]]]
abbrev sC2 : List (List D) := [[.i 1, .i 0, .i 0, .b false, .b false, .sl 1 [[.i 2], [.i 3], [.i 1], [.i 2], [.i (-1)]]], [.i 2, .i 1, .i 1, .b true, .b true, .sl 1 [[.i (-5)], [.i (-5)], [.i (-4)], [.i (-5)], [.i (-3)]]], [.i 3, .i 2, .i 0, .b false, .b false, .sl 1 [[.i 0], [.i 0], [.i 0], [.i 0], [.i 0]]], [.i 0, .i 1, .i 0, .b false, .b false, .sl 1 [[.i 0], [.i 0], [.i 0], [.i 0], [.i 0]]]]
abbrev sP : List (List D) := [[.sl 1 [[.i 28], [.i 30], [.i 29], [.i 31], [.i 27]]], [.sl 1 [[.i 24], [.i 24], [.i 24], [.i 24], [.i 24]]], [.sl 1 [[.i 26], [.i 26], [.i 25], [.i 27], [.i 40]]]]
def smpR2 : Rul := ⟨[800, 500, 420], 160, 1⟩
def smpS2 : Ska := ⟨smpS.calls ++ [⟨0, 1, 0, false, false, [0, 0, 0, 0, 0]⟩], smpS.parts, 7⟩
theorem smp_vals : valsG smpR smpS = ([933, 253, 420], 0) := by kernel_rfl
theorem smp_vals2 : valsG smpR2 smpS2 = ([933, 0, 420, 500], 0) := by kernel_rfl
theorem smp_place2 : ∀ x ∈ smpS2.calls, i64 x.place := fun x hx => by
  simp [smpS, smpS2] at hx
  rcases hx with rfl | rfl | rfl | rfl <;> exact ⟨by simp, by simp⟩
abbrev rA : List Sco := [⟨5, 0, 0, 900⟩, ⟨6, 0, 0, 800⟩, ⟨7, 0, 0, 800⟩, ⟨8, 0, 0, 700⟩]
abbrev rB : List Sco := [⟨6, 0, 0, 800⟩, ⟨6, 0, 0, 800⟩, ⟨8, 0, 0, 700⟩]
theorem rk_A : rkG rA = ([1, 3, 2, 4], 0) := by kernel_rfl
theorem rk_B : rkG rB = ([1, 1, 3], 0) := by kernel_rfl
theorem thr3_sw : ∀ k : Nat, k < 3 → swG thrR (thr 3) (k : Int) = ([⟨1, 3⟩, ⟨1, 3⟩, ⟨1, 3⟩], 0)
  | 0, _ => by kernel_rfl
  | 1, _ => by kernel_rfl
  | 2, _ => by kernel_rfl
  | _ + 3, h => by omega
theorem op_1 : opG thrR (thr 5) 1 = ([], 0) := by kernel_rfl
theorem op_2 : opG thrR (thr 3) 3 = ([], 0) := by kernel_rfl
theorem op_3 : opG thrR (thr 3) 2 = ([0, 1, 2], 0) := by kernel_rfl
theorem eqa22_0 {r : Rul} {s : Ska} {g0 el0 g1 el1 g2 el2 : Nat} {KK : AV → List AV → Sto → Prop} {ee : List AV} {ss : Sto} : ent22 [.agg [.own g0 el0 1 (r.bases.map ic), .d (.i r.factor), .d (.i r.most)], .agg [.own g1 el1 6 (s.calls.map Cal.c), .own g2 el2 1 (s.parts.map pc), .d (.i s.over)]] KK ee ss = ((∀ x ∈ s.calls, i64 x.place) ∧ KK (.tup [.own 1903 3 1 ((valsG r s).1.map ic), .d (.i (valsG r s).2)]) (ee.map (AV.kill 1903)) (ss.kill 1903)) := by
  unfold ent22
  exact Eq.trans (entq_alt (r, s) (by intro b h; simpa [Prod.ext_iff, and_assoc, Int.ofNat_inj, ints_inj, cals_inj, pcs_inj, skas_inj, scos_inj, ska_inj, rul_inj, sco_inj, cal_inj, ods_inj, od_inj, spns_inj, Int.ofNat_inj, ints_inj, cals_inj, pcs_inj, skas_inj, scos_inj, ska_inj, rul_inj, sco_inj, cal_inj, Int.ofNat_inj, ints_inj, cals_inj, pcs_inj, skas_inj, scos_inj, ska_inj, rul_inj, sco_inj, cal_inj, ods_inj, od_inj, spns_inj, Int.ofNat_inj, ints_inj, cals_inj, pcs_inj, skas_inj, scos_inj, ska_inj, rul_inj, sco_inj, cal_inj, ods_inj, od_inj, spns_inj, Int.ofNat_inj, ints_inj, cals_inj, pcs_inj, skas_inj, scos_inj, ska_inj, rul_inj, sco_inj, cal_inj, Int.ofNat_inj, ints_inj, cals_inj, pcs_inj, skas_inj, scos_inj, ska_inj, rul_inj, sco_inj, cal_inj, ods_inj, od_inj, spns_inj] using h) rfl (by first | rfl | exact rowsFlat_map fun _ => rfl)) (by simp)
def O33 : Nat → Sch := fun id => .done
theorem ho33 : Try.f33.body.map (okO O33) = some true := by kernel_rfl
def Cf33 : Nat → List AV → (AV → List AV → Sto → Prop) → Kt → List AV → Sto → Prop := fun f args K Q e s => match f with
  | _ => False
def Ct33 : CT := { f := Cf33, y := noYld, z := fun d => d == 12 || d == 18 }
theorem ctz33 {d : Nat} : CT.z Ct33 d = (d == 12 || d == 18) := id rfl
theorem Ct33_ok : Ct33.ok Try.prog := ok_of_f (fun f args K Q e s h => by
  have h : Cf33 f args K Q e s := h
  unfold Cf33 at h; split at h
  · exact h.elim) (fun _ _ _ _ _ _ _ _ _ h => h)
theorem c33 : callable Try.prog 33 = true := by kernel_rfl
def O10 : Nat → Sch := fun id => .done
theorem ho10 : Try.f10.body.map (okO O10) = some true := by kernel_rfl
def Cf10 : Nat → List AV → (AV → List AV → Sto → Prop) → Kt → List AV → Sto → Prop := fun f args K Q e s => match f with
  | 13 => ent13 args K e s
  | 22 => ent22 args K e s
  | 24 => ent24 args K e s
  | 26 => ent26 args K e s
  | 29 => ent29 args K e s
  | 31 => ent31 args K e s
  | 32 => ent32 args K e s
  | 33 => inlE Try.prog Ct33 O33 33000 33 args K Q e s
  | 34 => ent34 args K e s
  | _ => False
def Ct10 : CT := { f := Cf10, y := noYld, z := fun d => d == 41 }
theorem ctz10 {d : Nat} : CT.z Ct10 d = (d == 41) := id rfl
theorem Ct10_ok : Ct10.ok Try.prog := ok_of_f (fun f args K Q e s h => by
  have h : Cf10 f args K Q e s := h
  unfold Cf10 at h; split at h
  · exact ent13_ok h
  · exact ent22_ok h
  · exact ent24_ok h
  · exact ent26_ok h
  · exact ent29_ok h
  · exact ent31_ok h
  · exact ent32_ok h
  · exact inlE_ok Ct33_ok hmix ho33 h
  · exact ent34_ok h
  · exact h.elim) (fun _ _ _ _ _ _ _ _ _ h => h)
theorem x10_13  {KK : AV → List AV → Sto → Prop} {QQ : Kt} {ii : At KK} {jj : At QQ} {ee : List AV} {ss : Sto} : xC Ct10 13 [] KK QQ ii jj ee ss = (KK (.d (.b true)) ee ss) := eq13
theorem x10_22 {r : Rul} {s : Ska} {KK : AV → List AV → Sto → Prop} {QQ : Kt} {ii : At KK} {jj : At QQ} {ee : List AV} {ss : Sto} : xC Ct10 22 [.d (r.d), .d (.agg s.c)] KK QQ ii jj ee ss = ((∀ x ∈ s.calls, i64 x.place) ∧ KK (.tup [.own 1903 3 1 ((valsG r s).1.map ic), .d (.i (valsG r s).2)]) (ee.map (AV.kill 1903)) (ss.kill 1903)) := eq22
theorem x10_24 {a : List Int} {b : List Int} {KK : AV → List AV → Sto → Prop} {QQ : Kt} {ii : At KK} {jj : At QQ} {ee : List AV} {ss : Sto} : xC Ct10 24 [.d (.sl 1 (a.map ic)), .d (.sl 1 (b.map ic))] KK QQ ii jj ee ss = ((a.length ≤ 1000000) ∧ KK (.d (.b (decide (a = b)))) ee ss) := eq24
theorem x10_24_m1 {a : List Int} {b : List Int} {g1 el1 : Nat} {KK : AV → List AV → Sto → Prop} {QQ : Kt} {ii : At KK} {jj : At QQ} {ee : List AV} {ss : Sto} : xC Ct10 24 [.own g1 el1 1 (a.map ic), .d (.sl 1 (b.map ic))] KK QQ ii jj ee ss = ((a.length ≤ 1000000) ∧ (.b (decide (a = b)) : D).flat = true ∧ KK (.d (.b (decide (a = b)))) ee ss) := by
  show ent24 _ _ _ _ = _
  unfold ent24; rw [ent_iff (a, b) (by intro b h; simpa [Prod.ext_iff, and_assoc, Int.ofNat_inj, ints_inj, cals_inj, pcs_inj, skas_inj, scos_inj, ska_inj, rul_inj, sco_inj, cal_inj, ods_inj, od_inj, spns_inj, Int.ofNat_inj, ints_inj, cals_inj, pcs_inj, skas_inj, scos_inj, ska_inj, rul_inj, sco_inj, cal_inj, Int.ofNat_inj, ints_inj, cals_inj, pcs_inj, skas_inj, scos_inj, ska_inj, rul_inj, sco_inj, cal_inj, ods_inj, od_inj, spns_inj, Int.ofNat_inj, ints_inj, cals_inj, pcs_inj, skas_inj, scos_inj, ska_inj, rul_inj, sco_inj, cal_inj, ods_inj, od_inj, spns_inj, Int.ofNat_inj, ints_inj, cals_inj, pcs_inj, skas_inj, scos_inj, ska_inj, rul_inj, sco_inj, cal_inj, Int.ofNat_inj, ints_inj, cals_inj, pcs_inj, skas_inj, scos_inj, ska_inj, rul_inj, sco_inj, cal_inj, ods_inj, od_inj, spns_inj] using h) rfl]; simp
theorem x10_24_m2 {a : List Int} {b : List Int} {g1 el1 : Nat} {KK : AV → List AV → Sto → Prop} {QQ : Kt} {ii : At KK} {jj : At QQ} {ee : List AV} {ss : Sto} : xC Ct10 24 [.d (.sl 1 (a.map ic)), .own g1 el1 1 (b.map ic)] KK QQ ii jj ee ss = ((a.length ≤ 1000000) ∧ (.b (decide (a = b)) : D).flat = true ∧ KK (.d (.b (decide (a = b)))) ee ss) := by
  show ent24 _ _ _ _ = _
  unfold ent24; rw [ent_iff (a, b) (by intro b h; simpa [Prod.ext_iff, and_assoc, Int.ofNat_inj, ints_inj, cals_inj, pcs_inj, skas_inj, scos_inj, ska_inj, rul_inj, sco_inj, cal_inj, ods_inj, od_inj, spns_inj, Int.ofNat_inj, ints_inj, cals_inj, pcs_inj, skas_inj, scos_inj, ska_inj, rul_inj, sco_inj, cal_inj, Int.ofNat_inj, ints_inj, cals_inj, pcs_inj, skas_inj, scos_inj, ska_inj, rul_inj, sco_inj, cal_inj, ods_inj, od_inj, spns_inj, Int.ofNat_inj, ints_inj, cals_inj, pcs_inj, skas_inj, scos_inj, ska_inj, rul_inj, sco_inj, cal_inj, ods_inj, od_inj, spns_inj, Int.ofNat_inj, ints_inj, cals_inj, pcs_inj, skas_inj, scos_inj, ska_inj, rul_inj, sco_inj, cal_inj, Int.ofNat_inj, ints_inj, cals_inj, pcs_inj, skas_inj, scos_inj, ska_inj, rul_inj, sco_inj, cal_inj, ods_inj, od_inj, spns_inj] using h) rfl]; simp
theorem x10_24_m3 {a : List Int} {b : List Int} {g1 el1 : Nat} {g2 el2 : Nat} {KK : AV → List AV → Sto → Prop} {QQ : Kt} {ii : At KK} {jj : At QQ} {ee : List AV} {ss : Sto} : xC Ct10 24 [.own g1 el1 1 (a.map ic), .own g2 el2 1 (b.map ic)] KK QQ ii jj ee ss = ((a.length ≤ 1000000) ∧ (.b (decide (a = b)) : D).flat = true ∧ KK (.d (.b (decide (a = b)))) ee ss) := eqo24
theorem x10_26 {r : Rul} {l : List Ska} {j : Int} {KK : AV → List AV → Sto → Prop} {QQ : Kt} {ii : At KK} {jj : At QQ} {ee : List AV} {ss : Sto} : xC Ct10 26 [.d (r.d), .d (.sl 3 (l.map Ska.c)), .d (.i j)] KK QQ ii jj ee ss = ((l.length ≤ 1000 ∧ ∀ s ∈ l, ∀ x ∈ s.calls, i64 x.place) ∧ KK (.tup [.own 1904 63 2 ((swG r l j).1.map Spn.c), .d (.i (swG r l j).2)]) (ee.map (AV.kill 1904)) (ss.kill 1904)) := eq26
theorem x10_29 {l : List Sco} {KK : AV → List AV → Sto → Prop} {QQ : Kt} {ii : At KK} {jj : At QQ} {ee : List AV} {ss : Sto} : xC Ct10 29 [.d (.sl 4 (l.map Sco.c))] KK QQ ii jj ee ss = ((l.length ≤ 1000000) ∧ KK (.d (.tup [.sl 1 ((rkG l).1.map ic), .i (rkG l).2])) ee ss) := eq29
theorem x10_29_m1 {l : List Sco} {g1 el1 : Nat} {KK : AV → List AV → Sto → Prop} {QQ : Kt} {ii : At KK} {jj : At QQ} {ee : List AV} {ss : Sto} : xC Ct10 29 [.own g1 el1 4 (l.map Sco.c)] KK QQ ii jj ee ss = ((l.length ≤ 1000000) ∧ KK (.d (.tup [.sl 1 ((rkG l).1.map ic), .i (rkG l).2])) ee ss) := eqo29
theorem x10_31 {r : Rul} {l : List Ska} {first : Int} {KK : AV → List AV → Sto → Prop} {QQ : Kt} {ii : At KK} {jj : At QQ} {ee : List AV} {ss : Sto} : xC Ct10 31 [.d (r.d), .d (.sl 3 (l.map Ska.c)), .d (.i first)] KK QQ ii jj ee ss = (((l.length ≤ 1000 ∧ (l.length ≤ 12 ∨ 40 < l.length)) ∧ (∀ s ∈ l, ∀ x ∈ s.calls, i64 x.place) ∧ i64 first) ∧ KK (.d (.tup [.sl 1 ((opG r l first).1.map ic), .i (opG r l first).2])) ee ss) := eq31
theorem x10_31_m1 {r : Rul} {l : List Ska} {first : Int} {g1 el1 : Nat} {KK : AV → List AV → Sto → Prop} {QQ : Kt} {ii : At KK} {jj : At QQ} {ee : List AV} {ss : Sto} : xC Ct10 31 [.d (r.d), .own g1 el1 3 (l.map Ska.c), .d (.i first)] KK QQ ii jj ee ss = (((l.length ≤ 1000 ∧ (l.length ≤ 12 ∨ 40 < l.length)) ∧ (∀ s ∈ l, ∀ x ∈ s.calls, i64 x.place) ∧ i64 first) ∧ (.tup [.sl 1 ((opG r l first).1.map ic), .i (opG r l first).2] : D).flat = true ∧ KK (.d (.tup [.sl 1 ((opG r l first).1.map ic), .i (opG r l first).2])) ee ss) := eqo31
theorem x10_32 {a : List Spn} {b : List Spn} {KK : AV → List AV → Sto → Prop} {QQ : Kt} {ii : At KK} {jj : At QQ} {ee : List AV} {ss : Sto} : xC Ct10 32 [.d (.sl 2 (a.map Spn.c)), .d (.sl 2 (b.map Spn.c))] KK QQ ii jj ee ss = ((a.length ≤ 1000000) ∧ KK (.d (.b (decide (a = b)))) ee ss) := eq32
theorem x10_32_m1 {a : List Spn} {b : List Spn} {g1 el1 : Nat} {KK : AV → List AV → Sto → Prop} {QQ : Kt} {ii : At KK} {jj : At QQ} {ee : List AV} {ss : Sto} : xC Ct10 32 [.own g1 el1 2 (a.map Spn.c), .d (.sl 2 (b.map Spn.c))] KK QQ ii jj ee ss = ((a.length ≤ 1000000) ∧ (.b (decide (a = b)) : D).flat = true ∧ KK (.d (.b (decide (a = b)))) ee ss) := by
  show ent32 _ _ _ _ = _
  unfold ent32; rw [ent_iff (a, b) (by intro b h; simpa [Prod.ext_iff, and_assoc, Int.ofNat_inj, ints_inj, cals_inj, pcs_inj, skas_inj, scos_inj, ska_inj, rul_inj, sco_inj, cal_inj, ods_inj, od_inj, spns_inj, Int.ofNat_inj, ints_inj, cals_inj, pcs_inj, skas_inj, scos_inj, ska_inj, rul_inj, sco_inj, cal_inj, Int.ofNat_inj, ints_inj, cals_inj, pcs_inj, skas_inj, scos_inj, ska_inj, rul_inj, sco_inj, cal_inj, ods_inj, od_inj, spns_inj, Int.ofNat_inj, ints_inj, cals_inj, pcs_inj, skas_inj, scos_inj, ska_inj, rul_inj, sco_inj, cal_inj, ods_inj, od_inj, spns_inj, Int.ofNat_inj, ints_inj, cals_inj, pcs_inj, skas_inj, scos_inj, ska_inj, rul_inj, sco_inj, cal_inj, Int.ofNat_inj, ints_inj, cals_inj, pcs_inj, skas_inj, scos_inj, ska_inj, rul_inj, sco_inj, cal_inj, ods_inj, od_inj, spns_inj] using h) rfl]; simp
theorem x10_32_m2 {a : List Spn} {b : List Spn} {g1 el1 : Nat} {KK : AV → List AV → Sto → Prop} {QQ : Kt} {ii : At KK} {jj : At QQ} {ee : List AV} {ss : Sto} : xC Ct10 32 [.d (.sl 2 (a.map Spn.c)), .own g1 el1 2 (b.map Spn.c)] KK QQ ii jj ee ss = ((a.length ≤ 1000000) ∧ (.b (decide (a = b)) : D).flat = true ∧ KK (.d (.b (decide (a = b)))) ee ss) := by
  show ent32 _ _ _ _ = _
  unfold ent32; rw [ent_iff (a, b) (by intro b h; simpa [Prod.ext_iff, and_assoc, Int.ofNat_inj, ints_inj, cals_inj, pcs_inj, skas_inj, scos_inj, ska_inj, rul_inj, sco_inj, cal_inj, ods_inj, od_inj, spns_inj, Int.ofNat_inj, ints_inj, cals_inj, pcs_inj, skas_inj, scos_inj, ska_inj, rul_inj, sco_inj, cal_inj, Int.ofNat_inj, ints_inj, cals_inj, pcs_inj, skas_inj, scos_inj, ska_inj, rul_inj, sco_inj, cal_inj, ods_inj, od_inj, spns_inj, Int.ofNat_inj, ints_inj, cals_inj, pcs_inj, skas_inj, scos_inj, ska_inj, rul_inj, sco_inj, cal_inj, ods_inj, od_inj, spns_inj, Int.ofNat_inj, ints_inj, cals_inj, pcs_inj, skas_inj, scos_inj, ska_inj, rul_inj, sco_inj, cal_inj, Int.ofNat_inj, ints_inj, cals_inj, pcs_inj, skas_inj, scos_inj, ska_inj, rul_inj, sco_inj, cal_inj, ods_inj, od_inj, spns_inj] using h) rfl]; simp
theorem x10_32_m3 {a : List Spn} {b : List Spn} {g1 el1 : Nat} {g2 el2 : Nat} {KK : AV → List AV → Sto → Prop} {QQ : Kt} {ii : At KK} {jj : At QQ} {ee : List AV} {ss : Sto} : xC Ct10 32 [.own g1 el1 2 (a.map Spn.c), .own g2 el2 2 (b.map Spn.c)] KK QQ ii jj ee ss = ((a.length ≤ 1000000) ∧ (.b (decide (a = b)) : D).flat = true ∧ KK (.d (.b (decide (a = b)))) ee ss) := eqo32
theorem x10_34 {n : Nat} {KK : AV → List AV → Sto → Prop} {QQ : Kt} {ii : At KK} {jj : At QQ} {ee : List AV} {ss : Sto} : xC Ct10 34 [.d (.i (n : Int))] KK QQ ii jj ee ss = ((n ≤ 1000) ∧ KK (.d (.tup [thrR.d, .sl 3 ((thr n).map Ska.c)])) ee ss) := eq34
theorem x10_22a0 {r : Rul} {s : Ska} {g0 el0 g1 el1 g2 el2 : Nat} {KK : AV → List AV → Sto → Prop} {QQ : Kt} {ii : At KK} {jj : At QQ} {ee : List AV} {ss : Sto} : xC Ct10 22 [.agg [.own g0 el0 1 (r.bases.map ic), .d (.i r.factor), .d (.i r.most)], .agg [.own g1 el1 6 (s.calls.map Cal.c), .own g2 el2 1 (s.parts.map pc), .d (.i s.over)]] KK QQ ii jj ee ss = ((∀ x ∈ s.calls, i64 x.place) ∧ KK (.tup [.own 1903 3 1 ((valsG r s).1.map ic), .d (.i (valsG r s).2)]) (ee.map (AV.kill 1903)) (ss.kill 1903)) := eqa22_0
theorem z10_33 : type_of% (@xinl Try.prog Ct10 Ct33 O33 33000 33 _ _ _ _ rfl c33 Try.func33 rfl Try.ntmps33 Try.results33) := @xinl Try.prog Ct10 Ct33 O33 33000 33 _ _ _ _ rfl c33 Try.func33 rfl Try.ntmps33 Try.results33
theorem c10 : callable Try.prog 10 = true := by kernel_rfl
theorem pf10  : PF Try.prog 10 [] (fun zz => zz = .ret (.b true)) := by
  have hx1 : ∀ {KK : AV → List AV → Sto → Prop} {QQ : Kt} {ii : At KK} {jj : At QQ} {ee : List AV} {ss : Sto}, xC Ct10 22 [.agg [.own 33005 3 1 sB, .d (.i 160), .d (.i 2)], .agg [.own 33013 37 6 sC, .own 33019 22 1 sP, .d (.i 7)]] KK QQ ii jj ee ss = KK (.tup [.own 1903 3 1 [[.i 933], [.i 253], [.i 420]], .d (.i 0)]) (ee.map (AV.kill 1903)) (ss.kill 1903) := by
    intro KK QQ ii jj ee ss
    have := x10_22a0 (r := smpR) (s := smpS) (g0 := 33005) (el0 := 3) (g1 := 33013) (el1 := 37) (g2 := 33019) (el2 := 22) (KK := KK) (QQ := QQ) (ii := ii) (jj := jj) (ee := ee) (ss := ss)
    rw [smp_vals] at this
    exact this.trans (propext ⟨fun h => h.2, fun h => ⟨smp_place, h⟩⟩)
  have hx2 : ∀ {KK : AV → List AV → Sto → Prop} {QQ : Kt} {ii : At KK} {jj : At QQ} {ee : List AV} {ss : Sto}, xC Ct10 22 [.agg [.own 33005 3 1 sB, .d (.i 160), .d (.i 1)], .agg [.own 33013 37 6 sC2, .own 33019 22 1 sP, .d (.i 7)]] KK QQ ii jj ee ss = KK (.tup [.own 1903 3 1 [[.i 933], [.i 0], [.i 420], [.i 500]], .d (.i 0)]) (ee.map (AV.kill 1903)) (ss.kill 1903) := by
    intro KK QQ ii jj ee ss
    have := x10_22a0 (r := smpR2) (s := smpS2) (g0 := 33005) (el0 := 3) (g1 := 33013) (el1 := 37) (g2 := 33019) (el2 := 22) (KK := KK) (QQ := QQ) (ii := ii) (jj := jj) (ee := ee) (ss := ss)
    rw [smp_vals2] at this
    exact this.trans (propext ⟨fun h => h.2, fun h => ⟨smp_place2, h⟩⟩)
  have hx3 : ∀ {KK : AV → List AV → Sto → Prop} {QQ : Kt} {ii : At KK} {jj : At QQ} {ee : List AV} {ss : Sto}, xC Ct10 29 [.own 56 40 4 [[.i 5, .i 0, .i 0, .i 900], [.i 6, .i 0, .i 0, .i 800], [.i 7, .i 0, .i 0, .i 800], [.i 8, .i 0, .i 0, .i 700]]] KK QQ ii jj ee ss = KK (.d (.tup [.sl 1 [[.i 1], [.i 3], [.i 2], [.i 4]], .i 0])) ee ss := by
    intro KK QQ ii jj ee ss
    have := x10_29_m1 (l := rA) (g1 := 56) (el1 := 40) (KK := KK) (QQ := QQ) (ii := ii) (jj := jj) (ee := ee) (ss := ss)
    rw [rk_A] at this
    exact this.trans (propext ⟨fun h => h.2, fun h => ⟨by decide, h⟩⟩)
  have hx4 : ∀ {KK : AV → List AV → Sto → Prop} {QQ : Kt} {ii : At KK} {jj : At QQ} {ee : List AV} {ss : Sto}, xC Ct10 29 [.own 64 40 4 [[.i 6, .i 0, .i 0, .i 800], [.i 6, .i 0, .i 0, .i 800], [.i 8, .i 0, .i 0, .i 700]]] KK QQ ii jj ee ss = KK (.d (.tup [.sl 1 [[.i 1], [.i 1], [.i 3]], .i 0])) ee ss := by
    intro KK QQ ii jj ee ss
    have := x10_29_m1 (l := rB) (g1 := 64) (el1 := 40) (KK := KK) (QQ := QQ) (ii := ii) (jj := jj) (ee := ee) (ss := ss)
    rw [rk_B] at this
    exact this.trans (propext ⟨fun h => h.2, fun h => ⟨by decide, h⟩⟩)
  have hi1 : ∀ {g : Nat} {KK : AV → List AV → Sto → Prop} {QQ : Kt} {ii : At KK} {jj : At QQ} {ee : List AV} {ss : Sto}, xC Ct10 24 [.d (.sl 1 [[.i 933], [.i 253], [.i 420]]), .own g 3 1 [[.i 933], [.i 253], [.i 420]]] KK QQ ii jj ee ss = KK (.d (.b true)) ee ss := fun {g KK QQ ii jj ee ss} =>
    (x10_24_m2 (a := [933, 253, 420]) (b := [933, 253, 420]) (g1 := g) (el1 := 3) (KK := KK) (QQ := QQ) (ii := ii) (jj := jj) (ee := ee) (ss := ss)).trans (propext ⟨fun h => h.2.2, fun h => ⟨by decide, rfl, h⟩⟩)
  have hi2 : ∀ {g g' : Nat} {KK : AV → List AV → Sto → Prop} {QQ : Kt} {ii : At KK} {jj : At QQ} {ee : List AV} {ss : Sto}, xC Ct10 24 [.own g 3 1 [[.i 933], [.i 0], [.i 420], [.i 500]], .own g' 3 1 [[.i 933], [.i 0], [.i 420], [.i 500]]] KK QQ ii jj ee ss = KK (.d (.b true)) ee ss := fun {g g' KK QQ ii jj ee ss} =>
    (x10_24_m3 (a := [933, 0, 420, 500]) (b := [933, 0, 420, 500]) (g1 := g) (el1 := 3) (g2 := g') (el2 := 3) (KK := KK) (QQ := QQ) (ii := ii) (jj := jj) (ee := ee) (ss := ss)).trans (propext ⟨fun h => h.2.2, fun h => ⟨by decide, rfl, h⟩⟩)
  have hi3 : ∀ {g : Nat} {KK : AV → List AV → Sto → Prop} {QQ : Kt} {ii : At KK} {jj : At QQ} {ee : List AV} {ss : Sto}, xC Ct10 24 [.d (.sl 1 [[.i 1], [.i 3], [.i 2], [.i 4]]), .own g 3 1 [[.i 1], [.i 3], [.i 2], [.i 4]]] KK QQ ii jj ee ss = KK (.d (.b true)) ee ss := fun {g KK QQ ii jj ee ss} =>
    (x10_24_m2 (a := [1, 3, 2, 4]) (b := [1, 3, 2, 4]) (g1 := g) (el1 := 3) (KK := KK) (QQ := QQ) (ii := ii) (jj := jj) (ee := ee) (ss := ss)).trans (propext ⟨fun h => h.2.2, fun h => ⟨by decide, rfl, h⟩⟩)
  have hi4 : ∀ {g : Nat} {KK : AV → List AV → Sto → Prop} {QQ : Kt} {ii : At KK} {jj : At QQ} {ee : List AV} {ss : Sto}, xC Ct10 24 [.d (.sl 1 [[.i 1], [.i 1], [.i 3]]), .own g 3 1 [[.i 1], [.i 1], [.i 3]]] KK QQ ii jj ee ss = KK (.d (.b true)) ee ss := fun {g KK QQ ii jj ee ss} =>
    (x10_24_m2 (a := [1, 1, 3]) (b := [1, 1, 3]) (g1 := g) (el1 := 3) (KK := KK) (QQ := QQ) (ii := ii) (jj := jj) (ee := ee) (ss := ss)).trans (propext ⟨fun h => h.2.2, fun h => ⟨by decide, rfl, h⟩⟩)
  have hi5 : ∀ {g : Nat} {KK : AV → List AV → Sto → Prop} {QQ : Kt} {ii : At KK} {jj : At QQ} {ee : List AV} {ss : Sto}, xC Ct10 24 [.d (.sl 1 [[.i 0], [.i 1], [.i 2]]), .own g 3 1 [[.i 0], [.i 1], [.i 2]]] KK QQ ii jj ee ss = KK (.d (.b true)) ee ss := fun {g KK QQ ii jj ee ss} =>
    (x10_24_m2 (a := [0, 1, 2]) (b := [0, 1, 2]) (g1 := g) (el1 := 3) (KK := KK) (QQ := QQ) (ii := ii) (jj := jj) (ee := ee) (ss := ss)).trans (propext ⟨fun h => h.2.2, fun h => ⟨by decide, rfl, h⟩⟩)
  have hx5 : ∀ {KK : AV → List AV → Sto → Prop} {QQ : Kt} {ii : At KK} {jj : At QQ} {ee : List AV} {ss : Sto}, xC Ct10 34 [.d (.v (.int .i64 3))] KK QQ ii jj ee ss = KK (.d (.tup [thrR.d, .sl 3 ((thr 3).map Ska.c)])) ee ss := fun {KK QQ ii jj ee ss} => (x10_34 (n := 3)).trans (propext ⟨fun h => h.2, fun h => ⟨by decide, h⟩⟩)
  have hx6 : ∀ {KK : AV → List AV → Sto → Prop} {QQ : Kt} {ii : At KK} {jj : At QQ} {ee : List AV} {ss : Sto}, xC Ct10 34 [.d (.v (.int .i64 5))] KK QQ ii jj ee ss = KK (.d (.tup [thrR.d, .sl 3 ((thr 5).map Ska.c)])) ee ss := fun {KK QQ ii jj ee ss} => (x10_34 (n := 5)).trans (propext ⟨fun h => h.2, fun h => ⟨by decide, h⟩⟩)
  have hs3 : ∀ {g : Nat} {KK : AV → List AV → Sto → Prop} {QQ : Kt} {ii : At KK} {jj : At QQ} {ee : List AV} {ss : Sto}, xC Ct10 32 [.own 1904 63 2 [[.i 1, .i 3], [.i 1, .i 3], [.i 1, .i 3]], .own g 63 2 [[.i 1, .i 3], [.i 1, .i 3], [.i 1, .i 3]]] KK QQ ii jj ee ss = KK (.d (.b true)) ee ss := fun {g KK QQ ii jj ee ss} =>
    (x10_32_m3 (a := [⟨1, 3⟩, ⟨1, 3⟩, ⟨1, 3⟩]) (b := [⟨1, 3⟩, ⟨1, 3⟩, ⟨1, 3⟩]) (g1 := 1904) (el1 := 63) (g2 := g) (el2 := 63) (KK := KK) (QQ := QQ) (ii := ii) (jj := jj) (ee := ee) (ss := ss)).trans (propext ⟨fun h => h.2.2, fun h => ⟨by decide, rfl, h⟩⟩)
  refine PF_nil (PF_startN 3 (O := O10) Ct10_ok hmix ho10 Try.func10 c10 rfl Try.ntmps10 Try.results10 ?_)
  simp (maxSteps := 4000000) +contextual (disch := first | omega | exact qdb_ok (by kernel_rfl) | exact okb_ok (by kernel_rfl)) only [bw1,bw2,bw3,bw4,bw5,bw6,bw7,bc0,bc1,bc2,bc3,bc4,bc5,bc6,bc7,setPs,AV.owns,AV.datF,AV.frz,AV.cpy,ifV,isEqB,nilV,nilX,AV.isNilS,AV.isNoRows,wk,dclo,datOf,binIs,addF,AV.isPtr,idxV,AV.isSl,AV.isSlice,AV.rows,ps,pv,extV,extS,AV.outs,AV.outF,packD,AV.dl,fieldV,fieldS,AV.cells?,AV.upr,AV.menc,AV.one,D.one,Value.oneCell',tagOf,AV.isApp,strV,strS,bolV,bolS,slcV,AV.isSlD,asrtS,AV.dcells,D.cells?,stcV,stcS,leafOk,eqDs,eqD,packA,D.val?,↓reduceIte,reduceCtorEq,Nat.reduceAdd,Nat.reduceSub,Nat.reduceMul,List.reduceReplicate,Nat.reduceLeDiff,Nat.reduceLT,Nat.reduceBEq,Nat.reduceEqDiff,Int.reduceNeg,Int.reduceEq,Int.reduceLE,Int.reduceLT,tfb,n_seq,ctz10,x10_13,x10_22,x10_22a0,x10_24,x10_24_m1,x10_24_m2,x10_24_m3,x10_26,x10_29,x10_29_m1,x10_31,x10_31_m1,x10_32,x10_32_m1,x10_32_m2,x10_32_m3,x10_34,z10_33,ctz33,hx1]
  refine n_frz 1903 3 1 (by decide) rfl ?_
  refine n_go 1 Ct10_ok hmix (by kernel_rfl) ?_
  simp (maxSteps := 4000000) +contextual (disch := first | omega | exact qdb_ok (by kernel_rfl) | exact okb_ok (by kernel_rfl)) only [bw1,bw2,bw3,bw4,bw5,bw6,bw7,bc0,bc1,bc2,bc3,bc4,bc5,bc6,bc7,setPs,AV.owns,AV.datF,AV.frz,AV.cpy,ifV,isEqB,nilV,nilX,AV.isNilS,AV.isNoRows,wk,dclo,datOf,binIs,addF,AV.isPtr,idxV,AV.isSl,AV.isSlice,AV.rows,ps,pv,extV,extS,AV.outs,AV.outF,packD,AV.dl,fieldV,fieldS,AV.cells?,AV.upr,AV.menc,AV.one,D.one,Value.oneCell',tagOf,AV.isApp,strV,strS,bolV,bolS,slcV,AV.isSlD,asrtS,AV.dcells,D.cells?,stcV,stcS,leafOk,eqDs,eqD,packA,D.val?,↓reduceIte,reduceCtorEq,Nat.reduceAdd,Nat.reduceSub,Nat.reduceMul,List.reduceReplicate,Nat.reduceLeDiff,Nat.reduceLT,Nat.reduceBEq,Nat.reduceEqDiff,Int.reduceNeg,Int.reduceEq,Int.reduceLE,Int.reduceLT,tfb,n_seq,ctz10,x10_13,x10_22,x10_22a0,x10_24,x10_24_m1,x10_24_m2,x10_24_m3,x10_26,x10_29,x10_29_m1,x10_31,x10_31_m1,x10_32,x10_32_m1,x10_32_m2,x10_32_m3,x10_34,z10_33,ctz33,hx2]
  refine n_go 2 Ct10_ok hmix (by kernel_rfl) ?_
  simp (maxSteps := 4000000) +contextual (disch := first | omega | exact qdb_ok (by kernel_rfl) | exact okb_ok (by kernel_rfl)) only [bw1,bw2,bw3,bw4,bw5,bw6,bw7,bc0,bc1,bc2,bc3,bc4,bc5,bc6,bc7,setPs,AV.owns,AV.datF,AV.frz,AV.cpy,ifV,isEqB,nilV,nilX,AV.isNilS,AV.isNoRows,wk,dclo,datOf,binIs,addF,AV.isPtr,idxV,AV.isSl,AV.isSlice,AV.rows,ps,pv,extV,extS,AV.outs,AV.outF,packD,AV.dl,fieldV,fieldS,AV.cells?,AV.upr,AV.menc,AV.one,D.one,Value.oneCell',tagOf,AV.isApp,strV,strS,bolV,bolS,slcV,AV.isSlD,asrtS,AV.dcells,D.cells?,stcV,stcS,leafOk,eqDs,eqD,packA,D.val?,↓reduceIte,reduceCtorEq,Nat.reduceAdd,Nat.reduceSub,Nat.reduceMul,List.reduceReplicate,Nat.reduceLeDiff,Nat.reduceLT,Nat.reduceBEq,Nat.reduceEqDiff,Int.reduceNeg,Int.reduceEq,Int.reduceLE,Int.reduceLT,tfb,n_seq,ctz10,x10_13,x10_22,x10_22a0,x10_24,x10_24_m1,x10_24_m2,x10_24_m3,x10_26,x10_29,x10_29_m1,x10_31,x10_31_m1,x10_32,x10_32_m1,x10_32_m2,x10_32_m3,x10_34,z10_33,ctz33,hx2]
  refine n_go 4 Ct10_ok hmix (by kernel_rfl) ?_
  simp (maxSteps := 4000000) +contextual (disch := first | omega | exact qdb_ok (by kernel_rfl) | exact okb_ok (by kernel_rfl)) only [bw1,bw2,bw3,bw4,bw5,bw6,bw7,bc0,bc1,bc2,bc3,bc4,bc5,bc6,bc7,setPs,AV.owns,AV.datF,AV.frz,AV.cpy,ifV,isEqB,nilV,nilX,AV.isNilS,AV.isNoRows,wk,dclo,datOf,binIs,addF,AV.isPtr,idxV,AV.isSl,AV.isSlice,AV.rows,ps,pv,extV,extS,AV.outs,AV.outF,packD,AV.dl,fieldV,fieldS,AV.cells?,AV.upr,AV.menc,AV.one,D.one,Value.oneCell',tagOf,AV.isApp,strV,strS,bolV,bolS,slcV,AV.isSlD,asrtS,AV.dcells,D.cells?,stcV,stcS,leafOk,eqDs,eqD,packA,D.val?,↓reduceIte,reduceCtorEq,Nat.reduceAdd,Nat.reduceSub,Nat.reduceMul,List.reduceReplicate,Nat.reduceLeDiff,Nat.reduceLT,Nat.reduceBEq,Nat.reduceEqDiff,Int.reduceNeg,Int.reduceEq,Int.reduceLE,Int.reduceLT,tfb,n_seq,ctz10,x10_13,x10_22,x10_22a0,x10_24,x10_24_m1,x10_24_m2,x10_24_m3,x10_26,x10_29,x10_29_m1,x10_31,x10_31_m1,x10_32,x10_32_m1,x10_32_m2,x10_32_m3,x10_34,z10_33,ctz33,hx3, hx4, hi1, hi2, hi3, hi4]
  refine n_w Ct10_ok hmix (by kernel_rfl) ?_
  simp (maxSteps := 4000000) +contextual (disch := first | omega | exact qdb_ok (by kernel_rfl) | exact okb_ok (by kernel_rfl)) only [bw1,bw2,bw3,bw4,bw5,bw6,bw7,bc0,bc1,bc2,bc3,bc4,bc5,bc6,bc7,setPs,AV.owns,AV.datF,AV.frz,AV.cpy,ifV,isEqB,nilV,nilX,AV.isNilS,AV.isNoRows,wk,dclo,datOf,binIs,addF,AV.isPtr,idxV,AV.isSl,AV.isSlice,AV.rows,ps,pv,extV,extS,AV.outs,AV.outF,packD,AV.dl,fieldV,fieldS,AV.cells?,AV.upr,AV.menc,AV.one,D.one,Value.oneCell',tagOf,AV.isApp,strV,strS,bolV,bolS,slcV,AV.isSlD,asrtS,AV.dcells,D.cells?,stcV,stcS,leafOk,eqDs,eqD,packA,D.val?,↓reduceIte,reduceCtorEq,Nat.reduceAdd,Nat.reduceSub,Nat.reduceMul,List.reduceReplicate,Nat.reduceLeDiff,Nat.reduceLT,Nat.reduceBEq,Nat.reduceEqDiff,Int.reduceNeg,Int.reduceEq,Int.reduceLE,Int.reduceLT,tfb,n_seq,ctz10,x10_13,x10_22,x10_22a0,x10_24,x10_24_m1,x10_24_m2,x10_24_m3,x10_26,x10_29,x10_29_m1,x10_31,x10_31_m1,x10_32,x10_32_m1,x10_32_m2,x10_32_m3,x10_34,z10_33,ctz33,hx5]
  refine loop_s (O := O10) (tb := 0) Ct10_ok hmix (by kernel_rfl) (σ := Nat) (fun k => [(87, .i k)]) (fun k => k ≤ 3) (fun k => 3 - k) (fun k => k + 1) 0 (by omega) ?_ ?_
  · simp (maxSteps := 4000000) +contextual (disch := first | omega | exact qdb_ok (by kernel_rfl) | exact okb_ok (by kernel_rfl)) only [bw1,bw2,bw3,bw4,bw5,bw6,bw7,bc0,bc1,bc2,bc3,bc4,bc5,bc6,bc7,setPs,AV.owns,AV.datF,AV.frz,AV.cpy,ifV,isEqB,nilV,nilX,AV.isNilS,AV.isNoRows,wk,dclo,datOf,binIs,addF,AV.isPtr,idxV,AV.isSl,AV.isSlice,AV.rows,ps,pv,extV,extS,AV.outs,AV.outF,packD,AV.dl,fieldV,fieldS,AV.cells?,AV.upr,AV.menc,AV.one,D.one,Value.oneCell',tagOf,AV.isApp,strV,strS,bolV,bolS,slcV,AV.isSlD,asrtS,AV.dcells,D.cells?,stcV,stcS,leafOk,eqDs,eqD,packA,D.val?,↓reduceIte,reduceCtorEq,Nat.reduceAdd,Nat.reduceSub,Nat.reduceMul,List.reduceReplicate,Nat.reduceLeDiff,Nat.reduceLT,Nat.reduceBEq,Nat.reduceEqDiff,Int.reduceNeg,Int.reduceEq,Int.reduceLE,Int.reduceLT,tfb,n_seq,ctz10,x10_13,x10_22,x10_22a0,x10_24,x10_24_m1,x10_24_m2,x10_24_m3,x10_26,x10_29,x10_29_m1,x10_31,x10_31_m1,x10_32,x10_32_m1,x10_32_m2,x10_32_m3,x10_34,z10_33,ctz33,eq_self]
  intro k hk
  by_cases hlt : k < 3
  · have hlt' : (k : Int) < 3 := by omega
    have hsw := thr3_sw k hlt
    simp (maxSteps := 4000000) +contextual (disch := first | omega | exact qdb_ok (by kernel_rfl) | exact okb_ok (by kernel_rfl)) only [bw1,bw2,bw3,bw4,bw5,bw6,bw7,bc0,bc1,bc2,bc3,bc4,bc5,bc6,bc7,setPs,AV.owns,AV.datF,AV.frz,AV.cpy,ifV,isEqB,nilV,nilX,AV.isNilS,AV.isNoRows,wk,dclo,datOf,binIs,addF,AV.isPtr,idxV,AV.isSl,AV.isSlice,AV.rows,ps,pv,extV,extS,AV.outs,AV.outF,packD,AV.dl,fieldV,fieldS,AV.cells?,AV.upr,AV.menc,AV.one,D.one,Value.oneCell',tagOf,AV.isApp,strV,strS,bolV,bolS,slcV,AV.isSlD,asrtS,AV.dcells,D.cells?,stcV,stcS,leafOk,eqDs,eqD,packA,D.val?,↓reduceIte,reduceCtorEq,Nat.reduceAdd,Nat.reduceSub,Nat.reduceMul,List.reduceReplicate,Nat.reduceLeDiff,Nat.reduceLT,Nat.reduceBEq,Nat.reduceEqDiff,Int.reduceNeg,Int.reduceEq,Int.reduceLE,Int.reduceLT,tfb,n_seq,ctz10,x10_13,x10_22,x10_22a0,x10_24,x10_24_m1,x10_24_m2,x10_24_m3,x10_26,x10_29,x10_29_m1,x10_31,x10_31_m1,x10_32,x10_32_m1,x10_32_m2,x10_32_m3,x10_34,z10_33,ctz33,eq_self, hlt', hsw, hs3, List.map_cons, List.map_nil]
    exact ⟨thr_place, by omega, by omega⟩
  have hlt' : ¬ (k : Int) < 3 := by omega
  obtain rfl : k = 3 := by omega
  have h31 : ¬ ((0 : Int) + 1 + 1 + 1 < 3) := by decide
  simp (maxSteps := 4000000) +contextual (disch := first | omega | exact qdb_ok (by kernel_rfl) | exact okb_ok (by kernel_rfl)) only [bw1,bw2,bw3,bw4,bw5,bw6,bw7,bc0,bc1,bc2,bc3,bc4,bc5,bc6,bc7,setPs,AV.owns,AV.datF,AV.frz,AV.cpy,ifV,isEqB,nilV,nilX,AV.isNilS,AV.isNoRows,wk,dclo,datOf,binIs,addF,AV.isPtr,idxV,AV.isSl,AV.isSlice,AV.rows,ps,pv,extV,extS,AV.outs,AV.outF,packD,AV.dl,fieldV,fieldS,AV.cells?,AV.upr,AV.menc,AV.one,D.one,Value.oneCell',tagOf,AV.isApp,strV,strS,bolV,bolS,slcV,AV.isSlD,asrtS,AV.dcells,D.cells?,stcV,stcS,leafOk,eqDs,eqD,packA,D.val?,↓reduceIte,reduceCtorEq,Nat.reduceAdd,Nat.reduceSub,Nat.reduceMul,List.reduceReplicate,Nat.reduceLeDiff,Nat.reduceLT,Nat.reduceBEq,Nat.reduceEqDiff,Int.reduceNeg,Int.reduceEq,Int.reduceLE,Int.reduceLT,tfb,n_seq,ctz10,x10_13,x10_22,x10_22a0,x10_24,x10_24_m1,x10_24_m2,x10_24_m3,x10_26,x10_29,x10_29_m1,x10_31,x10_31_m1,x10_32,x10_32_m1,x10_32_m2,x10_32_m3,x10_34,z10_33,ctz33,eq_self, hlt', h31, Int.lt_irrefl, hx6, op_1, op_2, op_3, hi5, List.map_cons, List.map_nil]
  have hl : ∀ n, (thr n).length = 3 := fun n => rfl
  exact ⟨⟨⟨by rw [hl]; omega, .inl (by rw [hl]; omega)⟩, thr_place.2, by unfold i64; omega⟩, ⟨⟨by rw [hl]; omega, .inl (by rw [hl]; omega)⟩, thr_place.2, by unfold i64; omega⟩, ⟨by rw [hl]; omega, .inl (by rw [hl]; omega)⟩, thr_place.2, by unfold i64; omega⟩
end Go.Proofs.Ytapglfcaghlpfaa.N0
