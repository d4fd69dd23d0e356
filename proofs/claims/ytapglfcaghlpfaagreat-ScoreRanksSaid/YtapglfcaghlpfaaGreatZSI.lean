/- A part of the proof that the last text ends: what functions of the program do, told by plain data. -/
import Derived.Test.YtapglfcaghlpfaaGreatZSH
import Derived.Test.YtapglfcaghlpfaaGreatZSR
set_option linter.unusedVariables false
set_option linter.unusedSimpArgs false
namespace Go.Proofs.YtapglfcaghlpfaaGreat
open Go Go.E Go.Maps
set_option maxRecDepth 100000
set_option maxHeartbeats 16000000
def sp61 (args : List AV) (K : AV → List AV → Sto → Prop) (e : List AV) (s : Sto) : Prop := R0.ent61 args K e s
theorem sp61_ok {args : List AV} {K : AV → List AV → Sto → Prop} {Q : Kt} {e : List AV} {s : Sto} (h : sp61 args K e s) : pcall Tryz.prog 61 args K Q e s := R0.ent61_ok h
def O61 : Nat → Sch := fun id => .done
theorem ho61 : Tryz.f61.body.map (okO O61) = some true := by kernel_rfl
def Cf61 : Nat → List AV → (AV → List AV → Sto → Prop) → Kt → List AV → Sto → Prop := fun f args K Q e s => match f with
  | 61 => sp61 args K e s
  | _ => False
def Ct61 : CT := { f := Cf61, y := noYld, z := fun d => false }
theorem Ct61_ok : Ct61.ok Tryz.prog := ok_of_f (fun f args K Q e s h => by
  have h : Cf61 f args K Q e s := h
  unfold Cf61 at h; split at h
  · exact sp61_ok h
  · exact h.elim) (fun _ _ _ _ _ _ _ _ _ h => h)
theorem c61 : callable Tryz.prog 61 = true := by kernel_rfl
theorem pf61 (a b : Int) (h : (-1000000000 ≤ a ∧ a ≤ 1000000000) ∧ 1 ≤ b ∧ b ≤ 1000000000) : PF Tryz.prog 61 [.i a, .i b] (fun zz => zz = .ret (.i (rnd a b))) := by
  obtain ⟨⟨a1, a2⟩, b1, b2⟩ := h
  refine PF_nil (PF_start (O := O61) Ct61_ok hmix ho61 Tryz.func61 c61 rfl Tryz.ntmps61 Tryz.results61 ?_)
  by_cases c : a < 0
  · have hw : rnd a b = -((2 * -a + b) / (2 * b)) := by unfold rnd; rw [if_pos c]
    rw [hw]
    have hz : 0 - a = -a := by omega
    have hb1 : 0 ≤ (2 * -a + b) / (2 * b) := Int.ediv_nonneg (by omega) (by omega)
    have hb2 : (2 * -a + b) / (2 * b) ≤ 2 * -a + b := Int.ediv_le_self _ (by omega)
    generalize hq : (2 * -a + b) / (2 * b) = q at hb1 hb2 ⊢
    have hx : ∀ {args : List AV} {KK : AV → List AV → Sto → Prop} {QQ : Kt} {ii : At KK} {jj : At QQ} {ee : List AV} {ss : Sto}, xC Ct61 61 args KK QQ ii jj ee ss = sp61 args KK ee ss := id rfl
    have hsp : ∀ {a b : Int} {KK : AV → List AV → Sto → Prop} {ee : List AV} {ss : Sto}, sp61 [.d (.i a), .d (.i b)] KK ee ss = (((0 ≤ a ∧ a ≤ 1000000000) ∧ 1 ≤ b ∧ b ≤ 1000000000) ∧ KK (.d (.i ((2 * a + b) / (2 * b)))) ee ss) := R0.eq61
    simp (maxSteps := 4000000) +contextual (disch := first | omega | exact qdb_ok (by kernel_rfl) | exact okb_ok (by kernel_rfl)) only [bw1,bw2,bw3,bw5,bw6,bw7,bc1,bc2,bc3,bc4,bc5,bc6,bc7,binIs,AV.outs,AV.outF,packD,↓reduceIte,Nat.reduceAdd,Nat.reduceSub,List.reduceReplicate,tfb,c, hx, hsp, hz, hq]
    try omega
  · have hd : (2 * a + b).tdiv (2 * b) = (2 * a + b) / (2 * b) := Int.tdiv_eq_ediv_of_nonneg (by omega)
    have hb1 : 0 ≤ (2 * a + b) / (2 * b) := Int.ediv_nonneg (by omega) (by omega)
    have hb2 : (2 * a + b) / (2 * b) ≤ 2 * a + b := Int.ediv_le_self _ (by omega)
    have hwr : IntKind.i64.wrap ((2 * a + b) / (2 * b)) = (2 * a + b) / (2 * b) := by
      clear hd
      generalize (2 * a + b) / (2 * b) = q at hb1 hb2 ⊢
      exact wrap_ok (by omega) (by omega)
    have hw : rnd a b = (2 * a + b) / (2 * b) := by unfold rnd; rw [if_neg c]
    rw [hw]
    simp (maxSteps := 4000000) +contextual (disch := first | omega | exact qdb_ok (by kernel_rfl) | exact okb_ok (by kernel_rfl)) only [bw1,bw2,bw3,bw4,bw5,bw6,bw7,bc1,bc2,bc3,bc4,bc5,bc6,binIs,AV.outs,AV.outF,packD,↓reduceIte,Nat.reduceAdd,Nat.reduceSub,List.reduceReplicate,tfb,c, hwr]
    omega
theorem avi {x y : Int} (h : x = y) : AV.d (D.v (Value.int .i64 x)) = AV.i y := by rw [h]
theorem off_b {f : Nat} {sec : Int} (h0 : 0 ≤ sec) (h1 : sec ≤ 100000) (hf : f ≤ 1000) : 0 ≤ off f sec ∧ off f sec ≤ 10300400 := by
  have := offN_b f
  have h2 : 0 ≤ (sec + 4) / 5 := Int.ediv_nonneg (by omega) (by omega)
  have h3 : (sec + 4) / 5 ≤ sec + 4 := Int.ediv_le_self _ (by omega)
  unfold off; omega
def ent61 (args : List AV) (K : AV → List AV → Sto → Prop) (e : List AV) (s : Sto) : Prop := ent (α := (Int) × (Int)) (fun aa => [.i aa.1, .i aa.2]) (fun aa => (-1000000000 ≤ aa.1 ∧ aa.1 ≤ 1000000000) ∧ 1 ≤ aa.2 ∧ aa.2 ≤ 1000000000) (fun aa => .i (rnd aa.1 aa.2)) args K e s
theorem ent61_ok {args : List AV} {K : AV → List AV → Sto → Prop} {Q : Kt} {e : List AV} {s : Sto} (h : ent61 args K e s) : pcall Tryz.prog 61 args K Q e s := ent_ok (fun aa h => pf61 aa.1 aa.2 h) h
theorem eq61 {a : Int} {b : Int} {KK : AV → List AV → Sto → Prop} {ee : List AV} {ss : Sto} : ent61 [.d (.i a), .d (.i b)] KK ee ss = (((-1000000000 ≤ a ∧ a ≤ 1000000000) ∧ 1 ≤ b ∧ b ≤ 1000000000) ∧ KK (.d (.i (rnd a b))) ee ss) := by
  unfold ent61; rw [ent_iff (a, b) (by intro b h; simpa [Prod.ext_iff, and_assoc, Int.ofNat_inj, ints_inj, cals_inj, pcs_inj, skas_inj, scos_inj, ska_inj, rul_inj, sco_inj, cal_inj] using h) rfl]; simp
def O62 : Nat → Sch := fun id => .done
theorem ho62 : Tryz.f62.body.map (okO O62) = some true := by kernel_rfl
def Cf62 : Nat → List AV → (AV → List AV → Sto → Prop) → Kt → List AV → Sto → Prop := fun f args K Q e s => match f with
  | _ => False
def Ct62 : CT := { f := Cf62, y := noYld, z := fun d => false }
theorem Ct62_ok : Ct62.ok Tryz.prog := ok_of_f (fun f args K Q e s h => by
  have h : Cf62 f args K Q e s := h
  unfold Cf62 at h; split at h
  · exact h.elim) (fun _ _ _ _ _ _ _ _ _ h => h)
theorem c62 : callable Tryz.prog 62 = true := by kernel_rfl
theorem pf62 (falls : Nat) (sec : Int) (h : falls ≤ 1000 ∧ 0 ≤ sec ∧ sec ≤ 100000) : PF Tryz.prog 62 [.i (falls : Int), .i sec] (fun zz => zz = .ret (.i (off falls sec))) := by
  obtain ⟨h1, h2, h3⟩ := h
  have hb := offN_b
  have hst : ∀ i, offN (i + 1) = offN i + min 3 ((i : Int) / 2 + 1) := fun i => rfl
  have h0 : offN 0 = 0 := rfl
  have hs0 : 0 ≤ (sec + 4) / 5 := Int.ediv_nonneg (by omega) (by omega)
  have hs1 : (sec + 4) / 5 ≤ sec + 4 := Int.ediv_le_self _ (by omega)
  unfold off
  generalize offN = B at hb hst h0 ⊢
  refine PF_nil (PF_start (O := O62) Ct62_ok hmix ho62 Tryz.func62 c62 rfl Tryz.ntmps62 Tryz.results62 ?_)
  simp (maxSteps := 4000000) +contextual (disch := first | omega | exact qdb_ok (by kernel_rfl) | exact okb_ok (by kernel_rfl)) only [bw1,bw2,bw5,bw6,bc4,bc5,Nat.reduceAdd,Nat.reduceSub,List.reduceReplicate]
  refine loop_s (O := O62) (tb := 0) Ct62_ok hmix (by kernel_rfl) (σ := Nat) (fun i => [(5, .i (100 * B i)), (6, .i ((i : Int) + 1))]) (fun i => i ≤ falls) (fun i => falls - i) (fun i => i + 1) 0 (by omega) ?_ ?_
  · simp (maxSteps := 4000000) +contextual (disch := first | omega | exact qdb_ok (by kernel_rfl) | exact okb_ok (by kernel_rfl)) only [bw4,bw6,bc0,bc5,bc6,AV.isNilS,AV.isNoRows,wk,reduceCtorEq,h0]
    exact ⟨avi (by omega), avi (by omega)⟩
  intro i hi
  have hbi := hb i
  by_cases hlt : i < falls
  · have hlt' : (i : Int) + 1 ≤ falls := by omega
    have hsi := hst i
    have h5 : ((i : Int) + 1 + 1) / 2 = (i : Int) / 2 + 1 := by omega
    have h6 : 0 ≤ (i : Int) / 2 := Int.ediv_nonneg (by omega) (by omega)
    have h7 : (i : Int) / 2 ≤ i := Int.ediv_le_self _ (by omega)
    simp (maxSteps := 4000000) +contextual (disch := first | omega | exact qdb_ok (by kernel_rfl) | exact okb_ok (by kernel_rfl)) only [bw1,bw2,bw4,bw5,bw6,bw7,bc0,bc1,bc3,bc4,bc5,bc6,AV.isNilS,AV.isNoRows,wk,binIs,↓reduceIte,reduceCtorEq,Int.reduceEq,tfb,eq_self, hlt', hsi, h5]
    exact ⟨⟨by omega, by omega⟩, avi (by omega)⟩
  have hlt' : ¬ (i : Int) + 1 ≤ falls := by omega
  obtain rfl : i = falls := by omega
  have hcl : ∀ j : Nat, ((5 * j : Nat) : Int) < sec + 5 → True := fun _ _ => trivial
  simp (maxSteps := 4000000) +contextual (disch := first | omega | exact qdb_ok (by kernel_rfl) | exact okb_ok (by kernel_rfl)) only [bw1,bw2,bw5,bw6,bw7,bc0,bc1,bc4,bc5,bc6,binIs,↓reduceIte,tfb,eq_self, hlt']
  refine loop_s (O := O62) (tb := 0) Ct62_ok hmix (by kernel_rfl) (σ := Nat) (fun j => [(5, .i (100 * B i + 100 * j)), (7, .i (5 * (j : Int)))]) (fun j => 5 * (j : Int) < sec + 5) (fun j => (sec + 5 - 5 * j).toNat) (fun j => j + 1) 0 (by omega) ?_ ?_
  · simp (maxSteps := 4000000) +contextual (disch := first | omega | exact qdb_ok (by kernel_rfl) | exact okb_ok (by kernel_rfl)) only [bw4,bw6,bc0,bc5,bc6,AV.isNilS,AV.isNoRows,wk,reduceCtorEq]
    exact ⟨avi (by omega), avi (by omega)⟩
  intro j hj
  by_cases hjt : 5 * (j : Int) < sec
  · simp (maxSteps := 4000000) +contextual (disch := first | omega | exact qdb_ok (by kernel_rfl) | exact okb_ok (by kernel_rfl)) only [bw1,bw2,bw4,bw5,bw6,bw7,bc0,bc1,bc3,bc4,bc5,bc6,AV.isNilS,AV.isNoRows,wk,binIs,↓reduceIte,reduceCtorEq,tfb,eq_self, hjt]
    exact ⟨⟨by omega, by omega⟩, avi (by omega), avi (by omega)⟩
  have hje : (j : Int) = (sec + 4) / 5 := by omega
  simp (maxSteps := 4000000) +contextual (disch := first | omega | exact qdb_ok (by kernel_rfl) | exact okb_ok (by kernel_rfl)) only [bw1,bw2,bw3,bw5,bw6,bw7,bc0,bc1,bc2,bc3,bc4,bc5,bc6,bc7,binIs,AV.outs,AV.outF,packD,↓reduceIte,tfb,eq_self, hjt]
  omega
def ent62 (args : List AV) (K : AV → List AV → Sto → Prop) (e : List AV) (s : Sto) : Prop := ent (α := (Nat) × (Int)) (fun aa => [.i (aa.1 : Int), .i aa.2]) (fun aa => aa.1 ≤ 1000 ∧ 0 ≤ aa.2 ∧ aa.2 ≤ 100000) (fun aa => .i (off aa.1 aa.2)) args K e s
theorem ent62_ok {args : List AV} {K : AV → List AV → Sto → Prop} {Q : Kt} {e : List AV} {s : Sto} (h : ent62 args K e s) : pcall Tryz.prog 62 args K Q e s := ent_ok (fun aa h => pf62 aa.1 aa.2 h) h
theorem eq62 {falls : Nat} {sec : Int} {KK : AV → List AV → Sto → Prop} {ee : List AV} {ss : Sto} : ent62 [.d (.i (falls : Int)), .d (.i sec)] KK ee ss = ((falls ≤ 1000 ∧ 0 ≤ sec ∧ sec ≤ 100000) ∧ KK (.d (.i (off falls sec))) ee ss) := by
  unfold ent62; rw [ent_iff (falls, sec) (by intro b h; simpa [Prod.ext_iff, and_assoc, Int.ofNat_inj, ints_inj, cals_inj, pcs_inj, skas_inj, scos_inj, ska_inj, rul_inj, sco_inj, cal_inj] using h) rfl]; simp
end Go.Proofs.YtapglfcaghlpfaaGreat
