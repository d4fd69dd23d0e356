/- A part of the proof that the last text ends: what functions of the program do, told by plain data. -/
import Derived.Test.YtkanibdihhlmgaaAH
import Derived.Test.YtkanibdihhlmgaaEb
set_option linter.unusedVariables false
set_option linter.unusedSimpArgs false
namespace Go.Proofs.Ytkanibdihhlmgaa
open Go Go.E
set_option maxRecDepth 100000
set_option maxHeartbeats 1600000
/-! ### Bits of those that say yes -/
def bitsOf : List Bool → Nat
  | [] => 0
  | b :: l => (if b = true then 1 else 0) + 2 * bitsOf l
theorem bits_lt : ∀ l : List Bool, bitsOf l < 2 ^ l.length
  | [] => by simp [bitsOf]
  | b :: l => by
    have := bits_lt l
    rw [bitsOf, List.length_cons, Nat.pow_succ]
    split <;> omega
theorem bits_at : ∀ (l : List Bool) (i : Nat), (bitsOf l).testBit i = l.getD i false
  | [], i => by simp [bitsOf]
  | b :: l, 0 => by
    rw [bitsOf, Nat.testBit_zero]
    cases b <;> simp <;> omega
  | b :: l, i + 1 => by
    rw [bitsOf, Nat.testBit_succ]
    have h1 : ((if b = true then 1 else 0) + 2 * bitsOf l) / 2 = bitsOf l := by split <;> omega
    rw [h1, bits_at l i]
    simp
theorem set_at {l : List Bool} {s : Nat} (hs : s < l.length) (b : Bool) (i : Nat) : (l.set s b).getD i false = if i = s then b else l.getD i false := by
  simp only [List.getD, List.getElem?_set]
  by_cases h : s = i
  · subst h; simp [hs]
  · have h2 : ¬ i = s := fun h3 => h h3.symm
    simp [h, h2]
theorem lt_of_le12 {S : List Bool} (h : S.length ≤ 12) : bitsOf S < 4096 := by
  have h1 := bits_lt S
  have h2 : 2 ^ S.length ≤ 2 ^ 12 := Nat.pow_le_pow_right (by omega) h
  have h3 : (2 : Nat) ^ 12 = 4096 := rfl
  omega
theorem wrap_i64n {n : Nat} (h : n < 9223372036854775808) : IntKind.i64.wrap (n : Int) = n := by
  simp [IntKind.wrap, IntKind.signed, IntKind.bits]; omega
theorem shl1 {s : Int} (h0 : 0 ≤ s) (h1 : s.toNat < 12) : shlZ .i64 1 s = ((2 ^ s.toNat : Nat) : Int) := by
  unfold shlZ
  rw [show min s.toNat IntKind.i64.bits = s.toNat by simp [IntKind.bits]; omega]
  rw [show (1 : Int) * 2 ^ s.toNat = ((2 ^ s.toNat : Nat) : Int) by simp]
  have : 2 ^ s.toNat ≤ 2 ^ 11 := Nat.pow_le_pow_right (by omega) (by omega)
  exact wrap_i64n (by omega)
theorem bits_no {S : List Bool} {s : Int} (h0 : 0 ≤ s) (h1 : s.toNat < S.length) (h2 : S.length ≤ 12) : andNotZ .i64 (bitsOf S : Int) (shlZ .i64 1 s) = bitsOf (S.set s.toNat false) := by
  rw [shl1 h0 (by omega)]
  have hb := lt_of_le12 h2
  have hp : 2 ^ s.toNat ≤ 2 ^ 11 := Nat.pow_le_pow_right (by omega) (by omega)
  unfold andNotZ
  have e : (BitVec.ofInt IntKind.i64.bits (bitsOf S : Int) &&& ~~~ BitVec.ofInt IntKind.i64.bits ((2 ^ s.toNat : Nat) : Int)).toNat = bitsOf (S.set s.toNat false) := by
    show (BitVec.ofInt 64 (bitsOf S : Int) &&& ~~~ BitVec.ofInt 64 ((2 ^ s.toNat : Nat) : Int)).toNat = _
    apply Nat.eq_of_testBit_eq
    intro i
    rw [BitVec.ofInt_natCast, BitVec.ofInt_natCast, ← BitVec.getLsbD, BitVec.getLsbD_and, BitVec.getLsbD_not, BitVec.getLsbD_ofNat, BitVec.getLsbD_ofNat, bits_at, bits_at, set_at h1, Nat.testBit_two_pow]
    by_cases h3 : i = s.toNat
    · subst h3; simp
    · have h4 : ¬ s.toNat = i := fun h => h3 h.symm
      by_cases h5 : i < 64
      · simp [h3, h4, h5]
      · have h6 : S.getD i false = false := by simp [List.getD, List.getElem?_eq_none (show S.length ≤ i by omega)]
        simp [h3, h4, h5, h6]
        rw [show (S[i]?) = none from List.getElem?_eq_none (by omega)]; rfl
  rw [e, wrap_i64n]
  have := lt_of_le12 (S := S.set s.toNat false) (by rw [List.length_set]; omega)
  omega
theorem bits_yes {S : List Bool} {s : Int} (h0 : 0 ≤ s) (h1 : s.toNat < S.length) (h2 : S.length ≤ 12) : orZ .i64 (bitsOf S : Int) (shlZ .i64 1 s) = bitsOf (S.set s.toNat true) := by
  rw [shl1 h0 (by omega)]
  have hb := lt_of_le12 h2
  have hp : 2 ^ s.toNat ≤ 2 ^ 11 := Nat.pow_le_pow_right (by omega) (by omega)
  unfold orZ
  have e : (BitVec.ofInt IntKind.i64.bits (bitsOf S : Int) ||| BitVec.ofInt IntKind.i64.bits ((2 ^ s.toNat : Nat) : Int)).toNat = bitsOf (S.set s.toNat true) := by
    show (BitVec.ofInt 64 (bitsOf S : Int) ||| BitVec.ofInt 64 ((2 ^ s.toNat : Nat) : Int)).toNat = _
    apply Nat.eq_of_testBit_eq
    intro i
    rw [BitVec.ofInt_natCast, BitVec.ofInt_natCast, ← BitVec.getLsbD, BitVec.getLsbD_or, BitVec.getLsbD_ofNat, BitVec.getLsbD_ofNat, bits_at, bits_at, set_at h1, Nat.testBit_two_pow]
    by_cases h3 : i = s.toNat
    · subst h3; simp; omega
    · have h4 : ¬ s.toNat = i := fun h => h3 h.symm
      by_cases h5 : i < 64
      · simp [h3, h4, h5]
      · have h6 : S.getD i false = false := by simp [List.getD, List.getElem?_eq_none (show S.length ≤ i by omega)]
        simp [h3, h4, h5, h6]
        rw [show (S[i]?) = none from List.getElem?_eq_none (by omega)]; rfl
  rw [e, wrap_i64n]
  have := lt_of_le12 (S := S.set s.toNat true) (by rw [List.length_set]; omega)
  omega
def bsum (Y : Nat) : Nat → Int
  | 0 => 0
  | n + 1 => bsum Y n + (if Y.testBit n = true then 1 else 0)
theorem bit_i64 {Y p : Nat} (hY : Y < 4096) (hp : p < 12) : andZ .i64 (shrZ .i64 (Y : Int) (p : Int)) 1 = if Y.testBit p = true then 1 else 0 := by
  have h1 : shrZ .i64 (Y : Int) (p : Int) = ((Y / 2 ^ p : Nat) : Int) := by
    unfold shrZ
    rw [show min (p : Int).toNat IntKind.i64.bits = p by simp [IntKind.bits]; omega, Int.fdiv_eq_ediv_of_nonneg _ (Int.pow_nonneg (by omega))]
    rw [Int.natCast_ediv, Int.natCast_pow]; rfl
  rw [h1]
  have hd : Y / 2 ^ p ≤ Y := Nat.div_le_self _ _
  unfold andZ
  have h2 : (BitVec.ofInt IntKind.i64.bits ((Y / 2 ^ p : Nat) : Int) &&& BitVec.ofInt IntKind.i64.bits 1).toNat = Y / 2 ^ p % 2 := by
    show (BitVec.ofInt 64 ((Y / 2 ^ p : Nat) : Int) &&& BitVec.ofInt 64 ((1 : Nat) : Int)).toNat = _
    rw [BitVec.toNat_and, BitVec.ofInt_natCast, BitVec.ofInt_natCast, BitVec.toNat_ofNat, BitVec.toNat_ofNat, Nat.mod_eq_of_lt (by omega), Nat.mod_eq_of_lt (by omega), Nat.and_one_is_mod]
  rw [h2, wrap_i64n (by omega), Nat.testBit_eq_decide_div_mod_eq]
  by_cases h : Y / 2 ^ p % 2 = 1
  · simp [h]
  · have h3 : Y / 2 ^ p % 2 = 0 := by omega
    simp [h3]
def yess (S : List Bool) : Int := (S.countP id : Int)
theorem bsum_b {Y : Nat} : ∀ n, 0 ≤ bsum Y n ∧ bsum Y n ≤ n
  | 0 => by simp [bsum]
  | n + 1 => by have := bsum_b (Y := Y) n; unfold bsum; split <;> omega
theorem bsum_take {S : List Bool} : ∀ n, bsum (bitsOf S) n = ((S.take n).countP id : Int)
  | 0 => by simp [bsum]
  | n + 1 => by
    rw [bsum, bsum_take n, bits_at]
    by_cases h : n < S.length
    · rw [List.take_add_one, List.countP_append, List.getElem?_eq_getElem h]
      have : S.getD n false = S[n] := by simp [List.getD, List.getElem?_eq_getElem h]
      rw [this]
      cases S[n] <;> simp
    · rw [List.take_of_length_le (i := n) (by omega), List.take_of_length_le (i := n + 1) (by omega)]
      have : S.getD n false = false := by simp [List.getD, List.getElem?_eq_none (show S.length ≤ n by omega)]
      rw [this]; simp
theorem bsum_yess {S : List Bool} (h : S.length ≤ 12) : bsum (bitsOf S) 12 = yess S := by
  rw [bsum_take, List.take_of_length_le h]; rfl
theorem yess_b {S : List Bool} : 0 ≤ yess S ∧ yess S ≤ S.length := by
  have := List.countP_le_length (p := id) (l := S)
  unfold yess; omega
/-! ### Readings -/
structure Snf where
  minute : Int
  sensor : Int
  value : Int
  deriving Inhabited, DecidableEq
abbrev Snf.c (s : Snf) : List D := [.i s.minute, .i s.sensor, .i s.value]
theorem Snf.inj {a b : Snf} (h : a.c = b.c) : a = b := by cases a; cases b; simp at h; simp [h]
theorem snf_inj {a b : Snf} : (a.minute = b.minute ∧ a.sensor = b.sensor ∧ a.value = b.value) = (a = b) := by cases a; cases b; simp
theorem snfs_inj {a b : List Snf} : (a.map Snf.c = b.map Snf.c) = (a = b) := inj_map fun _ _ h => Snf.inj h
abbrev bc (b : Bool) : List D := [.b b]
theorem bools_inj {a b : List Bool} : (a.map bc = b.map bc) = (a = b) := inj_map fun _ _ h => by simpa using h
def lastOf (sn : List Snf) (i : Nat) : Prop := i + 1 = sn.length ∨ (sn.getD (i + 1) default).minute ≠ (sn.getD i default).minute
instance {sn : List Snf} {i : Nat} : Decidable (lastOf sn i) := by unfold lastOf; infer_instance
def stepS (th : Int) (x : Snf) (S : List Bool) : List Bool := S.set x.sensor.toNat (decide (th ≤ x.value))
theorem stepS_len {th : Int} {x : Snf} {S : List Bool} : (stepS th x S).length = S.length := List.length_set
def almN (vo th : Int) (sn : List Snf) : Nat → Nat → List Bool → Int × Int
  | 0, _, _ => (0, 4)
  | k + 1, i, S => if lastOf sn i ∧ vo ≤ yess (stepS th (sn.getD i default) S) then ((sn.getD i default).minute, 0) else almN vo th sn k (i + 1) (stepS th (sn.getD i default) S)
def fitS (n : Nat) (x : Snf) : Bool := inB x.minute 0 1048576 && inB x.sensor 0 ((n : Int) - 1)
def chkN (n : Nat) (sn : List Snf) : Nat → Nat → Int
  | 0, _ => 0
  | k + 1, i => if fitS n (sn.getD i default) = true then (if i = 0 ∨ (sn.getD (i - 1) default).minute ≤ (sn.getD i default).minute then chkN n sn k (i + 1) else 7) else 1
def chk (n : Nat) (sn : List Snf) : Int := chkN n sn sn.length 0
def noS (n : Nat) : List Bool := List.replicate n false
theorem noS_len {n : Nat} : (noS n).length = n := List.length_replicate
theorem noS_bits : ∀ {n : Nat}, bitsOf (noS n) = 0
  | 0 => rfl
  | n + 1 => by
    have := noS_bits (n := n)
    unfold noS at *
    rw [List.replicate_succ, bitsOf, this]; rfl
def alarmG (l : List Sen) (vo fa th : Int) (sn : List Snf) : Int × Int :=
  if votOk l vo fa = true then (if gas th = true then (if (sn.length : Int) ≤ 1024 then (if chk l.length sn = 0 then almN vo th sn sn.length 0 (noS l.length) else (0, chk l.length sn)) else (0, 3)) else (0, 2)) else (0, 1)
structure SnfOk (n : Nat) (sn : List Snf) : Prop where
  minute : ∀ i, i < sn.length → 0 ≤ (sn.getD i default).minute ∧ (sn.getD i default).minute ≤ 1048576
  sensor : ∀ i, i < sn.length → 0 ≤ (sn.getD i default).sensor ∧ (sn.getD i default).sensor < n
  order : ∀ i, 0 < i → i < sn.length → (sn.getD (i - 1) default).minute ≤ (sn.getD i default).minute
theorem chkN_ok {n : Nat} {sn : List Snf} : ∀ k i, chkN n sn k i = 0 → (∀ j, i ≤ j → j < i + k → fitS n (sn.getD j default) = true ∧ (j = 0 ∨ (sn.getD (j - 1) default).minute ≤ (sn.getD j default).minute))
  | 0, i, _, j, h1, h2 => by omega
  | k + 1, i, h, j, h1, h2 => by
    unfold chkN at h
    split at h
    · rename_i c1
      split at h
      · rename_i c2
        rcases Nat.lt_or_ge i j with h3 | h3
        · exact chkN_ok k (i + 1) h j (by omega) (by omega)
        · obtain rfl : i = j := by omega
          exact ⟨c1, c2⟩
      · omega
    · omega
theorem chkN_val {n : Nat} {sn : List Snf} : ∀ k i, chkN n sn k i = 0 ∨ chkN n sn k i = 1 ∨ chkN n sn k i = 7
  | 0, i => Or.inl rfl
  | k + 1, i => by
    unfold chkN
    split
    · split
      · exact chkN_val k (i + 1)
      · exact Or.inr (Or.inr rfl)
    · exact Or.inr (Or.inl rfl)
theorem chkN_of {n : Nat} {sn : List Snf} : ∀ k i, (∀ j, i ≤ j → j < i + k → fitS n (sn.getD j default) = true ∧ (j = 0 ∨ (sn.getD (j - 1) default).minute ≤ (sn.getD j default).minute)) → chkN n sn k i = 0
  | 0, i, _ => rfl
  | k + 1, i, h => by
    have h1 := h i (by omega) (by omega)
    unfold chkN
    rw [if_pos h1.1, if_pos h1.2]
    exact chkN_of k (i + 1) fun j a b => h j (by omega) (by omega)
theorem chk_iff {n : Nat} {sn : List Snf} : chk n sn = 0 ↔ SnfOk n sn := by
  constructor
  · intro h
    have h1 := chkN_ok _ _ h
    refine ⟨fun i hi => ?_, fun i hi => ?_, fun i h0 hi => ?_⟩
    · have := (h1 i (by omega) (by omega)).1
      unfold fitS at this
      rw [Bool.and_eq_true, inB_iff, inB_iff] at this
      omega
    · have := (h1 i (by omega) (by omega)).1
      unfold fitS at this
      rw [Bool.and_eq_true, inB_iff, inB_iff] at this
      omega
    · have := (h1 i (by omega) (by omega)).2
      omega
  · intro h
    refine chkN_of _ _ fun j _ h2 => ⟨?_, ?_⟩
    · have a := h.minute j (by omega)
      have b := h.sensor j (by omega)
      unfold fitS
      rw [Bool.and_eq_true, inB_iff, inB_iff]
      omega
    · by_cases h0 : j = 0
      · exact Or.inl h0
      · exact Or.inr (h.order j (by omega) (by omega))
end Go.Proofs.Ytkanibdihhlmgaa
