/- A part of the proof that the last text ends: what functions of the program do, told by plain data. -/
import Derived.Test.YtmajlffglplcnaaDoorMT
import Derived.Test.YtmajlffglplcnaaDoorEc
set_option linter.unusedVariables false
set_option linter.unusedSimpArgs false
namespace Go.Proofs.YtmajlffglplcnaaDoor
open Go Go.E Go.Maps
set_option maxRecDepth 100000
set_option maxHeartbeats 16000000
theorem laid : laidOutB Tryd.prog = true := by kernel_rfl
theorem key79 : Keyed Tryd.prog 79 := Keyed.of_law (deep_law_laid laid (m := 2) (by omega) (of_decide_eq_true (by kernel_rfl)) (by kernel_rfl) (by kernel_rfl))
theorem key79' : Keyed Tryd.prog 79 = True := propext ⟨fun _ => trivial, fun _ => key79⟩
def fkT (T : List Int) : D := .agg (tv T)
def fkvT (T : List Int) : Value := .agg (T.map (Value.int .i64)).toArray
def fvT (b : Bool) : D := .b b
theorem tv_vals : ∀ T : List Int, D.vals? (tv T) = some (T.map (Value.int .i64))
  | [] => rfl
  | x :: T => by
    show D.vals? (D.i x :: tv T) = _
    simp only [D.vals?, D.val?, tv_vals T]
    rfl
theorem fkT_val (T : List Int) : (fkT T).val? = some (fkvT T) := by simp [fkT, fkvT, D.val?, tv_vals]
theorem fkvT_inj (a b : List Int) (h : fkvT a = fkvT b) : a = b := by
  simp only [fkvT, Value.agg.injEq] at h
  have h := congrArg Array.toList h
  simp only [List.toList_toArray] at h
  exact (List.map_inj_right (fun x y h => by simpa using h)).1 h
theorem keyOf79 {T : List Int} (h : T.length = 6) (hb : ∀ x ∈ T, -9223372036854775808 ≤ x ∧ x ≤ 9223372036854775807) : (keyOf Tryd.prog 79 (fkvT T)).isSome = true := by
  have u : Tryd.prog.underlying 79 = some (.array 6 3) := by kernel_rfl
  have c1 : Tryd.prog.cellsOf 3 = 1 := by kernel_rfl
  have c2 : Tryd.prog.cellsOf 79 = 6 := by kernel_rfl
  have u0 : Tryd.prog.underlying 3 = some (.int .i64) := by kernel_rfl
  have kt : Tryd.prog.keyType 79 = true := by kernel_rfl
  obtain ⟨s, hs⟩ : ∃ s, Tryd.prog.types.size = s + 1 := ⟨Tryd.prog.types.size - 1, by kernel_rfl⟩
  have k0 : ∀ x ∈ T, Tryd.prog.keyLits (s + 1) 3 [.int .i64 x] = some [.int .i64 x] := fun x hx => by
    have w0 : (Lit.int .i64 x).wf = true := by
      have := hb x hx
      simp [Lit.wf, IntKind.min, IntKind.max, IntKind.signed, IntKind.bits]; omega
    simp [Program.keyLits, u0, w0]
  match T, h with
  | [a, b, c, d, e, f], _ =>
    have fm : Value.formed Tryd.prog 79 (fkvT [a, b, c, d, e, f]) = true := by simp [Value.formed, u, c2, fkvT]
    unfold keyOf
    simp only [u]
    rw [hs, kt, fm]
    unfold Program.keyLits
    simp only [u, c2, c1, fkvT, Value.cells, List.toList_toArray]
    simp [List.range, List.range.loop, k0 a (by simp), k0 b (by simp), k0 c (by simp), k0 d (by simp), k0 e (by simp), k0 f (by simp)]
theorem i64_all {T : List Int} (h : ∀ i, i < 6 → 0 ≤ T.getD i default ∧ T.getD i default ≤ 192 + 3 * 64) (hl : T.length = 6) : ∀ x ∈ T, -9223372036854775808 ≤ x ∧ x ≤ 9223372036854775807 := fun x hx => by
  obtain ⟨i, hi, rfl⟩ := List.getElem_of_mem hx
  have := h i (by omega)
  rw [at_lt hi] at this
  omega
theorem setR_ta {T : List Int} {i : Nat} (h : i < T.length) {v : Int} : setR (ta T) i [.d (.v (.int .i64 v))] = ta (T.set i v) := by
  show (ta T).set i (.i v) = _
  simp [List.map_set]
theorem dl_ta {T : List Int} (h : T.length = 6) : AV.dl (List.take 6 (ta T)) = some (tv T) := by
  have e1 : ∀ l : List D, AV.dl (l.map .d) = some l := fun l => by
    induction l with
    | nil => rfl
    | cons x l ih => simp [AV.dl, ih]
  have e2 : List.take 6 (ta T) = (tv T).map .d := by
    rw [List.take_of_length_le (by simp [h])]
  rw [e2, e1]
theorem nd_le : ∀ (n : Nat) (x : List Nat), x.Nodup → (∀ i ∈ x, i < n) → x.length ≤ n
  | 0, x, _, h => by
    rcases x with _ | ⟨a, x⟩
    · simp
    · exact absurd (h a (by simp)) (by omega)
  | n + 1, x, hd, h => by
    have h1 : (x.erase n).Nodup := hd.erase n
    have h2 := nd_le n (x.erase n) h1 fun i hi => by
      have := (hd.mem_erase_iff).1 hi
      have := h i this.2
      omega
    have h3 := List.length_erase (a := n) (l := x)
    split at h3 <;> omega
theorem seen_lt {n i : Nat} {x : List Nat} (hd : x.Nodup) (h : ∀ i ∈ x, i < n) (hi : i < n) (hs : i ∉ x) : x.length < n ∧ (x ++ [i]).Nodup ∧ ∀ k ∈ x ++ [i], k < n := by
  have h1 : (i :: x).Nodup := List.nodup_cons.2 ⟨hs, hd⟩
  have h2 : ∀ k ∈ i :: x, k < n := fun k hk => by
    rcases List.mem_cons.1 hk with rfl | hk
    · exact hi
    · exact h k hk
  have h3 := nd_le _ _ h1 h2
  refine ⟨by rw [List.length_cons] at h3; omega, ?_, fun k hk => h2 k (by simpa [or_comm] using hk)⟩
  exact (List.perm_append_comm (l₁ := [i]) (l₂ := x)).nodup_iff.1 h1
def MR (R : List Int → Prop) (M : List (List Int × Bool)) : Prop := (M.map Prod.fst).Nodup ∧ ∀ T, (∃ v, (T, v) ∈ M) ↔ R T
theorem MR.put {R : List Int → Prop} {M M' : List (List Int × Bool)} {U : List Int} {v : Bool} (h : MR R M) (hn : (M'.map Prod.fst).Nodup) (hm : ∀ e w, (e, w) ∈ M' ↔ (e = U ∧ w = v) ∨ (e ≠ U ∧ (e, w) ∈ M)) : MR (fun T => R T ∨ T = U) M' := by
  refine ⟨hn, fun T => ?_⟩
  constructor
  · rintro ⟨w, hw⟩
    rcases (hm T w).1 hw with ⟨h1, _⟩ | ⟨_, h2⟩
    · exact .inr h1
    · exact .inl ((h.2 T).1 ⟨w, h2⟩)
  · rintro (h1 | h1)
    · by_cases c : T = U
      · exact ⟨v, (hm T v).2 (.inl ⟨c, rfl⟩)⟩
      · obtain ⟨w, hw⟩ := (h.2 T).2 h1
        exact ⟨w, (hm T w).2 (.inr ⟨c, hw⟩)⟩
    · exact ⟨v, (hm T v).2 (.inl ⟨h1, rfl⟩)⟩
theorem MR.congr {R R' : List Int → Prop} {M : List (List Int × Bool)} (h : MR R M) (hr : ∀ T, R T ↔ R' T) : MR R' M := ⟨h.1, fun T => (h.2 T).trans (hr T)⟩
theorem MR.at {R : List Int → Prop} {M : List (List Int × Bool)} (h : MR R M) {i : Nat} (hi : i < M.length) : R (M.getD i default).1 := by
  rw [at_lt hi]
  exact (h.2 _).1 ⟨M[i].2, List.getElem_mem _⟩
theorem MR.ok {R : List Int → Prop} {M : List (List Int × Bool)} (h : MR R M) (hR : ∀ T, R T → T.length = 6 ∧ ∀ i, i < 6 → 0 ≤ T.getD i default ∧ T.getD i default ≤ 192 + 3 * 64) : mapOk Tryd.prog 79 (ents fkT fvT M) := ents_ok' (fkv := fkvT) fkT_val fun p hp => by
  obtain ⟨h1, h2⟩ := hR p.1 ((h.2 p.1).1 ⟨p.2, hp⟩)
  exact keyOf79 h1 (i64_all h2 h1)
def RN (M : List (List Int × Bool)) (g : Gam) (seen : List Nat) (i r : Nat) : List Int → Prop := fun U => (∃ j q, j ∈ seen ∧ q < 4 ∧ U = addT (M.getD j default).1 g q) ∨ ∃ q, q < r ∧ U = addT (M.getD i default).1 g q
theorem RN_succ {M : List (List Int × Bool)} {g : Gam} {seen : List Nat} {i r : Nat} {U : List Int} : RN M g seen i (r + 1) U ↔ RN M g seen i r U ∨ U = addT (M.getD i default).1 g r := by
  unfold RN
  constructor
  · rintro (h | ⟨q, h1, h2⟩)
    · exact .inl (.inl h)
    · rcases Nat.lt_succ_iff_lt_or_eq.1 h1 with h3 | rfl
      · exact .inl (.inr ⟨q, h3, h2⟩)
      · exact .inr h2
  · rintro ((h | ⟨q, h1, h2⟩) | h)
    · exact .inl h
    · exact .inr ⟨q, by omega, h2⟩
    · exact .inr ⟨r, by omega, h⟩
theorem RN_next {M : List (List Int × Bool)} {g : Gam} {seen : List Nat} {i i' : Nat} {U : List Int} : RN M g seen i 4 U ↔ RN M g (seen ++ [i]) i' 0 U := by
  unfold RN
  constructor
  · rintro (⟨j, q, h1, h2⟩ | ⟨q, h1, h2⟩)
    · exact .inl ⟨j, q, by simp [h1], h2⟩
    · exact .inl ⟨i, q, by simp, h1, h2⟩
  · rintro (⟨j, q, h1, h2⟩ | ⟨q, h1, h2⟩)
    · rcases List.mem_append.1 h1 with h | h
      · exact .inl ⟨j, q, h, h2⟩
      · simp at h; subst h; exact .inr ⟨q, h2⟩
    · omega
theorem RN_step {l : Lea} {k : Nat} (hc : (l.games.getD k default).fin = 0) {M : List (List Int × Bool)} (h : MR (reach l k) M) {seen : List Nat} {i : Nat} (hs : ∀ i ∈ seen, i < M.length) (ha : ∀ i, i < M.length → i ∈ seen) {U : List Int} : RN M (l.games.getD k default) seen i 0 U ↔ reach l (k + 1) U := by
  rw [reach_open hc]
  unfold RN
  constructor
  · rintro (⟨j, q, h1, h2, h3⟩ | ⟨q, h1, _⟩)
    · exact ⟨_, q, h.at (hs j h1), h2, h3⟩
    · omega
  · rintro ⟨T, r, h1, h2, rfl⟩
    obtain ⟨v, hv⟩ := (h.2 T).2 h1
    obtain ⟨j, hj, e⟩ := List.getElem_of_mem hv
    exact .inl ⟨j, r, ha j hj, h2, by rw [at_lt hj, e]⟩
theorem kill_ents {α β : Type} {fk : α → D} {fv : β → D} {M : List (α × β)} {g : Nat} : (ents fk fv M).map (AV.kill g) = ents fk fv M := by simp [ents, List.map_map, Function.comp_def, AV.kill, AV.men]
theorem mencs_ents {α β : Type} {fk : α → D} {fv : β → D} {M : List (α × β)} {g : Nat} : AV.mencs g (ents fk fv M) = false := by
  unfold ents
  induction M with
  | nil => rfl
  | cons x M ih => simpa [AV.mencs, AV.menc] using ih
theorem mens_ents {α β : Type} {fk : α → D} {fv : β → D} {M : List (α × β)} {g : Nat} : AV.mens g (ents fk fv M) = false := by
  unfold ents
  induction M with
  | nil => rfl
  | cons x M ih => simpa [AV.mens, AV.men] using ih
end Go.Proofs.YtmajlffglplcnaaDoor
