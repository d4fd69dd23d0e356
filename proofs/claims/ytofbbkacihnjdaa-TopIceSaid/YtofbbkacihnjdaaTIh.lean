/- A part of the proof that the last text ends: what functions of the program do, told by plain data. -/
import Derived.Test.YtofbbkacihnjdaaTIg
set_option linter.unusedVariables false
set_option linter.unusedSimpArgs false
namespace Go.Proofs.Ytofbbkacihnjdaa
open Go Go.E Go.Maps
theorem ps_mono {worn planed : Pn} {w v : Int} {t : Pn} (h : w ≤ v) : ∀ k, (psN worn planed w t k).lo ≤ (psN worn planed v t k).lo ∧ (psN worn planed w t k).hi ≤ (psN worn planed v t k).hi
  | 0 => ⟨Int.le_refl _, Int.le_refl _⟩
  | k + 1 => by
    have ih := ps_mono (worn := worn) (planed := planed) (t := t) h k
    unfold psN stepW Pn.more Pn.less
    dsimp only
    omega
theorem zo_iff {kd : Bool} {lim : Int} {worn planed : Pn} {w : Int} {p : Nat} {z : Zo} : zoB kd lim worn planed w p z = true ↔ ∀ k, k < p → isB kd lim (psN worn planed w z.ice (k + 1)) = kd := by
  unfold zoB
  rw [List.all_eq_true]
  exact ⟨fun h k hk => eq_of_beq (h k (List.mem_range.2 hk)), fun h k hk => by rw [h k (List.mem_range.1 hk)]; simp⟩
theorem wt_true {r : List Zo} {p : Nat} {worn planed : Pn} {lim w : Int} : wtB r p worn planed true lim w = true ↔ ∀ z ∈ r, ∀ k, k < p → lim ≤ (psN worn planed w z.ice (k + 1)).lo := by
  have e : wtB r p worn planed true lim w = r.all (zoB true lim worn planed w p) := by
    unfold wtB; cases r.all (zoB true lim worn planed w p) <;> rfl
  rw [e, List.all_eq_true]
  refine forall_congr' fun z => forall_congr' fun _ => ?_
  rw [zo_iff]
  refine forall_congr' fun k => forall_congr' fun _ => ?_
  unfold isB
  simp
theorem wt_false {r : List Zo} {p : Nat} {worn planed : Pn} {lim w : Int} : wtB r p worn planed false lim w = false ↔ ∀ z ∈ r, ∀ k, k < p → (psN worn planed w z.ice (k + 1)).hi ≤ lim := by
  have e : wtB r p worn planed false lim w = !(r.all (zoB false lim worn planed w p)) := by
    unfold wtB; cases r.all (zoB false lim worn planed w p) <;> rfl
  rw [e, Bool.not_eq_false', List.all_eq_true]
  refine forall_congr' fun z => forall_congr' fun _ => ?_
  rw [zo_iff]
  refine forall_congr' fun k => forall_congr' fun _ => ?_
  unfold isB
  simp
theorem wt_mono {r : List Zo} {p : Nat} {worn planed : Pn} {kd : Bool} {lim w v : Int} (h : w ≤ v) (hw : wtB r p worn planed kd lim w = true) : wtB r p worn planed kd lim v = true := by
  cases kd
  · refine Classical.byContradiction fun hv => ?_
    have hv : wtB r p worn planed false lim v = false := by simpa using hv
    have h2 := wt_false.1 hv
    have : wtB r p worn planed false lim w = false := wt_false.2 fun z hz k hk => Int.le_trans (ps_mono h (k + 1)).2 (h2 z hz k hk)
    rw [this] at hw; cases hw
  · have h2 := wt_true.1 hw
    exact wt_true.2 fun z hz k hk => Int.le_trans (h2 z hz k hk) (ps_mono h (k + 1)).1
theorem srch_spec {q : Nat → Bool} (hm : ∀ a b, a ≤ b → q a = true → q b = true) : ∀ k i j, i ≤ j → j - i < 2 ^ k → (∀ a, i ≤ a → a < srch q k i j → q a = false) ∧ (∀ a, srch q k i j ≤ a → a < j → q a = true)
  | 0, i, j, h, hg => by
    have : i = j := by simp at hg; omega
    unfold srch
    exact ⟨fun a h1 h2 => by omega, fun a h1 h2 => by omega⟩
  | k + 1, i, j, h, hg => by
    rw [Nat.pow_succ] at hg
    unfold srch
    by_cases hlt : i < j
    case neg =>
      rw [if_neg hlt]
      exact ⟨fun a h1 h2 => by omega, fun a h1 h2 => by omega⟩
    rw [if_pos hlt]
    by_cases c : q ((i + j) / 2) = true
    · rw [if_pos c]
      obtain ⟨a1, a2⟩ := srch_spec hm k i ((i + j) / 2) (by omega) (by omega)
      refine ⟨a1, fun a h1 h2 => ?_⟩
      rcases Nat.lt_or_ge a ((i + j) / 2) with h3 | h3
      · exact a2 a h1 h3
      · exact hm _ _ h3 c
    · rw [if_neg c]
      obtain ⟨a1, a2⟩ := srch_spec hm k ((i + j) / 2 + 1) j (by omega) (by omega)
      refine ⟨fun a h1 h2 => ?_, a2⟩
      rcases Nat.lt_or_ge a ((i + j) / 2 + 1) with h3 | h3
      · refine Bool.eq_false_iff.2 fun ha => c (hm a _ (by omega) ha)
      · exact a1 a h3 h2
theorem wt_law {r : List Zo} {p : Nat} {worn planed : Pn} {kd : Bool} {lim : Int} : (∀ w : Nat, w < wtN r p worn planed kd lim → wtB r p worn planed kd lim (w : Int) = false) ∧ (∀ w : Nat, wtN r p worn planed kd lim ≤ w → w ≤ 20000 → wtB r p worn planed kd lim (w : Int) = true) := by
  obtain ⟨h1, h2⟩ := srch_spec (q := fun h : Nat => wtB r p worn planed kd lim (h : Int)) (fun a b h => wt_mono (by omega)) 32 0 20001 (by omega) (by omega)
  exact ⟨fun w hw => h1 w (Nat.zero_le _) hw, fun w hw h3 => h2 w hw (by omega)⟩
end Go.Proofs.Ytofbbkacihnjdaa
