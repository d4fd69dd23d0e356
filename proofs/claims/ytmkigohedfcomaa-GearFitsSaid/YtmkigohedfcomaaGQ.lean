/- A part of the proof that the last text ends: what functions of the program do, told by plain data. -/
import Derived.Test.YtmkigohedfcomaaGO
set_option linter.unusedVariables false
set_option linter.unusedSimpArgs false
namespace Go.Proofs.Ytmkigohedfcomaa
open Go Go.E

/-! ### The plain law: the fitting by recursion is the document's -/
theorem misN_app {l : List Pair} {ws b x : List Int} : ∀ j, j ≤ b.length → misN l ws (b ++ x) j = misN l ws b j
  | 0, _ => rfl
  | j + 1, hj => by
    rw [misN, misN, misN_app j (by omega)]
    have : (b ++ x).getD j default = b.getD j default := by
      rw [List.getD, List.getD, List.getElem?_append_left (by omega)]
    unfold gap; rw [this]
theorem apart_gap {A : Fd} {g : List Int} {j p : Nat} (h : g.getD j default = A.cs.getD p default) : gap A.l A.ws g j = A.apart j p := by
  unfold gap Fd.apart Fd.z; rw [h, Int.zero_sub]
theorem mis_snoc {A : Fd} {b : List Int} {p : Nat} : mis A.l A.ws (b ++ [A.cs.getD p default]) = mis A.l A.ws b + A.apart b.length p := by
  unfold mis
  rw [List.length_append, show b.length + [A.cs.getD p default].length = b.length + 1 from rfl, misN, misN_app _ (Nat.le_refl _), apart_gap (p := p)]
  rw [List.getD, List.getElem?_append_right (Nat.le_refl _)]; simp
theorem mis_sum {A : Fd} {qs : List Nat} : ∀ j, j ≤ qs.length → misN A.l A.ws (qs.map fun p => A.cs.getD p default) j = sumN A qs j
  | 0, _ => rfl
  | j + 1, hj => by
    rw [misN, sumN, mis_sum j (by omega), apart_gap (p := qs.getD j default)]
    have hlt : j < qs.length := by omega
    have h2 : qs.getD j default = qs[j] := by rw [List.getD, List.getElem?_eq_getElem hlt]; rfl
    rw [List.getD, List.getElem?_map, List.getElem?_eq_getElem hlt, h2]; rfl
theorem mis_ext {A : Fd} : ∀ (k u : Nat) (b : List Int), (restA A k u).2.2 = true → b.length + k = A.ws.length →
    mis A.l A.ws (b ++ (places A k u).map fun p => A.cs.getD p default) = mis A.l A.ws b + (restA A k u).2.1
  | 0, u, b, _, _ => by simp [places, restA]
  | k + 1, u, b, h, hk => by
    obtain ⟨p, h1, h2, h3, h4, h5⟩ := rest_first h
    have := mis_ext k (u ||| 2 ^ p) (b ++ [A.cs.getD p default]) h4 (by simp; omega)
    rw [places, h2, h5, List.map_cons, show (p : Int).toNat = p from Int.toNat_natCast p]
    rw [List.append_assoc] at this
    rw [show A.cs.getD p default :: (places A k (u ||| 2 ^ p)).map (fun p => A.cs.getD p default) = [A.cs.getD p default] ++ (places A k (u ||| 2 ^ p)).map (fun p => A.cs.getD p default) from rfl, this, mis_snoc, show A.ws.length - (k + 1) = b.length by omega]
    omega
/-- Which pairs are used, as bits and as a list. -/
def Same (A : Fd) (u : Nat) (b : List Int) : Prop := ∀ p, p < A.cs.length → (u.testBit p = true ↔ A.cs.getD p default ∈ b)
theorem same_add {A : Fd} (hn : A.cs.Nodup) {u p : Nat} {b : List Int} (h : Same A u b) (hp : p < A.cs.length) : Same A (u ||| 2 ^ p) (b ++ [A.cs.getD p default]) := fun q hq => by
  rw [Nat.testBit_or, Nat.testBit_two_pow]
  simp only [Bool.or_eq_true, decide_eq_true_eq, List.mem_append, List.mem_singleton]
  rw [h q hq]
  refine or_congr Iff.rfl ⟨fun e => by rw [e], fun e => ?_⟩
  rw [List.getD, List.getD, List.getElem?_eq_getElem hp, List.getElem?_eq_getElem hq] at e
  have hpw := List.pairwise_iff_getElem.1 hn
  rcases Nat.lt_trichotomy p q with h1 | h1 | h1
  · exact absurd e.symm (hpw p q hp hq h1)
  · exact h1
  · exact absurd e (hpw q p hq hp h1)
/-- What a fitting that goes on from b is. -/
def goes (A : Fd) (a : Ans) (tl : List Int) (b best : List Int) (f : Bool) : List Int × Bool :=
  if a.2.2 = true ∧ (f = false ∨ mis A.l A.ws b + a.2.1 < mis A.l A.ws best) then (b ++ tl, true) else (best, f)
def tail (A : Fd) (k u : Nat) (a : Ans) : List Int := A.cs.getD a.1.toNat default :: (places A k (u ||| 2 ^ a.1.toNat)).map fun p => A.cs.getD p default
theorem fit_goes {A : Fd} (hA : A.ok) (hn : A.cs.Nodup) : ∀ (k u : Nat) (b best : List Int) (f : Bool), b.length + k = A.ws.length → Same A u b → (f = true → 0 < A.ws.length) →
    fitR A.l A.cs A.ws k b best f = goes A (restA A k u) ((places A k u).map fun p => A.cs.getD p default) b best f
  | 0, u, b, best, f, hk, hs, hf => by
    unfold fitR goes
    simp only [restA, places, List.map_nil, List.append_nil, true_and, Int.add_zero]
    cases f
    · simp
    · have := hf rfl
      by_cases h : mis A.l A.ws best ≤ mis A.l A.ws b
      · rw [if_pos ⟨rfl, h, this⟩, if_neg (by simp; omega)]
      · rw [if_neg (fun e => h e.2.1), if_pos (.inr (by omega))]
  | k + 1, u, b, best, f, hk, hs, hf => by
    have hw : 0 < A.ws.length := by omega
    have hbd := rest_bd hA (k + 1) u
    unfold fitR
    split
    · rename_i hp
      obtain ⟨rfl, h1, _⟩ := hp
      unfold goes
      rw [if_neg]
      rintro ⟨_, h | h⟩
      · cases h
      · omega
    rename_i hp
    simp only
    have main : ∀ j, j ≤ A.cs.length → (A.cs.take j).foldl (fitStep (fitR A.l A.cs A.ws k) b) (best, f) = goes A (bestN A k (restA A k) u j) (tail A k u (bestN A k (restA A k) u j)) b best f := by
      intro j
      induction j with
      | zero => intro _; simp [goes, bestN]
      | succ j ih =>
        intro hj
        have hjl : j < A.cs.length := by omega
        have htk : A.cs.take (j + 1) = A.cs.take j ++ [A.cs.getD j default] := by rw [List.take_add_one, List.getD, List.getElem?_eq_getElem hjl]; rfl
        rw [htk, List.foldl_append, ih (by omega), List.foldl_cons, List.foldl_nil, bestN_succ]
        generalize hB : bestN A k (restA A k) u j = B
        unfold fitStep stepA
        by_cases hu : u.testBit j = true
        · rw [if_pos hu, if_pos ((hs j hjl).1 hu)]
        · rw [if_neg hu, if_neg (fun h => hu ((hs j hjl).2 h))]
          have ihk := fun x y => fit_goes hA hn k (u ||| 2 ^ j) (b ++ [A.cs.getD j default]) x y (by simp; omega) (same_add hn hs hjl) (fun _ => hw)
          rw [ihk]
          have hap : mis A.l A.ws (b ++ [A.cs.getD j default]) = mis A.l A.ws b + A.apart (A.ws.length - (k + 1)) j := by
            rw [mis_snoc, show A.ws.length - (k + 1) = b.length by omega]
          generalize ha : restA A k (u ||| 2 ^ j) = a
          generalize hX : A.apart (A.ws.length - (k + 1)) j = X at hap
          have htl : b ++ tail A k u ((j : Int), a.2.1 + X, true) = b ++ [A.cs.getD j default] ++ (places A k (u ||| 2 ^ j)).map fun p => A.cs.getD p default := by
            unfold tail; simp
          have hnew : ∀ x : List Int × Bool, (a.2.2 = true ∧ (x.2 = false ∨ mis A.l A.ws b + (a.2.1 + X) < mis A.l A.ws x.1)) → goes A a ((places A k (u ||| 2 ^ j)).map fun p => A.cs.getD p default) (b ++ [A.cs.getD j default]) x.1 x.2 = (b ++ tail A k u ((j : Int), a.2.1 + X, true), true) := fun x hx => by
            unfold goes; rw [if_pos ⟨hx.1, hx.2.imp id fun h => by rw [hap]; omega⟩, htl]
          have hold : ∀ x : List Int × Bool, ¬ (a.2.2 = true ∧ (x.2 = false ∨ mis A.l A.ws b + (a.2.1 + X) < mis A.l A.ws x.1)) → goes A a ((places A k (u ||| 2 ^ j)).map fun p => A.cs.getD p default) (b ++ [A.cs.getD j default]) x.1 x.2 = x := fun x hx => by
            unfold goes; rw [if_neg fun h => hx ⟨h.1, h.2.imp id fun h => by rw [hap] at h; omega⟩]
          by_cases hc : B.2.2 = true ∧ (f = false ∨ mis A.l A.ws b + B.2.1 < mis A.l A.ws best)
          · have hx : goes A B (tail A k u B) b best f = (b ++ tail A k u B, true) := by unfold goes; rw [if_pos hc]
            rw [hx]
            obtain ⟨p, h1, h2, h3, h4, h5⟩ := best_first (A := A) (k := k) (u := u) (f := restA A k) j (by rw [hB]; exact hc.1)
            have hM : mis A.l A.ws (b ++ tail A k u B) = mis A.l A.ws b + B.2.1 := by
              rw [hB] at h2 h5
              unfold tail
              rw [h2, show (p : Int).toNat = p from Int.toNat_natCast p]
              have := mis_ext k (u ||| 2 ^ p) (b ++ [A.cs.getD p default]) h4 (by simp; omega)
              rw [List.append_assoc] at this
              rw [show A.cs.getD p default :: (places A k (u ||| 2 ^ p)).map (fun p => A.cs.getD p default) = [A.cs.getD p default] ++ (places A k (u ||| 2 ^ p)).map (fun p => A.cs.getD p default) from rfl, this, mis_snoc, h5, show A.ws.length - (k + 1) = b.length by omega]
              omega
            by_cases hd : a.2.2 = true ∧ a.2.1 + X < B.2.1
            · rw [hnew (b ++ tail A k u B, true) ⟨hd.1, .inr (by rw [hM]; omega)⟩, if_pos ⟨hd.1, .inr hd.2⟩]
              unfold goes
              rw [if_pos ⟨rfl, hc.2.imp id fun h => by simp only; omega⟩]
            · rw [hold (b ++ tail A k u B, true) (fun h => hd ⟨h.1, by rcases h.2 with h | h; cases h; rw [hM] at h; omega⟩), if_neg (fun h => hd ⟨h.1, by rcases h.2 with h | h; rw [hc.1] at h; cases h; exact h⟩), hx]
          · have hx : goes A B (tail A k u B) b best f = (best, f) := by unfold goes; rw [if_neg hc]
            rw [hx]
            by_cases hd : a.2.2 = true ∧ (f = false ∨ mis A.l A.ws b + (a.2.1 + X) < mis A.l A.ws best)
            · rw [hnew (best, f) hd, if_pos ⟨hd.1, by
                by_cases hB2 : B.2.2 = true
                · right
                  have : ¬ (f = false ∨ mis A.l A.ws b + B.2.1 < mis A.l A.ws best) := fun h => hc ⟨hB2, h⟩
                  rcases hd.2 with h | h
                  · exact absurd (.inl h) this
                  · have : ¬ mis A.l A.ws b + B.2.1 < mis A.l A.ws best := fun h => this (.inr h)
                    omega
                · left; simpa using hB2⟩]
              unfold goes
              rw [if_pos ⟨rfl, hd.2⟩]
            · rw [hold (best, f) hd]
              split
              · unfold goes
                rw [if_neg (fun h => hd ⟨by rename_i h'; exact h'.1, h.2⟩)]
              · exact hx.symm
    have := main A.cs.length (Nat.le_refl _)
    rw [List.take_length] at this
    rw [this]
    rfl
theorem given_nodup {s : Shop} {l : List Pair} : (given s l).Nodup := by
  unfold given givenN
  refine List.Nodup.sublist (List.take_sublist _ _) ?_
  exact List.pairwise_map.2 ((List.Nodup.sublist List.filter_sublist List.nodup_range).imp fun h e => h (by omega))
end Go.Proofs.Ytmkigohedfcomaa
