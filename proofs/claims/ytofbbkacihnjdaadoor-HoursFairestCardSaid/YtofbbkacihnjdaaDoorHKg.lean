/- A part of the proof that the last text ends: what functions of the program do, told by plain data. -/
import Derived.Test.YtofbbkacihnjdaaDoorHKf
import Derived.Test.YtofbbkacihnjdaaDoorHPf
set_option linter.unusedVariables false
set_option linter.unusedSimpArgs false
namespace Go.Proofs.YtofbbkacihnjdaaDoor
open Go Go.E Go.Maps
set_option maxRecDepth 100000
set_option maxHeartbeats 4000000
theorem chG_b {t : Tt} {i : Nat} (h : i ≤ t.groups.length) : -1 ≤ chG t i ∧ chG t i < t.groups.length := by unfold chG; split <;> omega
theorem take_snoc {p : List Int} {k : Nat} {b : List Int} (h : p.take b.length = b) (hk : b.length < p.length) : p.take (b.length + 1) = b ++ [p.getD b.length default] := by
  rw [List.take_succ_eq_append_getElem hk, h, at_lt hk]
theorem mem_plR {t : Tt} {p : List Int} : ∀ k b, p ∈ plR t k b ↔ (p.length = b.length + k ∧ p.take b.length = b ∧ ∀ j, b.length ≤ j → j < p.length → (-1 ≤ p.getD j default ∧ p.getD j default < t.groups.length) ∧ erR t p j = 0)
  | 0, b => by
    unfold plR
    rw [List.mem_singleton]
    constructor
    · rintro rfl
      exact ⟨rfl, List.take_length, fun j h1 h2 => by omega⟩
    · rintro ⟨h1, h2, _⟩
      rw [← h2, List.take_of_length_le (by omega)]
  | k + 1, b => by
    unfold plR
    rw [List.mem_flatMap]
    constructor
    · rintro ⟨i, hi, hp⟩
      have hi := List.mem_range.1 hi
      split at hp
      · rename_i he
        obtain ⟨h1, h2, h3⟩ := (mem_plR k _).1 hp
        rw [List.length_append, List.length_singleton] at h1 h2 h3
        have hlt : b.length < p.length := by omega
        have hb : p.take b.length = b := by
          have := congrArg (List.take b.length) h2
          rw [List.take_take, Nat.min_eq_left (by omega), List.take_left' rfl] at this
          exact this
        have hg : p.getD b.length default = chG t i := by
          have e := take_snoc (k := k) hb hlt
          rw [h2] at e
          simpa using e.symm
        refine ⟨by omega, hb, fun j hj1 hj2 => ?_⟩
        rcases Nat.lt_or_eq_of_le hj1 with h | h
        · exact h3 j (by omega) hj2
        · subst h
          refine ⟨by rw [hg]; exact chG_b (by omega), ?_⟩
          rw [er_pre (q := b ++ [chG t i]) (by rw [h2, List.take_of_length_le (by simp)])]
          exact he
      · cases hp
    · rintro ⟨h1, h2, h3⟩
      have hlt : b.length < p.length := by omega
      have h4 := h3 b.length (Nat.le_refl _) hlt
      have e := take_snoc (k := k) h2 hlt
      have hex : ∃ i, i < t.groups.length + 1 ∧ chG t i = p.getD b.length default := by
        by_cases c : p.getD b.length default = -1
        · exact ⟨t.groups.length, by omega, by unfold chG; rw [if_pos rfl, c]⟩
        · refine ⟨(p.getD b.length default).toNat, by omega, ?_⟩
          unfold chG
          rw [if_neg (by omega)]; omega
      obtain ⟨i, hi, hg⟩ := hex
      refine ⟨i, List.mem_range.2 hi, ?_⟩
      rw [hg, ← e, if_pos (by rw [er_pre (q := p) (by rw [List.take_take, Nat.min_self])]; exact h4.2)]
      rw [mem_plR k]
      have hl : (p.take (b.length + 1)).length = b.length + 1 := by rw [List.length_take]; omega
      rw [hl]
      exact ⟨by omega, rfl, fun j hj1 hj2 => h3 j (by omega) hj2⟩
theorem mem_all {t : Tt} {p : List Int} : p ∈ plR t t.hours.length [] ↔ goP t p := by
  rw [mem_plR]
  constructor
  · rintro ⟨h1, _, h3⟩
    have h1 : p.length = t.hours.length := by simpa using h1
    exact ⟨pl_of (fun j hj => (h3 j (Nat.zero_le _) hj).1) h1, fun j hj => (h3 j (Nat.zero_le _) hj).2⟩
  · intro h
    have hf := pl_fo h.1
    exact ⟨by simpa using hf.2, rfl, fun j _ hj => ⟨hf.1 j hj, h.2 j hj⟩⟩
theorem lx_app : ∀ {b p q : List Int}, lx p q → lx (b ++ p) (b ++ q)
  | [], _, _, h => h
  | a :: b, _, _, h => lx_cons (lx_app (b := b) h)
theorem pw_flat {α β : Type} {R : β → β → Prop} {f : α → List β} : ∀ {l : List α}, (∀ a ∈ l, (f a).Pairwise R) → l.Pairwise (fun a b => ∀ x ∈ f a, ∀ y ∈ f b, R x y) → (l.flatMap f).Pairwise R
  | [], _, _ => List.Pairwise.nil
  | a :: l, h1, h2 => by
    rw [List.flatMap_cons]
    obtain ⟨h3, h4⟩ := List.pairwise_cons.1 h2
    refine List.pairwise_append.2 ⟨h1 a (by simp), pw_flat (fun b hb => h1 b (by simp [hb])) h4, fun x hx y hy => ?_⟩
    obtain ⟨b, hb, hy⟩ := List.mem_flatMap.1 hy
    exact h3 b hb x hx y hy
theorem plR_lx {t : Tt} : ∀ k b, (plR t k b).Pairwise lx
  | 0, b => List.pairwise_singleton _ _
  | k + 1, b => by
    unfold plR
    refine pw_flat (fun i _ => ?_) ?_
    · split
      · exact plR_lx k _
      · exact List.Pairwise.nil
    · refine List.pairwise_iff_getElem.2 fun i j hi hj hij x hx y hy => ?_
      rw [List.length_range] at hi hj
      rw [List.getElem_range] at hx hy
      split at hx
      · split at hy
        · obtain ⟨x1, x2, _⟩ := (mem_plR k _).1 hx
          obtain ⟨y1, y2, _⟩ := (mem_plR k _).1 hy
          have ex : x = b ++ chG t i :: x.drop (b.length + 1) := by
            have := List.take_append_drop (b.length + 1) x
            rw [List.length_append, List.length_singleton] at x2
            rw [x2] at this
            rw [← this]; simp
          have ey : y = b ++ chG t j :: y.drop (b.length + 1) := by
            have := List.take_append_drop (b.length + 1) y
            rw [List.length_append, List.length_singleton] at y2
            rw [y2] at this
            rw [← this]; simp
          rw [ex, ey]
          refine lx_app ?_
          unfold lx
          have hne : ¬ chG t i = chG t j := by unfold chG; split <;> split <;> omega
          rw [if_neg hne]
          unfold chG
          split <;> split <;> omega
        · cases hy
      · cases hx
def bsP (t : Tt) (b p : List Int) : List Int := if 0 < fairI t p b then p else b
def frQ (t : Tt) : List Int × Int := if ttOk t = true then ((plR t t.hours.length []).tail.foldl (bsP t) ((plR t t.hours.length []).headD []), 0) else ([], 1)
theorem fairI_self {t : Tt} {p : List Int} : fairI t p p = 0 := by have := fairI_neg (t := t) (p := p) (q := p); omega
theorem fairI_N {t : Tt} {p q : List Int} : fairI t p q = cmpN (isort (hasL t p)) (isort (hasL t q)) t.groups.length 0 := by
  unfold fairI cmpL; rw [isort_len, hasL_len]
theorem fairI_tr {t : Tt} {a b c : List Int} (h1 : fairI t a b ≤ 0) (h2 : fairI t b c ≤ 0) : fairI t a c ≤ 0 := by rw [fairI_N] at *; exact cmpN_tr _ _ h1 h2
theorem fairI_z {t : Tt} {a b : List Int} (h : fairI t a b = 0) (c : List Int) : fairI t a c = fairI t b c := by rw [fairI_N] at *; rw [fairI_N]; exact cmpN_z _ _ h _
theorem fold_best {t : Tt} : ∀ (l done : List (List Int)) (B : List Int), (done ++ l).Pairwise lx → B ∈ done → (∀ q ∈ done, fairI t q B ≤ 0 ∧ (fairI t q B = 0 → lx B q)) →
    l.foldl (bsP t) B ∈ done ++ l ∧ ∀ q ∈ done ++ l, fairI t q (l.foldl (bsP t) B) ≤ 0 ∧ (fairI t q (l.foldl (bsP t) B) = 0 → lx (l.foldl (bsP t) B) q)
  | [], done, B, _, h1, h2 => by rw [List.append_nil]; exact ⟨h1, h2⟩
  | p :: l, done, B, hp, h1, h2 => by
    have e : done ++ p :: l = (done ++ [p]) ++ l := by simp
    rw [List.foldl_cons, e]
    rw [e] at hp
    have hBp : lx B p := by
      have := (List.pairwise_append.1 (List.pairwise_append.1 hp).1).2.2
      exact this B h1 p (by simp)
    have hlp : ∀ r : List Int, lx r r := fun r => by
      induction r with
      | nil => exact trivial
      | cons a r ih => exact lx_cons ih
    refine fold_best l (done ++ [p]) (bsP t B p) hp ?_ ?_
    · unfold bsP
      split
      · simp
      · exact List.mem_append_left _ h1
    · intro q hq
      unfold bsP
      split
      · rename_i hb
        rcases List.mem_append.1 hq with hq | hq
        · have hqB := (h2 q hq).1
          have hBpn : fairI t B p ≤ 0 := by have := fairI_neg (t := t) (p := B) (q := p); omega
          refine ⟨fairI_tr hqB hBpn, fun hz => ?_⟩
          have := fairI_z hz B
          omega
        · rw [List.mem_singleton.1 hq, fairI_self]
          exact ⟨Int.le_refl _, fun _ => hlp _⟩
      · rename_i hb
        rcases List.mem_append.1 hq with hq | hq
        · exact h2 q hq
        · rw [List.mem_singleton.1 hq]
          exact ⟨by omega, fun _ => hBp⟩
theorem fr_ref {t : Tt} : frQ t = frR t := by
  by_cases ht : ttOk t = true
  case neg => unfold frQ frR; rw [if_neg ht, if_neg ht]
  obtain ⟨p, h1, h2⟩ := fr_law ht
  rw [h1]
  unfold frQ
  rw [if_pos ht]
  have hm := mem_all.2 h2.1
  have hlp : ∀ r : List Int, lx r r := fun r => by
    induction r with
    | nil => exact trivial
    | cons a r ih => exact lx_cons ih
  cases hl : plR t t.hours.length [] with
  | nil => rw [hl] at hm; cases hm
  | cons a l =>
    have hpw := plR_lx (t := t) t.hours.length []
    rw [hl] at hpw
    obtain ⟨f1, f2⟩ := fold_best (t := t) l [a] a hpw (by simp) (fun q hq => by
      rw [List.mem_singleton.1 hq, fairI_self]
      exact ⟨Int.le_refl _, fun _ => hlp _⟩)
    have hall : ∀ q, q ∈ [a] ++ l ↔ goP t q := fun q => by
      rw [← mem_all, hl]; rfl
    show (l.foldl (bsP t) a, (0 : Int)) = (p, 0)
    rw [fr_uniq (t := t) (p := l.foldl (bsP t) a) (p' := p) ⟨(hall _).1 f1, fun q hq => f2 q ((hall q).2 hq)⟩ h2]
def alS (G : Nat) : List (List Int) := (List.range G).flatMap fun n => seR G (n + 1) 0 []
def lkQ (t : Tt) (p l : List Int) : Bool := !((plR t t.hours.length []).any fun q => enQ q p l)
def hiQ (t : Tt) (p : List Int) : List Int × Int := if ttOk t = true then (if (p.length : Int) = t.groups.length ∧ (p.all fun x => inB x 0 12) = true then (((alS t.groups.length).find? (lkQ t p)).getD [], 0) else ([], 2)) else ([], 1)
def befB (l l' : List Int) : Bool := decide (l.length < l'.length ∨ (l.length = l'.length ∧ cmpL l l' < 0))
theorem al_lw : ∀ G, G < 6 → ∀ l ∈ alS G, ((List.range (2 ^ G)).any fun x => decide (lw x = l)) = true := by decide +kernel
theorem lw_al : ∀ G, G < 6 → ∀ x, x < 2 ^ G → x ≠ 0 → lw x ∈ alS G := by decide +kernel
theorem al_pw : ∀ G, G < 6 → (alS G).Pairwise (fun l l' => befB l l' = true) := by decide +kernel
theorem lk_iff {t : Tt} (ht : ttOk t = true) {p l : List Int} (hl : ∀ g ∈ l, 0 ≤ g ∧ g < 5) : lkQ t p l = true ↔ lackP t p l := by
  have h5 := (tt_hours ht).2.1
  unfold lkQ lackP
  rw [Bool.not_eq_true', Bool.eq_false_iff]
  have key : ∀ q, goP t q → (enQ q p l = true ↔ ∀ k ∈ l, p.getD k.toNat default ≤ (sdP q q.length).n.at k) := fun q _ => by
    unfold enQ
    rw [List.all_eq_true]
    refine forall_congr' fun k => forall_congr' fun hk => ?_
    have hb := hl k hk
    have h3 := cnP_at (p := q) (k := q.length) (g := k.toNat) (by omega)
    rw [show ((k.toNat : Nat) : Int) = k by omega] at h3
    rw [decide_eq_true_eq]
    show _ ↔ _ ≤ (cnP q q.length).at k
    rw [h3]
  constructor
  · intro h s hs ha
    obtain ⟨q, q1, q2, q3⟩ := stR_pth _ _ hs
    have hok := pth_okF h5 q1 q2
    have hr := okF_pth h5 hok q.length 0 (by omega)
    rw [sdP_zero, List.drop_zero] at hr
    have hgo := (go_okF ht).2 hok
    refine h (List.any_eq_true.2 ⟨q, mem_all.2 hgo, (key q hgo).2 ?_⟩)
    rw [← hr.2, q3]; exact ha
  · intro h ha
    obtain ⟨q, hq, he⟩ := List.any_eq_true.1 ha
    have hgo := mem_all.1 hq
    have hk := (go_okF ht).1 hgo
    have hs := okF_stR h5 hk q.length (Nat.le_refl _)
    refine h (sdP q q.length) ?_ ((key q hgo).1 he)
    have e : q.length = t.hours.length := hk.1
    rw [e] at hs ⊢; exact hs
theorem hi_ref {t : Tt} {p : List Int} : hiQ t p = hiR t p := by
  unfold hiQ hiR
  by_cases ht : ttOk t = true
  case neg => rw [if_neg ht, if_neg ht]
  rw [if_pos ht, if_pos ht]
  by_cases hc : (p.length : Int) = t.groups.length ∧ (p.all fun x => inB x 0 12) = true
  case neg => rw [if_neg hc, if_neg hc]
  rw [if_pos hc, if_pos hc]
  have h5 := (tt_hours ht).2.1
  obtain ⟨s1, s2⟩ := hs_spec (t := t) (p := p) (2 ^ t.groups.length)
  have hX : 2 ^ t.groups.length ≤ 2 ^ 5 := Nat.pow_le_pow_right (by decide) h5
  have hlk : ∀ x, x < 2 ^ t.groups.length → (lkQ t p (lw x) = true ↔ lackB t p x = true) := fun x hx => by
    rw [lack_iff]
    refine lk_iff ht fun g hg => ?_
    have := lw_in t.groups.length (by omega) x hx g hg
    omega
  have hal : ∀ l ∈ alS t.groups.length, ∃ x, x < 2 ^ t.groups.length ∧ lw x = l := fun l hl => by
    obtain ⟨x, h1, h2⟩ := List.any_eq_true.1 (al_lw t.groups.length (by omega) l hl)
    exact ⟨x, List.mem_range.1 h1, of_decide_eq_true h2⟩
  cases hf : (alS t.groups.length).find? (lkQ t p) with
  | none =>
    have hno := List.find?_eq_none.1 hf
    refine Prod.ext ?_ rfl
    show ([] : List Int) = _
    refine Classical.byContradiction fun hne => ?_
    obtain ⟨x, x1, x2, _⟩ := s2 (fun e => hne e.symm)
    have hx0 : x ≠ 0 := fun e => lack_ne x2 (by rw [e]; decide)
    exact hno _ (lw_al t.groups.length (by omega) x x1 hx0) ((hlk x x1).2 x2)
  | some l =>
    obtain ⟨hl1, as1, bs1, hl2, hl3⟩ := List.find?_eq_some_iff_append.1 hf
    have hlm : l ∈ alS t.groups.length := by rw [hl2]; simp
    obtain ⟨y, y1, y2⟩ := hal l hlm
    have hly : lackB t p y = true := (hlk y y1).1 (by rw [y2]; exact hl1)
    refine Prod.ext ?_ rfl
    show l = _
    obtain ⟨x, x1, x2, x3, x4⟩ := s2 (fun e => (s1 e) y y1 hly)
    rw [x3]
    obtain ⟨m1, m2⟩ := x4 y y1 hly
    rw [y2] at m1 m2
    have hx0 : x ≠ 0 := fun e => lack_ne x2 (by rw [e]; decide)
    have hxm := lw_al t.groups.length (by omega) x x1 hx0
    have hpw := al_pw t.groups.length (by omega)
    rw [hl2] at hxm hpw
    rcases List.mem_append.1 hxm with h | h
    · have := hl3 _ h
      rw [(hlk x x1).2 x2] at this
      cases this
    · rcases List.mem_cons.1 h with h | h
      · exact h.symm
      · have hb := (List.pairwise_cons.1 (List.pairwise_append.1 hpw).2.1).1 _ h
        have hb := of_decide_eq_true hb
        rcases hb with hb | ⟨hb1, hb2⟩
        · omega
        · have h3 := m2 hb1.symm
          have h4 := cmpL_neg (x := l) (y := lw x) hb1
          omega
end Go.Proofs.YtofbbkacihnjdaaDoor
