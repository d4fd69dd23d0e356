/- A part of the proof that the last text ends: what functions of the program do, told by plain data. -/
import Derived.Test.YtmkigohedfcomaaGJ
import Derived.Test.YtmkigohedfcomaaK1
set_option linter.unusedVariables false
set_option linter.unusedSimpArgs false
namespace Go.Proofs.Ytmkigohedfcomaa
open Go Go.E

/-! ### One event more -/
theorem stepE_pre {s : Shop} {l : List Ev} {x : Ev} {i : Nat} {out : List Pair} (h : i < l.length) : stepE s (l ++ [x]) i out = stepE s l i out := by
  have h1 : (l ++ [x]).getD i default = l.getD i default := by rw [List.getD, List.getD, List.getElem?_append_left h]
  have h2 : (l ++ [x]).getD (i - 1) default = l.getD (i - 1) default := by rw [List.getD, List.getD, List.getElem?_append_left (by omega)]
  unfold stepE
  rw [h1, h2]
theorem go_snoc {s : Shop} {l : List Ev} {x : Ev} : ∀ k i out, i + k = l.length → (go s l k i out).2.2 = 0 →
    go s (l ++ [x]) (k + 1) i out = if (stepE s (l ++ [x]) l.length (go s l k i out).1).2 = 0 then ((stepE s (l ++ [x]) l.length (go s l k i out).1).1, (l.length : Int) + 1, 0) else ([], (l.length : Int), (stepE s (l ++ [x]) l.length (go s l k i out).1).2)
  | 0, i, out, h, _ => by
    have : i = l.length := by omega
    subst this
    unfold go go
    simp
  | k + 1, i, out, h, h0 => by
    rw [go, stepE_pre (by omega)]
    unfold go at h0
    rw [show go s l (k + 1) i out = if (stepE s l i out).2 = 0 then go s l k (i + 1) (stepE s l i out).1 else ([], i, (stepE s l i out).2) from rfl]
    split at h0
    · rename_i hs
      rw [if_pos hs, if_pos hs]
      exact go_snoc k (i + 1) _ (by omega) h0
    · rename_i hs; exact absurd h0 hs
/-- Events that are played: the only pair, and the last event's time. -/
structure St (s : Shop) (l : List Ev) (t : Int) (p : Pair) : Prop where
  play : ∃ k, play s l = ([p], k, 0)
  ne : l ≠ []
  last : (l.getD (l.length - 1) default).time = t
  sh : s.ok = true
theorem play_snoc {s : Shop} {l : List Ev} {x : Ev} {t : Int} {p : Pair} (h : St s l t p) (hl : l.length < 256) (hx : x.ok = true) (ht : t ≤ x.time) :
    play s (l ++ [x]) = if (doS s [p] x).2 = 0 then ((doS s [p] x).1, (l.length : Int) + 1, 0) else ([], (l.length : Int), (doS s [p] x).2) := by
  obtain ⟨⟨k, hp⟩, hne, hlast, hs⟩ := h
  have hlen : 0 < l.length := List.length_pos_iff.2 hne
  have hg : go s l l.length 0 [] = ([p], k, 0) := by
    unfold Go.Proofs.Ytmkigohedfcomaa.play at hp
    rwa [if_neg (by simp [hs]), if_neg (by omega)] at hp
  have hst : stepE s (l ++ [x]) l.length [p] = doS s [p] x := by
    unfold stepE
    have h1 : (l ++ [x]).getD l.length default = x := by rw [List.getD, List.getElem?_append_right (by omega)]; simp
    have h2 : (l ++ [x]).getD (l.length - 1) default = l.getD (l.length - 1) default := by rw [List.getD, List.getD, List.getElem?_append_left (by omega)]
    rw [h1, h2, hlast]
    simp only
    rw [if_neg (by simp [hx]), if_neg (by omega)]
  have := go_snoc (s := s) (l := l) (x := x) l.length 0 [] (by omega) (by rw [hg])
  rw [hg] at this
  simp only at this
  rw [hst] at this
  unfold Go.Proofs.Ytmkigohedfcomaa.play
  rw [if_neg (by simp [hs]), if_neg (by simp; omega), List.length_append, List.length_singleton, this]
theorem St.snoc {s : Shop} {l : List Ev} {x : Ev} {t : Int} {p p' : Pair} (h : St s l t p) (hl : l.length < 256) (hx : x.ok = true) (ht : t ≤ x.time) (hd : doS s [p] x = ([p'], 0)) : St s (l ++ [x]) x.time p' := by
  refine ⟨⟨_, by rw [play_snoc h hl hx ht, hd]; rfl⟩, by simp, ?_, h.sh⟩
  rw [List.getD, List.getElem?_append_right (by simp)]; simp
def lendE (t : Int) : Ev := ⟨t, 1, 0, 1⟩
def retE (t : Int) : Ev := ⟨t, 2, 0, 0⟩
def grindE (t : Int) : Ev := ⟨t, 3, 0, 0⟩
theorem lend_ok {t : Int} (h : 0 ≤ t ∧ t ≤ 100000) : (lendE t).ok = true := by
  have h1 : t ≤ 1048576 := by omega
  simp [Ev.ok, lendE, h.1, h1]
theorem ret_ok {t : Int} (h : 0 ≤ t ∧ t ≤ 100000) : (retE t).ok = true := by
  have h1 : t ≤ 1048576 := by omega
  simp [Ev.ok, retE, h.1, h1]
theorem grind_ok {t : Int} (h : 0 ≤ t ∧ t ≤ 100000) : (grindE t).ok = true := by
  have h1 : t ≤ 1048576 := by omega
  simp [Ev.ok, grindE, h.1, h1]
theorem do_lend {s : Shop} {a lo hi b sn t : Int} : doS s [⟨a, lo, hi, b, -1, sn, false⟩] (lendE t) = if lo < s.need then ([⟨a, lo, hi, b, -1, sn, false⟩], 11) else ([⟨a, lo, hi, b, 1, t, false⟩], 0) := by
  by_cases h : lo < s.need
  · simp [doS, one, has, lendE, h]
  · simp [doS, one, has, lendE, h]
theorem do_ret {s : Shop} {a lo hi b sn : Int} : doS s [⟨a, lo, hi, b, 1, sn, false⟩] (retE (sn + 60)) = ([⟨a, max 0 (lo - s.hi), max 0 (hi - s.lo), b, -1, sn + 60, false⟩], 0) := by
  have : hours sn (sn + 60) = 1 := by unfold hours; omega
  simp [doS, one, retE, this]
theorem do_grind {s : Shop} {a lo hi b sn t : Int} : doS s [⟨a, lo, hi, b, -1, sn, false⟩] (grindE t) = if b - s.cut < s.least then ([⟨a, lo, hi, b, -1, sn, false⟩], 10) else ([⟨a, s.full, s.full, b - s.cut, -1, sn, false⟩], 0) := by
  by_cases h : b - s.cut < s.least
  · simp [doS, one, grindE, h]
  · simp [doS, one, grindE, h]
/-- A pair that nobody has, behind events that end at t. -/
def Fre (s : Shop) (l : List Ev) (t lo b : Int) : Prop := ∃ hi sn, St s l t ⟨40, lo, hi, b, -1, sn, false⟩
theorem fre0 {s : Shop} (hs : s.ok = true) : Fre s [⟨0, 0, 0, 40⟩] 0 s.full 5000 := by
  refine ⟨s.full, 0, ⟨⟨1, ?_⟩, by simp, rfl, hs⟩⟩
  simp [play, hs, go, stepE, Ev.ok, doS]
theorem Fre.dull {s : Shop} {l : List Ev} {t lo b : Int} (h : Fre s l t lo b) (hl : l.length < 256) (ht : 0 ≤ t ∧ t ≤ 100000) (hd : lo < s.need) : (play s (l ++ [lendE t])).2.2 = 11 := by
  obtain ⟨hi, sn, h⟩ := h
  rw [play_snoc h hl (lend_ok ht) (by simp [lendE]), do_lend, if_pos hd]; rfl
theorem Fre.lent {s : Shop} {l : List Ev} {t lo b : Int} (h : Fre s l t lo b) (hl : l.length < 256) (ht : 0 ≤ t ∧ t ≤ 100000) (hd : ¬ lo < s.need) : (play s (l ++ [lendE t])).2.2 = 0 := by
  obtain ⟨hi, sn, h⟩ := h
  rw [play_snoc h hl (lend_ok ht) (by simp [lendE]), do_lend, if_neg hd]; rfl
theorem Fre.ground {s : Shop} {l : List Ev} {t lo b : Int} (h : Fre s l t lo b) (hl : l.length < 256) (ht : 0 ≤ t ∧ t ≤ 100000) (hd : ¬ b - s.cut < s.least) : Fre s (l ++ [grindE t]) t s.full (b - s.cut) := by
  obtain ⟨hi, sn, h⟩ := h
  exact ⟨_, _, h.snoc hl (grind_ok ht) (by simp [grindE]) (by rw [do_grind, if_neg hd])⟩
theorem Fre.thin {s : Shop} {l : List Ev} {t lo b : Int} (h : Fre s l t lo b) (hl : l.length < 256) (ht : 0 ≤ t ∧ t ≤ 100000) (hd : b - s.cut < s.least) : (play s (l ++ [grindE t])).2.2 = 10 := by
  obtain ⟨hi, sn, h⟩ := h
  rw [play_snoc h hl (grind_ok ht) (by simp [grindE]), do_grind, if_pos hd]; rfl
theorem Fre.used {s : Shop} {l : List Ev} {t lo b : Int} (h : Fre s l t lo b) (hl : l.length + 1 < 256) (ht : 0 ≤ t ∧ t ≤ 10000) (hd : ¬ lo < s.need) : Fre s ((l ++ [lendE t]) ++ [retE (t + 60)]) (t + 60) (max 0 (lo - s.hi)) b := by
  obtain ⟨hi, sn, h⟩ := h
  have h1 : St s (l ++ [lendE t]) t ⟨40, lo, hi, b, 1, t, false⟩ := h.snoc (by omega) (lend_ok (by omega)) (by simp [lendE]) (by rw [do_lend, if_neg hd])
  exact ⟨_, _, h1.snoc (by simp; omega) (ret_ok (by omega)) (by simp only [retE]; omega) do_ret⟩
theorem Fre.fine {s : Shop} {l : List Ev} {t lo b : Int} (h : Fre s l t lo b) : (play s l).2.2 = 0 := by
  obtain ⟨hi, sn, ⟨k, h⟩, _⟩ := h
  rw [h]
/-! ### How many loans -/
structure Lst (s : Shop) (q r : Nat) : Prop where
  sh : s.ok = true
  need : 0 < s.need
  q1 : (q : Int) * s.hi ≤ s.full - s.need
  q2 : s.full - s.need < ((q : Int) + 1) * s.hi
  r1 : (r : Int) * s.cut ≤ max 0 (5000 - s.least)
  r2 : max 0 (5000 - s.least) < ((r : Int) + 1) * s.cut
/-- Behind i loans: j grindings, and m loans since then. -/
structure Run (s : Shop) (q r i j m : Nat) (l : List Ev) : Prop where
  cnt : i = j * (q + 1) + m
  le : j ≤ r ∧ m ≤ q + 1
  len : l.length ≤ 1 + 3 * i
  free : Fre s l (60 * i) (max 0 (s.full - m * s.hi)) (5000 - j * s.cut)
theorem Lst.mul {s : Shop} {q r m : Nat} (h : Lst s q r) (hm : m ≤ q + 1) : max 0 (s.full - (m : Int) * s.hi) < s.need ↔ m = q + 1 := by
  obtain ⟨h1, h2, h3, h4, _, _⟩ := h
  obtain ⟨b1, b2, b3, b4, b5, b6, b7, b8, b9, b10, b11⟩ := Shop.bounds h1
  constructor
  · intro h
    rcases Nat.lt_or_ge m (q + 1) with h5 | h5
    · have := Int.mul_le_mul_of_nonneg_right (show (m : Int) ≤ q by omega) (show 0 ≤ s.hi by omega)
      omega
    · omega
  · intro h
    subst h
    rw [show ((q + 1 : Nat) : Int) = (q : Int) + 1 by omega]
    omega
theorem run0 {s : Shop} {q r : Nat} (h : Lst s q r) : Run s q r 0 0 0 [⟨0, 0, 0, 40⟩] := by
  refine ⟨by omega, by omega, by simp, ?_⟩
  have := fre0 h.sh
  have hb := Shop.bounds h.sh
  simpa [show max 0 s.full = s.full by omega] using this
theorem run_less {s : Shop} {q r i j m : Nat} {l : List Ev} (h : Run s q r i j m l) (hi : i < (q + 1) * (r + 1)) (hm : m = q + 1) : j < r := by
  have h1 := h.cnt
  rcases Nat.lt_or_ge j r with h2 | h2
  · exact h2
  · have := Nat.mul_le_mul_right (q + 1) (show r + 1 ≤ j + 1 by omega)
    rw [Nat.add_mul j, Nat.one_mul, Nat.mul_comm (r + 1)] at this
    omega
theorem run_end {s : Shop} {q r i j m : Nat} {l : List Ev} (h : Run s q r i j m l) (hi : i = (q + 1) * (r + 1)) : j = r ∧ m = q + 1 := by
  have h1 := h.cnt
  have h2 := h.le
  rw [Nat.mul_comm] at hi
  rcases Nat.lt_or_ge j r with h3 | h3
  · have := Nat.mul_le_mul_right (q + 1) (show j + 1 ≤ r by omega)
    rw [Nat.add_mul, Nat.one_mul] at this hi
    omega
  · have : j = r := by omega
    subst this
    rw [Nat.add_mul, Nat.one_mul] at hi
    omega
theorem fre_lo {s : Shop} {m : Nat} (h : 0 ≤ s.hi) : max 0 (max 0 (s.full - (m : Int) * s.hi) - s.hi) = max 0 (s.full - ((m + 1 : Nat) : Int) * s.hi) := by
  rw [show ((m + 1 : Nat) : Int) = (m : Int) + 1 by omega, Int.add_mul, Int.one_mul]
  omega
/-- A loan more, where the edge is sharp. -/
theorem run_sharp {s : Shop} {q r i j m : Nat} {l : List Ev} (hL : Lst s q r) (h : Run s q r i j m l) (hi : i < 80) (hm : m ≠ q + 1) : (play s (l ++ [lendE (60 * i)])).2.2 = 0 ∧ Run s q r (i + 1) j (m + 1) ((l ++ [lendE (60 * i)]) ++ [retE (60 * i + 60)]) := by
  have hb := Shop.bounds hL.sh
  have hn : ¬ max 0 (s.full - (m : Int) * s.hi) < s.need := fun e => hm ((hL.mul h.le.2).1 e)
  have hl := h.len
  have hle := h.le
  refine ⟨h.free.lent (by omega) (by omega) hn, ⟨by have := h.cnt; omega, by omega, by simp; omega, ?_⟩⟩
  have := h.free.used (by omega) (by omega) hn
  rw [fre_lo (by omega)] at this
  rw [show (60 : Int) * ((i + 1 : Nat) : Int) = 60 * i + 60 by omega]
  exact this
/-- A loan more, behind a grinding. -/
theorem run_dull {s : Shop} {q r i j m : Nat} {l : List Ev} (hL : Lst s q r) (h : Run s q r i j m l) (hi : i < 80) (hi2 : i < (q + 1) * (r + 1)) (hm : m = q + 1) : (play s (l ++ [lendE (60 * i)])).2.2 = 11 ∧ Run s q r (i + 1) (j + 1) 1 (((l ++ [grindE (60 * i)]) ++ [lendE (60 * i)]) ++ [retE (60 * i + 60)]) := by
  have hb := Shop.bounds hL.sh
  have hj := run_less h hi2 hm
  have hl := h.len
  have hlo := (hL.mul h.le.2).2 hm
  refine ⟨h.free.dull (by omega) (by omega) hlo, ?_⟩
  have hbl : ¬ 5000 - (j : Int) * s.cut - s.cut < s.least := by
    have h1 := Int.mul_le_mul_of_nonneg_right (show (j : Int) + 1 ≤ r by omega) (show 0 ≤ s.cut by omega)
    rw [Int.add_mul, Int.one_mul] at h1
    have h2 := hL.r1
    have h3 : 0 ≤ (j : Int) * s.cut := Int.mul_nonneg (by omega) (by omega)
    omega
  have h1 := h.free.ground (by omega) (by omega) hbl
  have h2 := h1.used (by simp; omega) (by omega) (by omega)
  refine ⟨?_, by omega, by simp; omega, ?_⟩
  · have := h.cnt
    rw [Nat.add_mul, Nat.one_mul]; omega
  · rw [show (60 : Int) * ((i + 1 : Nat) : Int) = 60 * i + 60 by omega, show 5000 - ((j + 1 : Nat) : Int) * s.cut = 5000 - (j : Int) * s.cut - s.cut by rw [show ((j + 1 : Nat) : Int) = (j : Int) + 1 by omega, Int.add_mul, Int.one_mul]; omega, show ((1 : Nat) : Int) * s.hi = s.hi by omega]
    exact h2
theorem run_last {s : Shop} {q r i j m : Nat} {l : List Ev} (hL : Lst s q r) (h : Run s q r i j m l) (hi : i < 80) (hi2 : i = (q + 1) * (r + 1)) : (play s l).2.2 = 0 ∧ (play s (l ++ [lendE (60 * i)])).2.2 = 11 ∧ (play s (l ++ [grindE (60 * i)])).2.2 = 10 := by
  have hb := Shop.bounds hL.sh
  obtain ⟨hj, hm⟩ := run_end h hi2
  have hl := h.len
  have hlo := (hL.mul h.le.2).2 hm
  refine ⟨h.free.fine, h.free.dull (by omega) (by omega) hlo, h.free.thin (by omega) (by omega) ?_⟩
  subst hj
  have h2 := hL.r2
  rw [Int.add_mul, Int.one_mul] at h2
  omega
/-- What Lasts tells. -/
theorem lasts_lst {s : Shop} (h : (lasts s 5000).2 = 0) : ∃ q r : Nat, Lst s q r ∧ (lasts s 5000).1 = (((q + 1) * (r + 1) : Nat) : Int) ∧ (lasts s 10000).2 = 0 ∧ (lasts s 5000).1 ≤ (lasts s 10000).1 := by
  by_cases hs : s.ok = true
  case neg => unfold lasts at h; rw [if_pos (by simpa using hs)] at h; cases h
  have key : ∀ x : Int, 0 ≤ x ∧ x ≤ 10000 → lasts s x = if s.hi = 0 ∨ s.need = 0 then (0, 4) else (((s.full - s.need) / s.hi + 1) * (max 0 (x - s.least) / s.cut + 1), 0) := fun x hx => by
    unfold lasts; rw [if_neg (by simp [hs]), if_neg (by omega)]
  rw [key 5000 (by omega)] at h ⊢
  rw [key 10000 (by omega)]
  have hb := Shop.bounds hs
  split at h
  · cases h
  · rename_i hz
    · rw [if_neg hz, if_neg hz]
      obtain ⟨b1, b2, b3, b4, b5, b6, b7, b8, b9, b10, b11⟩ := hb
      have hq0 : 0 ≤ (s.full - s.need) / s.hi := Int.ediv_nonneg (by omega) (by omega)
      have hr0 : 0 ≤ max 0 (5000 - s.least) / s.cut := Int.ediv_nonneg (by omega) (by omega)
      have hq1 : (s.full - s.need) / s.hi * s.hi ≤ s.full - s.need := Int.ediv_mul_le _ (by omega)
      have hq2 : s.full - s.need < ((s.full - s.need) / s.hi + 1) * s.hi := Int.lt_ediv_add_one_mul_self _ (by omega)
      have hr1 : max 0 (5000 - s.least) / s.cut * s.cut ≤ max 0 (5000 - s.least) := Int.ediv_mul_le _ (by omega)
      have hr2 : max 0 (5000 - s.least) < (max 0 (5000 - s.least) / s.cut + 1) * s.cut := Int.lt_ediv_add_one_mul_self _ (by omega)
      have hm : max 0 (5000 - s.least) / s.cut ≤ max 0 (10000 - s.least) / s.cut := Int.ediv_le_ediv (by omega) (by omega)
      obtain ⟨q, hq⟩ : ∃ q : Nat, (s.full - s.need) / s.hi = q := ⟨_, (Int.toNat_of_nonneg hq0).symm⟩
      obtain ⟨r, hr⟩ : ∃ r : Nat, max 0 (5000 - s.least) / s.cut = r := ⟨_, (Int.toNat_of_nonneg hr0).symm⟩
      rw [hq] at hq1 hq2 ⊢
      rw [hr] at hr1 hr2 hm ⊢
      refine ⟨q, r, ⟨hs, by omega, hq1, hq2, hr1, hr2⟩, by simp, rfl, ?_⟩
      exact Int.mul_le_mul_of_nonneg_left (by omega) (by omega)
end Go.Proofs.Ytmkigohedfcomaa
