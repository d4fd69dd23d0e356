/- A part of the proof that the last text ends: what functions of the program do, told by plain data. -/
import Derived.Test.YtmajlffglplcnaaDoorNR
set_option linter.unusedVariables false
set_option linter.unusedSimpArgs false
namespace Go.Proofs.YtmajlffglplcnaaDoor
open Go Go.E
def okAt (l : List Gam) (j : Nat) : Prop := ¬ (0 < j ∧ (l.getD j default).day < (l.getD (j - 1) default).day) ∧ ¬ twB (l.getD j default) (l.take j) = true
theorem lgN_spec {l : List Gam} : ∀ k i, i + k = l.length → ∃ n : Nat, (lgN l k i).1 = n ∧ i ≤ n ∧ n ≤ l.length ∧ ((lgN l k i).2 = 0 ↔ n = l.length) ∧ (lgN l k i).2 ≠ 1 ∧ ∀ j, i ≤ j → j < n → okAt l j
  | 0, i, h => ⟨i, rfl, Nat.le_refl _, by omega, ⟨fun _ => by omega, fun _ => rfl⟩, by simp [lgN], fun j h1 h2 => by omega⟩
  | k + 1, i, h => by
    unfold lgN
    by_cases c : 0 < i ∧ (l.getD i default).day < (l.getD (i - 1) default).day
    · rw [if_pos c]
      exact ⟨i, rfl, Nat.le_refl _, by omega, ⟨fun h => (by cases h), fun _ => by omega⟩, by simp, fun j h1 h2 => by omega⟩
    rw [if_neg c]
    by_cases d : twB (l.getD i default) (l.take i) = true
    · rw [if_pos d]
      exact ⟨i, rfl, Nat.le_refl _, by omega, ⟨fun h => (by cases h), fun _ => by omega⟩, by simp, fun j h1 h2 => by omega⟩
    rw [if_neg d]
    obtain ⟨n, h1, h2, h3, h4, h5, h6⟩ := lgN_spec (l := l) k (i + 1) (by omega)
    refine ⟨n, h1, by omega, h3, h4, h5, fun j hj1 hj2 => ?_⟩
    rcases Nat.lt_or_eq_of_le hj1 with h7 | h7
    · exact h6 j h7 hj2
    · subst h7; exact ⟨c, d⟩
theorem lgN_ok {l : List Gam} (hk : ∀ j, j < l.length → okAt l j) : ∀ k i, i + k = l.length → lgN l k i = ((l.length : Int), 0)
  | 0, i, h => by unfold lgN; rw [show i = l.length by omega]
  | k + 1, i, h => by
    unfold lgN
    have := hk i (by omega)
    rw [if_neg this.1, if_neg this.2]
    exact lgN_ok hk k (i + 1) (by omega)
theorem okAt_take {l : List Gam} {m j : Nat} (hm : m ≤ l.length) (hj : j < m) (h : okAt l j) : okAt (l.take m) j := by
  have e : ∀ i, i < m → (l.take m).getD i default = l.getD i default := fun i hi => by
    rw [at_lt (by rw [List.length_take]; omega), at_lt (by omega), List.getElem_take]
  unfold okAt at h ⊢
  rw [e j hj, List.take_take, show min j m = j by omega]
  refine ⟨fun c => h.1 ⟨c.1, ?_⟩, h.2⟩
  rw [← e (j - 1) (by omega)]
  exact c.2
theorem few_ok {l : Lea} (h : leaOk l = true) {m : Nat} (hm : m ≤ l.games.length) : leaOk ⟨l.far, l.games.take m⟩ = true := by
  have h8 : openN l.games l.games.length ≤ 8 := by
    unfold leaOk at h
    simp only [Bool.and_eq_true, decide_eq_true_eq] at h
    omega
  refine lea_sub h (fun g hg => List.mem_of_mem_take hg) (by rw [List.length_take]; have := lea_games h; omega) ?_
  unfold openN at h8 ⊢
  rw [List.take_length] at h8 ⊢
  exact Nat.le_trans (List.Sublist.countP_le (List.take_sublist _ _)) h8
theorem lgR_spec {l : Lea} (h : leaOk l = true) : ∃ n : Nat, (lgR l).1 = n ∧ n ≤ l.games.length ∧ ((lgR l).2 = 0 ↔ n = l.games.length) ∧ (lgR l).2 ≠ 1 ∧ ∀ m, m ≤ n → lgR ⟨l.far, l.games.take m⟩ = ((m : Int), 0) := by
  obtain ⟨n, h1, _, h3, h4, h5, h6⟩ := lgN_spec (l := l.games) l.games.length 0 (by omega)
  have e : lgR l = lgN l.games l.games.length 0 := by unfold lgR; rw [if_pos h]
  rw [e]
  refine ⟨n, h1, h3, h4, h5, fun m hm => ?_⟩
  have hl : (l.games.take m).length = m := by rw [List.length_take]; omega
  unfold lgR
  rw [if_pos (few_ok h (by omega))]
  show lgN (l.games.take m) (l.games.take m).length 0 = _
  rw [lgN_ok (l := l.games.take m) (fun j hj => by rw [hl] at hj; exact okAt_take (by omega) hj (h6 j (Nat.zero_le _) (by omega))) _ 0 (by omega), hl]
def opW (l : List Gam) (w : Nat) : Nat → Int
  | 0 => -1
  | k + 1 => if (l.getD ((k + w) % l.length) default).fin = 0 then ((k + w) % l.length : Nat) else opW l w k
theorem opW_spec {l : List Gam} {w : Nat} : ∀ k, k ≤ l.length → opW l w k = -1 ∨ ∃ o : Nat, opW l w k = o ∧ o < l.length ∧ (l.getD o default).fin = 0
  | 0, _ => .inl rfl
  | k + 1, hk => by
    unfold opW
    by_cases c : (l.getD ((k + w) % l.length) default).fin = 0
    · rw [if_pos c]
      exact .inr ⟨_, rfl, Nat.mod_lt _ (by omega), c⟩
    · rw [if_neg c]
      exact opW_spec k (by omega)
def wnG (g : Gam) (h : Int) : Gam := ⟨g.day, g.home, g.away, 1 + h % 2, 1 + h % 9, 0⟩
def winL (l : Lea) (o : Nat) (h : Int) : Lea := ⟨l.far, l.games.set o (wnG (l.games.getD o default) h)⟩
theorem sm_set {f : Gam → Int} {g : Gam} : ∀ (l : List Gam) (o : Nat), o < l.length → sm f (l.set o g) = sm f l - f (l.getD o default) + f g
  | [], _, h => by simp at h
  | a :: l, 0, _ => by simp only [List.set_cons_zero, sm_cons, List.getD_cons_zero]; omega
  | a :: l, o + 1, h => by
    simp only [List.set_cons_succ, sm_cons, List.getD_cons_succ]
    rw [sm_set l o (by simpa using h)]; omega
theorem win_st {l : Lea} {o : Nat} (ho : o < l.games.length) (h0 : (l.games.getD o default).fin = 0) (h t : Int) : stF (winL l o h).games t = ⟨t, (stF l.games t).games + gmG t (wnG (l.games.getD o default) h), (stF l.games t).pts + ptG (wnG (l.games.getD o default) h) t, (stF l.games t).gf + gfG t (wnG (l.games.getD o default) h), (stF l.games t).ga + gaG t (wnG (l.games.getD o default) h)⟩ := by
  have hi : inG (l.games.getD o default) t = false := inG_fin h0
  rw [stF_sum, stF_sum]
  unfold winL
  simp only
  rw [sm_set _ _ ho, sm_set _ _ ho, sm_set _ _ ho, sm_set _ _ ho]
  have e1 : gmG t (l.games.getD o default) = 0 := by unfold gmG; rw [if_neg (by rw [hi]; simp)]
  have e2 : ptG (l.games.getD o default) t = 0 := by unfold ptG; rw [if_pos hi]
  have e3 : gfG t (l.games.getD o default) = 0 := by unfold gfG; rw [if_neg (by rw [hi]; simp)]
  have e4 : gaG t (l.games.getD o default) = 0 := by unfold gaG; rw [if_neg (by rw [hi]; simp)]
  rw [e1, e2, e3, e4]
  simp only [Int.sub_zero]
theorem win_home {l : Lea} (hl : leaOk l = true) {o : Nat} (ho : o < l.games.length) (h0 : (l.games.getD o default).fin = 0) (h : Int) : (stF (winL l o h).games (l.games.getD o default).home).pts = (stF l.games (l.games.getD o default).home).pts + 4 - (1 + h % 2) ∧ (stF (winL l o h).games (l.games.getD o default).home).games = (stF l.games (l.games.getD o default).home).games + 1 ∧ (stF (winL l o h).games (l.games.getD o default).home).gf = (stF l.games (l.games.getD o default).home).gf + (1 + h % 9) := by
  rw [win_st ho h0]
  have hf : ¬ (wnG (l.games.getD o default) h).fin = 0 := by show ¬ 1 + h % 2 = 0; omega
  have hi : inG (wnG (l.games.getD o default) h) (l.games.getD o default).home = true := inG_home hf rfl
  have hw : winB (wnG (l.games.getD o default) h) (l.games.getD o default).home = true := by
    unfold winB
    rw [decide_eq_true (show (wnG (l.games.getD o default) h).home = (l.games.getD o default).home from rfl), decide_eq_true (show (wnG (l.games.getD o default) h).ag < (wnG (l.games.getD o default) h).hg from by show 0 < 1 + h % 9; omega)]
    rfl
  refine ⟨?_, ?_, ?_⟩
  · show _ + ptG _ _ = _
    unfold ptG
    rw [if_neg (by rw [hi]; simp), hw]
    have : (wnG (l.games.getD o default) h).fin = 1 + h % 2 := rfl
    rw [this]
    have : h % 2 = 0 ∨ h % 2 = 1 := by omega
    rcases this with e | e <;> simp [e] <;> omega
  · show _ + gmG _ _ = _
    unfold gmG; rw [if_pos hi]
  · show _ + gfG _ _ = _
    unfold gfG; rw [if_pos hi, if_pos (show (wnG (l.games.getD o default) h).home = (l.games.getD o default).home from rfl)]; rfl
theorem win_away {l : Lea} (hl : leaOk l = true) {o : Nat} (ho : o < l.games.length) (h0 : (l.games.getD o default).fin = 0) (h : Int) : 1 ≤ (stF (winL l o h).games (l.games.getD o default).away).games := by
  rw [win_st ho h0]
  have hf : ¬ (wnG (l.games.getD o default) h).fin = 0 := by show ¬ 1 + h % 2 = 0; omega
  have hi : inG (wnG (l.games.getD o default) h) (l.games.getD o default).away = true := inG_away hf rfl
  have hb := stF_b (t := (l.games.getD o default).away) (lea_gs hl)
  unfold StB at hb
  show 1 ≤ _ + gmG _ _
  unfold gmG; rw [if_pos hi]
  omega
theorem win_other {l : Lea} {o : Nat} (ho : o < l.games.length) (h0 : (l.games.getD o default).fin = 0) (h : Int) {t : Int} (h1 : ¬ (l.games.getD o default).home = t) (h2 : ¬ (l.games.getD o default).away = t) : (stF (winL l o h).games t).pts = (stF l.games t).pts := by
  rw [win_st ho h0]
  show _ + ptG _ _ = _
  unfold ptG
  rw [if_pos (inG_no (g := wnG (l.games.getD o default) h) h1 h2), Int.add_zero]
theorem win_ok {l : Lea} (hl : leaOk l = true) {o : Nat} (ho : o < l.games.length) (h : Int) : leaOk (winL l o h) = true := by
  have hgm := lea_gm hl ho
  have hlen : (winL l o h).games.length = l.games.length := List.length_set
  have hop : openN (winL l o h).games (winL l o h).games.length ≤ openN l.games l.games.length := by
    unfold openN
    rw [List.take_length, List.take_length]
    show List.countP _ (l.games.set o _) ≤ _
    rw [List.countP_set ho, if_neg (c := decide ((wnG (l.games.getD o default) h).fin = 0) = true) (by show ¬ decide (1 + h % 2 = 0) = true; simp; omega)]
    omega
  unfold leaOk at hl ⊢
  simp only [Bool.and_eq_true, decide_eq_true_eq, List.all_eq_true] at hl ⊢
  refine ⟨hl.1, by rw [hlen]; exact hl.2.1, hl.2.2.1, fun g hg => ?_, by omega⟩
  rcases List.mem_or_eq_of_mem_set hg with hg | rfl
  · exact hl.2.2.2.1 g hg
  · show gmOk (wnG _ _) l.far.length = true
    unfold gmOk at hgm ⊢
    simp only [Bool.and_eq_true, Bool.or_eq_true, decide_eq_true_eq, inB_iff, Bool.not_eq_true', decide_eq_false_iff_not] at hgm ⊢
    obtain ⟨h1, h2, h3, h4, _, _⟩ := hgm
    refine ⟨h1, h2, h3, h4, ?_, .inr ⟨?_, ?_, ?_⟩⟩
    · show 0 ≤ 1 + h % 2 ∧ 1 + h % 2 ≤ 2
      omega
    · show 0 ≤ 1 + h % 9 ∧ 1 + h % 9 ≤ 99
      omega
    · show (0 : Int) ≤ 0 ∧ (0 : Int) ≤ 99
      omega
    · show ¬ 1 + h % 9 = 0
      omega
theorem ky_of_rk {l : Lea} (h : leaOk l = true) {i j : Nat} (hi : i < l.far.length) (hj : j < l.far.length) (hr : rk l.games l.far.length i < rk l.games l.far.length j) : ky (rowR l.games i) < ky (rowR l.games j) := by
  have h6 := lea_fars h
  by_cases c : ky (rowR l.games j) < ky (rowR l.games i)
  · have := rk_mono h hj hi c; omega
  · have hne : i ≠ j := fun e => by subst e; omega
    have := ky_ne (lea_gs h) (a := i) (b := j) (by omega) (by omega) hne
    omega
theorem win_rk {l : Lea} (hl : leaOk l = true) {o : Nat} (ho : o < l.games.length) (h0 : (l.games.getD o default).fin = 0) (h : Int) {k : Nat} (hk : k < l.far.length) (h1 : ¬ (l.games.getD o default).home = k) (h2 : ¬ (l.games.getD o default).away = k) (hr : rk l.games l.far.length (l.games.getD o default).home < rk l.games l.far.length k) : rk (winL l o h).games l.far.length (l.games.getD o default).home < rk (winL l o h).games l.far.length k := by
  have hgm := gm_teams (lea_gm hl ho)
  have hw := win_ok hl ho h
  have h6 := lea_fars hl
  obtain ⟨w, hwn⟩ : ∃ w : Nat, (l.games.getD o default).home = (w : Int) := ⟨(l.games.getD o default).home.toNat, by omega⟩
  have hp := (win_home hl ho h0 h).1
  have hq := win_other ho h0 h h1 h2
  rw [hwn] at hr hp ⊢
  have hky := ky_of_rk hl (by omega) hk hr
  have a1 := rowR_ok (lea_gs hl) (t := w) (by omega)
  have a2 := rowR_ok (lea_gs hl) (t := k) (by omega)
  have b1 := rowR_ok (lea_gs hw) (t := w) (by omega)
  have b2 := rowR_ok (lea_gs hw) (t := k) (by omega)
  unfold RowOk StB at a1 a2 b1 b2
  have e1 : (rowR (winL l o h).games w).s.pts = (rowR l.games w).s.pts + 4 - (1 + h % 2) := hp
  have e2 : (rowR (winL l o h).games k).s.pts = (rowR l.games k).s.pts := hq
  refine rk_mono hw (i := w) (j := k) (by show w < l.far.length; omega) hk ?_
  unfold ky at hky ⊢
  omega
end Go.Proofs.YtmajlffglplcnaaDoor
