/- A part of the proof that the last text ends: what functions of the program do, told by plain data. -/
import Derived.Test.YtmajlffglplcnaaDoorNO
set_option linter.unusedVariables false
set_option linter.unusedSimpArgs false
namespace Go.Proofs.YtmajlffglplcnaaDoor
open Go Go.E
def sm (f : Gam → Int) (l : List Gam) : Int := (l.map f).sum
theorem sm_cons {f : Gam → Int} {g : Gam} {l : List Gam} : sm f (g :: l) = f g + sm f l := by simp [sm]
theorem sm_nil {f : Gam → Int} : sm f [] = 0 := rfl
theorem sm_congr {f h : Gam → Int} {l : List Gam} (e : ∀ g ∈ l, f g = h g) : sm f l = sm h l := by
  unfold sm; rw [List.map_congr_left e]
def gmG (t : Int) (g : Gam) : Int := if inG g t = true then 1 else 0
def gfG (t : Int) (g : Gam) : Int := if inG g t = true then (if g.home = t then g.hg else g.ag) else 0
def gaG (t : Int) (g : Gam) : Int := if inG g t = true then (if g.home = t then g.ag else g.hg) else 0
theorem addG_sum (s : Std) (g : Gam) : addG s g = ⟨s.team, s.games + gmG s.team g, s.pts + ptG g s.team, s.gf + gfG s.team g, s.ga + gaG s.team g⟩ := by
  unfold addG gmG gfG gaG
  by_cases c : inG g s.team = true
  · rw [if_neg (by simp [c])]
    by_cases d : g.home = s.team
    · simp [c, d]
    · simp [c, d]
  · have c' : inG g s.team = false := by simpa using c
    have hp : ptG g s.team = 0 := by unfold ptG; rw [if_pos c']
    rw [if_pos c', hp]
    simp [c]
theorem fold_sum : ∀ (l : List Gam) (s : Std), l.foldl addG s = ⟨s.team, s.games + sm (gmG s.team) l, s.pts + sm (fun g => ptG g s.team) l, s.gf + sm (gfG s.team) l, s.ga + sm (gaG s.team) l⟩
  | [], s => by simp [sm]
  | g :: l, s => by
    rw [List.foldl_cons, fold_sum l, addG_team, addG_sum]
    simp only [sm_cons, Std.mk.injEq, true_and]
    omega
theorem stF_sum (l : List Gam) (t : Int) : stF l t = ⟨t, sm (gmG t) l, sm (fun g => ptG g t) l, sm (gfG t) l, sm (gaG t) l⟩ := by
  unfold stF stN
  rw [List.take_length, fold_sum]
  simp
theorem amF_sum (l : List Gam) (t : Int) : amF l t = sm (amG l t) l := by
  unfold amF amN
  rw [List.take_length]; rfl
def swG (g : Gam) : Gam := ⟨g.day, g.away, g.home, g.fin, g.ag, g.hg⟩
def turG (g : Gam) (k : Nat) : Gam := if k % 2 = 0 then swG g else g
def othN (l : List Gam) (u k : Nat) : List Gam := (List.range k).map fun i => turG (l.getD ((i + u) % l.length) default) (i + u)
theorem othN_succ {l : List Gam} {u k : Nat} : othN l u (k + 1) = othN l u k ++ [turG (l.getD ((k + u) % l.length) default) (k + u)] := by
  unfold othN; rw [List.range_succ, List.map_append]; rfl
theorem othN_len {l : List Gam} {u k : Nat} : (othN l u k).length = k := by simp [othN]
theorem turned {α : Type} [Inhabited α] {l : List α} {u : Nat} : ((List.range l.length).map fun i => l.getD ((i + u) % l.length) default).Perm l := by
  by_cases h0 : l.length = 0
  · rw [List.length_eq_zero_iff] at h0
    subst h0; simp
  have hr : u % l.length < l.length := Nat.mod_lt _ (by omega)
  have e : ((List.range l.length).map fun i => l.getD ((i + u) % l.length) default) = l.drop (u % l.length) ++ l.take (u % l.length) := by
    apply List.ext_getElem (by simp; omega)
    intro i h1 h2
    have hi : i < l.length := by simpa using h1
    have hm : (i + u) % l.length = (i + u % l.length) % l.length := by rw [Nat.add_mod, Nat.mod_eq_of_lt hi]
    simp only [List.getElem_map, List.getElem_range]
    by_cases c : i < l.length - u % l.length
    · rw [List.getElem_append_left (by rw [List.length_drop]; exact c), List.getElem_drop, hm, Nat.mod_eq_of_lt (by omega), at_lt (by omega)]
      congr 1; omega
    · rw [List.getElem_append_right (by rw [List.length_drop]; omega), List.getElem_take, hm, Nat.mod_eq_sub_mod (by omega), Nat.mod_eq_of_lt (by omega), at_lt (by omega)]
      congr 1; rw [List.length_drop]; omega
  rw [e]
  exact List.perm_append_comm.trans (by rw [List.take_append_drop])
theorem perm_sum {a b : List Int} (h : a.Perm b) : a.sum = b.sum := by
  induction h with
  | nil => rfl
  | cons x _ ih => simp [ih]
  | swap x y l => simp only [List.sum_cons]; omega
  | trans _ _ h1 h2 => rw [h1, h2]
theorem sm_perm {f : Gam → Int} {a b : List Gam} (h : a.Perm b) : sm f a = sm f b := perm_sum (h.map f)
theorem oth_map {β : Type} {f : Gam → β} {l : List Gam} {u : Nat} (hf : ∀ g ∈ l, f (swG g) = f g) : (othN l u l.length).map f = ((List.range l.length).map fun i => l.getD ((i + u) % l.length) default).map f := by
  unfold othN
  rw [List.map_map, List.map_map]
  apply List.map_congr_left
  intro i hi
  have hi := List.mem_range.1 hi
  have hm : (i + u) % l.length < l.length := Nat.mod_lt _ (by omega)
  simp only [Function.comp]
  unfold turG
  split
  · rw [at_lt hm]; exact hf _ (List.getElem_mem _)
  · rfl
theorem oth_sm {f : Gam → Int} {l : List Gam} {u : Nat} (hf : ∀ g ∈ l, f (swG g) = f g) : sm f (othN l u l.length) = sm f l := by
  have h1 := oth_map (u := u) hf
  have h2 : sm f (othN l u l.length) = sm f ((List.range l.length).map fun i => l.getD ((i + u) % l.length) default) := by
    unfold sm; rw [h1]
  rw [h2]
  exact sm_perm turned
theorem oth_count {p : Gam → Bool} {l : List Gam} {u : Nat} (hf : ∀ g ∈ l, p (swG g) = p g) : (othN l u l.length).countP p = l.countP p := by
  have h1 := congrArg (fun x : List Bool => x.countP id) (oth_map (u := u) hf)
  simp only [List.countP_map] at h1
  have h2 := turned (l := l) (u := u).countP_eq p
  rw [← h2, List.countP_map]
  exact h1
def hnG (g : Gam) : Prop := g.fin = 0 ∨ (g.hg ≠ g.ag ∧ g.home ≠ g.away)
theorem lea_hn {l : Lea} (h : leaOk l = true) {g : Gam} (hg : g ∈ l.games) : hnG g := by
  have hm : gmOk g l.far.length = true := by
    unfold leaOk at h
    simp only [Bool.and_eq_true] at h
    exact List.all_eq_true.1 h.2.2.2.1 g hg
  have h2 := gm_teams hm
  rcases gm_goals hm with h1 | h1
  · exact .inl h1
  · exact .inr ⟨h1.2.2, h2.2.2.1⟩
theorem inG_sw {g : Gam} {t : Int} : inG (swG g) t = inG g t := by
  unfold inG hasB swG
  simp only
  rw [Bool.or_comm]
theorem inG_iff {g : Gam} {t : Int} : inG g t = true ↔ g.fin ≠ 0 ∧ (g.home = t ∨ g.away = t) := by
  unfold inG hasB
  simp
theorem pt_sw {g : Gam} (h : hnG g) (t : Int) : ptG (swG g) t = ptG g t := by
  unfold ptG
  rw [inG_sw]
  by_cases c : inG g t = false
  · rw [if_pos c, if_pos c]
  have c' : inG g t = true := by simpa using c
  have hi := inG_iff.1 c'
  have hn : g.hg ≠ g.ag ∧ g.home ≠ g.away := h.resolve_left hi.1
  have hw : winB (swG g) t = winB g t := by
    unfold winB swG
    simp only
    by_cases d : g.home = t
    · have d2 : ¬ g.away = t := by omega
      rw [decide_eq_true d, decide_eq_false d2]
      by_cases e : g.ag < g.hg
      · rw [decide_eq_true e, decide_eq_false (show ¬ g.hg < g.ag by omega)]; rfl
      · rw [decide_eq_false e, decide_eq_true (show g.hg < g.ag by omega)]; rfl
    · have d2 : g.away = t := by omega
      rw [decide_eq_false d, decide_eq_true d2]
      by_cases e : g.ag < g.hg
      · rw [decide_eq_true e, decide_eq_false (show ¬ g.hg < g.ag by omega)]; rfl
      · rw [decide_eq_false e, decide_eq_true (show g.hg < g.ag by omega)]; rfl
  rw [hw]; rfl
theorem gm_sw {g : Gam} (t : Int) : gmG t (swG g) = gmG t g := by unfold gmG; rw [inG_sw]
theorem gf_sw {g : Gam} (h : hnG g) (t : Int) : gfG t (swG g) = gfG t g := by
  unfold gfG
  rw [inG_sw]
  by_cases c : inG g t = true
  · have hi := inG_iff.1 c
    have hn : g.hg ≠ g.ag ∧ g.home ≠ g.away := h.resolve_left hi.1
    rw [if_pos c, if_pos c]
    show (if g.away = t then g.ag else g.hg) = _
    by_cases d : g.home = t
    · rw [if_pos d, if_neg (by omega)]
    · rw [if_neg d, if_pos (by omega)]
  · rw [if_neg c, if_neg c]
theorem ga_sw {g : Gam} (h : hnG g) (t : Int) : gaG t (swG g) = gaG t g := by
  unfold gaG
  rw [inG_sw]
  by_cases c : inG g t = true
  · have hi := inG_iff.1 c
    have hn : g.hg ≠ g.ag ∧ g.home ≠ g.away := h.resolve_left hi.1
    rw [if_pos c, if_pos c]
    show (if g.away = t then g.hg else g.ag) = _
    by_cases d : g.home = t
    · rw [if_pos d, if_neg (by omega)]
    · rw [if_neg d, if_pos (by omega)]
  · rw [if_neg c, if_neg c]
def othL (l : Lea) (u : Nat) : Lea := ⟨l.far, othN l.games u l.games.length⟩
theorem oth_st {l : Lea} (h : leaOk l = true) {u : Nat} : stF (othL l u).games = stF l.games := by
  funext t
  rw [stF_sum, stF_sum]
  unfold othL
  simp only
  rw [oth_sm (fun g _ => gm_sw t), oth_sm (fun g hg => pt_sw (lea_hn h hg) t), oth_sm (fun g hg => gf_sw (lea_hn h hg) t), oth_sm (fun g hg => ga_sw (lea_hn h hg) t)]
theorem oth_am {l : Lea} (h : leaOk l = true) {u : Nat} : amF (othL l u).games = amF l.games := by
  funext t
  rw [amF_sum, amF_sum]
  have e : amG (othL l u).games t = amG l.games t := by
    funext g
    unfold amG
    rw [oth_st h]
  rw [e]
  unfold othL
  simp only
  refine oth_sm fun g hg => ?_
  unfold amG
  rw [pt_sw (lea_hn h hg)]
  show (if (stF l.games g.away).pts = _ ∧ (stF l.games g.home).pts = _ then _ else _) = _
  by_cases c : (stF l.games g.home).pts = (stF l.games t).pts
  · by_cases d : (stF l.games g.away).pts = (stF l.games t).pts
    · rw [if_pos ⟨d, c⟩, if_pos ⟨c, d⟩]
    · rw [if_neg (fun h => d h.1), if_neg (fun h => d h.2)]
  · rw [if_neg (fun h => c h.2), if_neg (fun h => c h.1)]
theorem oth_tab {l : Lea} (h : leaOk l = true) {u : Nat} : tabR (othL l u).games (othL l u).far.length = tabR l.games l.far.length := by
  have e : ahB (othL l u).games = ahB l.games := by
    funext a b
    unfold ahB
    rw [oth_st h, oth_am h]
  have e2 : rk (othL l u).games = rk l.games := by
    funext n i
    unfold rk rkN
    rw [e]
  unfold tabR
  show tbN _ l.far.length l.far.length = _
  have : ∀ n k, tbN (othL l u).games n k = tbN l.games n k := fun n k => by
    induction k with
    | zero => rfl
    | succ k ih =>
      unfold tbN
      rw [ih, e2, oth_st h]
  exact this _ _
theorem sw_ok {g : Gam} {n : Int} (h : gmOk g n = true) : gmOk (swG g) n = true := by
  unfold gmOk at h ⊢
  simp only [Bool.and_eq_true, Bool.or_eq_true, decide_eq_true_eq, inB_iff, Bool.not_eq_true', decide_eq_false_iff_not] at h ⊢
  obtain ⟨h1, h2, h3, h4, h5, h6⟩ := h
  refine ⟨h1, h3, h2, fun e => h4 e.symm, h5, ?_⟩
  rcases h6 with h6 | ⟨h6, h7, h8⟩
  · exact .inl h6
  · exact .inr ⟨h7, h6, fun e => h8 e.symm⟩
theorem oth_ok {l : Lea} (h : leaOk l = true) {u : Nat} : leaOk (othL l u) = true := by
  have h0 := h
  have ho : openN (othL l u).games (othL l u).games.length = openN l.games l.games.length := by
    unfold openN
    rw [List.take_length, List.take_length]
    exact oth_count fun g _ => rfl
  unfold leaOk at h0 ⊢
  simp only [Bool.and_eq_true, decide_eq_true_eq, List.all_eq_true] at h0 ⊢
  refine ⟨h0.1, ?_, h0.2.2.1, fun g hg => ?_, ?_⟩
  · show (((othN _ _ _).length : Nat) : Int) ≤ _
    rw [othN_len]; exact h0.2.1
  · obtain ⟨i, hi, rfl⟩ := List.mem_map.1 hg
    have hi := List.mem_range.1 hi
    have hm : (i + u) % l.games.length < l.games.length := Nat.mod_lt _ (by omega)
    have := lea_gm h hm
    show gmOk (turG _ _) l.far.length = true
    unfold turG
    split
    · exact sw_ok this
    · exact this
  · rw [ho]; exact h0.2.2.2.2
theorem tab_rows {l : Lea} (h : leaOk l = true) : ∃ L : List Row, L.Perm (rowsR l) ∧ SrtI ky 0 L.length L ∧ L.map Row.s = tabR l.games l.far.length := by
  have hp : ((rowsR l).mergeSort fun a b => decide (ky a ≤ ky b)).Perm (rowsR l) := List.mergeSort_perm _ _
  have hs := List.pairwise_mergeSort (le := fun a b : Row => decide (ky a ≤ ky b)) (fun a b c h1 h2 => by simp at h1 h2 ⊢; omega) (fun a b => by simp; omega) (rowsR l)
  have hs2 : SrtI ky 0 ((rowsR l).mergeSort fun a b => decide (ky a ≤ ky b)).length ((rowsR l).mergeSort fun a b => decide (ky a ≤ ky b)) := fun p q _ hpq hq => by
    have := List.pairwise_iff_getElem.1 hs p q (by omega) hq hpq
    rw [at_lt (by omega), at_lt hq]
    simpa using this
  exact ⟨_, hp, hs2, table_law h hp hs2⟩
theorem tab_perm {l : Lea} (h : leaOk l = true) : (tabR l.games l.far.length).Perm ((List.range l.far.length).map fun i : Nat => stF l.games (i : Int)) := by
  obtain ⟨L, hp, _, e⟩ := tab_rows h
  rw [← e]
  refine (hp.map Row.s).trans ?_
  unfold rowsR
  rw [List.map_map]
  exact List.Perm.refl _
theorem tab_down {l : Lea} (h : leaOk l = true) {k : Nat} (hk : k + 1 < l.far.length) : ((tabR l.games l.far.length).getD (k + 1) default).pts ≤ ((tabR l.games l.far.length).getD k default).pts := by
  obtain ⟨L, hp, hs, e⟩ := tab_rows h
  have hl : L.length = l.far.length := by rw [hp.length_eq, rowsR_len]
  have hok : ∀ i, i < L.length → RowOk (L.getD i default) := fun i hi => rowsR_ok h _ (by rw [at_lt hi]; exact hp.mem_iff.1 (List.getElem_mem _))
  have h1 := hok k (by omega)
  have h2 := hok (k + 1) (by omega)
  have h3 := hs k (k + 1) (Nat.zero_le _) (by omega) (by omega)
  have g : ∀ i, i < L.length → (tabR l.games l.far.length).getD i default = (L.getD i default).s := fun i hi => by
    rw [← e, at_lt (by simpa using hi), List.getElem_map, at_lt hi]
  rw [g _ (by omega), g _ (by omega)]
  unfold RowOk StB at h1 h2
  unfold ky at h3
  omega
theorem tab_team {l : Lea} (h : leaOk l = true) {k : Nat} (hk : k < l.far.length) : 0 ≤ ((tabR l.games l.far.length).getD k default).team ∧ ((tabR l.games l.far.length).getD k default).team < l.far.length := by
  have hm : (tabR l.games l.far.length).getD k default ∈ (List.range l.far.length).map fun i : Nat => stF l.games (i : Int) := by
    rw [← (tab_perm h).mem_iff, at_lt (by rw [tabR_len]; exact hk)]
    exact List.getElem_mem _
  obtain ⟨i, hi, e⟩ := List.mem_map.1 hm
  have hi := List.mem_range.1 hi
  rw [← e, stF_team]
  omega
def smT (n : Nat) (f : Nat → Int) : Int := ((List.range n).map f).sum
theorem smT_succ {n : Nat} {f : Nat → Int} : smT (n + 1) f = smT n f + f n := by
  unfold smT; rw [List.range_succ, List.map_append, List.sum_append]; simp
theorem smT_add {f g : Nat → Int} : ∀ n, smT n (fun i => f i + g i) = smT n f + smT n g
  | 0 => rfl
  | n + 1 => by rw [smT_succ, smT_succ, smT_succ, smT_add n]; omega
theorem smT_zero : ∀ n, smT n (fun _ => 0) = 0
  | 0 => rfl
  | n + 1 => by rw [smT_succ, smT_zero n]; rfl
theorem smT_sub {f g : Nat → Int} : ∀ n, smT n (fun i => f i - g i) = smT n f - smT n g
  | 0 => rfl
  | n + 1 => by rw [smT_succ, smT_succ, smT_succ, smT_sub n]; omega
theorem smT_two {f : Nat → Int} {a b : Nat} (hab : a ≠ b) : ∀ n, (∀ i, i < n → i ≠ a → i ≠ b → f i = 0) → smT n f = (if a < n then f a else 0) + (if b < n then f b else 0)
  | 0, _ => by simp [smT]
  | n + 1, h => by
    rw [smT_succ, smT_two hab n fun i hi => h i (by omega)]
    by_cases c : n = a
    · subst c
      rw [if_neg (show ¬ n < n by omega), if_pos (show n < n + 1 by omega)]
      by_cases d : b < n
      · rw [if_pos d, if_pos (show b < n + 1 by omega)]; omega
      · rw [if_neg d, if_neg (show ¬ b < n + 1 by omega)]; omega
    by_cases c2 : n = b
    · subst c2
      rw [if_neg (show ¬ n < n by omega), if_pos (show n < n + 1 by omega)]
      by_cases d : a < n
      · rw [if_pos d, if_pos (show a < n + 1 by omega)]; omega
      · rw [if_neg d, if_neg (show ¬ a < n + 1 by omega)]; omega
    rw [h n (by omega) c c2]
    have e1 : (a < n + 1) = (a < n) := propext ⟨fun h => by omega, fun h => by omega⟩
    have e2 : (b < n + 1) = (b < n) := propext ⟨fun h => by omega, fun h => by omega⟩
    simp only [e1, e2, Int.add_zero]
theorem smT_sm (f : Nat → Gam → Int) (n : Nat) : ∀ l : List Gam, smT n (fun i => sm (f i) l) = sm (fun g => smT n fun i => f i g) l
  | [] => by simp only [sm_nil]; exact smT_zero n
  | g :: l => by
    simp only [sm_cons]
    rw [smT_add, smT_sm f n l]
theorem one_two {f : Int → Int} {g : Gam} {n : Nat} (hm : gmOk g n = true) (hz : ∀ i : Int, ¬ g.home = i → ¬ g.away = i → f i = 0) : smT n (fun i => f (i : Int)) = f g.home + f g.away := by
  obtain ⟨h1, h2, h3, _⟩ := gm_teams hm
  have e := smT_two (f := fun i : Nat => f (i : Int)) (a := g.home.toNat) (b := g.away.toNat) (by omega) n fun i _ ha hb => hz i (by omega) (by omega)
  rw [e, if_pos (by omega), if_pos (by omega), show ((g.home.toNat : Nat) : Int) = g.home by omega, show ((g.away.toNat : Nat) : Int) = g.away by omega]
theorem in_home {g : Gam} (h : g.fin ≠ 0) : inG g g.home = true := inG_iff.2 ⟨h, .inl rfl⟩
theorem in_away {g : Gam} (h : g.fin ≠ 0) : inG g g.away = true := inG_iff.2 ⟨h, .inr rfl⟩
theorem in_none {g : Gam} (h : g.fin = 0) {t : Int} : inG g t = false := inG_fin h
def pl3 (g : Gam) : Int := if g.fin = 0 then 0 else 3
def pl2 (g : Gam) : Int := if g.fin = 0 then 0 else 2
theorem pts_game {g : Gam} {n : Nat} (hm : gmOk g n = true) : smT n (fun i => ptG g (i : Int)) = pl3 g := by
  rw [one_two (f := fun i => ptG g i) hm fun i a b => by unfold ptG; rw [if_pos (inG_no a b)]]
  have ht := gm_teams hm
  unfold pl3
  by_cases c : g.fin = 0
  · rw [if_pos c]
    unfold ptG
    rw [if_pos (in_none c), if_pos (in_none c)]; rfl
  rw [if_neg c]
  have hn := ((gm_goals hm).resolve_left c).2.2
  have w1 : winB g g.home = decide (g.ag < g.hg) := by unfold winB; simp
  have w2 : winB g g.away = !decide (g.ag < g.hg) := by unfold winB; rw [decide_eq_false ht.2.2.1]; simp
  have i1 := in_home c
  have i2 := in_away c
  unfold ptG
  by_cases d : g.ag < g.hg
  · rw [decide_eq_true d] at w1 w2
    have : g.fin = 1 ∨ g.fin = 2 := by omega
    rcases this with e | e <;> simp [e, w1, w2, i1, i2]
  · rw [decide_eq_false d] at w1 w2
    have : g.fin = 1 ∨ g.fin = 2 := by omega
    rcases this with e | e <;> simp [e, w1, w2, i1, i2]
theorem gms_game {g : Gam} {n : Nat} (hm : gmOk g n = true) : smT n (fun i => gmG (i : Int) g) = pl2 g := by
  rw [one_two (f := fun i => gmG i g) hm fun i a b => by unfold gmG; rw [if_neg (by rw [inG_no a b]; simp)]]
  unfold pl2 gmG
  by_cases c : g.fin = 0
  · rw [if_pos c, in_none c, in_none c]; rfl
  · rw [if_neg c, if_pos (in_home c), if_pos (in_away c)]; rfl
theorem gls_game {g : Gam} {n : Nat} (hm : gmOk g n = true) : smT n (fun i => gfG (i : Int) g) = smT n (fun i => gaG (i : Int) g) := by
  have ht := gm_teams hm
  rw [one_two (f := fun i => gfG i g) hm fun i a b => by unfold gfG; rw [if_neg (by rw [inG_no a b]; simp)], one_two (f := fun i => gaG i g) hm fun i a b => by unfold gaG; rw [if_neg (by rw [inG_no a b]; simp)]]
  unfold gfG gaG
  by_cases c : g.fin = 0
  · simp [in_none c]
  · rw [if_pos (in_home c), if_pos (in_away c), if_pos (in_home c), if_pos (in_away c), if_pos rfl, if_pos rfl, if_neg ht.2.2.1, if_neg ht.2.2.1]
    omega
def plyN (l : List Gam) (u k : Nat) : Nat := (othN l u k).countP fun g => !decide (g.fin = 0)
theorem pl_sum : ∀ l : List Gam, sm pl3 l = 3 * (l.countP fun g => !decide (g.fin = 0) : Nat) ∧ sm pl2 l = 2 * (l.countP fun g => !decide (g.fin = 0) : Nat)
  | [] => ⟨rfl, rfl⟩
  | g :: l => by
    obtain ⟨h1, h2⟩ := pl_sum l
    rw [sm_cons, sm_cons, List.countP_cons, h1, h2]
    unfold pl3 pl2
    by_cases c : g.fin = 0
    · simp [c]
    · simp [c]; omega
def ptT (T : List Std) (k : Nat) : Int := ((T.take k).map Std.pts).sum
def gmT (T : List Std) (k : Nat) : Int := ((T.take k).map Std.games).sum
def glT (T : List Std) (k : Nat) : Int := ((T.take k).map fun s => s.gf - s.ga).sum
theorem tk_succ {f : Std → Int} {T : List Std} {k : Nat} (h : k < T.length) : ((T.take (k + 1)).map f).sum = ((T.take k).map f).sum + f (T.getD k default) := by
  rw [take_succ h, List.map_append, List.sum_append]; simp
theorem tab_b {l : Lea} (h : leaOk l = true) : ∀ s ∈ tabR l.games l.far.length, StB s 64 := fun s hs => by
  have hm := (tab_perm h).mem_iff.1 hs
  obtain ⟨i, _, rfl⟩ := List.mem_map.1 hm
  exact stF_b (lea_gs h)
theorem tk_b {T : List Std} (hb : ∀ s ∈ T, StB s 64) : ∀ k, k ≤ T.length → (0 ≤ ptT T k ∧ ptT T k ≤ 192 * k) ∧ (0 ≤ gmT T k ∧ gmT T k ≤ 64 * k) ∧ -(6336 * k) ≤ glT T k ∧ glT T k ≤ 6336 * k
  | 0, _ => by simp [ptT, gmT, glT]
  | k + 1, hk => by
    have ih := tk_b hb k (by omega)
    have hs := hb (T.getD k default) (by rw [at_lt (by omega)]; exact List.getElem_mem _)
    unfold StB at hs
    unfold ptT gmT glT at ih ⊢
    rw [tk_succ (by omega), tk_succ (by omega), tk_succ (by omega)]
    omega
theorem tab_sum {l : Lea} (h : leaOk l = true) (f : Std → Int) : ((tabR l.games l.far.length).map f).sum = smT l.far.length fun i => f (stF l.games (i : Int)) := by
  rw [perm_sum ((tab_perm h).map f), List.map_map]; rfl
theorem sums {l : Lea} (h : leaOk l = true) {u : Nat} : ptT (tabR l.games l.far.length) l.far.length = 3 * (plyN l.games u l.games.length : Int) ∧ gmT (tabR l.games l.far.length) l.far.length = 2 * (plyN l.games u l.games.length : Int) ∧ glT (tabR l.games l.far.length) l.far.length = 0 := by
  have hp : plyN l.games u l.games.length = l.games.countP fun g => !decide (g.fin = 0) := by
    unfold plyN
    exact oth_count fun g _ => rfl
  have hl := tabR_len (l := l)
  have hgm : ∀ g ∈ l.games, gmOk g l.far.length = true := fun g hg => by
    obtain ⟨i, hi, rfl⟩ := List.getElem_of_mem hg
    rw [← at_lt hi]; exact lea_gm h hi
  have h3 := pl_sum l.games
  unfold ptT gmT glT
  rw [List.take_of_length_le (by omega), tab_sum h, tab_sum h, tab_sum h, hp]
  refine ⟨?_, ?_, ?_⟩
  · rw [← h3.1, ← sm_congr fun g hg => pts_game (hgm g hg), ← smT_sm]
    congr 1; funext i; rw [stF_sum]
  · rw [← h3.2, ← sm_congr fun g hg => gms_game (hgm g hg), ← smT_sm]
    congr 1; funext i; rw [stF_sum]
  · rw [smT_sub]
    have e1 : (fun i : Nat => (stF l.games (i : Int)).gf) = fun i : Nat => sm (gfG (i : Int)) l.games := by funext i; rw [stF_sum]
    have e2 : (fun i : Nat => (stF l.games (i : Int)).ga) = fun i : Nat => sm (gaG (i : Int)) l.games := by funext i; rw [stF_sum]
    rw [e1, e2, smT_sm (fun i => gfG (i : Int)), smT_sm (fun i => gaG (i : Int)), sm_congr fun g hg => gls_game (hgm g hg)]
    omega
end Go.Proofs.YtmajlffglplcnaaDoor
