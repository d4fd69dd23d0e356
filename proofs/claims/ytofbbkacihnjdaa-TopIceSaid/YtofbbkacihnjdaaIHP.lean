/- A part of the proof that the last text ends: what functions of the program do, told by plain data. -/
import Derived.Test.YtofbbkacihnjdaaIHO
import Derived.Test.YtofbbkacihnjdaaEc
set_option linter.unusedVariables false
set_option linter.unusedSimpArgs false
namespace Go.Proofs.Ytofbbkacihnjdaa
open Go Go.E Go.Maps
set_option maxRecDepth 100000
theorem laid : laidOutB Try.prog = true := by kernel_rfl
theorem key86 : Keyed Try.prog 93 := Keyed.of_law (deep_law_laid laid (m := 3) (by omega) (of_decide_eq_true (by kernel_rfl)) (by kernel_rfl) (by kernel_rfl))
theorem key86' : Keyed Try.prog 93 = True := propext ⟨fun _ => trivial, fun _ => key86⟩
def fkS (s : Sd) : D := .agg s.v
def fvT (b : Bool) : D := .b b
def fkvS (s : Sd) : Value := .agg #[.int .i64 s.h, .int .i64 s.l, .int .i64 s.n.a, .int .i64 s.n.b, .int .i64 s.n.c, .int .i64 s.n.d, .int .i64 s.n.e]
theorem fkS_val (s : Sd) : (fkS s).val? = some (fkvS s) := by simp [fkS, fkvS, D.val?, D.vals?]
theorem fkvS_inj (a b : Sd) (h : fkvS a = fkvS b) : a = b := by
  simp [fkvS] at h
  obtain ⟨h1, h2, h3, h4, h5, h6, h7⟩ := h
  cases a; cases b; rename_i x _ _ y; cases x; cases y
  simp_all
def i64 (n : Int) : Prop := -9223372036854775808 ≤ n ∧ n ≤ 9223372036854775807
theorem i64_wf {a : Int} (ha : i64 a) : (Lit.int .i64 a).wf = true := by
  unfold i64 at ha
  simp [Lit.wf, IntKind.min, IntKind.max, IntKind.signed, IntKind.bits]; omega
noncomputable def fs86 : Array Field := match Try.prog.underlying 93 with | some (.struct fs) => fs | _ => #[]
theorem un86 : Try.prog.underlying 93 = some (.struct fs86) := by kernel_rfl
theorem fs86_l : (fs86.toList.map fun f => (f.name == "_", f.type, f.offset)) = [(false, 3, 0), (false, 3, 1), (false, 60, 2)] := by kernel_rfl
theorem keyOf86 {s : Sd} (h0 : i64 s.h) (h1 : i64 s.l) (h2 : i64 s.n.a) (h3 : i64 s.n.b) (h4 : i64 s.n.c) (h5 : i64 s.n.d) (h6 : i64 s.n.e) : (keyOf Try.prog 93 (fkvS s)).isSome = true := by
  have u3 : Try.prog.underlying 3 = some (.int .i64) := by kernel_rfl
  have u55 : Try.prog.underlying 60 = some (.array 5 3) := by kernel_rfl
  have c3 : Try.prog.cellsOf 3 = 1 := by kernel_rfl
  have c55 : Try.prog.cellsOf 60 = 5 := by kernel_rfl
  have c86 : Try.prog.cellsOf 93 = 7 := by kernel_rfl
  have kt : Try.prog.keyType 93 = true := by kernel_rfl
  obtain ⟨m, hm⟩ : ∃ s, Try.prog.types.size = s + 2 := ⟨Try.prog.types.size - 2, by kernel_rfl⟩
  obtain ⟨f0, f1, f2, hf, g0, g1, g2⟩ : ∃ f0 f1 f2, fs86.toList = [f0, f1, f2] ∧ (f0.name == "_", f0.type, f0.offset) = (false, 3, 0) ∧ (f1.name == "_", f1.type, f1.offset) = (false, 3, 1) ∧ (f2.name == "_", f2.type, f2.offset) = (false, 60, 2) := by
    have h := fs86_l
    rcases hl : fs86.toList with _ | ⟨f0, _ | ⟨f1, _ | ⟨f2, _ | ⟨f3, r⟩⟩⟩⟩ <;> rw [hl] at h
    · simp at h
    · simp at h
    · simp at h
    · simp only [List.map_cons, List.map_nil, List.cons.injEq, and_true] at h
      exact ⟨f0, f1, f2, rfl, h.1, h.2.1, h.2.2⟩
    · simp at h
  simp only [Prod.mk.injEq] at g0 g1 g2
  have w0 := i64_wf h0
  have w1 := i64_wf h1
  have w2 := i64_wf h2
  have w3 := i64_wf h3
  have w4 := i64_wf h4
  have w5 := i64_wf h5
  have w6 := i64_wf h6
  have k0 : ∀ d x, (Lit.int .i64 x).wf = true → Try.prog.keyLits (d + 1) 3 [.int .i64 x] = some [.int .i64 x] := fun d x hx => by
    simp [Program.keyLits, u3, hx]
  have k5 : ∀ d, Try.prog.keyLits (d + 2) 60 [.int .i64 s.n.a, .int .i64 s.n.b, .int .i64 s.n.c, .int .i64 s.n.d, .int .i64 s.n.e] = some [.int .i64 s.n.a, .int .i64 s.n.b, .int .i64 s.n.c, .int .i64 s.n.d, .int .i64 s.n.e] := fun d => by
    unfold Program.keyLits
    simp only [u55, c55, c3]
    simp [List.range, List.range.loop, k0 d _ w2, k0 d _ w3, k0 d _ w4, k0 d _ w5, k0 d _ w6]
  unfold keyOf
  simp only [un86]
  rw [if_pos (by simp [kt, Value.formed, un86, c86, fkvS]), hm]
  unfold Program.keyLits
  simp only [un86, Value.cells, fkvS]
  rw [if_pos (by rw [c86, ← Array.all_toList, hf]; simp [g0.1, g1.1, g2.1, bne]), hf, List.mapM_cons, List.mapM_cons, List.mapM_cons, List.mapM_nil]
  simp [g0.2.1, g0.2.2, g1.2.1, g1.2.2, g2.2.1, g2.2.2, c3, c55, k0 (m + 1) _ w0, k0 (m + 1) _ w1, k5 m]
theorem nd_le : ∀ (n : Nat) (x : List Nat), x.Nodup → (∀ i ∈ x, i < n) → x.length ≤ n
  | 0, x, _, h => by
    rcases x with _ | ⟨a, x⟩
    · simp
    · exact absurd (h a (by simp)) (by omega)
  | n + 1, x, hd, h => by
    have h1 : (x.erase n).Nodup := hd.erase n
    have h2 := nd_le n (x.erase n) h1 fun i hi => by
      have := (hd.mem_erase_iff).1 hi
      have := h i this.2
      omega
    have h3 := List.length_erase (a := n) (l := x)
    split at h3 <;> omega
theorem seen_lt {n i : Nat} {x : List Nat} (hd : x.Nodup) (h : ∀ i ∈ x, i < n) (hi : i < n) (hs : i ∉ x) : x.length < n ∧ (x ++ [i]).Nodup ∧ ∀ k ∈ x ++ [i], k < n := by
  have h1 : (i :: x).Nodup := List.nodup_cons.2 ⟨hs, hd⟩
  have h2 : ∀ k ∈ i :: x, k < n := fun k hk => by
    rcases List.mem_cons.1 hk with rfl | hk
    · exact hi
    · exact h k hk
  have h3 := nd_le _ _ h1 h2
  refine ⟨by rw [List.length_cons] at h3; omega, ?_, fun k hk => h2 k (by simpa [or_comm] using hk)⟩
  exact (List.perm_append_comm (l₁ := [i]) (l₂ := x)).nodup_iff.1 h1
def MR (R : Sd → Prop) (M : List (Sd × Bool)) : Prop := (M.map Prod.fst).Nodup ∧ ∀ T, (∃ v, (T, v) ∈ M) ↔ R T
theorem MR.put {R : Sd → Prop} {M M' : List (Sd × Bool)} {U : Sd} {v : Bool} (h : MR R M) (hn : (M'.map Prod.fst).Nodup) (hm : ∀ e w, (e, w) ∈ M' ↔ (e = U ∧ w = v) ∨ (e ≠ U ∧ (e, w) ∈ M)) : MR (fun T => R T ∨ T = U) M' := by
  refine ⟨hn, fun T => ?_⟩
  constructor
  · rintro ⟨w, hw⟩
    rcases (hm T w).1 hw with ⟨h1, _⟩ | ⟨_, h2⟩
    · exact .inr h1
    · exact .inl ((h.2 T).1 ⟨w, h2⟩)
  · rintro (h1 | h1)
    · by_cases c : T = U
      · exact ⟨v, (hm T v).2 (.inl ⟨c, rfl⟩)⟩
      · obtain ⟨w, hw⟩ := (h.2 T).2 h1
        exact ⟨w, (hm T w).2 (.inr ⟨c, hw⟩)⟩
    · exact ⟨v, (hm T v).2 (.inl ⟨h1, rfl⟩)⟩
theorem MR.congr {R R' : Sd → Prop} {M : List (Sd × Bool)} (h : MR R M) (hr : ∀ T, R T ↔ R' T) : MR R' M := ⟨h.1, fun T => (h.2 T).trans (hr T)⟩
theorem MR.at {R : Sd → Prop} {M : List (Sd × Bool)} (h : MR R M) {i : Nat} (hi : i < M.length) : R (M.getD i default).1 := by
  rw [at_lt hi]
  exact (h.2 _).1 ⟨M[i].2, List.getElem_mem _⟩
theorem kill_ents {α β : Type} {fk : α → D} {fv : β → D} {M : List (α × β)} {g : Nat} : (ents fk fv M).map (AV.kill g) = ents fk fv M := by simp [ents, List.map_map, Function.comp_def, AV.kill, AV.men]
theorem mencs_ents {α β : Type} {fk : α → D} {fv : β → D} {M : List (α × β)} {g : Nat} : AV.mencs g (ents fk fv M) = false := by
  unfold ents
  induction M with
  | nil => rfl
  | cons x M ih => simpa [AV.mencs, AV.menc] using ih
theorem mens_ents {α β : Type} {fk : α → D} {fv : β → D} {M : List (α × β)} {g : Nat} : AV.mens g (ents fk fv M) = false := by
  unfold ents
  induction M with
  | nil => rfl
  | cons x M ih => simpa [AV.mens, AV.men] using ih
def chB (t : Tt) (s : Sd) (g : Nat) : Bool := decide (erS t s (g : Int) = 0)
def stR (t : Tt) : Nat → Sd → Prop
  | 0 => fun s => s = bgS
  | k + 1 => fun u => ∃ s, stR t k s ∧ (u = nxS s (-1) ∨ ∃ g : Nat, g < t.groups.length ∧ chB t s g = true ∧ u = nxS s (g : Int))
def StB (k : Nat) (s : Sd) : Prop := s.h = (k : Int) ∧ (s.l = -1 ∨ (1 ≤ k ∧ 0 ≤ s.l ∧ s.l ≤ 4)) ∧ (0 ≤ s.n.a ∧ s.n.a ≤ k) ∧ (0 ≤ s.n.b ∧ s.n.b ≤ k) ∧ (0 ≤ s.n.c ∧ s.n.c ≤ k) ∧ (0 ≤ s.n.d ∧ s.n.d ≤ k) ∧ 0 ≤ s.n.e ∧ s.n.e ≤ k
theorem up_b {x : Cn} {g : Int} {k : Int} (h : (0 ≤ x.a ∧ x.a ≤ k) ∧ (0 ≤ x.b ∧ x.b ≤ k) ∧ (0 ≤ x.c ∧ x.c ≤ k) ∧ (0 ≤ x.d ∧ x.d ≤ k) ∧ 0 ≤ x.e ∧ x.e ≤ k) : (0 ≤ (x.up g).a ∧ (x.up g).a ≤ k + 1) ∧ (0 ≤ (x.up g).b ∧ (x.up g).b ≤ k + 1) ∧ (0 ≤ (x.up g).c ∧ (x.up g).c ≤ k + 1) ∧ (0 ≤ (x.up g).d ∧ (x.up g).d ≤ k + 1) ∧ 0 ≤ (x.up g).e ∧ (x.up g).e ≤ k + 1 := by
  unfold Cn.up
  repeat' split
  all_goals first | omega | (dsimp only; omega)
theorem stR_b {t : Tt} (h5 : t.groups.length ≤ 5) : ∀ k s, stR t k s → StB k s
  | 0, s, h => by
    have h : s = bgS := h
    subst h
    exact ⟨rfl, .inl rfl, by simp [bgS], by simp [bgS], by simp [bgS], by simp [bgS], by simp [bgS]⟩
  | k + 1, u, ⟨s, hs, h⟩ => by
    obtain ⟨h1, _, h3⟩ := stR_b h5 k s hs
    have key : ∀ g : Int, g = -1 ∨ (0 ≤ g ∧ g ≤ 4) → StB (k + 1) (nxS s g) := fun g hg => by
      have := up_b (g := g) h3
      refine ⟨?_, ?_, by exact_mod_cast this⟩
      · show s.h + 1 = _
        omega
      · show g = -1 ∨ _
        rcases hg with h | h
        · exact .inl h
        · exact .inr ⟨by omega, h⟩
    rcases h with rfl | ⟨g, hg, _, rfl⟩
    · exact key _ (.inl rfl)
    · exact key _ (.inr ⟨by omega, by omega⟩)
theorem StB.cn {k : Nat} {s : Sd} (h : StB k s) (hk : k ≤ 12) : CnB s.n := by
  unfold StB at h
  unfold CnB
  omega
theorem StB.key {k : Nat} {s : Sd} (h : StB k s) (hk : k ≤ 13) : (keyOf Try.prog 93 (fkvS s)).isSome = true := by
  unfold StB at h
  have i : ∀ x : Int, -1 ≤ x ∧ x ≤ 13 → i64 x := fun x hx => by unfold i64; omega
  exact keyOf86 (i _ (by omega)) (i _ (by omega)) (i _ (by omega)) (i _ (by omega)) (i _ (by omega)) (i _ (by omega)) (i _ (by omega))
theorem MR.ok {R : Sd → Prop} {M : List (Sd × Bool)} {k : Nat} (h : MR R M) (hk : k ≤ 13) (hR : ∀ s, R s → StB k s) : mapOk Try.prog 93 (ents fkS fvT M) := ents_ok' (fkv := fkvS) fkS_val fun p hp => (hR p.1 ((h.2 p.1).1 ⟨p.2, hp⟩)).key hk
def RN (t : Tt) (M : List (Sd × Bool)) (seen : List Nat) (i r : Nat) : Sd → Prop := fun u => (∃ j, j ∈ seen ∧ (u = nxS (M.getD j default).1 (-1) ∨ ∃ g : Nat, g < t.groups.length ∧ chB t (M.getD j default).1 g = true ∧ u = nxS (M.getD j default).1 (g : Int))) ∨ ∃ g : Nat, g < r ∧ chB t (M.getD i default).1 g = true ∧ u = nxS (M.getD i default).1 (g : Int)
theorem RN_yes {t : Tt} {M : List (Sd × Bool)} {seen : List Nat} {i r : Nat} {u : Sd} (h : chB t (M.getD i default).1 r = true) : RN t M seen i (r + 1) u ↔ RN t M seen i r u ∨ u = nxS (M.getD i default).1 (r : Int) := by
  unfold RN
  constructor
  · rintro (h1 | ⟨q, h1, h2, h3⟩)
    · exact .inl (.inl h1)
    · rcases Nat.lt_succ_iff_lt_or_eq.1 h1 with h4 | rfl
      · exact .inl (.inr ⟨q, h4, h2, h3⟩)
      · exact .inr h3
  · rintro ((h1 | ⟨q, h1, h2, h3⟩) | h1)
    · exact .inl h1
    · exact .inr ⟨q, by omega, h2, h3⟩
    · exact .inr ⟨r, by omega, h, h1⟩
theorem RN_no {t : Tt} {M : List (Sd × Bool)} {seen : List Nat} {i r : Nat} {u : Sd} (h : ¬ chB t (M.getD i default).1 r = true) : RN t M seen i (r + 1) u ↔ RN t M seen i r u := by
  unfold RN
  constructor
  · rintro (h1 | ⟨q, h1, h2, h3⟩)
    · exact .inl h1
    · rcases Nat.lt_succ_iff_lt_or_eq.1 h1 with h4 | rfl
      · exact .inr ⟨q, h4, h2, h3⟩
      · exact absurd h2 h
  · rintro (h1 | ⟨q, h1, h2, h3⟩)
    · exact .inl h1
    · exact .inr ⟨q, by omega, h2, h3⟩
theorem RN_next {t : Tt} {M : List (Sd × Bool)} {seen : List Nat} {i i' : Nat} {u : Sd} : (RN t M seen i t.groups.length u ∨ u = nxS (M.getD i default).1 (-1)) ↔ RN t M (seen ++ [i]) i' 0 u := by
  unfold RN
  constructor
  · rintro ((⟨j, h1, h2⟩ | ⟨q, h1, h2, h3⟩) | h)
    · exact .inl ⟨j, by simp [h1], h2⟩
    · exact .inl ⟨i, by simp, .inr ⟨q, h1, h2, h3⟩⟩
    · exact .inl ⟨i, by simp, .inl h⟩
  · rintro (⟨j, h1, h2⟩ | ⟨q, h1, _⟩)
    · rcases List.mem_append.1 h1 with h | h
      · exact .inl (.inl ⟨j, h, h2⟩)
      · simp at h; subst h
        rcases h2 with h2 | ⟨g, h3, h4, h5⟩
        · exact .inr h2
        · exact .inl (.inr ⟨g, h3, h4, h5⟩)
    · omega
theorem RN_zero {t : Tt} {M : List (Sd × Bool)} {seen : List Nat} {i j : Nat} {u : Sd} : RN t M seen i 0 u ↔ RN t M seen j 0 u := by
  unfold RN
  constructor
  · rintro (h | ⟨q, h1, _⟩)
    · exact .inl h
    · omega
  · rintro (h | ⟨q, h1, _⟩)
    · exact .inl h
    · omega
theorem RN_step {t : Tt} {k : Nat} {M : List (Sd × Bool)} (h : MR (stR t k) M) {seen : List Nat} {i : Nat} (hs : ∀ i ∈ seen, i < M.length) (ha : ∀ i, i < M.length → i ∈ seen) {u : Sd} : RN t M seen i 0 u ↔ stR t (k + 1) u := by
  unfold RN
  constructor
  · rintro (⟨j, h1, h2⟩ | ⟨q, h1, _⟩)
    · exact ⟨_, h.at (hs j h1), h2⟩
    · omega
  · rintro ⟨s, h1, h2⟩
    obtain ⟨v, hv⟩ := (h.2 s).2 h1
    obtain ⟨j, hj, e⟩ := List.getElem_of_mem hv
    exact .inl ⟨j, ha j hj, by rw [at_lt hj, e]; exact h2⟩
theorem RN_b {t : Tt} (h5 : t.groups.length ≤ 5) {k : Nat} {M : List (Sd × Bool)} (h : MR (stR t k) M) {seen : List Nat} {i r : Nat} (hs : ∀ i ∈ seen, i < M.length) (hi : i < M.length) (hr : r ≤ t.groups.length) {u : Sd} (hu : RN t M seen i r u) : StB (k + 1) u := by
  refine stR_b h5 (k + 1) u ?_
  rcases hu with ⟨j, h1, h2⟩ | ⟨q, h1, h2, h3⟩
  · exact ⟨_, h.at (hs j h1), h2⟩
  · exact ⟨_, h.at hi, .inr ⟨q, by omega, h2, h3⟩⟩
theorem kill_itc {g h n : Nat} (hg : h ≠ g) {x : List Nat} : (itc h n x).map (AV.kill g) = itc h n x := by simp [itc, AV.kill, AV.men, hg, Ne.symm hg]
theorem mencs_itc {g k n : Nat} {y : List Nat} : AV.mencs k (itc g n y) = false := by simp [itc, AV.mencs, AV.menc]
theorem wks (c : List AV) : wk c c = True := eq_true (wk_self c)
end Go.Proofs.Ytofbbkacihnjdaa
