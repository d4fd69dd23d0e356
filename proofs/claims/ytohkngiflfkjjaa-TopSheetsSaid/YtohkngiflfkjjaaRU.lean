/- A part of the proof that the last text ends: what functions of the program do, told by plain data. -/
import Derived.Test.YtohkngiflfkjjaaRT
set_option linter.unusedVariables false
set_option linter.unusedSimpArgs false
namespace Go.Proofs.Ytohkngiflfkjjaa
open Go Go.E
set_option maxRecDepth 100000
/-! ### Members stand by rising person -/
def Srt (l : List Mem) : Prop := l.Pairwise fun a b => a.person < b.person
theorem one_person {m : Mem} {x : Ev} : (oneR m x).1.person = m.person := by
  unfold oneR
  repeat' split
  all_goals rfl
theorem ins_srt {m : Mem} : ∀ {l : List Mem}, Srt l → (∀ a ∈ l, a.person ≠ m.person) → Srt (insM l m)
  | [], _, _ => by simp [insM, Srt]
  | a :: l, h, hn => by
    have h' := h
    unfold Srt at h
    rw [List.pairwise_cons] at h
    unfold insM
    by_cases c : a.person < m.person
    · rw [List.takeWhile_cons_of_pos (by simpa using c), List.dropWhile_cons_of_pos (by simpa using c)]
      have ih := ins_srt (m := m) (l := l) h.2 fun b hb => hn b (List.mem_cons_of_mem _ hb)
      show Srt (a :: insM l m)
      unfold Srt
      rw [List.pairwise_cons]
      refine ⟨fun b hb => ?_, ih⟩
      rcases mem_insM.1 hb with rfl | hb
      · exact c
      · exact h.1 b hb
    · rw [List.takeWhile_cons_of_neg (by simpa using c), List.dropWhile_cons_of_neg (by simpa using c)]
      have hne := hn a List.mem_cons_self
      have hma : m.person < a.person := by omega
      show Srt (m :: a :: l)
      unfold Srt
      rw [List.pairwise_cons]
      refine ⟨fun b hb => ?_, h'⟩
      rcases List.mem_cons.1 hb with rfl | hb
      · exact hma
      · have := h.1 b hb; omega
theorem srt_of_map {l l' : List Mem} (h : l'.map (·.person) = l.map (·.person)) (hs : Srt l) : Srt l' := by
  have key : ∀ k : List Mem, Srt k ↔ (k.map (·.person)).Pairwise (· < ·) := fun k => by unfold Srt; rw [List.pairwise_map]
  rw [key, h, ← key]; exact hs
theorem map_set {l : List Mem} {i : Nat} {v : Mem} (hi : i < l.length) (hv : v.person = (l.getD i default).person) : (l.set i v).map (·.person) = l.map (·.person) := by
  rw [List.map_set]
  apply List.ext_getElem?
  intro k
  rw [List.getElem?_set]
  split
  · rename_i e; subst e
    rw [List.length_map, if_pos hi, List.getElem?_map, List.getElem?_eq_getElem hi, hv, at_lt hi]; rfl
  · rfl
theorem doR_srt {s : St} {x : Ev} (h : Srt s.mem) (h0 : (doR s x).2 = 0) : Srt (doR s x).1.mem := by
  unfold doR at h0 ⊢
  split
  · rename_i k
    rw [if_pos k] at h0
    unfold finR at h0 ⊢
    split at h0
    · rename_i hz
      rw [if_pos hz]
      unfold joinR at hz ⊢
      split
      · rename_i c; rw [if_pos c] at hz; simp at hz
      · rename_i c
        rw [if_neg c] at hz
        split
        · rename_i c2; rw [if_pos c2] at hz; simp at hz
        · refine ins_srt h fun a ha => ?_
          rcases fnd_cases s.mem x.person with ⟨_, h2⟩ | ⟨j, _, h2, _⟩
          · exact h2 a ha
          · omega
    · rename_i hz; exact absurd h0 hz
  rename_i k
  rw [if_neg k] at h0
  split
  · rename_i k6
    rw [if_pos k6] at h0
    unfold finR at h0 ⊢
    split at h0
    · rename_i hz
      rw [if_pos hz]
      unfold matchR at hz ⊢
      split
      · rename_i c; rw [if_pos c] at hz; simp at hz
      · rename_i c
        rw [if_neg c] at hz
        split
        · rename_i c2; rw [if_pos c2] at hz; simp only at hz; omega
        · refine srt_of_map ?_ h
          simp only
          rw [List.map_map]
          exact List.map_congr_left fun m _ => gam_person
    · rename_i hz; exact absurd h0 hz
  rename_i k6
  rw [if_neg k6] at h0
  split
  · exact h
  rename_i c
  rw [if_neg c] at h0
  unfold finR at h0 ⊢
  split at h0
  · rename_i hz
    rw [if_pos hz]
    rcases fnd_cases s.mem x.person with ⟨h1, _⟩ | ⟨j, hj, h1, h2⟩
    · omega
    · rw [h1, Int.toNat_natCast]
      exact srt_of_map (map_set hj one_person) h
  · rename_i hz; exact absurd h0 hz
theorem runN_srt {l : List Ev} : ∀ (k i : Nat) (s : St), Srt s.mem → Srt (runN l k i s).1.mem
  | 0, i, s, h => h
  | k + 1, i, s, h => by
    unfold runN
    split
    · split
      · exact h
      · split
        · rename_i c; exact runN_srt k (i + 1) _ (doR_srt h c)
        · exact h
    · exact h
theorem runR_srt {l : List Ev} : Srt (runR l).1.mem := by
  unfold runR
  split
  · exact List.Pairwise.nil
  · exact runN_srt _ _ _ List.Pairwise.nil
/-- The keys in order are the members' persons. -/
theorem keys_srt {PM : PMem} {M1 M2 : PSet} {s : St} (hR : Rl PM M1 M2 s) (hs : Srt s.mem) : srtd (PM.map (·.1)) = s.mem.map (·.person) := by
  have e : PM.map (·.1) = (PM.map (·.2)).map (·.person) := by
    rw [List.map_map]
    exact List.map_congr_left fun p hp => hR.key p hp
  have hp : (s.mem.map (·.person)).Pairwise (· ≤ ·) := by
    rw [List.pairwise_map]
    exact hs.imp fun h => by omega
  refine List.Perm.eq_of_pairwise (le := (· ≤ ·)) (fun a b _ _ h1 h2 => by omega) (srtd_pw _) hp ((srtd_perm' _).trans ?_)
  rw [e]
  exact hR.perm.map _
/-- Who is the k-th. -/
theorem at_srt {PM : PMem} {M1 M2 : PSet} {s : St} (hR : Rl PM M1 M2 s) {k : Nat} (hk : k < s.mem.length) : ∃ a : Nat, PM[a]? = some ((s.mem.getD k default).person, s.mem.getD k default) ∧ ∀ (i' : Nat) (z : Int × Mem), PM[i']? = some z → z.1 = (s.mem.getD k default).person → i' = a := by
  have hmem : s.mem.getD k default ∈ s.mem := by rw [at_lt hk]; exact List.getElem_mem _
  rcases hR.look (s.mem.getD k default).person with ⟨h1, h2⟩ | ⟨a, j, m, h1, h2, h3, h4, h5, hm, h7⟩
  · rcases fnd_cases s.mem (s.mem.getD k default).person with ⟨_, h3⟩ | ⟨j, _, h3, _⟩
    · exact absurd rfl (h3 _ hmem)
    · omega
  · have : m = s.mem.getD k default := nd_eq hR.nd h3 hmem h2
    exact ⟨a, by rw [h1, this], h7⟩
end Go.Proofs.Ytohkngiflfkjjaa
