/- A part of the proof that the last text ends: what functions of the program do, told by plain data. -/
import Derived.Test.YtapglfcaghlpfaaGreatZSM
set_option linter.unusedVariables false
set_option linter.unusedSimpArgs false
namespace Go.Proofs.YtapglfcaghlpfaaGreat
open Go Go.E Go.Maps
set_option maxRecDepth 100000
set_option maxHeartbeats 16000000
def insR (S : List Int) (x : Int) : Nat → List Int
  | 0 => x :: S
  | j + 1 => if x < S.getD j default then insR S x j else S.take (j + 1) ++ x :: S.drop (j + 1)
def isortN (l : List Int) : Nat → List Int
  | 0 => []
  | k + 1 => insR (isortN l k) (l.getD k default) k
def isort (l : List Int) : List Int := isortN l l.length
theorem insR_perm {S : List Int} {x : Int} : ∀ j, (insR S x j).Perm (x :: S)
  | 0 => .refl _
  | j + 1 => by
    unfold insR
    split
    · exact insR_perm j
    · exact List.perm_middle.trans (by rw [List.take_append_drop])
theorem insR_len {S : List Int} {x : Int} {j : Nat} : (insR S x j).length = S.length + 1 := by rw [(insR_perm j).length_eq]; rfl
theorem isortN_len {l : List Int} : ∀ k, (isortN l k).length = k
  | 0 => rfl
  | k + 1 => by unfold isortN; rw [insR_len, isortN_len k]
theorem isortN_perm {l : List Int} : ∀ k, k ≤ l.length → (isortN l k).Perm (l.take k)
  | 0, _ => by simp [isortN]
  | k + 1, h => by
    unfold isortN
    refine (insR_perm _).trans ?_
    rw [List.take_succ_eq_append_getElem (by omega), at_lt (by omega)]
    exact ((isortN_perm k (by omega)).cons _).trans (List.perm_append_singleton _ _).symm
theorem isort_perm {l : List Int} : (isort l).Perm l := by
  have := isortN_perm (l := l) l.length (Nat.le_refl _)
  rwa [List.take_length] at this
abbrev Srt (l : List Int) : Prop := l.Pairwise (· ≤ ·)
theorem insR_srt {S : List Int} {x : Int} (hS : Srt S) : ∀ j, j ≤ S.length → (∀ k, j ≤ k → k < S.length → x < S.getD k default) → Srt (insR S x j)
  | 0, _, h => by
    unfold insR
    refine List.pairwise_cons.2 ⟨fun y hy => ?_, hS⟩
    obtain ⟨k, hk, rfl⟩ := List.getElem_of_mem hy
    have := h k (by omega) hk
    rw [at_lt hk] at this; omega
  | j + 1, hj, h => by
    unfold insR
    split
    · rename_i hx
      refine insR_srt hS j (by omega) fun k h1 h2 => ?_
      rcases Nat.lt_or_ge j k with h3 | h3
      · exact h k h3 h2
      · obtain rfl : k = j := by omega
        exact hx
    · rename_i hx
      rw [at_lt (by omega)] at hx
      have hS' := hS
      rw [← List.take_append_drop (j + 1) S] at hS'
      obtain ⟨p1, p2, p3⟩ := List.pairwise_append.1 hS'
      refine List.pairwise_append.2 ⟨p1, List.pairwise_cons.2 ⟨fun y hy => ?_, p2⟩, fun a ha b hb => ?_⟩
      · obtain ⟨k, hk, rfl⟩ := List.getElem_of_mem hy
        rw [List.length_drop] at hk
        have := h (j + 1 + k) (by omega) (by omega)
        rw [at_lt (by omega)] at this
        rw [List.getElem_drop]; omega
      · have hax : a ≤ x := by
          obtain ⟨k, hk, rfl⟩ := List.getElem_of_mem ha
          rw [List.length_take] at hk
          rw [List.getElem_take]
          rcases Nat.lt_or_ge k j with h3 | h3
          · have := List.pairwise_iff_getElem.1 hS k j (by omega) (by omega) h3
            omega
          · obtain rfl : k = j := by omega
            omega
        rcases List.mem_cons.1 hb with rfl | hb
        · exact hax
        · exact p3 a ha b hb
theorem isortN_srt {l : List Int} : ∀ k, Srt (isortN l k)
  | 0 => by simp [isortN]
  | k + 1 => by
    unfold isortN
    exact insR_srt (isortN_srt k) k (by rw [isortN_len]; exact Nat.le_refl _) fun j h1 h2 => by rw [isortN_len] at h2; omega
theorem isort_srt {l : List Int} : Srt (isort l) := isortN_srt _
theorem isort_len {l : List Int} : (isort l).length = l.length := isortN_len _
def dat (S : List Int) (x : Int) (T : List Int) (j : Nat) : List Int := S.take j ++ x :: (S.drop j ++ T)
theorem dat_len {S T : List Int} {x : Int} {j : Nat} (h : j ≤ S.length) : (dat S x T j).length = S.length + 1 + T.length := by simp [dat]; omega
theorem dat_at {S T : List Int} {x : Int} {j : Nat} (h : j ≤ S.length) : (dat S x T j).getD j default = x := by
  have : (S.take j).length = j := by rw [List.length_take]; omega
  simp [dat, List.getD, List.getElem?_append, this]
theorem dat_prev {S T : List Int} {x : Int} {j : Nat} (h : j + 1 ≤ S.length) : (dat S x T (j + 1)).getD j default = S.getD j default := by
  have : (S.take (j + 1)).length = j + 1 := by rw [List.length_take]; omega
  rw [at_lt (show j < S.length by omega)]
  simp [dat, List.getD, List.getElem?_append, this, List.getElem?_take, List.getElem?_eq_getElem (show j < S.length by omega)]
theorem dat_swap {S T : List Int} {x : Int} {j : Nat} (h : j + 1 ≤ S.length) : ((dat S x T (j + 1)).set (j + 1) (S.getD j default)).set j x = dat S x T j := by
  have h1 : (S.take (j + 1)).length = j + 1 := by rw [List.length_take]; omega
  have h2 : (S.take j).length = j := by rw [List.length_take]; omega
  unfold dat
  rw [List.set_append_right _ _ (by omega), h1, Nat.sub_self, List.set_cons_zero, List.take_succ_eq_append_getElem (by omega), at_lt (by omega), List.append_assoc, List.set_append_right _ _ (by omega), h2, Nat.sub_self]
  rw [List.drop_eq_getElem_cons (show j < S.length by omega)]
  rfl
theorem dat_top {S T : List Int} {x : Int} {i : Nat} (h : S.length = i) : dat S x T i = S ++ x :: T := by
  subst h; simp [dat]
theorem insR_dat {S T : List Int} {x : Int} {j : Nat} (h : j = 0 ∨ ¬ x < S.getD (j - 1) default) : dat S x T j = insR S x j ++ T := by
  rcases j with _ | j
  · simp [dat, insR]
  · unfold insR
    rw [if_neg (by simpa using h)]
    simp [dat]
def O70 : Nat → Sch := fun id => .done
theorem ho70 : Tryz.f70.body.map (okO O70) = some true := by kernel_rfl
def Cf70 : Nat → List AV → (AV → List AV → Sto → Prop) → Kt → List AV → Sto → Prop := fun f args K Q e s => match f with
  | 53 => ent53 args K e s
  | _ => False
def Ct70 : CT := { f := Cf70, y := noYld, z := fun d => false }
theorem Ct70_ok : Ct70.ok Tryz.prog := ok_of_f (fun f args K Q e s h => by
  have h : Cf70 f args K Q e s := h
  unfold Cf70 at h; split at h
  · exact ent53_ok h
  · exact h.elim) (fun _ _ _ _ _ _ _ _ _ h => h)
theorem x70_53 {n : Int} {KK : AV → List AV → Sto → Prop} {QQ : Kt} {ii : At KK} {jj : At QQ} {ee : List AV} {ss : Sto} : xC Ct70 53 [.d (.i n)] KK QQ ii jj ee ss = (KK (.d (.b false)) ee ss) := eq53
theorem c70 : callable Tryz.prog 70 = true := by kernel_rfl
theorem pf70 (a b : Int) : PF Tryz.prog 70 [.i a, .i b] (fun zz => zz = .ret (.b (decide (a < b)))) := by
  refine PF_nil (PF_start (O := O70) Ct70_ok hmix ho70 Tryz.func70 c70 rfl Tryz.ntmps70 Tryz.results70 ?_)
  simp (maxSteps := 4000000) +contextual (disch := first | omega | exact qdb_ok (by kernel_rfl) | exact okb_ok (by kernel_rfl)) only [bw1,bw2,bw3,bw5,bw6,bw7,bc0,bc1,bc2,bc3,bc4,bc5,binIs,AV.outs,AV.outF,packD,↓reduceIte,Nat.reduceAdd,Nat.reduceSub,List.reduceReplicate,tfb,x70_53]
def lenN (n : Int) : Int := if n = 0 then 0 else if n = 1 then 1 else if n ≤ 3 then 2 else if n ≤ 7 then 3 else if n ≤ 15 then 4 else 5
def ent70 (args : List AV) (K : AV → List AV → Sto → Prop) (e : List AV) (s : Sto) : Prop := ent (α := (Int) × (Int)) (fun aa => [.i aa.1, .i aa.2]) (fun aa => True) (fun aa => .b (decide (aa.1 < aa.2))) args K e s
theorem ent70_ok {args : List AV} {K : AV → List AV → Sto → Prop} {Q : Kt} {e : List AV} {s : Sto} (h : ent70 args K e s) : pcall Tryz.prog 70 args K Q e s := ent_ok (fun aa h => pf70 aa.1 aa.2) h
theorem eq70 {a : Int} {b : Int} {KK : AV → List AV → Sto → Prop} {ee : List AV} {ss : Sto} : ent70 [.d (.i a), .d (.i b)] KK ee ss = (KK (.d (.b (decide (a < b)))) ee ss) := by
  unfold ent70; rw [ent_iff (a, b) (by intro b h; simpa [Prod.ext_iff, and_assoc, Int.ofNat_inj, ints_inj, cals_inj, pcs_inj, skas_inj, scos_inj, ska_inj, rul_inj, sco_inj, cal_inj] using h) rfl]; simp
def O74 : Nat → Sch := fun id => .done
theorem ho74 : Tryz.f74.body.map (okO O74) = some true := by kernel_rfl
def Cf74 : Nat → List AV → (AV → List AV → Sto → Prop) → Kt → List AV → Sto → Prop := fun f args K Q e s => match f with
  | _ => False
def Ct74 : CT := { f := Cf74, y := noYld, z := fun d => false }
theorem Ct74_ok : Ct74.ok Tryz.prog := ok_of_f (fun f args K Q e s h => by
  have h : Cf74 f args K Q e s := h
  unfold Cf74 at h; split at h
  · exact h.elim) (fun _ _ _ _ _ _ _ _ _ h => h)
theorem c74 : callable Tryz.prog 74 = true := by kernel_rfl
theorem pf74 (n : Int) (h : 0 ≤ n ∧ n ≤ 16) : PF Tryz.prog 74 [.v (.int .u64 n)] (fun zz => zz = .ret (.i (lenN n))) := by
  obtain ⟨h1, h2⟩ := h
  refine PF_nil (PF_start (O := O74) Ct74_ok hmix ho74 Tryz.func74 c74 rfl Tryz.ntmps74 Tryz.results74 ?_)
  have g1 : ¬ 256 ≤ n := by omega
  have g2 : ¬ 65536 ≤ n := by omega
  have g3 : ¬ 4294967296 ≤ n := by omega
  simp (maxSteps := 4000000) +contextual (disch := first | omega | exact qdb_ok (by kernel_rfl) | exact okb_ok (by kernel_rfl)) only [bw1,bw2,bw3,bw5,bw6,bw7,bc1,bc2,bc3,bc4,bc5,bc6,bc7,binIs,ps,pv,AV.outs,AV.outF,packD,↓reduceIte,Nat.reduceSub,List.reduceReplicate,tfb,g1, g2, g3]
  rcases (show n = 0 ∨ n = 1 ∨ n = 2 ∨ n = 3 ∨ n = 4 ∨ n = 5 ∨ n = 6 ∨ n = 7 ∨ n = 8 ∨ n = 9 ∨ n = 10 ∨ n = 11 ∨ n = 12 ∨ n = 13 ∨ n = 14 ∨ n = 15 ∨ n = 16 by omega) with rfl | rfl | rfl | rfl | rfl | rfl | rfl | rfl | rfl | rfl | rfl | rfl | rfl | rfl | rfl | rfl | rfl <;> exact ⟨⟨trivial, of_decide_eq_true (by kernel_rfl), of_decide_eq_true (by kernel_rfl)⟩, by kernel_rfl⟩
def ent74 (args : List AV) (K : AV → List AV → Sto → Prop) (e : List AV) (s : Sto) : Prop := ent (α := (Int)) (fun aa => [.v (.int .u64 aa)]) (fun aa => 0 ≤ aa ∧ aa ≤ 16) (fun aa => .i (lenN aa)) args K e s
theorem ent74_ok {args : List AV} {K : AV → List AV → Sto → Prop} {Q : Kt} {e : List AV} {s : Sto} (h : ent74 args K e s) : pcall Tryz.prog 74 args K Q e s := ent_ok (fun aa h => pf74 aa h) h
theorem eq74 {n : Int} {KK : AV → List AV → Sto → Prop} {ee : List AV} {ss : Sto} : ent74 [.d (.v (.int .u64 n))] KK ee ss = ((0 ≤ n ∧ n ≤ 16) ∧ KK (.d (.i (lenN n))) ee ss) := by
  unfold ent74; rw [ent_iff n (by intro b h; simpa [Prod.ext_iff, and_assoc, Int.ofNat_inj, ints_inj, cals_inj, pcs_inj, skas_inj, scos_inj, ska_inj, rul_inj, sco_inj, cal_inj] using h) rfl]; simp
def O40 : Nat → Sch := fun id => .done
theorem ho40 : Tryz.f40.body.map (okO O40) = some true := by kernel_rfl
def Cf40 : Nat → List AV → (AV → List AV → Sto → Prop) → Kt → List AV → Sto → Prop := fun f args K Q e s => match f with
  | 74 => ent74 args K e s
  | _ => False
def Ct40 : CT := { f := Cf40, y := noYld, z := fun d => false }
theorem Ct40_ok : Ct40.ok Tryz.prog := ok_of_f (fun f args K Q e s h => by
  have h : Cf40 f args K Q e s := h
  unfold Cf40 at h; split at h
  · exact ent74_ok h
  · exact h.elim) (fun _ _ _ _ _ _ _ _ _ h => h)
theorem x40_74 {n : Int} {KK : AV → List AV → Sto → Prop} {QQ : Kt} {ii : At KK} {jj : At QQ} {ee : List AV} {ss : Sto} : xC Ct40 74 [.d (.v (.int .u64 n))] KK QQ ii jj ee ss = ((0 ≤ n ∧ n ≤ 16) ∧ KK (.d (.i (lenN n))) ee ss) := eq74
theorem c40 : callable Tryz.prog 40 = true := by kernel_rfl
theorem pf40 (n : Int) (h : 0 ≤ n ∧ n ≤ 16) : PF Tryz.prog 40 [.v (.int .u64 n)] (fun zz => zz = .ret (.i (lenN n))) := by
  refine PF_nil (PF_start (O := O40) Ct40_ok hmix ho40 Tryz.func40 c40 rfl Tryz.ntmps40 Tryz.results40 ?_)
  simp (maxSteps := 4000000) +contextual (disch := first | omega | exact qdb_ok (by kernel_rfl) | exact okb_ok (by kernel_rfl)) only [bw1,bw2,bw3,bw5,bw6,bc2,bc3,bc4,bc5,AV.outs,AV.outF,packD,↓reduceIte,Nat.reduceSub,List.reduceReplicate,x40_74]
  exact h
def ent40 (args : List AV) (K : AV → List AV → Sto → Prop) (e : List AV) (s : Sto) : Prop := ent (α := (Int)) (fun aa => [.v (.int .u64 aa)]) (fun aa => 0 ≤ aa ∧ aa ≤ 16) (fun aa => .i (lenN aa)) args K e s
theorem ent40_ok {args : List AV} {K : AV → List AV → Sto → Prop} {Q : Kt} {e : List AV} {s : Sto} (h : ent40 args K e s) : pcall Tryz.prog 40 args K Q e s := ent_ok (fun aa h => pf40 aa h) h
theorem eq40 {n : Int} {KK : AV → List AV → Sto → Prop} {ee : List AV} {ss : Sto} : ent40 [.d (.v (.int .u64 n))] KK ee ss = ((0 ≤ n ∧ n ≤ 16) ∧ KK (.d (.i (lenN n))) ee ss) := by
  unfold ent40; rw [ent_iff n (by intro b h; simpa [Prod.ext_iff, and_assoc, Int.ofNat_inj, ints_inj, cals_inj, pcs_inj, skas_inj, scos_inj, ska_inj, rul_inj, sco_inj, cal_inj] using h) rfl]; simp
end Go.Proofs.YtapglfcaghlpfaaGreat
