/- A part of the proof that the last text ends: what functions of the program do, told by plain data. -/
import Derived.Test.YtofbbkacihnjdaaIHR
set_option linter.unusedVariables false
set_option linter.unusedSimpArgs false
namespace Go.Proofs.Ytofbbkacihnjdaa
open Go Go.E Go.Maps
set_option maxRecDepth 100000
set_option maxHeartbeats 3000000
abbrev isF (t : Tt) (b : Cn) : Cn → Bool := fun c => decide (cmpC t c b = 0)
abbrev bestL (b : Cn) : List AV := [.i b.a, .i b.b, .i b.c, .i b.d, .i b.e]
abbrev stZ (t : Tt) (b : Cn) (M : List (Sd × Bool)) : Sto := [(5, [.ref 13 0]), (6, bestL b), (13, tC t), (16003, [.ref 13 0]), (16004, [.clo (.func 17) [] [.ref 5 0, .ref 6 0]]), (16006, [.mp 2000016009]), (16007, [.clo (.func 48) [] [.ref 16003 0, .ref 16004 0, .ref 16006 0, .ref 16007 0]]), (2000016009, ents fkS fvT M)]
abbrev TZ : List Nat := [5, 6, 13, 16003, 16004, 16006, 16007, 2000016009]
abbrev EZ : List AV := [.ref 5 0, .ref 6 0, .ref 13 0, .ref 16003 0, .ref 16004 0, .ref 16006 0, .ref 16007 0, .mp 2000016009]
abbrev argZ (s : Sd) : List AV := [.d (.agg s.v), .ref 16003 0, .ref 16004 0, .ref 16006 0, .ref 16007 0]
abbrev resZ (o : Option (List Int)) : AV := .tup [.d (.sl 1 ((o.getD []).map ic)), .b o.isSome]
def soundZ (t : Tt) (b : Cn) (M : List (Sd × Bool)) : Prop := ∀ p ∈ M, p.2 = true ∧ ∃ j, j ≤ t.hours.length ∧ StB j p.1 ∧ fnd t (isF t b) (t.hours.length - j) p.1 = none
theorem soundZ_ok {t : Tt} {b : Cn} (h12 : t.hours.length ≤ 12) {M : List (Sd × Bool)} (h : soundZ t b M) : mapOk Try.prog 93 (ents fkS fvT M) :=
  ents_ok' (fkv := fkvS) fkS_val fun p hp => by
    obtain ⟨_, j, h1, h2, _⟩ := h p hp
    exact h2.key (by omega)
def agree (s1 s2 : Sto) : List Nat → Prop
  | [] => True
  | g :: T => s1.get g = s2.get g ∧ agree s1 s2 T
theorem agree_get {s1 s2 : Sto} : ∀ {T : List Nat}, agree s1 s2 T → ∀ g ∈ T, s1.get g = s2.get g
  | _ :: _, h, g, hg => by
    rcases List.mem_cons.1 hg with rfl | hg
    · exact h.1
    · exact agree_get h.2 g hg
theorem mer_agree {T : List Nat} {s1 s2 : Sto} (h : agree s1 s2 T) : ∀ s : Sto, mer T s1 s = mer T s2 s
  | [] => rfl
  | (g, c) :: r => by
    unfold mer
    rw [mer_agree h r]
    by_cases hg : T.contains g = true
    · rw [if_pos hg, if_pos hg, agree_get h g (by simpa using hg)]
    · rw [if_neg hg, if_neg hg]
def othL (T : List Nat) (E : List AV) : Sto → Prop
  | [] => True
  | (g, c) :: r => (T.contains g = true ∨ AV.stays T E c) ∧ othL T E r
theorem othL_get {T : List Nat} {E : List AV} {g : Nat} {c : List AV} : ∀ {s : Sto}, othL T E s → s.get g = some c → T.contains g = false → AV.stays T E c
  | [], _, h, _ => by simp [Sto.get] at h
  | (k, x) :: r, ho, h, hg => by
    simp only [Sto.get] at h
    split at h
    · rename_i e; subst e; cases h
      rcases ho.1 with h' | h'
      · rw [hg] at h'; cases h'
      · exact h'
    · exact othL_get ho.2 h hg
theorem onlys_ents (M : List (Sd × Bool)) : ∀ T, AV.onlys T (ents fkS fvT M) = true := fun T => by
  unfold ents
  induction M with
  | nil => rfl
  | cons p M ih => simp [AV.onlys, AV.only, ih]
def Does (t : Tt) (b : Cn) (k : Nat) (s : Sd) (M : List (Sd × Bool)) : Prop :=
  pcall Try.prog 48 (argZ s) (fun r e1 s1 => e1 = EZ ∧ ∃ M', soundZ t b M' ∧ r = resZ (fnd t (isF t b) k s) ∧ agree s1 (stZ t b M') TZ) (fun x e1 s1 => e1 = EZ ∧ match x with | .panic _ => False | _ => False) EZ ((0, []) :: stZ t b M)
def sp48 (args : List AV) (K : AV → List AV → Sto → Prop) (e : List AV) (s : Sto) : Prop :=
  ∃ t b k u M, Does t b k u M ∧ args = argZ u ∧ FrameOk TZ EZ args (stZ t b M) e s ∧ ∀ M', soundZ t b M' → K (resZ (fnd t (isF t b) k u)) e (mer TZ (stZ t b M') s)
theorem sp48_ok {args : List AV} {K : AV → List AV → Sto → Prop} {Q : Kt} {e : List AV} {s : Sto} (hr : sp48 args K e s) : pcall Try.prog 48 args K Q e s := by
  obtain ⟨t, b, k, u, M, hD, rfl, hF, hK⟩ := hr
  refine pcall_frame (R := fun r s1 => ∃ M', soundZ t b M' ∧ r = resZ (fnd t (isF t b) k u) ∧ agree s1 (stZ t b M') TZ) (RQ := fun _ _ => False) hF hD ?_ (fun _ _ h => h.elim)
  rintro r s1 ⟨M', hM', rfl, hs⟩
  refine ⟨⟨rfl, fun g c hg hc => ?_⟩, by rw [mer_agree hs]; exact hK M' hM'⟩
  rw [agree_get hs g (by simpa using hg)] at hc
  simp only [Sto.get] at hc
  repeat' split at hc
  all_goals first | (cases hc; first | rfl | exact onlys_ents M' _) | (cases hc)
theorem frame63 {t : Tt} {b : Cn} {M : List (Sd × Bool)} {args e : List AV} {s : Sto} (h1 : AV.onlys TZ args = true) (h2 : (s.get 5 = some [.ref 13 0] ∧ s.get 6 = some (bestL b) ∧ s.get 13 = some (tC t) ∧ s.get 16003 = some [.ref 13 0] ∧ s.get 16004 = some [.clo (.func 17) [] [.ref 5 0, .ref 6 0]] ∧ s.get 16006 = some [.mp 2000016009] ∧ s.get 16007 = some [.clo (.func 48) [] [.ref 16003 0, .ref 16004 0, .ref 16006 0, .ref 16007 0]] ∧ s.get 2000016009 = some (ents fkS fvT M)) ∧ AV.stays TZ EZ e ∧ othL TZ EZ s) :
    FrameOk TZ EZ args (stZ t b M) e s where
  tags := by decide
  sub := fun g c hg => by
    obtain ⟨⟨q1, q2, q3, q4, q5, q6, q7, q8⟩, _⟩ := h2
    simp only [Sto.get] at hg
    split at hg
    · rename_i e; subst e; cases hg; exact ⟨rfl, q1, rfl⟩
    split at hg
    · rename_i e; subst e; cases hg; exact ⟨rfl, q2, rfl⟩
    split at hg
    · rename_i e; subst e; cases hg; exact ⟨rfl, q3, rfl⟩
    split at hg
    · rename_i e; subst e; cases hg; exact ⟨rfl, q4, rfl⟩
    split at hg
    · rename_i e; subst e; cases hg; exact ⟨rfl, q5, rfl⟩
    split at hg
    · rename_i e; subst e; cases hg; exact ⟨rfl, q6, rfl⟩
    split at hg
    · rename_i e; subst e; cases hg; exact ⟨rfl, q7, rfl⟩
    split at hg
    · rename_i e; subst e; cases hg; exact ⟨rfl, q8, onlys_ents M _⟩
    · cases hg
  args := h1
  eo := rfl
  av := fun x hx => by
    simp only [List.mem_cons, List.not_mem_nil, or_false] at hx
    rcases hx with rfl | rfl | rfl | rfl | rfl | rfl | rfl | rfl <;> exact .inr (.inr (by decide))
  slots := h2.2.1
  others := fun g c hg hT => othL_get h2.2.2 hg hT
mutual
def okZ : AV → Bool
  | .any => true
  | .d _ => true
  | .own g _ _ _ => !TZ.contains g
  | .eref g _ _ _ _ _ => !TZ.contains g
  | .ref g _ => g != 2000016009
  | .mp g => g == 2000016009 || !TZ.contains g
  | .it g => !TZ.contains g
  | .bx g _ _ => !TZ.contains g
  | .yld g _ _ _ _ => !TZ.contains g
  | .tup xs => okZs xs
  | .agg xs => okZs xs
  | .clo _ x y => okZs x && okZs y
  | .iface _ x => okZ x
def okZs : List AV → Bool
  | [] => true
  | x :: xs => okZ x && okZs xs
end
theorem nc {g : Nat} (h : (!TZ.contains g) = true) : TZ.contains g = false := by simpa using h
theorem ref_in {g : Nat} (h : (g != 2000016009) = true) : TZ.contains g = false ∨ AV.ref g 0 ∈ EZ := by
  by_cases hc : TZ.contains g = true
  · have hm : g ∈ TZ := by simpa using hc
    simp only [List.mem_cons, List.not_mem_nil, or_false] at hm
    rcases hm with rfl | rfl | rfl | rfl | rfl | rfl | rfl | rfl
    all_goals first | exact absurd h (by decide) | (right; simp [EZ])
  · exact .inl (by simpa using hc)
mutual
theorem okZ_stay : ∀ x : AV, okZ x = true → AV.stay TZ EZ x
  | .any, _ => trivial
  | .d _, _ => trivial
  | .own g _ _ _, h => .inl (nc h)
  | .eref g _ _ _ _ _, h => .inl (nc h)
  | .ref g _, h => ref_in h
  | .mp g, h => by
    simp only [okZ, Bool.or_eq_true] at h
    rcases h with h | h
    · rw [eq_of_beq h]; exact .inr (by simp [EZ])
    · exact .inl (nc h)
  | .it g, h => .inl (nc h)
  | .bx g _ _, h => .inl (nc h)
  | .yld g _ _ _ _, h => nc h
  | .tup xs, h => okZs_stay xs h
  | .agg xs, h => okZs_stay xs h
  | .clo _ x y, h => by
    simp only [okZ, Bool.and_eq_true] at h
    exact ⟨okZs_stay x h.1, okZs_stay y h.2⟩
  | .iface _ x, h => okZ_stay x h
theorem okZs_stay : ∀ xs : List AV, okZs xs = true → AV.stays TZ EZ xs
  | [], _ => trivial
  | x :: xs, h => by
    simp only [okZs, Bool.and_eq_true] at h
    exact ⟨okZ_stay x h.1, okZs_stay xs h.2⟩
end
def okO2 : Sto → Bool
  | [] => true
  | (g, c) :: r => (TZ.contains g || okZs c) && okO2 r
theorem okO2_oth : ∀ {s : Sto}, okO2 s = true → othL TZ EZ s
  | [], _ => trivial
  | (g, c) :: r, h => by
    simp only [okO2, Bool.and_eq_true, Bool.or_eq_true] at h
    refine ⟨?_, okO2_oth h.2⟩
    rcases h.1 with h1 | h1
    · exact .inl h1
    · exact .inr (okZs_stay c h1)
def O48 : Nat → Sch := fun id => if id = 1 then .one 0 (.one 1 (.one 2 (.one 3 (.one 4 (.one 5 (.one 6 (.one 7 (.one 8 (.done))))))))) else if id = 7 then .one 1 (.one 2 (.alt (.one 0 (.one 3 (.one 4 (.one 5 (.one 6 (.one 7 (.one 8 (.one 9 (.done))))))))) (.one 3 (.one 0 (.one 4 (.one 5 (.one 6 (.one 7 (.one 8 (.one 9 (.done))))))))))) else .done
theorem O48_1 : O48 1 = .one 0 (.one 1 (.one 2 (.one 3 (.one 4 (.one 5 (.one 6 (.one 7 (.one 8 (.done))))))))) := rfl
theorem O48_7 : O48 7 = .one 1 (.one 2 (.alt (.one 0 (.one 3 (.one 4 (.one 5 (.one 6 (.one 7 (.one 8 (.one 9 (.done))))))))) (.one 3 (.one 0 (.one 4 (.one 5 (.one 6 (.one 7 (.one 8 (.one 9 (.done))))))))))) := rfl
theorem ho48 : Try.f48.body.map (okO O48) = some true := by kernel_rfl
def Cf48o : Nat → List AV → (AV → List AV → Sto → Prop) → Kt → List AV → Sto → Prop := fun f args K Q e s => match f with
  | 17 => ent17 (AV.outs s args) K (mk _) e s
  | 41 => inlE Try.prog Ct41 O41 41000 41 args K Q e s
  | 42 => ent42 args K e s
  | 48 => sp48 args K e s
  | _ => False
def Ct48o : CT := { f := Cf48o, y := noYld, z := fun d => false }
theorem ctz48o {d : Nat} : CT.z Ct48o d = (false) := id rfl
theorem Ct48o_ok : Ct48o.ok Try.prog := ok_of_f (fun f args K Q e s h => by
  have h : Cf48o f args K Q e s := h
  unfold Cf48o at h; split at h
  · exact ent17_ok h
  · exact inlE_ok Ct41_ok hmix ho41 h
  · exact ent42_ok h
  · exact sp48_ok h
  · exact h.elim) (fun _ _ _ _ _ _ _ _ _ h => h)
def Yd48 : Nat → List Nat → Code → Code → List AV → (AV → List AV → Sto → Prop) → Kt → List AV → Sto → Prop := fun G ps asg bdy => if G / 1000 = 1000048 then yldE Try.prog Ct48o O48 48000 G ps asg bdy else fun _ _ _ _ _ => False
def Cy48_57 : CT := { f := Cf57, y := Yd48 }
theorem ctzy48_57 {d : Nat} : CT.z Cy48_57 d = false := id rfl
theorem Cy48_57_ok : Cy48_57.ok Try.prog := ⟨Ct57_ok.f, fun g ps asg bdy args K Q e s h => by
  have h : Yd48 g ps asg bdy args K Q e s := h
  unfold Yd48 at h; split at h
  · exact yldE_ok Ct48o_ok hmix h
  · exact h.elim⟩
def Cf48 : Nat → List AV → (AV → List AV → Sto → Prop) → Kt → List AV → Sto → Prop := fun f args K Q e s => match f with
  | 17 => ent17 (AV.outs s args) K (mk _) e s
  | 41 => inlE Try.prog Ct41 O41 41000 41 args K Q e s
  | 42 => ent42 args K e s
  | 48 => sp48 args K e s
  | 57 => inlE Try.prog Cy48_57 O57 57000 57 args K Q e s
  | _ => False
def Ct48 : CT := { f := Cf48, y := noYld, z := fun d => false }
theorem ctz48 {d : Nat} : CT.z Ct48 d = (false) := id rfl
theorem Ct48_ok : Ct48.ok Try.prog := ok_of_f (fun f args K Q e s h => by
  have h : Cf48 f args K Q e s := h
  unfold Cf48 at h; split at h
  · exact ent17_ok h
  · exact inlE_ok Ct41_ok hmix ho41 h
  · exact ent42_ok h
  · exact sp48_ok h
  · exact inlE_ok Cy48_57_ok hmix ho57 h
  · exact h.elim) (fun _ _ _ _ _ _ _ _ _ h => h)
theorem z48_57 : type_of% (@xinl Try.prog Ct48 Cy48_57 O57 57000 57 _ _ _ _ rfl c57 Try.func57 rfl Try.ntmps57 Try.results57) := @xinl Try.prog Ct48 Cy48_57 O57 57000 57 _ _ _ _ rfl c57 Try.func57 rfl Try.ntmps57 Try.results57
theorem cy48_57 {n : Nat} {args : List AV} {K : AV → List AV → Sto → Prop} {Q : Kt} {i : At K} {j : At Q} {e : List AV} {s : Sto} : xC Cy48_57 n args K Q i j e s = xC Ct57 n args K Q i j e s := id rfl
theorem yy48_57_30 : type_of% (fun ps asg bdy => @xyld Try.prog Cy48_57 Ct48o O48 48000 1000048030 Yd48 rfl ps asg bdy (if_pos (by omega))) := fun ps asg bdy => @xyld Try.prog Cy48_57 Ct48o O48 48000 1000048030 Yd48 rfl ps asg bdy (if_pos (by omega))
theorem x48_17 {args : List AV} {KK : AV → List AV → Sto → Prop} {QQ : Kt} {ii : At KK} {jj : At QQ} {ee : List AV} {ss : Sto} : xC Ct48 17 args KK QQ ii jj ee ss = ent17 (AV.outs ss args) KK (mk _) ee ss := id rfl
theorem x48_42 {s : Sd} {g : Int} {KK : AV → List AV → Sto → Prop} {QQ : Kt} {ii : At KK} {jj : At QQ} {ee : List AV} {ss : Sto} : xC Ct48 42 [.d (.agg s.v), .d (.i g)] KK QQ ii jj ee ss = (((-1 ≤ g ∧ g ≤ 4) ∧ (0 ≤ s.h ∧ s.h ≤ 1000) ∧ CnB s.n) ∧ KK (.d (.agg (nxS s g).v)) ee ss) := eq42
theorem z48_41 : type_of% (@xinl Try.prog Ct48 Ct41 O41 41000 41 _ _ _ _ rfl c41 Try.func41 rfl Try.ntmps41 Try.results41) := @xinl Try.prog Ct48 Ct41 O41 41000 41 _ _ _ _ rfl c41 Try.func41 rfl Try.ntmps41 Try.results41
theorem x48o_17 {args : List AV} {KK : AV → List AV → Sto → Prop} {QQ : Kt} {ii : At KK} {jj : At QQ} {ee : List AV} {ss : Sto} : xC Ct48o 17 args KK QQ ii jj ee ss = ent17 (AV.outs ss args) KK (mk _) ee ss := id rfl
theorem x48o_42 {s : Sd} {g : Int} {KK : AV → List AV → Sto → Prop} {QQ : Kt} {ii : At KK} {jj : At QQ} {ee : List AV} {ss : Sto} : xC Ct48o 42 [.d (.agg s.v), .d (.i g)] KK QQ ii jj ee ss = (((-1 ≤ g ∧ g ≤ 4) ∧ (0 ≤ s.h ∧ s.h ≤ 1000) ∧ CnB s.n) ∧ KK (.d (.agg (nxS s g).v)) ee ss) := eq42
theorem z48o_41 : type_of% (@xinl Try.prog Ct48o Ct41 O41 41000 41 _ _ _ _ rfl c41 Try.func41 rfl Try.ntmps41 Try.results41) := @xinl Try.prog Ct48o Ct41 O41 41000 41 _ _ _ _ rfl c41 Try.func41 rfl Try.ntmps41 Try.results41
theorem c48 : callable Try.prog 48 = true := by kernel_rfl
theorem fnd_lenD {t : Tt} {is : Cn → Bool} {n : Nat} {s : Sd} : ((fnd t is n s).getD []).length ≤ n := by
  cases h : fnd t is n s with
  | none => exact Nat.zero_le _
  | some p => exact Nat.le_of_eq (fnd_len n s p h)
theorem fnd_succ {t : Tt} {is : Cn → Bool} {n : Nat} {s : Sd} : fnd t is (n + 1) s = (match fsN t (fnd t is n) s t.groups.length with
    | some p => some p
    | none => (fnd t is n (nxS s (-1))).map fun p => (-1 : Int) :: p) := by rw [fnd]; cases fsN t (fnd t is n) s t.groups.length <;> rfl
theorem res_some {o : Option (List Int)} {g : Int} {p : List Int} (h : o = some (g :: p)) : AV.tup [AV.d (D.sl 1 ([D.v (Value.int IntKind.i64 g)] :: List.map ic p)), AV.d (D.v (Value.bool true))] = resZ o := by subst h; rfl
theorem fnd_grp {t : Tt} {is : Cn → Bool} {k r : Nat} {s : Sd} (hr : r < t.groups.length) (hfs : fsN t (fnd t is k) s r = none) (hc : chB t s r = true) (hf : (fnd t is k (nxS s (r : Int))).isSome = true) : fnd t is (k + 1) s = some ((r : Int) :: (fnd t is k (nxS s (r : Int))).getD []) := by
  obtain ⟨p, hp⟩ := Option.isSome_iff_exists.1 hf
  have h1 := fsN_yes hfs hc
  rw [hp] at h1
  have h2 := fsN_up h1 t.groups.length (by omega)
  rw [hp, fnd_succ, h2]; rfl
theorem fsN_grp {t : Tt} {is : Cn → Bool} {k r : Nat} {s : Sd} (hfs : fsN t (fnd t is k) s r = none) (hc : chB t s r = true) (hf : (fnd t is k (nxS s (r : Int))).isSome = false) : fsN t (fnd t is k) s (r + 1) = none := by
  rw [fsN_yes hfs hc, show fnd t is k (nxS s (r : Int)) = none from by simpa using hf]; rfl
theorem fnd_end {t : Tt} {is : Cn → Bool} {k : Nat} {s : Sd} (hfs : fsN t (fnd t is k) s t.groups.length = none) (hf : (fnd t is k (nxS s (-1))).isSome = true) : fnd t is (k + 1) s = some (-1 :: (fnd t is k (nxS s (-1))).getD []) := by
  obtain ⟨p, hp⟩ := Option.isSome_iff_exists.1 hf
  rw [fnd_succ, hfs, hp]; rfl
theorem fnd_no {t : Tt} {is : Cn → Bool} {k : Nat} {s : Sd} (hfs : fsN t (fnd t is k) s t.groups.length = none) (hf : (fnd t is k (nxS s (-1))).isSome = false) : fnd t is (k + 1) s = none := by
  rw [fnd_succ, hfs, show fnd t is k (nxS s (-1)) = none from by simpa using hf]; rfl
theorem nxS_B {t : Tt} {k : Nat} {s : Sd} {g : Int} (h : StB (t.hours.length - (k + 1)) s) (hk : k + 1 ≤ t.hours.length) (hg : g = -1 ∨ (0 ≤ g ∧ g ≤ 4)) : StB (t.hours.length - k) (nxS s g) := by
  obtain ⟨h1, _, h3⟩ := h
  have := up_b (g := g) h3
  rw [show t.hours.length - k = t.hours.length - (k + 1) + 1 by omega]
  refine ⟨?_, ?_, by exact_mod_cast this⟩
  · show s.h + 1 = _
    omega
  · show g = -1 ∨ _
    rcases hg with h | h
    · exact .inl h
    · exact .inr ⟨by omega, h⟩
theorem ents_frz {M : List (Sd × Bool)} {g el sz : Nat} : (ents fkS fvT M).map (AV.frz g el sz) = ents fkS fvT M := by simp [ents, List.map_map, Function.comp_def, AV.frz, AV.men]
theorem zbase {t : Tt} (ht : ttOk t = true) {b : Cn} (hb : CnB b) {s : Sd} (hs : StB t.hours.length s) {M : List (Sd × Bool)} (hM : soundZ t b M) : Does t b 0 s M := by
  have h12 := tt_hours ht
  refine pcall_fzT (k := 48042) 3 1 (by decide) ?_
  refine pcall_start (C := Ct48) (O := O48) (tb := 48000) Ct48_ok hmix ho48 Try.func48 c48 rfl Try.ntmps48 Try.results48 ?_
  have hsh : s.h = (t.hours.length : Int) := hs.1
  have hcn := hs.cn (by omega)
  simp (maxSteps := 4000000) +contextual (disch := first | omega | exact qdb_ok (by kernel_rfl) | exact okb_ok (by kernel_rfl)) only [bw1,bw2,bw3,bw4,bw5,bw6,bw7,bc0,bc1,bc2,bc3,bc4,bc5,bc6,bc7,bb0,setPs,AV.owns,AV.datF,AV.frz,AV.cpy,ifV,isEqB,nilV,nilX,AV.isNilS,AV.isNoRows,wk,dclo,datOf,binIs,addF,AV.isPtr,idxV,AV.isSl,AV.isSlice,AV.rows,ps,pv,extV,extS,AV.outs,AV.outF,packD,AV.dl,fieldV,fieldS,AV.cells?,AV.upr,AV.menc,AV.one,D.one,Value.oneCell',tagOf,AV.isApp,strV,strS,bolV,bolS,slcV,AV.isSlD,asrtS,AV.dcells,D.cells?,stcV,stcS,leafOk,eqDs,eqD,packA,D.val?,↓reduceIte,reduceCtorEq,Nat.reduceAdd,Nat.reduceSub,Nat.reduceMul,List.reduceReplicate,Nat.reduceLeDiff,Nat.reduceLT,Nat.reduceBEq,Nat.reduceEqDiff,Int.reduceNeg,Int.reduceEq,Int.reduceLE,Int.reduceLT,tfb,D.flat,D.flats,n_seq,k_range,k_next,k_entry,p_range,rg_mp,rg_some,p_next,p_entry,en_it,en_at,en_ents,k_insert,p_insert,in_mp,ctz48,O48_1,O48_7,x48_17,eq17,x48_42,z48_41,ctz41,x48o_17,x48o_42,z48o_41,z48_57,cy48_57,ctzy48_57,ctz48o,yy48_57_30,ctz57,x57_58,eq58,hsh, ht, hb, hcn, kill_ents, mencs_ents, AV.tz, AV.nz, Sto.frz, AV.frz, ents_frz]
  refine ⟨M, hM, ?_, ⟨rfl, rfl, rfl, rfl, rfl, rfl, rfl, rfl, trivial⟩⟩
  show _ = resZ (if decide (cmpC t s.n b = 0) = true then some [] else none)
  by_cases c0 : cmpC t s.n b = 0
  · rw [decide_eq_true c0]; rfl
  · rw [decide_eq_false c0]; rfl
theorem call63 {t : Tt} {b : Cn} {k : Nat} {u : Sd} {M : List (Sd × Bool)} (hD : Does t b k u M) {args e : List AV} {s : Sto} {K : AV → List AV → Sto → Prop} (ha : args = argZ u)
    (h2 : (s.get 5 = some [.ref 13 0] ∧ s.get 6 = some (bestL b) ∧ s.get 13 = some (tC t) ∧ s.get 16003 = some [.ref 13 0] ∧ s.get 16004 = some [.clo (.func 17) [] [.ref 5 0, .ref 6 0]] ∧ s.get 16006 = some [.mp 2000016009] ∧ s.get 16007 = some [.clo (.func 48) [] [.ref 16003 0, .ref 16004 0, .ref 16006 0, .ref 16007 0]] ∧ s.get 2000016009 = some (ents fkS fvT M)) ∧ AV.stays TZ EZ e ∧ othL TZ EZ s)
    (hK : ∀ M', soundZ t b M' → K (resZ (fnd t (isF t b) k u)) e (mer TZ (stZ t b M') s)) : sp48 args K e s := by
  subst ha
  exact ⟨t, b, k, u, M, hD, rfl, frame63 rfl h2, hK⟩
theorem call63o {t : Tt} {b : Cn} {k : Nat} {u : Sd} {M : List (Sd × Bool)} (hD : Does t b k u M) {args e : List AV} {s : Sto} {K : AV → List AV → Sto → Prop} {Q : Kt} {i : At K} {j : At Q} (ha : args = argZ u)
    (h2 : (s.get 5 = some [.ref 13 0] ∧ s.get 6 = some (bestL b) ∧ s.get 13 = some (tC t) ∧ s.get 16003 = some [.ref 13 0] ∧ s.get 16004 = some [.clo (.func 17) [] [.ref 5 0, .ref 6 0]] ∧ s.get 16006 = some [.mp 2000016009] ∧ s.get 16007 = some [.clo (.func 48) [] [.ref 16003 0, .ref 16004 0, .ref 16006 0, .ref 16007 0]] ∧ s.get 2000016009 = some (ents fkS fvT M)) ∧ AV.stays TZ EZ e ∧ othL TZ EZ s)
    (hK : ∀ M', soundZ t b M' → K (resZ (fnd t (isF t b) k u)) e (mer TZ (stZ t b M') s)) : xC Ct48o 48 args K Q i j e s := call63 hD ha h2 hK
theorem zstep {t : Tt} (ht : ttOk t = true) {b : Cn} (hb : CnB b) {k : Nat} (hk : k + 1 ≤ t.hours.length) (ih : ∀ u M, StB (t.hours.length - k) u → soundZ t b M → Does t b k u M) {s : Sd} (hs : StB (t.hours.length - (k + 1)) s) {M : List (Sd × Bool)} (hM : soundZ t b M) : Does t b (k + 1) s M := by
  have h12 := tt_hours ht
  refine pcall_fzT (k := 48042) 3 1 (by decide) ?_
  refine pcall_start (C := Ct48) (O := O48) (tb := 48000) Ct48_ok hmix ho48 Try.func48 c48 rfl Try.ntmps48 Try.results48 ?_
  have hsh : s.h = ((t.hours.length - (k + 1) : Nat) : Int) := hs.1
  have hcn := hs.cn (by omega)
  have hne : ¬ s.h = (t.hours.length : Int) := by omega
  have hneb : (s.h == (t.hours.length : Int)) = false := by simpa using hne
  have hmo := soundZ_ok h12.1 hM
  have hky := hs.key (by omega)
  simp (maxSteps := 4000000) +contextual (disch := first | omega | exact qdb_ok (by kernel_rfl) | exact okb_ok (by kernel_rfl)) only [bw1,bw2,bw3,bw4,bw5,bw6,bw7,bc0,bc1,bc2,bc3,bc4,bc5,bc6,bc7,bb0,setPs,AV.owns,AV.datF,AV.frz,AV.cpy,ifV,isEqB,nilV,nilX,AV.isNilS,AV.isNoRows,wk,dclo,datOf,binIs,addF,AV.isPtr,idxV,AV.isSl,AV.isSlice,AV.rows,ps,pv,extV,extS,AV.outs,AV.outF,packD,AV.dl,fieldV,fieldS,AV.cells?,AV.upr,AV.menc,AV.one,D.one,Value.oneCell',tagOf,AV.isApp,strV,strS,bolV,bolS,slcV,AV.isSlD,asrtS,AV.dcells,D.cells?,stcV,stcS,leafOk,eqDs,eqD,packA,D.val?,↓reduceIte,reduceCtorEq,Nat.reduceAdd,Nat.reduceSub,Nat.reduceMul,List.reduceReplicate,Nat.reduceLeDiff,Nat.reduceLT,Nat.reduceBEq,Nat.reduceEqDiff,Int.reduceNeg,Int.reduceEq,Int.reduceLE,Int.reduceLT,tfb,D.flat,D.flats,n_seq,k_range,k_next,k_entry,p_range,rg_mp,rg_some,p_next,p_entry,en_it,en_at,en_ents,k_insert,p_insert,in_mp,ctz48,O48_1,O48_7,x48_17,eq17,x48_42,z48_41,ctz41,x48o_17,x48o_42,z48o_41,z48_57,cy48_57,ctzy48_57,ctz48o,yy48_57_30,ctz57,x57_58,eq58,hne, hneb, ht, kill_ents, mencs_ents, AV.tz, AV.nz, Sto.frz, AV.frz, ents_frz, hmo, hky, key86']
  refine ⟨hky, ?_⟩
  refine xLk_ents (k := s) fkS_val fkvS_inj (fun v hv => ?_) (fun hno => ?_)
  · obtain ⟨hv1, j, hj, hjB, hjn⟩ := hM _ hv
    have hv1 : v = true := hv1
    subst v
    simp (maxSteps := 4000000) +contextual (disch := first | omega | exact qdb_ok (by kernel_rfl) | exact okb_ok (by kernel_rfl)) only [bw1,bw2,bw3,bw4,bw5,bw6,bw7,bc0,bc1,bc2,bc3,bc4,bc5,bc6,bc7,bb0,setPs,AV.owns,AV.datF,AV.frz,AV.cpy,ifV,isEqB,nilV,nilX,AV.isNilS,AV.isNoRows,wk,dclo,datOf,binIs,addF,AV.isPtr,idxV,AV.isSl,AV.isSlice,AV.rows,ps,pv,extV,extS,AV.outs,AV.outF,packD,AV.dl,fieldV,fieldS,AV.cells?,AV.upr,AV.menc,AV.one,D.one,Value.oneCell',tagOf,AV.isApp,strV,strS,bolV,bolS,slcV,AV.isSlD,asrtS,AV.dcells,D.cells?,stcV,stcS,leafOk,eqDs,eqD,packA,D.val?,↓reduceIte,reduceCtorEq,Nat.reduceAdd,Nat.reduceSub,Nat.reduceMul,List.reduceReplicate,Nat.reduceLeDiff,Nat.reduceLT,Nat.reduceBEq,Nat.reduceEqDiff,Int.reduceNeg,Int.reduceEq,Int.reduceLE,Int.reduceLT,tfb,D.flat,D.flats,n_seq,k_range,k_next,k_entry,p_range,rg_mp,rg_some,p_next,p_entry,en_it,en_at,en_ents,k_insert,p_insert,in_mp,ctz48,O48_1,O48_7,x48_17,eq17,x48_42,z48_41,ctz41,x48o_17,x48o_42,z48o_41,z48_57,cy48_57,ctzy48_57,ctz48o,yy48_57_30,ctz57,x57_58,eq58,kill_ents, mencs_ents, AV.tz, AV.nz, Sto.frz, AV.frz, ents_frz, fvT]
    refine ⟨M, hM, ?_, ⟨rfl, rfl, rfl, rfl, rfl, rfl, rfl, rfl, trivial⟩⟩
    have hj0 : s.h = (j : Int) := hjB.1
    have e : t.hours.length - j = k + 1 := by omega
    rw [e] at hjn
    have hjn : fnd t (isF t b) (k + 1) s = none := hjn
    rw [hjn]; rfl
  simp (maxSteps := 4000000) +contextual (disch := first | omega | exact qdb_ok (by kernel_rfl) | exact okb_ok (by kernel_rfl)) only [bw1,bw2,bw3,bw4,bw5,bw6,bw7,bc0,bc1,bc2,bc3,bc4,bc5,bc6,bc7,bb0,setPs,AV.owns,AV.datF,AV.frz,AV.cpy,ifV,isEqB,nilV,nilX,AV.isNilS,AV.isNoRows,wk,dclo,datOf,binIs,addF,AV.isPtr,idxV,AV.isSl,AV.isSlice,AV.rows,ps,pv,extV,extS,AV.outs,AV.outF,packD,AV.dl,fieldV,fieldS,AV.cells?,AV.upr,AV.menc,AV.one,D.one,Value.oneCell',tagOf,AV.isApp,strV,strS,bolV,bolS,slcV,AV.isSlD,asrtS,AV.dcells,D.cells?,stcV,stcS,leafOk,eqDs,eqD,packA,D.val?,↓reduceIte,reduceCtorEq,Nat.reduceAdd,Nat.reduceSub,Nat.reduceMul,List.reduceReplicate,Nat.reduceLeDiff,Nat.reduceLT,Nat.reduceBEq,Nat.reduceEqDiff,Int.reduceNeg,Int.reduceEq,Int.reduceLE,Int.reduceLT,tfb,D.flat,D.flats,n_seq,k_range,k_next,k_entry,p_range,rg_mp,rg_some,p_next,p_entry,en_it,en_at,en_ents,k_insert,p_insert,in_mp,ctz48,O48_1,O48_7,x48_17,eq17,x48_42,z48_41,ctz41,x48o_17,x48o_42,z48o_41,z48_57,cy48_57,ctzy48_57,ctz48o,yy48_57_30,ctz57,x57_58,eq58,kill_ents, mencs_ents, AV.tz, AV.nz, Sto.frz, AV.frz, ents_frz, fvT]
  refine rng_cutX (C := Ct48) Ct48_ok 1000048030 (σ := List (Sd × Bool)) (fun x => [(8, .any)]) (fun x => [(2000016009, ents fkS fvT x)]) (fun x => soundZ t b x ∧ fnd t (isF t b) (k + 1) s = none) ?_ ?_
  · simp (maxSteps := 4000000) +contextual (disch := first | omega | exact qdb_ok (by kernel_rfl) | exact okb_ok (by kernel_rfl)) only [bw1,bw2,bw3,bw4,bw5,bw6,bw7,bc0,bc1,bc2,bc3,bc4,bc5,bc6,bc7,bb0,setPs,AV.owns,AV.datF,AV.frz,AV.cpy,ifV,isEqB,nilV,nilX,AV.isNilS,AV.isNoRows,wk,dclo,datOf,binIs,addF,AV.isPtr,idxV,AV.isSl,AV.isSlice,AV.rows,ps,pv,extV,extS,AV.outs,AV.outF,packD,AV.dl,fieldV,fieldS,AV.cells?,AV.upr,AV.menc,AV.one,D.one,Value.oneCell',tagOf,AV.isApp,strV,strS,bolV,bolS,slcV,AV.isSlD,asrtS,AV.dcells,D.cells?,stcV,stcS,leafOk,eqDs,eqD,packA,D.val?,↓reduceIte,reduceCtorEq,Nat.reduceAdd,Nat.reduceSub,Nat.reduceMul,List.reduceReplicate,Nat.reduceLeDiff,Nat.reduceLT,Nat.reduceBEq,Nat.reduceEqDiff,Int.reduceNeg,Int.reduceEq,Int.reduceLE,Int.reduceLT,tfb,D.flat,D.flats,n_seq,k_range,k_next,k_entry,p_range,rg_mp,rg_some,p_next,p_entry,en_it,en_at,en_ents,k_insert,p_insert,in_mp,ctz48,O48_1,O48_7,x48_17,eq17,x48_42,z48_41,ctz41,x48o_17,x48o_42,z48o_41,z48_57,cy48_57,ctzy48_57,ctz48o,yy48_57_30,ctz57,x57_58,eq58,wks, eq_self, kill_ents, mencs_ents]
    refine ⟨by rw [mens_ents], ?_⟩
    refine loop_xu (O := O57) (tb := 57000) Cy48_57_ok hmix (by kernel_rfl) (σ := Nat × List (Sd × Bool)) (fun x => [(11, .i x.1), (4, .any)]) (fun x => [(2000016009, ents fkS fvT x.2)]) (fun x => x.1 ≤ t.groups.length ∧ soundZ t b x.2 ∧ fsN t (fnd t (isF t b) k) s x.1 = none) (fun x => t.groups.length - x.1) (0, M) ⟨Nat.zero_le _, hM, rfl⟩ ?_ ?_
    · simp (maxSteps := 4000000) +contextual (disch := first | omega | exact qdb_ok (by kernel_rfl) | exact okb_ok (by kernel_rfl)) only [bw1,bw2,bw3,bw4,bw5,bw6,bw7,bc0,bc1,bc2,bc3,bc4,bc5,bc6,bc7,bb0,setPs,AV.owns,AV.datF,AV.frz,AV.cpy,ifV,isEqB,nilV,nilX,AV.isNilS,AV.isNoRows,wk,dclo,datOf,binIs,addF,AV.isPtr,idxV,AV.isSl,AV.isSlice,AV.rows,ps,pv,extV,extS,AV.outs,AV.outF,packD,AV.dl,fieldV,fieldS,AV.cells?,AV.upr,AV.menc,AV.one,D.one,Value.oneCell',tagOf,AV.isApp,strV,strS,bolV,bolS,slcV,AV.isSlD,asrtS,AV.dcells,D.cells?,stcV,stcS,leafOk,eqDs,eqD,packA,D.val?,↓reduceIte,reduceCtorEq,Nat.reduceAdd,Nat.reduceSub,Nat.reduceMul,List.reduceReplicate,Nat.reduceLeDiff,Nat.reduceLT,Nat.reduceBEq,Nat.reduceEqDiff,Int.reduceNeg,Int.reduceEq,Int.reduceLE,Int.reduceLT,tfb,D.flat,D.flats,n_seq,k_range,k_next,k_entry,p_range,rg_mp,rg_some,p_next,p_entry,en_it,en_at,en_ents,k_insert,p_insert,in_mp,ctz48,O48_1,O48_7,x48_17,eq17,x48_42,z48_41,ctz41,x48o_17,x48o_42,z48o_41,z48_57,cy48_57,ctzy48_57,ctz48o,yy48_57_30,ctz57,x57_58,eq58,wks, eq_self, kill_ents, mencs_ents]
    rintro ⟨r, M3⟩ ⟨hr, hM3, hfs⟩
    dsimp only at hr hM3 hfs ⊢
    have p1 : (ttOk t = true ∧ -1 ≤ (r : Int)) ∧ (0 ≤ s.h ∧ s.h < t.hours.length) ∧ (s.l = -1 ∨ 1 ≤ s.h) := by
      have h2 := hs.2.1
      exact ⟨⟨ht, by omega⟩, ⟨by omega, by omega⟩, by omega⟩
    have p2 : (0 ≤ s.h ∧ s.h ≤ 1000) ∧ CnB s.n := ⟨by omega, hcn⟩
    by_cases hrt : r < t.groups.length
    · have hrt' : (r : Int) < t.groups.length := by omega
      by_cases hc : chB t s r = true
      · have hc1 : erS t s (r : Int) = 0 := of_decide_eq_true hc
        simp (maxSteps := 4000000) +contextual (disch := first | omega | exact qdb_ok (by kernel_rfl) | exact okb_ok (by kernel_rfl)) only [bw1,bw2,bw3,bw4,bw5,bw6,bw7,bc0,bc1,bc2,bc3,bc4,bc5,bc6,bc7,bb0,setPs,AV.owns,AV.datF,AV.frz,AV.cpy,ifV,isEqB,nilV,nilX,AV.isNilS,AV.isNoRows,wk,dclo,datOf,binIs,addF,AV.isPtr,idxV,AV.isSl,AV.isSlice,AV.rows,ps,pv,extV,extS,AV.outs,AV.outF,packD,AV.dl,fieldV,fieldS,AV.cells?,AV.upr,AV.menc,AV.one,D.one,Value.oneCell',tagOf,AV.isApp,strV,strS,bolV,bolS,slcV,AV.isSlD,asrtS,AV.dcells,D.cells?,stcV,stcS,leafOk,eqDs,eqD,packA,D.val?,↓reduceIte,reduceCtorEq,Nat.reduceAdd,Nat.reduceSub,Nat.reduceMul,List.reduceReplicate,Nat.reduceLeDiff,Nat.reduceLT,Nat.reduceBEq,Nat.reduceEqDiff,Int.reduceNeg,Int.reduceEq,Int.reduceLE,Int.reduceLT,tfb,D.flat,D.flats,n_seq,k_range,k_next,k_entry,p_range,rg_mp,rg_some,p_next,p_entry,en_it,en_at,en_ents,k_insert,p_insert,in_mp,ctz48,O48_1,O48_7,x48_17,eq17,x48_42,z48_41,ctz41,x48o_17,x48o_42,z48o_41,z48_57,cy48_57,ctzy48_57,ctz48o,yy48_57_30,ctz57,x57_58,eq58,wks, eq_self, kill_ents, mencs_ents, hrt', hc1]
        have hnB : StB (t.hours.length - k) (nxS s (r : Int)) := nxS_B hs (by omega) (by omega)
        refine ⟨p1, ⟨⟨by omega, by omega⟩, p2⟩, ?_⟩
        refine call63o (u := nxS s (r : Int)) (M := M3) (ih _ _ hnB hM3) ?_ ?_ ?_
        · with_reducible rfl
        · refine ⟨⟨?_, ?_, ?_, ?_, ?_, ?_, ?_, ?_⟩, okZs_stay _ ?_, okO2_oth ?_⟩
          all_goals kernel_rfl
        intro M4 hM4
        by_cases hf : (fnd t (isF t b) k (nxS s (r : Int))).isSome = true
        · simp (maxSteps := 4000000) +contextual (disch := first | omega | exact qdb_ok (by kernel_rfl) | exact okb_ok (by kernel_rfl)) only [bw1,bw2,bw3,bw4,bw5,bw6,bw7,bc0,bc1,bc2,bc3,bc4,bc5,bc6,bc7,bb0,setPs,AV.owns,AV.datF,AV.frz,AV.cpy,ifV,isEqB,nilV,nilX,AV.isNilS,AV.isNoRows,wk,dclo,datOf,binIs,addF,AV.isPtr,idxV,AV.isSl,AV.isSlice,AV.rows,ps,pv,extV,extS,AV.outs,AV.outF,packD,AV.dl,fieldV,fieldS,AV.cells?,AV.upr,AV.menc,AV.one,D.one,Value.oneCell',tagOf,AV.isApp,strV,strS,bolV,bolS,slcV,AV.isSlD,asrtS,AV.dcells,D.cells?,stcV,stcS,leafOk,eqDs,eqD,packA,D.val?,↓reduceIte,reduceCtorEq,Nat.reduceAdd,Nat.reduceSub,Nat.reduceMul,List.reduceReplicate,Nat.reduceLeDiff,Nat.reduceLT,Nat.reduceBEq,Nat.reduceEqDiff,Int.reduceNeg,Int.reduceEq,Int.reduceLE,Int.reduceLT,tfb,D.flat,D.flats,n_seq,k_range,k_next,k_entry,p_range,rg_mp,rg_some,p_next,p_entry,en_it,en_at,en_ents,k_insert,p_insert,in_mp,ctz48,O48_1,O48_7,x48_17,eq17,x48_42,z48_41,ctz41,x48o_17,x48o_42,z48o_41,z48_57,cy48_57,ctzy48_57,ctz48o,yy48_57_30,ctz57,x57_58,eq58,wks, eq_self, kill_ents, mencs_ents, mer, List.contains_cons, List.contains_nil, Bool.or_true, Bool.true_or, hf, AV.tz, AV.nz, Sto.frz, AV.frz, ents_frz]
          have hl := fnd_lenD (t := t) (is := isF t b) (n := k) (s := nxS s (r : Int))
          exact ⟨by omega, by omega, M4, hM4, res_some (fnd_grp hrt hfs hc hf), ⟨rfl, rfl, rfl, rfl, rfl, rfl, rfl, rfl, trivial⟩⟩
        · have hf : (fnd t (isF t b) k (nxS s (r : Int))).isSome = false := by simpa using hf
          simp (maxSteps := 4000000) +contextual (disch := first | omega | exact qdb_ok (by kernel_rfl) | exact okb_ok (by kernel_rfl)) only [bw1,bw2,bw3,bw4,bw5,bw6,bw7,bc0,bc1,bc2,bc3,bc4,bc5,bc6,bc7,bb0,setPs,AV.owns,AV.datF,AV.frz,AV.cpy,ifV,isEqB,nilV,nilX,AV.isNilS,AV.isNoRows,wk,dclo,datOf,binIs,addF,AV.isPtr,idxV,AV.isSl,AV.isSlice,AV.rows,ps,pv,extV,extS,AV.outs,AV.outF,packD,AV.dl,fieldV,fieldS,AV.cells?,AV.upr,AV.menc,AV.one,D.one,Value.oneCell',tagOf,AV.isApp,strV,strS,bolV,bolS,slcV,AV.isSlD,asrtS,AV.dcells,D.cells?,stcV,stcS,leafOk,eqDs,eqD,packA,D.val?,↓reduceIte,reduceCtorEq,Nat.reduceAdd,Nat.reduceSub,Nat.reduceMul,List.reduceReplicate,Nat.reduceLeDiff,Nat.reduceLT,Nat.reduceBEq,Nat.reduceEqDiff,Int.reduceNeg,Int.reduceEq,Int.reduceLE,Int.reduceLT,tfb,D.flat,D.flats,n_seq,k_range,k_next,k_entry,p_range,rg_mp,rg_some,p_next,p_entry,en_it,en_at,en_ents,k_insert,p_insert,in_mp,ctz48,O48_1,O48_7,x48_17,eq17,x48_42,z48_41,ctz41,x48o_17,x48o_42,z48o_41,z48_57,cy48_57,ctzy48_57,ctz48o,yy48_57_30,ctz57,x57_58,eq58,wks, eq_self, kill_ents, mencs_ents, mer, List.contains_cons, List.contains_nil, Bool.or_true, Bool.true_or, hf, AV.tz, AV.nz, Sto.frz, AV.frz, ents_frz]
          exact ⟨(r + 1, M4), ⟨⟨by dsimp only; omega, hM4, fsN_grp hfs hc hf⟩, by dsimp only; omega⟩, rfl, wk_self _⟩
      · have hc1 : ¬ erS t s (r : Int) = 0 := fun h => hc (decide_eq_true h)
        simp (maxSteps := 4000000) +contextual (disch := first | omega | exact qdb_ok (by kernel_rfl) | exact okb_ok (by kernel_rfl)) only [bw1,bw2,bw3,bw4,bw5,bw6,bw7,bc0,bc1,bc2,bc3,bc4,bc5,bc6,bc7,bb0,setPs,AV.owns,AV.datF,AV.frz,AV.cpy,ifV,isEqB,nilV,nilX,AV.isNilS,AV.isNoRows,wk,dclo,datOf,binIs,addF,AV.isPtr,idxV,AV.isSl,AV.isSlice,AV.rows,ps,pv,extV,extS,AV.outs,AV.outF,packD,AV.dl,fieldV,fieldS,AV.cells?,AV.upr,AV.menc,AV.one,D.one,Value.oneCell',tagOf,AV.isApp,strV,strS,bolV,bolS,slcV,AV.isSlD,asrtS,AV.dcells,D.cells?,stcV,stcS,leafOk,eqDs,eqD,packA,D.val?,↓reduceIte,reduceCtorEq,Nat.reduceAdd,Nat.reduceSub,Nat.reduceMul,List.reduceReplicate,Nat.reduceLeDiff,Nat.reduceLT,Nat.reduceBEq,Nat.reduceEqDiff,Int.reduceNeg,Int.reduceEq,Int.reduceLE,Int.reduceLT,tfb,D.flat,D.flats,n_seq,k_range,k_next,k_entry,p_range,rg_mp,rg_some,p_next,p_entry,en_it,en_at,en_ents,k_insert,p_insert,in_mp,ctz48,O48_1,O48_7,x48_17,eq17,x48_42,z48_41,ctz41,x48o_17,x48o_42,z48o_41,z48_57,cy48_57,ctzy48_57,ctz48o,yy48_57_30,ctz57,x57_58,eq58,wks, eq_self, kill_ents, mencs_ents, hrt', hc1]
        exact ⟨p1, (r + 1, M3), ⟨⟨by dsimp only; omega, hM3, fsN_no hfs hc⟩, by dsimp only; omega⟩, rfl, wk_self _⟩
    have hrt' : ¬ (r : Int) < t.groups.length := by omega
    simp (maxSteps := 4000000) +contextual (disch := first | omega | exact qdb_ok (by kernel_rfl) | exact okb_ok (by kernel_rfl)) only [bw1,bw2,bw3,bw4,bw5,bw6,bw7,bc0,bc1,bc2,bc3,bc4,bc5,bc6,bc7,bb0,setPs,AV.owns,AV.datF,AV.frz,AV.cpy,ifV,isEqB,nilV,nilX,AV.isNilS,AV.isNoRows,wk,dclo,datOf,binIs,addF,AV.isPtr,idxV,AV.isSl,AV.isSlice,AV.rows,ps,pv,extV,extS,AV.outs,AV.outF,packD,AV.dl,fieldV,fieldS,AV.cells?,AV.upr,AV.menc,AV.one,D.one,Value.oneCell',tagOf,AV.isApp,strV,strS,bolV,bolS,slcV,AV.isSlD,asrtS,AV.dcells,D.cells?,stcV,stcS,leafOk,eqDs,eqD,packA,D.val?,↓reduceIte,reduceCtorEq,Nat.reduceAdd,Nat.reduceSub,Nat.reduceMul,List.reduceReplicate,Nat.reduceLeDiff,Nat.reduceLT,Nat.reduceBEq,Nat.reduceEqDiff,Int.reduceNeg,Int.reduceEq,Int.reduceLE,Int.reduceLT,tfb,D.flat,D.flats,n_seq,k_range,k_next,k_entry,p_range,rg_mp,rg_some,p_next,p_entry,en_it,en_at,en_ents,k_insert,p_insert,in_mp,ctz48,O48_1,O48_7,x48_17,eq17,x48_42,z48_41,ctz41,x48o_17,x48o_42,z48o_41,z48_57,cy48_57,ctzy48_57,ctz48o,yy48_57_30,ctz57,x57_58,eq58,wks, eq_self, kill_ents, mencs_ents, hrt']
    have hnB : StB (t.hours.length - k) (nxS s (-1)) := nxS_B hs (by omega) (.inl rfl)
    have hrn : r = t.groups.length := by omega
    refine ⟨p2, ?_⟩
    refine call63o (u := nxS s (-1)) (M := M3) (ih _ _ hnB hM3) ?_ ?_ ?_
    · with_reducible rfl
    · refine ⟨⟨?_, ?_, ?_, ?_, ?_, ?_, ?_, ?_⟩, okZs_stay _ ?_, okO2_oth ?_⟩
      all_goals kernel_rfl
    intro M4 hM4
    by_cases hf : (fnd t (isF t b) k (nxS s (-1))).isSome = true
    · simp (maxSteps := 4000000) +contextual (disch := first | omega | exact qdb_ok (by kernel_rfl) | exact okb_ok (by kernel_rfl)) only [bw1,bw2,bw3,bw4,bw5,bw6,bw7,bc0,bc1,bc2,bc3,bc4,bc5,bc6,bc7,bb0,setPs,AV.owns,AV.datF,AV.frz,AV.cpy,ifV,isEqB,nilV,nilX,AV.isNilS,AV.isNoRows,wk,dclo,datOf,binIs,addF,AV.isPtr,idxV,AV.isSl,AV.isSlice,AV.rows,ps,pv,extV,extS,AV.outs,AV.outF,packD,AV.dl,fieldV,fieldS,AV.cells?,AV.upr,AV.menc,AV.one,D.one,Value.oneCell',tagOf,AV.isApp,strV,strS,bolV,bolS,slcV,AV.isSlD,asrtS,AV.dcells,D.cells?,stcV,stcS,leafOk,eqDs,eqD,packA,D.val?,↓reduceIte,reduceCtorEq,Nat.reduceAdd,Nat.reduceSub,Nat.reduceMul,List.reduceReplicate,Nat.reduceLeDiff,Nat.reduceLT,Nat.reduceBEq,Nat.reduceEqDiff,Int.reduceNeg,Int.reduceEq,Int.reduceLE,Int.reduceLT,tfb,D.flat,D.flats,n_seq,k_range,k_next,k_entry,p_range,rg_mp,rg_some,p_next,p_entry,en_it,en_at,en_ents,k_insert,p_insert,in_mp,ctz48,O48_1,O48_7,x48_17,eq17,x48_42,z48_41,ctz41,x48o_17,x48o_42,z48o_41,z48_57,cy48_57,ctzy48_57,ctz48o,yy48_57_30,ctz57,x57_58,eq58,wks, eq_self, kill_ents, mencs_ents, mer, List.contains_cons, List.contains_nil, Bool.or_true, Bool.true_or, hf, AV.tz, AV.nz, Sto.frz, AV.frz, ents_frz]
      have hl := fnd_lenD (t := t) (is := isF t b) (n := k) (s := nxS s (-1))
      rw [hrn] at hfs
      exact ⟨by omega, by omega, M4, hM4, res_some (fnd_end hfs hf), ⟨rfl, rfl, rfl, rfl, rfl, rfl, rfl, rfl, trivial⟩⟩
    · have hf : (fnd t (isF t b) k (nxS s (-1))).isSome = false := by simpa using hf
      simp (maxSteps := 4000000) +contextual (disch := first | omega | exact qdb_ok (by kernel_rfl) | exact okb_ok (by kernel_rfl)) only [bw1,bw2,bw3,bw4,bw5,bw6,bw7,bc0,bc1,bc2,bc3,bc4,bc5,bc6,bc7,bb0,setPs,AV.owns,AV.datF,AV.frz,AV.cpy,ifV,isEqB,nilV,nilX,AV.isNilS,AV.isNoRows,wk,dclo,datOf,binIs,addF,AV.isPtr,idxV,AV.isSl,AV.isSlice,AV.rows,ps,pv,extV,extS,AV.outs,AV.outF,packD,AV.dl,fieldV,fieldS,AV.cells?,AV.upr,AV.menc,AV.one,D.one,Value.oneCell',tagOf,AV.isApp,strV,strS,bolV,bolS,slcV,AV.isSlD,asrtS,AV.dcells,D.cells?,stcV,stcS,leafOk,eqDs,eqD,packA,D.val?,↓reduceIte,reduceCtorEq,Nat.reduceAdd,Nat.reduceSub,Nat.reduceMul,List.reduceReplicate,Nat.reduceLeDiff,Nat.reduceLT,Nat.reduceBEq,Nat.reduceEqDiff,Int.reduceNeg,Int.reduceEq,Int.reduceLE,Int.reduceLT,tfb,D.flat,D.flats,n_seq,k_range,k_next,k_entry,p_range,rg_mp,rg_some,p_next,p_entry,en_it,en_at,en_ents,k_insert,p_insert,in_mp,ctz48,O48_1,O48_7,x48_17,eq17,x48_42,z48_41,ctz41,x48o_17,x48o_42,z48o_41,z48_57,cy48_57,ctzy48_57,ctz48o,yy48_57_30,ctz57,x57_58,eq58,wks, eq_self, kill_ents, mencs_ents, mer, List.contains_cons, List.contains_nil, Bool.or_true, Bool.true_or, hf, AV.tz, AV.nz, Sto.frz, AV.frz, ents_frz]
      rw [hrn] at hfs
      exact ⟨M4, ⟨hM4, fnd_no hfs hf⟩, wk_self _⟩
  intro M3 hM3
  simp (maxSteps := 4000000) +contextual (disch := first | omega | exact qdb_ok (by kernel_rfl) | exact okb_ok (by kernel_rfl)) only [bw1,bw2,bw3,bw4,bw5,bw6,bw7,bc0,bc1,bc2,bc3,bc4,bc5,bc6,bc7,bb0,setPs,AV.owns,AV.datF,AV.frz,AV.cpy,ifV,isEqB,nilV,nilX,AV.isNilS,AV.isNoRows,wk,dclo,datOf,binIs,addF,AV.isPtr,idxV,AV.isSl,AV.isSlice,AV.rows,ps,pv,extV,extS,AV.outs,AV.outF,packD,AV.dl,fieldV,fieldS,AV.cells?,AV.upr,AV.menc,AV.one,D.one,Value.oneCell',tagOf,AV.isApp,strV,strS,bolV,bolS,slcV,AV.isSlD,asrtS,AV.dcells,D.cells?,stcV,stcS,leafOk,eqDs,eqD,packA,D.val?,↓reduceIte,reduceCtorEq,Nat.reduceAdd,Nat.reduceSub,Nat.reduceMul,List.reduceReplicate,Nat.reduceLeDiff,Nat.reduceLT,Nat.reduceBEq,Nat.reduceEqDiff,Int.reduceNeg,Int.reduceEq,Int.reduceLE,Int.reduceLT,tfb,D.flat,D.flats,n_seq,k_range,k_next,k_entry,p_range,rg_mp,rg_some,p_next,p_entry,en_it,en_at,en_ents,k_insert,p_insert,in_mp,ctz48,O48_1,O48_7,x48_17,eq17,x48_42,z48_41,ctz41,x48o_17,x48o_42,z48o_41,z48_57,cy48_57,ctzy48_57,ctz48o,yy48_57_30,ctz57,x57_58,eq58,wks, eq_self, kill_ents, mencs_ents]
  have hmo3 := soundZ_ok h12.1 hM3.1
  refine ⟨⟨key86, hky⟩, hmo3, ?_⟩
  refine xUp_ents (fk := fkS) (fv := fvT) (fkv := fkvS) (k := s) (v := true) fkS_val fkvS_inj rfl rfl (fun M5 hM5 => ?_)
  have hM5' : soundZ t b M5 := fun p hp => by
    rcases hM5 p hp with h | rfl
    · exact hM3.1 p h
    · exact ⟨rfl, t.hours.length - (k + 1), by omega, hs, by rw [show t.hours.length - (t.hours.length - (k + 1)) = k + 1 by omega]; exact hM3.2⟩
  simp (maxSteps := 4000000) +contextual (disch := first | omega | exact qdb_ok (by kernel_rfl) | exact okb_ok (by kernel_rfl)) only [bw1,bw2,bw3,bw4,bw5,bw6,bw7,bc0,bc1,bc2,bc3,bc4,bc5,bc6,bc7,bb0,setPs,AV.owns,AV.datF,AV.frz,AV.cpy,ifV,isEqB,nilV,nilX,AV.isNilS,AV.isNoRows,wk,dclo,datOf,binIs,addF,AV.isPtr,idxV,AV.isSl,AV.isSlice,AV.rows,ps,pv,extV,extS,AV.outs,AV.outF,packD,AV.dl,fieldV,fieldS,AV.cells?,AV.upr,AV.menc,AV.one,D.one,Value.oneCell',tagOf,AV.isApp,strV,strS,bolV,bolS,slcV,AV.isSlD,asrtS,AV.dcells,D.cells?,stcV,stcS,leafOk,eqDs,eqD,packA,D.val?,↓reduceIte,reduceCtorEq,Nat.reduceAdd,Nat.reduceSub,Nat.reduceMul,List.reduceReplicate,Nat.reduceLeDiff,Nat.reduceLT,Nat.reduceBEq,Nat.reduceEqDiff,Int.reduceNeg,Int.reduceEq,Int.reduceLE,Int.reduceLT,tfb,D.flat,D.flats,n_seq,k_range,k_next,k_entry,p_range,rg_mp,rg_some,p_next,p_entry,en_it,en_at,en_ents,k_insert,p_insert,in_mp,ctz48,O48_1,O48_7,x48_17,eq17,x48_42,z48_41,ctz41,x48o_17,x48o_42,z48o_41,z48_57,cy48_57,ctzy48_57,ctz48o,yy48_57_30,ctz57,x57_58,eq58,wks, eq_self, kill_ents, mencs_ents, AV.tz, AV.nz, Sto.frz, AV.frz, ents_frz]
  exact ⟨M5, hM5', by rw [hM3.2]; rfl, ⟨rfl, rfl, rfl, rfl, rfl, rfl, rfl, rfl, trivial⟩⟩
theorem zall {t : Tt} (ht : ttOk t = true) {b : Cn} (hb : CnB b) : ∀ k s M, k ≤ t.hours.length → StB (t.hours.length - k) s → soundZ t b M → Does t b k s M
  | 0, _, _, _, hs, hM => zbase ht hb (by simpa using hs) hM
  | k + 1, _, _, hk, hs, hM => zstep ht hb hk (fun u M hu hM => zall ht hb k u M (by omega) hu hM) hs hM
end Go.Proofs.Ytofbbkacihnjdaa
