/- A part of the proof that the last text ends: what functions of the program do, told by plain data. -/
import Derived.Test.YtmkigohedfcomaaGE
import Derived.Test.YtmkigohedfcomaaK1
import Derived.Test.YtmkigohedfcomaaEb
set_option linter.unusedVariables false
set_option linter.unusedSimpArgs false
namespace Go.Proofs.Ytmkigohedfcomaa
open Go Go.E Go.Maps
set_option maxRecDepth 100000
set_option maxHeartbeats 8000000
/-! ### What a fitting works on -/
structure Fd where
  ws : List Int
  s : Shop
  l : List Pair
  cs : List Int
structure Fd.ok (A : Fd) : Prop where
  ws : ∀ x ∈ A.ws, 0 ≤ x ∧ x ≤ 60
  wl : A.ws.length ≤ 6
  cl : A.cs.length ≤ 10
  cs : ∀ c ∈ A.cs, 0 ≤ c ∧ c < A.l.length
  sz : ∀ p ∈ A.l, 0 ≤ p.size ∧ p.size ≤ 60
def Fd.z (A : Fd) (p : Nat) : Int := (A.l.getD (A.cs.getD p default).toNat default).size
def Fd.apart (A : Fd) (w p : Nat) : Int := max (A.ws.getD w default - A.z p) (-(A.ws.getD w default - A.z p))
abbrev Ans := Int × Int × Bool
def stepA (A : Fd) (k : Nat) (f : Nat → Ans) (u : Nat) (b : Ans) (p : Nat) : Ans :=
  if u.testBit p = true then b else
    if (f (u ||| 2 ^ p)).2.2 = true ∧ (b.2.2 = false ∨ (f (u ||| 2 ^ p)).2.1 + A.apart (A.ws.length - (k + 1)) p < b.2.1) then ((p : Int), (f (u ||| 2 ^ p)).2.1 + A.apart (A.ws.length - (k + 1)) p, true) else b
def bestN (A : Fd) (k : Nat) (f : Nat → Ans) (u n : Nat) : Ans := (List.range n).foldl (stepA A k f u) (0, 0, false)
theorem bestN_succ {A : Fd} {k : Nat} {f : Nat → Ans} {u n : Nat} : bestN A k f u (n + 1) = stepA A k f u (bestN A k f u n) n := by
  unfold bestN; rw [List.range_succ, List.foldl_append]; rfl
def restA (A : Fd) : Nat → Nat → Ans
  | 0, _ => (0, 0, true)
  | k + 1, u => bestN A k (restA A k) u A.cs.length
theorem max_abs {a : Int} : 0 ≤ max a (-a) := by omega
theorem apart_bd {A : Fd} (hA : A.ok) {w p : Nat} (hp : p < A.cs.length) : 0 ≤ A.apart w p ∧ A.apart w p ≤ 60 := by
  have h1 : 0 ≤ A.ws.getD w default ∧ A.ws.getD w default ≤ 60 := by
    by_cases hw : w < A.ws.length
    · rw [List.getD, List.getElem?_eq_getElem hw]; exact hA.ws _ (List.getElem_mem _)
    · rw [List.getD, List.getElem?_eq_none (by omega)]; decide
  have h2 : 0 ≤ A.z p ∧ A.z p ≤ 60 := by
    have hc : 0 ≤ A.cs.getD p default ∧ A.cs.getD p default < A.l.length := by
      rw [List.getD, List.getElem?_eq_getElem hp]; exact hA.cs _ (List.getElem_mem _)
    unfold Fd.z
    have hlt : (A.cs.getD p default).toNat < A.l.length := by omega
    rw [List.getD, List.getElem?_eq_getElem hlt]
    exact hA.sz _ (List.getElem_mem _)
  unfold Fd.apart; omega
theorem best_bd {A : Fd} (hA : A.ok) {k u : Nat} {f : Nat → Ans} {m : Int} (hm : 0 ≤ m) (hf : ∀ v, 0 ≤ (f v).2.1 ∧ (f v).2.1 ≤ m) : ∀ n, n ≤ A.cs.length → 0 ≤ (bestN A k f u n).2.1 ∧ (bestN A k f u n).2.1 ≤ m + 60
  | 0, _ => by simp [bestN]; omega
  | n + 1, hn => by
    have ih := best_bd hA hm hf (k := k) (u := u) n (by omega)
    rw [bestN_succ]
    unfold stepA
    split
    · exact ih
    · split
      · have := apart_bd hA (w := A.ws.length - (k + 1)) (p := n) (by omega)
        have := hf (u ||| 2 ^ n)
        simp only; omega
      · exact ih
theorem rest_bd {A : Fd} (hA : A.ok) : ∀ k u, 0 ≤ (restA A k u).2.1 ∧ (restA A k u).2.1 ≤ 60 * k
  | 0, u => by simp [restA]
  | k + 1, u => by
    have := best_bd hA (k := k) (u := u) (m := 60 * k) (by omega) (rest_bd hA k) A.cs.length (Nat.le_refl _)
    unfold restA; omega
/-! ### The state of a fitting -/
def fk (x : Nat × Nat) : D := .agg [.v (.int .i64 x.1), .v (.int .u64 x.2)]
def fkv (x : Nat × Nat) : Value := .agg #[.int .i64 x.1, .int .u64 x.2]
def fv (a : Ans) : D := .agg [.i a.1, .i a.2.1, .b a.2.2]
theorem fk_val (x : Nat × Nat) : (fk x).val? = some (fkv x) := by simp [fk, fkv, D.val?, D.vals?]
theorem fkv_inj (x y : Nat × Nat) (h : fkv x = fkv y) : x = y := by
  simp [fkv] at h; exact Prod.ext (by omega) (by omega)
def sound (A : Fd) (M : List ((Nat × Nat) × Ans)) : Prop := ∀ p ∈ M, p.1.1 ≤ A.ws.length ∧ p.1.2 < 1024 ∧ p.2 = restA A (A.ws.length - p.1.1) p.1.2
theorem sound_ok {A : Fd} (hA : A.ok) {M : List ((Nat × Nat) × Ans)} (h : sound A M) : mapOk Try.prog 74 (ents fk fv M) :=
  ents_ok' fk_val fun p hp => by
    have := h p hp
    have := hA.wl
    exact keyOf74 (by omega) (by omega)
abbrev storeP (A : Fd) : D := .ptr [.i A.s.full, .i A.s.need, .i A.s.cut, .i A.s.least, .i A.s.lo, .i A.s.hi, .sl 7 (A.l.map Pair.c)] 0
abbrev stA (A : Fd) (M : List ((Nat × Nat) × Ans)) : Sto := [(6, [.d (.sl 1 (A.ws.map ic))]), (10, [.d (storeP A)]), (13, [.own 47 3 1 (A.cs.map ic)]), (15, [.clo (.func 31) [] [.ref 6 0, .ref 10 0, .ref 13 0]]), (16, [.mp 2000000048]), (17, [.clo (.func 32) [] [.ref 6 0, .ref 16 0, .ref 13 0, .ref 17 0, .ref 15 0]]), (2000000048, ents fk fv M)]
abbrev TA : List Nat := [6, 10, 13, 15, 16, 17, 47, 2000000048]
abbrev EA (A : Fd) : List AV := [.ref 6 0, .ref 10 0, .ref 13 0, .ref 15 0, .ref 16 0, .ref 17 0, .mp 2000000048, .own 47 3 1 (A.cs.map ic)]
abbrev argA (A : Fd) (k u : Nat) : List AV := [.d (fk (A.ws.length - k, u)), .ref 6 0, .ref 16 0, .ref 13 0, .ref 17 0, .ref 15 0]
def agree (s1 s2 : Sto) : List Nat → Prop
  | [] => True
  | g :: T => s1.get g = s2.get g ∧ agree s1 s2 T
theorem agree_get {s1 s2 : Sto} : ∀ {T : List Nat}, agree s1 s2 T → ∀ g ∈ T, s1.get g = s2.get g
  | _ :: _, h, g, hg => by
    rcases List.mem_cons.1 hg with rfl | hg
    · exact h.1
    · exact agree_get h.2 g hg
theorem mer_agree {T : List Nat} {s1 s2 : Sto} (h : agree s1 s2 T) : ∀ s : Sto, mer T s1 s = mer T s2 s
  | [] => rfl
  | (g, c) :: r => by
    unfold mer
    rw [mer_agree h r]
    by_cases hg : T.contains g = true
    · rw [if_pos hg, if_pos hg, agree_get h g (by simpa using hg)]
    · rw [if_neg hg, if_neg hg]
def Does (A : Fd) (k u : Nat) (M : List ((Nat × Nat) × Ans)) : Prop :=
  pcall Try.prog 32 (argA A k u) (fun r e1 s1 => e1 = EA A ∧ ∃ M', sound A M' ∧ r = .d (fv (restA A k u)) ∧ agree s1 (stA A M') TA) (fun x e1 s1 => e1 = EA A ∧ match x with | .panic _ => False | _ => False) (EA A) ((0, []) :: stA A M)
/-- A call of it, in a table. -/
def rec32 (A : Fd) (k : Nat) (args : List AV) (K : AV → List AV → Sto → Prop) (e : List AV) (s : Sto) : Prop :=
  ∃ u M, u < 1024 ∧ sound A M ∧ args = argA A k u ∧ FrameOk TA (EA A) args (stA A M) e s ∧ ∀ M', sound A M' → K (.d (fv (restA A k u))) e (mer TA (stA A M') s)
def othL (T : List Nat) (E : List AV) : Sto → Prop
  | [] => True
  | (g, c) :: r => (T.contains g = true ∨ AV.stays T E c) ∧ othL T E r
theorem othL_get {T : List Nat} {E : List AV} {g : Nat} {c : List AV} : ∀ {s : Sto}, othL T E s → s.get g = some c → T.contains g = false → AV.stays T E c
  | [], _, h, _ => by simp [Sto.get] at h
  | (k, x) :: r, ho, h, hg => by
    simp only [Sto.get] at h
    split at h
    · rename_i e; subst e; cases h
      rcases ho.1 with h' | h'
      · rw [hg] at h'; cases h'
      · exact h'
    · exact othL_get ho.2 h hg
theorem onlys_ents (M : List ((Nat × Nat) × Ans)) : ∀ T, AV.onlys T (ents fk fv M) = true := fun T => by
  unfold ents
  induction M with
  | nil => rfl
  | cons p M ih => simp [AV.onlys, AV.only, ih]
theorem rec32_ok {A : Fd} {k : Nat} (h : ∀ u M, u < 1024 → sound A M → Does A k u M) {args : List AV} {K : AV → List AV → Sto → Prop} {Q : Kt} {e : List AV} {s : Sto} (hr : rec32 A k args K e s) : pcall Try.prog 32 args K Q e s := by
  obtain ⟨u, M, hu, hM, rfl, hF, hK⟩ := hr
  refine pcall_frame (R := fun r s1 => ∃ M', sound A M' ∧ r = .d (fv (restA A k u)) ∧ agree s1 (stA A M') TA) (RQ := fun _ _ => False) hF (h u M hu hM) ?_ (fun _ _ h => h.elim)
  rintro r s1 ⟨M', hM', rfl, hs⟩
  refine ⟨⟨rfl, fun g c hg hc => ?_⟩, by rw [mer_agree hs]; exact hK M' hM'⟩
  rw [agree_get hs g (by simpa using hg)] at hc
  simp only [Sto.get] at hc
  repeat' split at hc
  all_goals first | (cases hc; first | rfl | exact onlys_ents M' _) | (cases hc)
def O31 : Nat → Sch := fun id => if id = 1 then .one 0 (.one 1 (.one 2 (.one 3 (.one 4 (.one 5 (.one 6 (.one 7 (.one 8 (.one 9 (.one 10 (.one 11 (.one 12 (.one 13 (.one 14 (.one 15 (.one 16 (.done))))))))))))))))) else .done
theorem O31_1 : O31 1 = .one 0 (.one 1 (.one 2 (.one 3 (.one 4 (.one 5 (.one 6 (.one 7 (.one 8 (.one 9 (.one 10 (.one 11 (.one 12 (.one 13 (.one 14 (.one 15 (.one 16 (.done))))))))))))))))) := rfl
theorem ho31 : Try.f31.body.map (okO O31) = some true := by kernel_rfl
def Cf31 : Nat → List AV → (AV → List AV → Sto → Prop) → Kt → List AV → Sto → Prop := fun f args K Q e s => match f with
  | _ => False
def Ct31 : CT := { f := Cf31, y := noYld, z := fun d => false }
theorem ctz31 {d : Nat} : CT.z Ct31 d = (false) := id rfl
theorem Ct31_ok : Ct31.ok Try.prog := ok_of_f (fun f args K Q e s h => by
  have h : Cf31 f args K Q e s := h
  unfold Cf31 at h; split at h
  · exact h.elim) (fun _ _ _ _ _ _ _ _ _ h => h)
theorem c31 : callable Try.prog 31 = true := by kernel_rfl
def Cf32 (A : Fd) (k : Nat) : Nat → List AV → (AV → List AV → Sto → Prop) → Kt → List AV → Sto → Prop := fun f args K Q e s => match f with
  | 31 => inlE Try.prog Ct31 O31 31000 31 args K Q e s
  | 32 => rec32 A k args K e s
  | _ => False
def Ct32 (A : Fd) (k : Nat) : CT := { f := Cf32 A k, y := noYld }
theorem Ct32_ok {A : Fd} {k : Nat} (h : ∀ u M, u < 1024 → sound A M → Does A k u M) : (Ct32 A k).ok Try.prog := ok_of_f (fun f args K Q e s h' => by
  have h' : Cf32 A k f args K Q e s := h'
  unfold Cf32 at h'; split at h'
  · exact inlE_ok Ct31_ok hmix ho31 h'
  · exact rec32_ok h h'
  · exact h'.elim) (fun _ _ _ _ _ _ _ _ _ h => h)
theorem ctz32 {A : Fd} {k d : Nat} : CT.z (Ct32 A k) d = false := id rfl
theorem z32_31 (A : Fd) (k : Nat) : type_of% (@xinl Try.prog (Ct32 A k) Ct31 O31 31000 31 _ _ _ _ rfl c31 Try.func31 rfl Try.ntmps31 Try.results31) := @xinl Try.prog (Ct32 A k) Ct31 O31 31000 31 _ _ _ _ rfl c31 Try.func31 rfl Try.ntmps31 Try.results31
theorem kill_ents {α β : Type} {fk : α → D} {fv : β → D} {M : List (α × β)} {g : Nat} : (ents fk fv M).map (AV.kill g) = ents fk fv M := by simp [ents, List.map_map, Function.comp_def, AV.kill, AV.men]
theorem mencs_ents {α β : Type} {fk : α → D} {fv : β → D} {M : List (α × β)} {g : Nat} : AV.mencs g (ents fk fv M) = false := by
  unfold ents; induction M with
  | nil => rfl
  | cons p M ih => simp [AV.mencs, AV.menc, ih]
theorem mens_ents {α β : Type} {fk : α → D} {fv : β → D} {M : List (α × β)} {g : Nat} : AV.mens g (ents fk fv M) = false := by
  unfold ents; induction M with
  | nil => rfl
  | cons p M ih => simp [AV.mens, AV.men, ih]
theorem wk_ents : ∀ l : List AV, wk l l
  | [] => trivial
  | _ :: c => ⟨.inr (.inl rfl), wk_ents c⟩
def O32 : Nat → Sch := fun id => if id = 11 then .one 1 (.one 4 (.one 6 (.one 7 (.alt (.one 0 (.alt (.one 2 (.one 3 (.alt (.one 5 (.one 8 (.one 9 (.alt (.one 10 (.one 11 (.one 12 (.done)))) (.one 11 (.one 10 (.one 12 (.done)))))))) (.one 11 (.one 5 (.one 8 (.one 9 (.one 10 (.one 12 (.done)))))))))) (.alt (.one 5 (.one 8 (.alt (.one 2 (.one 3 (.one 9 (.alt (.one 10 (.one 11 (.one 12 (.done)))) (.one 11 (.one 10 (.one 12 (.done)))))))) (.one 11 (.one 2 (.one 3 (.one 9 (.one 10 (.one 12 (.done)))))))))) (.one 11 (.one 2 (.one 3 (.one 5 (.one 8 (.one 9 (.one 10 (.one 12 (.done)))))))))))) (.alt (.one 2 (.one 3 (.alt (.one 0 (.alt (.one 5 (.one 8 (.one 9 (.alt (.one 10 (.one 11 (.one 12 (.done)))) (.one 11 (.one 10 (.one 12 (.done)))))))) (.one 11 (.one 5 (.one 8 (.one 9 (.one 10 (.one 12 (.done))))))))) (.alt (.one 5 (.one 8 (.one 9 (.alt (.one 0 (.alt (.one 10 (.one 11 (.one 12 (.done)))) (.one 11 (.one 10 (.one 12 (.done)))))) (.one 11 (.one 0 (.one 10 (.one 12 (.done))))))))) (.one 11 (.one 0 (.one 5 (.one 8 (.one 9 (.one 10 (.one 12 (.done)))))))))))) (.alt (.one 5 (.one 8 (.alt (.one 0 (.alt (.one 2 (.one 3 (.one 9 (.alt (.one 10 (.one 11 (.one 12 (.done)))) (.one 11 (.one 10 (.one 12 (.done)))))))) (.one 11 (.one 2 (.one 3 (.one 9 (.one 10 (.one 12 (.done))))))))) (.alt (.one 2 (.one 3 (.one 9 (.alt (.one 0 (.alt (.one 10 (.one 11 (.one 12 (.done)))) (.one 11 (.one 10 (.one 12 (.done)))))) (.one 11 (.one 0 (.one 10 (.one 12 (.done))))))))) (.one 11 (.one 0 (.one 2 (.one 3 (.one 9 (.one 10 (.one 12 (.done)))))))))))) (.one 11 (.one 0 (.one 2 (.one 3 (.one 5 (.one 8 (.one 9 (.one 10 (.one 12 (.done)))))))))))))))) else if id = 12 then .one 0 (.one 2 (.one 3 (.one 4 (.one 5 (.alt (.one 1 (.one 6 (.one 7 (.one 8 (.done))))) (.one 6 (.one 1 (.one 7 (.one 8 (.done)))))))))) else .done
theorem O32_11 : O32 11 = .one 1 (.one 4 (.one 6 (.one 7 (.alt (.one 0 (.alt (.one 2 (.one 3 (.alt (.one 5 (.one 8 (.one 9 (.alt (.one 10 (.one 11 (.one 12 (.done)))) (.one 11 (.one 10 (.one 12 (.done)))))))) (.one 11 (.one 5 (.one 8 (.one 9 (.one 10 (.one 12 (.done)))))))))) (.alt (.one 5 (.one 8 (.alt (.one 2 (.one 3 (.one 9 (.alt (.one 10 (.one 11 (.one 12 (.done)))) (.one 11 (.one 10 (.one 12 (.done)))))))) (.one 11 (.one 2 (.one 3 (.one 9 (.one 10 (.one 12 (.done)))))))))) (.one 11 (.one 2 (.one 3 (.one 5 (.one 8 (.one 9 (.one 10 (.one 12 (.done)))))))))))) (.alt (.one 2 (.one 3 (.alt (.one 0 (.alt (.one 5 (.one 8 (.one 9 (.alt (.one 10 (.one 11 (.one 12 (.done)))) (.one 11 (.one 10 (.one 12 (.done)))))))) (.one 11 (.one 5 (.one 8 (.one 9 (.one 10 (.one 12 (.done))))))))) (.alt (.one 5 (.one 8 (.one 9 (.alt (.one 0 (.alt (.one 10 (.one 11 (.one 12 (.done)))) (.one 11 (.one 10 (.one 12 (.done)))))) (.one 11 (.one 0 (.one 10 (.one 12 (.done))))))))) (.one 11 (.one 0 (.one 5 (.one 8 (.one 9 (.one 10 (.one 12 (.done)))))))))))) (.alt (.one 5 (.one 8 (.alt (.one 0 (.alt (.one 2 (.one 3 (.one 9 (.alt (.one 10 (.one 11 (.one 12 (.done)))) (.one 11 (.one 10 (.one 12 (.done)))))))) (.one 11 (.one 2 (.one 3 (.one 9 (.one 10 (.one 12 (.done))))))))) (.alt (.one 2 (.one 3 (.one 9 (.alt (.one 0 (.alt (.one 10 (.one 11 (.one 12 (.done)))) (.one 11 (.one 10 (.one 12 (.done)))))) (.one 11 (.one 0 (.one 10 (.one 12 (.done))))))))) (.one 11 (.one 0 (.one 2 (.one 3 (.one 9 (.one 10 (.one 12 (.done)))))))))))) (.one 11 (.one 0 (.one 2 (.one 3 (.one 5 (.one 8 (.one 9 (.one 10 (.one 12 (.done)))))))))))))))) := rfl
theorem O32_12 : O32 12 = .one 0 (.one 2 (.one 3 (.one 4 (.one 5 (.alt (.one 1 (.one 6 (.one 7 (.one 8 (.done))))) (.one 6 (.one 1 (.one 7 (.one 8 (.done)))))))))) := rfl
theorem ho32 : Try.f32.body.map (okO O32) = some true := by kernel_rfl
theorem c32 : callable Try.prog 32 = true := by kernel_rfl
theorem frame32 {A : Fd} {M : List ((Nat × Nat) × Ans)} {args e : List AV} {s : Sto} (h1 : AV.onlys TA args = true) (h2 : (s.get 6 = some [.d (.sl 1 (A.ws.map ic))] ∧ s.get 10 = some [.d (storeP A)] ∧ s.get 13 = some [.own 47 3 1 (A.cs.map ic)] ∧ s.get 15 = some [.clo (.func 31) [] [.ref 6 0, .ref 10 0, .ref 13 0]] ∧ s.get 16 = some [.mp 2000000048] ∧ s.get 17 = some [.clo (.func 32) [] [.ref 6 0, .ref 16 0, .ref 13 0, .ref 17 0, .ref 15 0]] ∧ s.get 2000000048 = some (ents fk fv M)) ∧ AV.stays TA (EA A) e ∧ othL TA (EA A) s) :
    FrameOk TA (EA A) args (stA A M) e s where
  tags := by decide
  sub := fun g c hg => by
    obtain ⟨⟨q1, q2, q3, q4, q5, q6, q7⟩, _⟩ := h2
    simp only [Sto.get] at hg
    split at hg
    · rename_i e; subst e; cases hg; exact ⟨rfl, q1, rfl⟩
    split at hg
    · rename_i e; subst e; cases hg; exact ⟨rfl, q2, rfl⟩
    split at hg
    · rename_i e; subst e; cases hg; exact ⟨rfl, q3, rfl⟩
    split at hg
    · rename_i e; subst e; cases hg; exact ⟨rfl, q4, rfl⟩
    split at hg
    · rename_i e; subst e; cases hg; exact ⟨rfl, q5, rfl⟩
    split at hg
    · rename_i e; subst e; cases hg; exact ⟨rfl, q6, rfl⟩
    split at hg
    · rename_i e; subst e; cases hg; exact ⟨rfl, q7, onlys_ents M _⟩
    · cases hg
  args := h1
  eo := rfl
  av := fun x hx => by
    have hx' : x = .own 47 3 1 (A.cs.map ic) ∨ x ∈ [AV.ref 6 0, .ref 10 0, .ref 13 0, .ref 15 0, .ref 16 0, .ref 17 0, .mp 2000000048] := by
      simp only [List.mem_cons, List.not_mem_nil, or_false] at hx ⊢
      rcases hx with h | h | h | h | h | h | h | h <;> simp [h]
    rcases hx' with rfl | hx'
    · exact .inr (.inl ⟨13, _, by decide, h2.1.2.2.1, by simp⟩)
    · simp only [List.mem_cons, List.not_mem_nil, or_false] at hx'
      rcases hx' with rfl | rfl | rfl | rfl | rfl | rfl | rfl <;> exact .inr (.inr (by decide))
  slots := h2.2.1
  others := fun g c hg hT => othL_get h2.2.2 hg hT
theorem call32 {A : Fd} {k v : Nat} (hv : v < 1024) {M : List ((Nat × Nat) × Ans)} (hM : sound A M) {args e : List AV} {s : Sto} {K : AV → List AV → Sto → Prop} {Q : Kt} {i : At K} {j : At Q} (ha : args = argA A k v)
    (h2 : (s.get 6 = some [.d (.sl 1 (A.ws.map ic))] ∧ s.get 10 = some [.d (storeP A)] ∧ s.get 13 = some [.own 47 3 1 (A.cs.map ic)] ∧ s.get 15 = some [.clo (.func 31) [] [.ref 6 0, .ref 10 0, .ref 13 0]] ∧ s.get 16 = some [.mp 2000000048] ∧ s.get 17 = some [.clo (.func 32) [] [.ref 6 0, .ref 16 0, .ref 13 0, .ref 17 0, .ref 15 0]] ∧ s.get 2000000048 = some (ents fk fv M)) ∧ AV.stays TA (EA A) e ∧ othL TA (EA A) s)
    (hK : ∀ M', sound A M' → K (.d (fv (restA A k v))) e (mer TA (stA A M') s)) : xC (Ct32 A k) 32 args K Q i j e s := by
  subst ha
  exact ⟨v, M, hv, hM, rfl, frame32 rfl h2, hK⟩
theorem bit_p {u p : Nat} (hu : u < 1024) (hp : p < 10) : (andZ .u64 (shrZ .u64 (u : Int) (p : Int)) 1 = 1) = (u.testBit p = true) := by
  rw [← bit_u64 (by omega) (by omega)]; simp
theorem cl_new {a b c : Ans} {X n : Int} (h1 : c = if a.2.2 = true ∧ (b.2.2 = false ∨ a.2.1 + X < b.2.1) then (n, a.2.1 + X, true) else b) (h : a.2.2 = true ∧ (b.2.2 = false ∨ a.2.1 + X < b.2.1)) :
    AV.d (D.v (.int .i64 n)) = AV.i c.1 ∧ AV.d (D.v (.int .i64 (a.2.1 + X))) = AV.i c.2.1 ∧ AV.d (D.v (.bool true)) = AV.b c.2.2 := by rw [h1, if_pos h]; exact ⟨rfl, rfl, rfl⟩
theorem cl_old {a b c : Ans} {X n : Int} (h1 : c = if a.2.2 = true ∧ (b.2.2 = false ∨ a.2.1 + X < b.2.1) then (n, a.2.1 + X, true) else b) (h : ¬ (a.2.2 = true ∧ (b.2.2 = false ∨ a.2.1 + X < b.2.1))) :
    AV.i b.1 = AV.i c.1 ∧ AV.i b.2.1 = AV.i c.2.1 ∧ AV.b b.2.2 = AV.b c.2.2 := by rw [h1, if_neg h]; exact ⟨rfl, rfl, rfl⟩
theorem cl_old' {a b c : Ans} {X n : Int} (h1 : c = if a.2.2 = true ∧ (b.2.2 = false ∨ a.2.1 + X < b.2.1) then (n, a.2.1 + X, true) else b) (h : ¬ (a.2.2 = true ∧ (b.2.2 = false ∨ a.2.1 + X < b.2.1))) (hb : b.2.2 = true) :
    AV.i b.1 = AV.i c.1 ∧ AV.i b.2.1 = AV.i c.2.1 ∧ AV.b true = AV.b c.2.2 := by rw [h1, if_neg h, hb]; exact ⟨rfl, rfl, rfl⟩
theorem at_mem {α : Type} [Inhabited α] {l : List α} {i : Nat} (h : i < l.length) : l.getD i default ∈ l := by rw [List.getD, List.getElem?_eq_getElem h]; exact List.getElem_mem _
theorem rest_base {A : Fd} (hA : A.ok) {u : Nat} {M : List ((Nat × Nat) × Ans)} (hu : u < 1024) (hM : sound A M) : Does A 0 u M := by
  refine pcall_start (C := C0) (O := O32) (tb := 32000) C0_ok hmix ho32 Try.func32 c32 rfl Try.ntmps32 Try.results32 ?_
  have := hA.wl
  simp (maxSteps := 4000000) +contextual (disch := first | omega | exact qdb_ok (by kernel_rfl) | exact okb_ok (by kernel_rfl)) only [bw1,bw2,bw3,bw4,bw5,bw6,bw7,zcell,setPs,sv,gif_true,gif_false,gif_eq,AV.frz,Sto.frz,updAll,AV.cpy,Sto.cpy,ifV,isEqB,nilV,nilX,cloV,AV.isNilS,AV.isNoRows,setAll,wk,wkG,AV.own.injEq,dclo,maskB,datOf,Option.any,List.isEmpty,Sto.hidn,binV,binS,binIs,unV,unVs,addF,AV.isPtr,idxV,AV.isSl,AV.isSlice,AV.rows,loadV,loadS,D.part,AV.part,ps,pv,extV,extS,cvI,resAll,resV,resS,AV.outs,outL,AV.outF,Option.map_none,packD,AV.mkAgg,AV.mkTup,AV.dl,fieldV,fieldS,fillV,fillS,AV.cells?,AV.upr,Sto.upr,setR,Sto.get,Sto.ins,Sto.kill,Sto.upd,AV.kill,AV.men,AV.mens,AV.mencs,AV.menc,Sto.mens,Sto.mencs,AV.one,D.one,Value.oneCell',tagOf,AV.isApp,strV,strS,bolV,bolS,slcV,AV.isSlD,optI,optS,asrtS,ifV,bsV,bsS,AV.dcells,D.cells?,AV.no,stcV,stcS,leafOk,eqDs,eqD,Sto.push,Sto.top,Sto.pull,packA,D.val?,D.vals?,beq_self_eq_true,if_true,if_false,ite_true,ite_false,Bool.false_eq_true,Bool.true_eq_false,if_true_left,↓reduceIte,reduceCtorEq,List.getElem?_cons_zero,List.getElem?_cons_succ,List.map_cons,List.map_nil,List.append_nil,List.nil_append,List.cons_append,List.length_cons,List.length_nil,Option.bind_some,Option.getD_some,Option.isSome_some,Option.map_some,true_and,and_true,and_self,true_implies,implies_true,Nat.reduceAdd,Nat.reduceSub,Nat.reduceMul,List.reduceReplicate,List.replicate_zero,List.toList_toArray,Nat.zero_add,Nat.add_zero,List.drop_succ_cons,List.drop_zero,List.take_succ_cons,List.take_zero,List.drop_nil,List.take_nil,Nat.reduceLeDiff,Nat.reduceLT,Nat.reduceBEq,Nat.reduceEqDiff,Int.reduceNeg,Bool.not_true,Bool.not_false,Bool.not_not,Int.reduceEq,Bool.not_eq_true',ne_eq,not_false_eq_true,List.all_cons,List.all_nil,Bool.and_true,Bool.true_and,Bool.and_self,Bool.if_false_right,Bool.if_true_left,Bool.decide_eq_true,Option.some.injEq,exists_eq_left',exists_eq_left,Int.reduceLE,Int.reduceLT,List.not_mem_nil,and_false,false_and,Bool.and_eq_true,decide_eq_true_eq,ite_self,or_true,true_or,or_false,false_or,not_true_eq_false,D.tup.injEq,List.cons.injEq,D.agg.injEq,D.sl.injEq,beq_iff_eq,bne_iff_ne,Bool.or_self,Bool.or_false,Bool.false_or,decide_true,decide_false,End.ret.injEq,D.v.injEq,Value.bool.injEq,Value.int.injEq,tfb,mt97_61,mt99_63,mt101_69,mt102_70,mt103_71,bi_add,bi_sub,bi_mul,bi_quo,bi_rem,bi_and,bi_or,bi_xor,bi_andNot,bi_shl,bi_shr,bi_eql,bi_neq,bi_lss,bi_leq,bi_gtr,bi_geq,ctz32,O32_11,O32_12,z32_31,key74',kill_ents,mencs_ents,mens_ents,agree,ctz31,O31_1,fk, Nat.sub_zero, eq_self]
  exact ⟨M, hM, rfl, rfl⟩
theorem rest_step {A : Fd} (hA : A.ok) {k u : Nat} {M : List ((Nat × Nat) × Ans)} (hk : k + 1 ≤ A.ws.length) (ih : ∀ u M, u < 1024 → sound A M → Does A k u M) (hu : u < 1024) (hM : sound A M) : Does A (k + 1) u M := by
  refine pcall_start (C := Ct32 A k) (O := O32) (tb := 32000) (Ct32_ok ih) hmix ho32 Try.func32 c32 rfl Try.ntmps32 Try.results32 ?_
  have hwl := hA.wl
  simp (maxSteps := 4000000) +contextual (disch := first | omega | exact qdb_ok (by kernel_rfl) | exact okb_ok (by kernel_rfl)) only [bw1,bw2,bw3,bw4,bw5,bw6,bw7,zcell,setPs,sv,gif_true,gif_false,gif_eq,AV.frz,Sto.frz,updAll,AV.cpy,Sto.cpy,ifV,isEqB,nilV,nilX,cloV,AV.isNilS,AV.isNoRows,setAll,wk,wkG,AV.own.injEq,dclo,maskB,datOf,Option.any,List.isEmpty,Sto.hidn,binV,binS,binIs,unV,unVs,addF,AV.isPtr,idxV,AV.isSl,AV.isSlice,AV.rows,loadV,loadS,D.part,AV.part,ps,pv,extV,extS,cvI,resAll,resV,resS,AV.outs,outL,AV.outF,Option.map_none,packD,AV.mkAgg,AV.mkTup,AV.dl,fieldV,fieldS,fillV,fillS,AV.cells?,AV.upr,Sto.upr,setR,Sto.get,Sto.ins,Sto.kill,Sto.upd,AV.kill,AV.men,AV.mens,AV.mencs,AV.menc,Sto.mens,Sto.mencs,AV.one,D.one,Value.oneCell',tagOf,AV.isApp,strV,strS,bolV,bolS,slcV,AV.isSlD,optI,optS,asrtS,ifV,bsV,bsS,AV.dcells,D.cells?,AV.no,stcV,stcS,leafOk,eqDs,eqD,Sto.push,Sto.top,Sto.pull,packA,D.val?,D.vals?,beq_self_eq_true,if_true,if_false,ite_true,ite_false,Bool.false_eq_true,Bool.true_eq_false,if_true_left,↓reduceIte,reduceCtorEq,List.getElem?_cons_zero,List.getElem?_cons_succ,List.map_cons,List.map_nil,List.append_nil,List.nil_append,List.cons_append,List.length_cons,List.length_nil,Option.bind_some,Option.getD_some,Option.isSome_some,Option.map_some,true_and,and_true,and_self,true_implies,implies_true,Nat.reduceAdd,Nat.reduceSub,Nat.reduceMul,List.reduceReplicate,List.replicate_zero,List.toList_toArray,Nat.zero_add,Nat.add_zero,List.drop_succ_cons,List.drop_zero,List.take_succ_cons,List.take_zero,List.drop_nil,List.take_nil,Nat.reduceLeDiff,Nat.reduceLT,Nat.reduceBEq,Nat.reduceEqDiff,Int.reduceNeg,Bool.not_true,Bool.not_false,Bool.not_not,Int.reduceEq,Bool.not_eq_true',ne_eq,not_false_eq_true,List.all_cons,List.all_nil,Bool.and_true,Bool.true_and,Bool.and_self,Bool.if_false_right,Bool.if_true_left,Bool.decide_eq_true,Option.some.injEq,exists_eq_left',exists_eq_left,Int.reduceLE,Int.reduceLT,List.not_mem_nil,and_false,false_and,Bool.and_eq_true,decide_eq_true_eq,ite_self,or_true,true_or,or_false,false_or,not_true_eq_false,D.tup.injEq,List.cons.injEq,D.agg.injEq,D.sl.injEq,beq_iff_eq,bne_iff_ne,Bool.or_self,Bool.or_false,Bool.false_or,decide_true,decide_false,End.ret.injEq,D.v.injEq,Value.bool.injEq,Value.int.injEq,tfb,mt97_61,mt99_63,mt101_69,mt102_70,mt103_71,bi_add,bi_sub,bi_mul,bi_quo,bi_rem,bi_and,bi_or,bi_xor,bi_andNot,bi_shl,bi_shr,bi_eql,bi_neq,bi_lss,bi_leq,bi_gtr,bi_geq,ctz32,O32_11,O32_12,z32_31,key74',kill_ents,mencs_ents,mens_ents,agree,ctz31,O31_1,fk, eq_self]
  rw [if_neg (by omega)]
  refine ⟨keyOf74 (by omega) (by omega), sound_ok hA hM, ?_⟩
  show xLk _ (fkv (A.ws.length - (k + 1), u)) _ _
  refine xLk_ents fk_val fkv_inj (fun v hv => ?_) (fun _ => ?_)
  · obtain rfl : v = restA A (k + 1) u := by have h := (hM _ hv).2.2; rwa [show A.ws.length - (A.ws.length - (k + 1)) = k + 1 by omega] at h
    simp (maxSteps := 4000000) +contextual (disch := first | omega | exact qdb_ok (by kernel_rfl) | exact okb_ok (by kernel_rfl)) only [bw1,bw2,bw3,bw4,bw5,bw6,bw7,zcell,setPs,sv,gif_true,gif_false,gif_eq,AV.frz,Sto.frz,updAll,AV.cpy,Sto.cpy,ifV,isEqB,nilV,nilX,cloV,AV.isNilS,AV.isNoRows,setAll,wk,wkG,AV.own.injEq,dclo,maskB,datOf,Option.any,List.isEmpty,Sto.hidn,binV,binS,binIs,unV,unVs,addF,AV.isPtr,idxV,AV.isSl,AV.isSlice,AV.rows,loadV,loadS,D.part,AV.part,ps,pv,extV,extS,cvI,resAll,resV,resS,AV.outs,outL,AV.outF,Option.map_none,packD,AV.mkAgg,AV.mkTup,AV.dl,fieldV,fieldS,fillV,fillS,AV.cells?,AV.upr,Sto.upr,setR,Sto.get,Sto.ins,Sto.kill,Sto.upd,AV.kill,AV.men,AV.mens,AV.mencs,AV.menc,Sto.mens,Sto.mencs,AV.one,D.one,Value.oneCell',tagOf,AV.isApp,strV,strS,bolV,bolS,slcV,AV.isSlD,optI,optS,asrtS,ifV,bsV,bsS,AV.dcells,D.cells?,AV.no,stcV,stcS,leafOk,eqDs,eqD,Sto.push,Sto.top,Sto.pull,packA,D.val?,D.vals?,beq_self_eq_true,if_true,if_false,ite_true,ite_false,Bool.false_eq_true,Bool.true_eq_false,if_true_left,↓reduceIte,reduceCtorEq,List.getElem?_cons_zero,List.getElem?_cons_succ,List.map_cons,List.map_nil,List.append_nil,List.nil_append,List.cons_append,List.length_cons,List.length_nil,Option.bind_some,Option.getD_some,Option.isSome_some,Option.map_some,true_and,and_true,and_self,true_implies,implies_true,Nat.reduceAdd,Nat.reduceSub,Nat.reduceMul,List.reduceReplicate,List.replicate_zero,List.toList_toArray,Nat.zero_add,Nat.add_zero,List.drop_succ_cons,List.drop_zero,List.take_succ_cons,List.take_zero,List.drop_nil,List.take_nil,Nat.reduceLeDiff,Nat.reduceLT,Nat.reduceBEq,Nat.reduceEqDiff,Int.reduceNeg,Bool.not_true,Bool.not_false,Bool.not_not,Int.reduceEq,Bool.not_eq_true',ne_eq,not_false_eq_true,List.all_cons,List.all_nil,Bool.and_true,Bool.true_and,Bool.and_self,Bool.if_false_right,Bool.if_true_left,Bool.decide_eq_true,Option.some.injEq,exists_eq_left',exists_eq_left,Int.reduceLE,Int.reduceLT,List.not_mem_nil,and_false,false_and,Bool.and_eq_true,decide_eq_true_eq,ite_self,or_true,true_or,or_false,false_or,not_true_eq_false,D.tup.injEq,List.cons.injEq,D.agg.injEq,D.sl.injEq,beq_iff_eq,bne_iff_ne,Bool.or_self,Bool.or_false,Bool.false_or,decide_true,decide_false,End.ret.injEq,D.v.injEq,Value.bool.injEq,Value.int.injEq,tfb,mt97_61,mt99_63,mt101_69,mt102_70,mt103_71,bi_add,bi_sub,bi_mul,bi_quo,bi_rem,bi_and,bi_or,bi_xor,bi_andNot,bi_shl,bi_shr,bi_eql,bi_neq,bi_lss,bi_leq,bi_gtr,bi_geq,ctz32,O32_11,O32_12,z32_31,key74',kill_ents,mencs_ents,mens_ents,agree,ctz31,O31_1,fv, eq_self]
    exact ⟨M, hM, rfl⟩
  · simp (maxSteps := 4000000) +contextual (disch := first | omega | exact qdb_ok (by kernel_rfl) | exact okb_ok (by kernel_rfl)) only [bw1,bw2,bw3,bw4,bw5,bw6,bw7,zcell,setPs,sv,gif_true,gif_false,gif_eq,AV.frz,Sto.frz,updAll,AV.cpy,Sto.cpy,ifV,isEqB,nilV,nilX,cloV,AV.isNilS,AV.isNoRows,setAll,wk,wkG,AV.own.injEq,dclo,maskB,datOf,Option.any,List.isEmpty,Sto.hidn,binV,binS,binIs,unV,unVs,addF,AV.isPtr,idxV,AV.isSl,AV.isSlice,AV.rows,loadV,loadS,D.part,AV.part,ps,pv,extV,extS,cvI,resAll,resV,resS,AV.outs,outL,AV.outF,Option.map_none,packD,AV.mkAgg,AV.mkTup,AV.dl,fieldV,fieldS,fillV,fillS,AV.cells?,AV.upr,Sto.upr,setR,Sto.get,Sto.ins,Sto.kill,Sto.upd,AV.kill,AV.men,AV.mens,AV.mencs,AV.menc,Sto.mens,Sto.mencs,AV.one,D.one,Value.oneCell',tagOf,AV.isApp,strV,strS,bolV,bolS,slcV,AV.isSlD,optI,optS,asrtS,ifV,bsV,bsS,AV.dcells,D.cells?,AV.no,stcV,stcS,leafOk,eqDs,eqD,Sto.push,Sto.top,Sto.pull,packA,D.val?,D.vals?,beq_self_eq_true,if_true,if_false,ite_true,ite_false,Bool.false_eq_true,Bool.true_eq_false,if_true_left,↓reduceIte,reduceCtorEq,List.getElem?_cons_zero,List.getElem?_cons_succ,List.map_cons,List.map_nil,List.append_nil,List.nil_append,List.cons_append,List.length_cons,List.length_nil,Option.bind_some,Option.getD_some,Option.isSome_some,Option.map_some,true_and,and_true,and_self,true_implies,implies_true,Nat.reduceAdd,Nat.reduceSub,Nat.reduceMul,List.reduceReplicate,List.replicate_zero,List.toList_toArray,Nat.zero_add,Nat.add_zero,List.drop_succ_cons,List.drop_zero,List.take_succ_cons,List.take_zero,List.drop_nil,List.take_nil,Nat.reduceLeDiff,Nat.reduceLT,Nat.reduceBEq,Nat.reduceEqDiff,Int.reduceNeg,Bool.not_true,Bool.not_false,Bool.not_not,Int.reduceEq,Bool.not_eq_true',ne_eq,not_false_eq_true,List.all_cons,List.all_nil,Bool.and_true,Bool.true_and,Bool.and_self,Bool.if_false_right,Bool.if_true_left,Bool.decide_eq_true,Option.some.injEq,exists_eq_left',exists_eq_left,Int.reduceLE,Int.reduceLT,List.not_mem_nil,and_false,false_and,Bool.and_eq_true,decide_eq_true_eq,ite_self,or_true,true_or,or_false,false_or,not_true_eq_false,D.tup.injEq,List.cons.injEq,D.agg.injEq,D.sl.injEq,beq_iff_eq,bne_iff_ne,Bool.or_self,Bool.or_false,Bool.false_or,decide_true,decide_false,End.ret.injEq,D.v.injEq,Value.bool.injEq,Value.int.injEq,tfb,mt97_61,mt99_63,mt101_69,mt102_70,mt103_71,bi_add,bi_sub,bi_mul,bi_quo,bi_rem,bi_and,bi_or,bi_xor,bi_andNot,bi_shl,bi_shr,bi_eql,bi_neq,bi_lss,bi_leq,bi_gtr,bi_geq,ctz32,O32_11,O32_12,z32_31,key74',kill_ents,mencs_ents,mens_ents,agree,ctz31,O31_1,fv, eq_self]
    refine loop_x (O := O32) (tb := 32000) (Ct32_ok ih) hmix (by kernel_rfl) (σ := Nat × List ((Nat × Nat) × Ans)) (fun x => [(30, .i x.1)])
      (fun x => [(0, EA A), (6, [.d (.sl 1 (A.ws.map ic))]), (10, [.d (storeP A)]), (13, [.own 47 3 1 (A.cs.map ic)]), (15, [.clo (.func 31) [] [.ref 6 0, .ref 10 0, .ref 13 0]]), (16, [.mp 2000000048]), (17, [.clo (.func 32) [] [.ref 6 0, .ref 16 0, .ref 13 0, .ref 17 0, .ref 15 0]]),
        (32007, [.i ((A.ws.length - (k + 1) : Nat) : Int), .d (.v (.int .u64 u))]), (32008, [.i 0, .i 0, .b false]), (32011, [.i (bestN A k (restA A k) u x.1).1, .i (bestN A k (restA A k) u x.1).2.1, .b (bestN A k (restA A k) u x.1).2.2]), (2000000048, ents fk fv x.2)])
      (fun x => x.1 ≤ A.cs.length ∧ sound A x.2) (fun x => A.cs.length - x.1) (0, M) ⟨by omega, hM⟩ ?_ ?_
    · simp (maxSteps := 4000000) +contextual (disch := first | omega | exact qdb_ok (by kernel_rfl) | exact okb_ok (by kernel_rfl)) only [bw1,bw2,bw3,bw4,bw5,bw6,bw7,zcell,setPs,sv,gif_true,gif_false,gif_eq,AV.frz,Sto.frz,updAll,AV.cpy,Sto.cpy,ifV,isEqB,nilV,nilX,cloV,AV.isNilS,AV.isNoRows,setAll,wk,wkG,AV.own.injEq,dclo,maskB,datOf,Option.any,List.isEmpty,Sto.hidn,binV,binS,binIs,unV,unVs,addF,AV.isPtr,idxV,AV.isSl,AV.isSlice,AV.rows,loadV,loadS,D.part,AV.part,ps,pv,extV,extS,cvI,resAll,resV,resS,AV.outs,outL,AV.outF,Option.map_none,packD,AV.mkAgg,AV.mkTup,AV.dl,fieldV,fieldS,fillV,fillS,AV.cells?,AV.upr,Sto.upr,setR,Sto.get,Sto.ins,Sto.kill,Sto.upd,AV.kill,AV.men,AV.mens,AV.mencs,AV.menc,Sto.mens,Sto.mencs,AV.one,D.one,Value.oneCell',tagOf,AV.isApp,strV,strS,bolV,bolS,slcV,AV.isSlD,optI,optS,asrtS,ifV,bsV,bsS,AV.dcells,D.cells?,AV.no,stcV,stcS,leafOk,eqDs,eqD,Sto.push,Sto.top,Sto.pull,packA,D.val?,D.vals?,beq_self_eq_true,if_true,if_false,ite_true,ite_false,Bool.false_eq_true,Bool.true_eq_false,if_true_left,↓reduceIte,reduceCtorEq,List.getElem?_cons_zero,List.getElem?_cons_succ,List.map_cons,List.map_nil,List.append_nil,List.nil_append,List.cons_append,List.length_cons,List.length_nil,Option.bind_some,Option.getD_some,Option.isSome_some,Option.map_some,true_and,and_true,and_self,true_implies,implies_true,Nat.reduceAdd,Nat.reduceSub,Nat.reduceMul,List.reduceReplicate,List.replicate_zero,List.toList_toArray,Nat.zero_add,Nat.add_zero,List.drop_succ_cons,List.drop_zero,List.take_succ_cons,List.take_zero,List.drop_nil,List.take_nil,Nat.reduceLeDiff,Nat.reduceLT,Nat.reduceBEq,Nat.reduceEqDiff,Int.reduceNeg,Bool.not_true,Bool.not_false,Bool.not_not,Int.reduceEq,Bool.not_eq_true',ne_eq,not_false_eq_true,List.all_cons,List.all_nil,Bool.and_true,Bool.true_and,Bool.and_self,Bool.if_false_right,Bool.if_true_left,Bool.decide_eq_true,Option.some.injEq,exists_eq_left',exists_eq_left,Int.reduceLE,Int.reduceLT,List.not_mem_nil,and_false,false_and,Bool.and_eq_true,decide_eq_true_eq,ite_self,or_true,true_or,or_false,false_or,not_true_eq_false,D.tup.injEq,List.cons.injEq,D.agg.injEq,D.sl.injEq,beq_iff_eq,bne_iff_ne,Bool.or_self,Bool.or_false,Bool.false_or,decide_true,decide_false,End.ret.injEq,D.v.injEq,Value.bool.injEq,Value.int.injEq,tfb,mt97_61,mt99_63,mt101_69,mt102_70,mt103_71,bi_add,bi_sub,bi_mul,bi_quo,bi_rem,bi_and,bi_or,bi_xor,bi_andNot,bi_shl,bi_shr,bi_eql,bi_neq,bi_lss,bi_leq,bi_gtr,bi_geq,ctz32,O32_11,O32_12,z32_31,key74',kill_ents,mencs_ents,mens_ents,agree,ctz31,O31_1,fv, eq_self]
      exact ⟨⟨rfl, rfl, rfl⟩, wk_ents _⟩
    rintro ⟨n, M1⟩ ⟨hn, hM1⟩
    simp only at hn hM1
    have hcl := hA.cl
    by_cases hlt : n < A.cs.length
    · have hlt' : (n : Int) < A.cs.length := by omega
      have hv : u ||| 2 ^ n < 1024 := Nat.or_lt_two_pow (n := 10) hu (by have : 2 ^ n ≤ 2 ^ 9 := Nat.pow_le_pow_right (by omega) (by omega); omega)
      by_cases hb : u.testBit n = true
      · simp (maxSteps := 4000000) +contextual (disch := first | omega | exact qdb_ok (by kernel_rfl) | exact okb_ok (by kernel_rfl)) only [bw1,bw2,bw3,bw4,bw5,bw6,bw7,zcell,setPs,sv,gif_true,gif_false,gif_eq,AV.frz,Sto.frz,updAll,AV.cpy,Sto.cpy,ifV,isEqB,nilV,nilX,cloV,AV.isNilS,AV.isNoRows,setAll,wk,wkG,AV.own.injEq,dclo,maskB,datOf,Option.any,List.isEmpty,Sto.hidn,binV,binS,binIs,unV,unVs,addF,AV.isPtr,idxV,AV.isSl,AV.isSlice,AV.rows,loadV,loadS,D.part,AV.part,ps,pv,extV,extS,cvI,resAll,resV,resS,AV.outs,outL,AV.outF,Option.map_none,packD,AV.mkAgg,AV.mkTup,AV.dl,fieldV,fieldS,fillV,fillS,AV.cells?,AV.upr,Sto.upr,setR,Sto.get,Sto.ins,Sto.kill,Sto.upd,AV.kill,AV.men,AV.mens,AV.mencs,AV.menc,Sto.mens,Sto.mencs,AV.one,D.one,Value.oneCell',tagOf,AV.isApp,strV,strS,bolV,bolS,slcV,AV.isSlD,optI,optS,asrtS,ifV,bsV,bsS,AV.dcells,D.cells?,AV.no,stcV,stcS,leafOk,eqDs,eqD,Sto.push,Sto.top,Sto.pull,packA,D.val?,D.vals?,beq_self_eq_true,if_true,if_false,ite_true,ite_false,Bool.false_eq_true,Bool.true_eq_false,if_true_left,↓reduceIte,reduceCtorEq,List.getElem?_cons_zero,List.getElem?_cons_succ,List.map_cons,List.map_nil,List.append_nil,List.nil_append,List.cons_append,List.length_cons,List.length_nil,Option.bind_some,Option.getD_some,Option.isSome_some,Option.map_some,true_and,and_true,and_self,true_implies,implies_true,Nat.reduceAdd,Nat.reduceSub,Nat.reduceMul,List.reduceReplicate,List.replicate_zero,List.toList_toArray,Nat.zero_add,Nat.add_zero,List.drop_succ_cons,List.drop_zero,List.take_succ_cons,List.take_zero,List.drop_nil,List.take_nil,Nat.reduceLeDiff,Nat.reduceLT,Nat.reduceBEq,Nat.reduceEqDiff,Int.reduceNeg,Bool.not_true,Bool.not_false,Bool.not_not,Int.reduceEq,Bool.not_eq_true',ne_eq,not_false_eq_true,List.all_cons,List.all_nil,Bool.and_true,Bool.true_and,Bool.and_self,Bool.if_false_right,Bool.if_true_left,Bool.decide_eq_true,Option.some.injEq,exists_eq_left',exists_eq_left,Int.reduceLE,Int.reduceLT,List.not_mem_nil,and_false,false_and,Bool.and_eq_true,decide_eq_true_eq,ite_self,or_true,true_or,or_false,false_or,not_true_eq_false,D.tup.injEq,List.cons.injEq,D.agg.injEq,D.sl.injEq,beq_iff_eq,bne_iff_ne,Bool.or_self,Bool.or_false,Bool.false_or,decide_true,decide_false,End.ret.injEq,D.v.injEq,Value.bool.injEq,Value.int.injEq,tfb,mt97_61,mt99_63,mt101_69,mt102_70,mt103_71,bi_add,bi_sub,bi_mul,bi_quo,bi_rem,bi_and,bi_or,bi_xor,bi_andNot,bi_shl,bi_shr,bi_eql,bi_neq,bi_lss,bi_leq,bi_gtr,bi_geq,ctz32,O32_11,O32_12,z32_31,key74',kill_ents,mencs_ents,mens_ents,agree,ctz31,O31_1,fv, eq_self, bit_p hu (Nat.lt_of_lt_of_le hlt hcl), hlt', hb, Int.natCast_nonneg]
        refine ⟨(n + 1, M1), ⟨⟨hlt, hM1⟩, by omega⟩, ?_⟩
        rw [bestN_succ]
        unfold stepA
        rw [if_pos hb]
        exact ⟨rfl, ⟨rfl, rfl, rfl⟩, wk_ents _⟩
      · have hb : u.testBit n = false := by simpa using hb
        have hrb := rest_bd hA k (u ||| 2 ^ n)
        have hw1 : A.ws.length - (k + 1) < A.ws.length := by omega
        have hw2 : ((A.ws.length - (k + 1) : Nat) : Int) < A.ws.length := by omega
        have hwb := hA.ws _ (at_mem hw1)
        have hcb := hA.cs _ (at_mem hlt)
        have hzb := hA.sz _ (at_mem (show (A.cs.getD n default).toNat < A.l.length by omega))
        simp (maxSteps := 4000000) +contextual (disch := first | omega | exact qdb_ok (by kernel_rfl) | exact okb_ok (by kernel_rfl)) only [bw1,bw2,bw3,bw4,bw5,bw6,bw7,zcell,setPs,sv,gif_true,gif_false,gif_eq,AV.frz,Sto.frz,updAll,AV.cpy,Sto.cpy,ifV,isEqB,nilV,nilX,cloV,AV.isNilS,AV.isNoRows,setAll,wk,wkG,AV.own.injEq,dclo,maskB,datOf,Option.any,List.isEmpty,Sto.hidn,binV,binS,binIs,unV,unVs,addF,AV.isPtr,idxV,AV.isSl,AV.isSlice,AV.rows,loadV,loadS,D.part,AV.part,ps,pv,extV,extS,cvI,resAll,resV,resS,AV.outs,outL,AV.outF,Option.map_none,packD,AV.mkAgg,AV.mkTup,AV.dl,fieldV,fieldS,fillV,fillS,AV.cells?,AV.upr,Sto.upr,setR,Sto.get,Sto.ins,Sto.kill,Sto.upd,AV.kill,AV.men,AV.mens,AV.mencs,AV.menc,Sto.mens,Sto.mencs,AV.one,D.one,Value.oneCell',tagOf,AV.isApp,strV,strS,bolV,bolS,slcV,AV.isSlD,optI,optS,asrtS,ifV,bsV,bsS,AV.dcells,D.cells?,AV.no,stcV,stcS,leafOk,eqDs,eqD,Sto.push,Sto.top,Sto.pull,packA,D.val?,D.vals?,beq_self_eq_true,if_true,if_false,ite_true,ite_false,Bool.false_eq_true,Bool.true_eq_false,if_true_left,↓reduceIte,reduceCtorEq,List.getElem?_cons_zero,List.getElem?_cons_succ,List.map_cons,List.map_nil,List.append_nil,List.nil_append,List.cons_append,List.length_cons,List.length_nil,Option.bind_some,Option.getD_some,Option.isSome_some,Option.map_some,true_and,and_true,and_self,true_implies,implies_true,Nat.reduceAdd,Nat.reduceSub,Nat.reduceMul,List.reduceReplicate,List.replicate_zero,List.toList_toArray,Nat.zero_add,Nat.add_zero,List.drop_succ_cons,List.drop_zero,List.take_succ_cons,List.take_zero,List.drop_nil,List.take_nil,Nat.reduceLeDiff,Nat.reduceLT,Nat.reduceBEq,Nat.reduceEqDiff,Int.reduceNeg,Bool.not_true,Bool.not_false,Bool.not_not,Int.reduceEq,Bool.not_eq_true',ne_eq,not_false_eq_true,List.all_cons,List.all_nil,Bool.and_true,Bool.true_and,Bool.and_self,Bool.if_false_right,Bool.if_true_left,Bool.decide_eq_true,Option.some.injEq,exists_eq_left',exists_eq_left,Int.reduceLE,Int.reduceLT,List.not_mem_nil,and_false,false_and,Bool.and_eq_true,decide_eq_true_eq,ite_self,or_true,true_or,or_false,false_or,not_true_eq_false,D.tup.injEq,List.cons.injEq,D.agg.injEq,D.sl.injEq,beq_iff_eq,bne_iff_ne,Bool.or_self,Bool.or_false,Bool.false_or,decide_true,decide_false,End.ret.injEq,D.v.injEq,Value.bool.injEq,Value.int.injEq,tfb,mt97_61,mt99_63,mt101_69,mt102_70,mt103_71,bi_add,bi_sub,bi_mul,bi_quo,bi_rem,bi_and,bi_or,bi_xor,bi_andNot,bi_shl,bi_shr,bi_eql,bi_neq,bi_lss,bi_leq,bi_gtr,bi_geq,ctz32,O32_11,O32_12,z32_31,key74',kill_ents,mencs_ents,mens_ents,agree,ctz31,O31_1,fv, eq_self, bit_p hu (Nat.lt_of_lt_of_le hlt hcl), hlt', hb, Int.natCast_nonneg, set_u64 hu (Nat.lt_of_lt_of_le hlt hcl)]
        repeat' apply And.intro
        all_goals
          refine call32 hv hM1 (by simp [fk]; omega) (by simp [Sto.get, AV.stays, AV.stay, othL]) (fun M2 hM2 => ?_)
        all_goals
          simp (maxSteps := 4000000) +contextual (disch := first | omega | exact qdb_ok (by kernel_rfl) | exact okb_ok (by kernel_rfl)) only [bw1,bw2,bw3,bw4,bw5,bw6,bw7,zcell,setPs,sv,gif_true,gif_false,gif_eq,AV.frz,Sto.frz,updAll,AV.cpy,Sto.cpy,ifV,isEqB,nilV,nilX,cloV,AV.isNilS,AV.isNoRows,setAll,wk,wkG,AV.own.injEq,dclo,maskB,datOf,Option.any,List.isEmpty,Sto.hidn,binV,binS,binIs,unV,unVs,addF,AV.isPtr,idxV,AV.isSl,AV.isSlice,AV.rows,loadV,loadS,D.part,AV.part,ps,pv,extV,extS,cvI,resAll,resV,resS,AV.outs,outL,AV.outF,Option.map_none,packD,AV.mkAgg,AV.mkTup,AV.dl,fieldV,fieldS,fillV,fillS,AV.cells?,AV.upr,Sto.upr,setR,Sto.get,Sto.ins,Sto.kill,Sto.upd,AV.kill,AV.men,AV.mens,AV.mencs,AV.menc,Sto.mens,Sto.mencs,AV.one,D.one,Value.oneCell',tagOf,AV.isApp,strV,strS,bolV,bolS,slcV,AV.isSlD,optI,optS,asrtS,ifV,bsV,bsS,AV.dcells,D.cells?,AV.no,stcV,stcS,leafOk,eqDs,eqD,Sto.push,Sto.top,Sto.pull,packA,D.val?,D.vals?,beq_self_eq_true,if_true,if_false,ite_true,ite_false,Bool.false_eq_true,Bool.true_eq_false,if_true_left,↓reduceIte,reduceCtorEq,List.getElem?_cons_zero,List.getElem?_cons_succ,List.map_cons,List.map_nil,List.append_nil,List.nil_append,List.cons_append,List.length_cons,List.length_nil,Option.bind_some,Option.getD_some,Option.isSome_some,Option.map_some,true_and,and_true,and_self,true_implies,implies_true,Nat.reduceAdd,Nat.reduceSub,Nat.reduceMul,List.reduceReplicate,List.replicate_zero,List.toList_toArray,Nat.zero_add,Nat.add_zero,List.drop_succ_cons,List.drop_zero,List.take_succ_cons,List.take_zero,List.drop_nil,List.take_nil,Nat.reduceLeDiff,Nat.reduceLT,Nat.reduceBEq,Nat.reduceEqDiff,Int.reduceNeg,Bool.not_true,Bool.not_false,Bool.not_not,Int.reduceEq,Bool.not_eq_true',ne_eq,not_false_eq_true,List.all_cons,List.all_nil,Bool.and_true,Bool.true_and,Bool.and_self,Bool.if_false_right,Bool.if_true_left,Bool.decide_eq_true,Option.some.injEq,exists_eq_left',exists_eq_left,Int.reduceLE,Int.reduceLT,List.not_mem_nil,and_false,false_and,Bool.and_eq_true,decide_eq_true_eq,ite_self,or_true,true_or,or_false,false_or,not_true_eq_false,D.tup.injEq,List.cons.injEq,D.agg.injEq,D.sl.injEq,beq_iff_eq,bne_iff_ne,Bool.or_self,Bool.or_false,Bool.false_or,decide_true,decide_false,End.ret.injEq,D.v.injEq,Value.bool.injEq,Value.int.injEq,tfb,mt97_61,mt99_63,mt101_69,mt102_70,mt103_71,bi_add,bi_sub,bi_mul,bi_quo,bi_rem,bi_and,bi_or,bi_xor,bi_andNot,bi_shl,bi_shr,bi_eql,bi_neq,bi_lss,bi_leq,bi_gtr,bi_geq,ctz32,O32_11,O32_12,z32_31,key74',kill_ents,mencs_ents,mens_ents,agree,ctz31,O31_1,fv, fk, eq_self, mer, List.contains_cons, List.contains_nil, Bool.or_true, Bool.true_or, Int.natCast_nonneg, hlt']
        all_goals
          refine ⟨hw2, hcb, ?_⟩
          have h2 : A.apart (A.ws.length - (k + 1)) n = max (A.ws.getD (A.ws.length - (k + 1)) default - (A.l.getD (A.cs.getD n default).toNat default).size) (0 - (A.ws.getD (A.ws.length - (k + 1)) default - (A.l.getD (A.cs.getD n default).toNat default).size)) := by unfold Fd.apart Fd.z; rw [Int.zero_sub]
          have h1 := bestN_succ (A := A) (k := k) (f := restA A k) (u := u) (n := n)
          unfold stepA at h1
          rw [if_neg (by simp [hb]), h2] at h1
          clear h2 hwb hzb hcb hw1 hw2 hrb
          repeat' split
          all_goals
            refine ⟨(n + 1, M2), ⟨⟨hlt, hM2⟩, by omega⟩, rfl, ?_, wk_ents _⟩
            first | exact cl_new h1 (by simp_all) | exact cl_old' h1 (by simp_all) (by assumption) | exact cl_old h1 (by simp_all)
    · have hn' : n = A.cs.length := by omega
      have hlt' : ¬ (n : Int) < A.cs.length := by omega
      simp (maxSteps := 4000000) +contextual (disch := first | omega | exact qdb_ok (by kernel_rfl) | exact okb_ok (by kernel_rfl)) only [bw1,bw2,bw3,bw4,bw5,bw6,bw7,zcell,setPs,sv,gif_true,gif_false,gif_eq,AV.frz,Sto.frz,updAll,AV.cpy,Sto.cpy,ifV,isEqB,nilV,nilX,cloV,AV.isNilS,AV.isNoRows,setAll,wk,wkG,AV.own.injEq,dclo,maskB,datOf,Option.any,List.isEmpty,Sto.hidn,binV,binS,binIs,unV,unVs,addF,AV.isPtr,idxV,AV.isSl,AV.isSlice,AV.rows,loadV,loadS,D.part,AV.part,ps,pv,extV,extS,cvI,resAll,resV,resS,AV.outs,outL,AV.outF,Option.map_none,packD,AV.mkAgg,AV.mkTup,AV.dl,fieldV,fieldS,fillV,fillS,AV.cells?,AV.upr,Sto.upr,setR,Sto.get,Sto.ins,Sto.kill,Sto.upd,AV.kill,AV.men,AV.mens,AV.mencs,AV.menc,Sto.mens,Sto.mencs,AV.one,D.one,Value.oneCell',tagOf,AV.isApp,strV,strS,bolV,bolS,slcV,AV.isSlD,optI,optS,asrtS,ifV,bsV,bsS,AV.dcells,D.cells?,AV.no,stcV,stcS,leafOk,eqDs,eqD,Sto.push,Sto.top,Sto.pull,packA,D.val?,D.vals?,beq_self_eq_true,if_true,if_false,ite_true,ite_false,Bool.false_eq_true,Bool.true_eq_false,if_true_left,↓reduceIte,reduceCtorEq,List.getElem?_cons_zero,List.getElem?_cons_succ,List.map_cons,List.map_nil,List.append_nil,List.nil_append,List.cons_append,List.length_cons,List.length_nil,Option.bind_some,Option.getD_some,Option.isSome_some,Option.map_some,true_and,and_true,and_self,true_implies,implies_true,Nat.reduceAdd,Nat.reduceSub,Nat.reduceMul,List.reduceReplicate,List.replicate_zero,List.toList_toArray,Nat.zero_add,Nat.add_zero,List.drop_succ_cons,List.drop_zero,List.take_succ_cons,List.take_zero,List.drop_nil,List.take_nil,Nat.reduceLeDiff,Nat.reduceLT,Nat.reduceBEq,Nat.reduceEqDiff,Int.reduceNeg,Bool.not_true,Bool.not_false,Bool.not_not,Int.reduceEq,Bool.not_eq_true',ne_eq,not_false_eq_true,List.all_cons,List.all_nil,Bool.and_true,Bool.true_and,Bool.and_self,Bool.if_false_right,Bool.if_true_left,Bool.decide_eq_true,Option.some.injEq,exists_eq_left',exists_eq_left,Int.reduceLE,Int.reduceLT,List.not_mem_nil,and_false,false_and,Bool.and_eq_true,decide_eq_true_eq,ite_self,or_true,true_or,or_false,false_or,not_true_eq_false,D.tup.injEq,List.cons.injEq,D.agg.injEq,D.sl.injEq,beq_iff_eq,bne_iff_ne,Bool.or_self,Bool.or_false,Bool.false_or,decide_true,decide_false,End.ret.injEq,D.v.injEq,Value.bool.injEq,Value.int.injEq,tfb,mt97_61,mt99_63,mt101_69,mt102_70,mt103_71,bi_add,bi_sub,bi_mul,bi_quo,bi_rem,bi_and,bi_or,bi_xor,bi_andNot,bi_shl,bi_shr,bi_eql,bi_neq,bi_lss,bi_leq,bi_gtr,bi_geq,ctz32,O32_11,O32_12,z32_31,key74',kill_ents,mencs_ents,mens_ents,agree,ctz31,O31_1,fv, fk, eq_self, hlt']
      refine ⟨keyOf74 (by omega) (by omega), sound_ok hA hM1, ?_⟩
      show xUp _ _ (fkv (A.ws.length - (k + 1), u)) _ _ _
      refine xUp_ents (fk := fk) (fv := fv) fk_val fkv_inj (k := (A.ws.length - (k + 1), u)) (v := bestN A k (restA A k) u n) rfl rfl (fun M3 hM3 => ?_)
      have hM3' : sound A M3 := fun p hp => by
        rcases hM3 p hp with h | rfl
        · exact hM1 p h
        · refine ⟨by simp only; omega, hu, ?_⟩
          rw [show A.ws.length - (A.ws.length - (k + 1)) = k + 1 by omega, hn']; rfl
      simp (maxSteps := 4000000) +contextual (disch := first | omega | exact qdb_ok (by kernel_rfl) | exact okb_ok (by kernel_rfl)) only [bw1,bw2,bw3,bw4,bw5,bw6,bw7,zcell,setPs,sv,gif_true,gif_false,gif_eq,AV.frz,Sto.frz,updAll,AV.cpy,Sto.cpy,ifV,isEqB,nilV,nilX,cloV,AV.isNilS,AV.isNoRows,setAll,wk,wkG,AV.own.injEq,dclo,maskB,datOf,Option.any,List.isEmpty,Sto.hidn,binV,binS,binIs,unV,unVs,addF,AV.isPtr,idxV,AV.isSl,AV.isSlice,AV.rows,loadV,loadS,D.part,AV.part,ps,pv,extV,extS,cvI,resAll,resV,resS,AV.outs,outL,AV.outF,Option.map_none,packD,AV.mkAgg,AV.mkTup,AV.dl,fieldV,fieldS,fillV,fillS,AV.cells?,AV.upr,Sto.upr,setR,Sto.get,Sto.ins,Sto.kill,Sto.upd,AV.kill,AV.men,AV.mens,AV.mencs,AV.menc,Sto.mens,Sto.mencs,AV.one,D.one,Value.oneCell',tagOf,AV.isApp,strV,strS,bolV,bolS,slcV,AV.isSlD,optI,optS,asrtS,ifV,bsV,bsS,AV.dcells,D.cells?,AV.no,stcV,stcS,leafOk,eqDs,eqD,Sto.push,Sto.top,Sto.pull,packA,D.val?,D.vals?,beq_self_eq_true,if_true,if_false,ite_true,ite_false,Bool.false_eq_true,Bool.true_eq_false,if_true_left,↓reduceIte,reduceCtorEq,List.getElem?_cons_zero,List.getElem?_cons_succ,List.map_cons,List.map_nil,List.append_nil,List.nil_append,List.cons_append,List.length_cons,List.length_nil,Option.bind_some,Option.getD_some,Option.isSome_some,Option.map_some,true_and,and_true,and_self,true_implies,implies_true,Nat.reduceAdd,Nat.reduceSub,Nat.reduceMul,List.reduceReplicate,List.replicate_zero,List.toList_toArray,Nat.zero_add,Nat.add_zero,List.drop_succ_cons,List.drop_zero,List.take_succ_cons,List.take_zero,List.drop_nil,List.take_nil,Nat.reduceLeDiff,Nat.reduceLT,Nat.reduceBEq,Nat.reduceEqDiff,Int.reduceNeg,Bool.not_true,Bool.not_false,Bool.not_not,Int.reduceEq,Bool.not_eq_true',ne_eq,not_false_eq_true,List.all_cons,List.all_nil,Bool.and_true,Bool.true_and,Bool.and_self,Bool.if_false_right,Bool.if_true_left,Bool.decide_eq_true,Option.some.injEq,exists_eq_left',exists_eq_left,Int.reduceLE,Int.reduceLT,List.not_mem_nil,and_false,false_and,Bool.and_eq_true,decide_eq_true_eq,ite_self,or_true,true_or,or_false,false_or,not_true_eq_false,D.tup.injEq,List.cons.injEq,D.agg.injEq,D.sl.injEq,beq_iff_eq,bne_iff_ne,Bool.or_self,Bool.or_false,Bool.false_or,decide_true,decide_false,End.ret.injEq,D.v.injEq,Value.bool.injEq,Value.int.injEq,tfb,mt97_61,mt99_63,mt101_69,mt102_70,mt103_71,bi_add,bi_sub,bi_mul,bi_quo,bi_rem,bi_and,bi_or,bi_xor,bi_andNot,bi_shl,bi_shr,bi_eql,bi_neq,bi_lss,bi_leq,bi_gtr,bi_geq,ctz32,O32_11,O32_12,z32_31,key74',kill_ents,mencs_ents,mens_ents,agree,ctz31,O31_1,fv, fk, eq_self]
      exact ⟨M3, hM3', by rw [restA, ← hn'], rfl⟩
theorem rest_ok {A : Fd} (hA : A.ok) : ∀ k u M, k ≤ A.ws.length → u < 1024 → sound A M → Does A k u M
  | 0, _, _, _, hu, hM => rest_base hA hu hM
  | k + 1, _, _, hk, hu, hM => rest_step hA hk (fun u M hu hM => rest_ok hA k u M (by omega) hu hM) hu hM
end Go.Proofs.Ytmkigohedfcomaa
