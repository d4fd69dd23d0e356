/- A part of the proof that the last text ends: what functions of the program do, told by plain data. -/
import Derived.Test.YtofbbkacihnjdaaIHT
set_option linter.unusedVariables false
set_option linter.unusedSimpArgs false
namespace Go.Proofs.Ytofbbkacihnjdaa
open Go Go.E Go.Maps
set_option maxRecDepth 100000
set_option maxHeartbeats 4000000
theorem cmpN_neg {x y : List Int} : ∀ k i, cmpN y x k i = - cmpN x y k i
  | 0, _ => rfl
  | k + 1, i => by
    unfold cmpN
    repeat' split
    all_goals first | omega | exact cmpN_neg k (i + 1)
theorem cmpN_z {x y : List Int} : ∀ k i, cmpN x y k i = 0 → ∀ z, cmpN x z k i = cmpN y z k i
  | 0, _, _, _ => rfl
  | k + 1, i, h, z => by
    unfold cmpN at h
    split at h
    · cases h
    · split at h
      · cases h
      · have e : x.getD i default = y.getD i default := by omega
        unfold cmpN
        rw [e, cmpN_z k (i + 1) h z]
theorem cmpN_tr {x y z : List Int} : ∀ k i, cmpN x y k i ≤ 0 → cmpN y z k i ≤ 0 → cmpN x z k i ≤ 0
  | 0, _, _, _ => Int.le_refl _
  | k + 1, i, h1, h2 => by
    unfold cmpN at h1 h2 ⊢
    repeat' split at h1
    all_goals repeat' split at h2
    all_goals repeat' split
    all_goals first | omega | exact cmpN_tr k (i + 1) h1 h2
theorem cmpC_N {t : Tt} {a b : Cn} : cmpC t a b = cmpN (isort (hcL t a)) (isort (hcL t b)) t.groups.length 0 := by
  unfold cmpC cmpL
  rw [isort_len, hcL_len]
theorem cmpC_neg {t : Tt} {a b : Cn} : cmpC t b a = - cmpC t a b := by rw [cmpC_N, cmpC_N]; exact cmpN_neg _ _
theorem cmpC_tr {t : Tt} {a b c : Cn} (h1 : cmpC t a b ≤ 0) (h2 : cmpC t b c ≤ 0) : cmpC t a c ≤ 0 := by rw [cmpC_N] at *; exact cmpN_tr _ _ h1 h2
theorem cmpC_z {t : Tt} {a b : Cn} (h : cmpC t a b = 0) (c : Cn) : cmpC t c a = cmpC t c b := by
  have h1 : cmpC t a c = cmpC t b c := by rw [cmpC_N] at *; rw [cmpC_N]; exact cmpN_z _ _ h _
  rw [cmpC_neg (a := a), cmpC_neg (a := b), h1]
abbrev zC : Cn := ⟨0, 0, 0, 0, 0⟩
def bsH (t : Tt) (b : Cn) (s : Sd) : Cn := if 0 < cmpC t s.n b then s.n else b
def bst (t : Tt) (l : List Sd) : Cn := l.foldl (bsH t) zC
theorem bsH_le {t : Tt} {b : Cn} {s : Sd} : cmpC t b (bsH t b s) ≤ 0 ∧ cmpC t s.n (bsH t b s) ≤ 0 := by
  have hz : ∀ x : Cn, cmpC t x x ≤ 0 := fun x => by have := cmpC_neg (t := t) (a := x) (b := x); omega
  unfold bsH
  split
  · refine ⟨?_, hz _⟩
    rw [cmpC_neg]; omega
  · exact ⟨hz _, by omega⟩
theorem fold_le {t : Tt} : ∀ (l : List Sd) (b : Cn), cmpC t b (l.foldl (bsH t) b) ≤ 0 ∧ (∀ s ∈ l, cmpC t s.n (l.foldl (bsH t) b) ≤ 0) ∧ (l.foldl (bsH t) b = b ∨ ∃ s ∈ l, l.foldl (bsH t) b = s.n)
  | [], b => ⟨by have := cmpC_neg (t := t) (a := b) (b := b); simp only [List.foldl]; omega, by simp, .inl rfl⟩
  | s :: l, b => by
    obtain ⟨h1, h2, h3⟩ := fold_le l (bsH t b s)
    have h4 := bsH_le (t := t) (b := b) (s := s)
    refine ⟨cmpC_tr h4.1 h1, fun u hu => ?_, ?_⟩
    · rcases List.mem_cons.1 hu with rfl | hu
      · exact cmpC_tr h4.2 h1
      · exact h2 u hu
    · rcases h3 with h3 | ⟨u, hu, h3⟩
      · have h5 : bsH t b s = b ∨ bsH t b s = s.n := by unfold bsH; split <;> simp
        rcases h5 with h5 | h5
        · exact .inl (h3.trans h5)
        · exact .inr ⟨s, by simp, h3.trans h5⟩
      · exact .inr ⟨u, by simp [hu], h3⟩
theorem bst_same {t : Tt} {l l' : List Sd} (h : ∀ s, s ∈ l ↔ s ∈ l') : isF t (bst t l) = isF t (bst t l') := by
  have key : ∀ l l' : List Sd, (∀ s, s ∈ l → s ∈ l') → cmpC t (bst t l) (bst t l') ≤ 0 := fun l l' h => by
    obtain ⟨_, _, h3⟩ := fold_le (t := t) l zC
    obtain ⟨h4, h5, _⟩ := fold_le (t := t) l' zC
    rcases h3 with h3 | ⟨s, hs, h3⟩
    · show cmpC t (l.foldl (bsH t) zC) _ ≤ 0
      rw [h3]; exact h4
    · show cmpC t (l.foldl (bsH t) zC) _ ≤ 0
      rw [h3]; exact h5 s (h s hs)
  have h1 := key l l' fun s hs => (h s).1 hs
  have h2 := key l' l fun s hs => (h s).2 hs
  rw [cmpC_neg] at h2
  have h0 : cmpC t (bst t l) (bst t l') = 0 := by omega
  funext c
  show decide (cmpC t c (bst t l) = 0) = decide (cmpC t c (bst t l') = 0)
  rw [cmpC_z h0]
def stL (t : Tt) : Nat → List Sd
  | 0 => [bgS]
  | k + 1 => (stL t k).flatMap fun s => nxS s (-1) :: (((List.range t.groups.length).filter fun g : Nat => chB t s g).map fun g : Nat => nxS s (g : Int))
theorem mem_stL {t : Tt} : ∀ k s, s ∈ stL t k ↔ stR t k s
  | 0, s => by simp [stL, stR]
  | k + 1, u => by
    unfold stL stR
    rw [List.mem_flatMap]
    constructor
    · rintro ⟨s, h1, h2⟩
      refine ⟨s, (mem_stL k s).1 h1, ?_⟩
      rcases List.mem_cons.1 h2 with h2 | h2
      · exact .inl h2
      · obtain ⟨g, h3, rfl⟩ := List.mem_map.1 h2
        obtain ⟨h4, h5⟩ := List.mem_filter.1 h3
        exact .inr ⟨g, List.mem_range.1 h4, h5, rfl⟩
    · rintro ⟨s, h1, h2⟩
      refine ⟨s, (mem_stL k s).2 h1, ?_⟩
      rcases h2 with rfl | ⟨g, h3, h4, rfl⟩
      · exact List.mem_cons_self
      · exact List.mem_cons_of_mem _ (List.mem_map.2 ⟨g, List.mem_filter.2 ⟨List.mem_range.2 h3, h4⟩, rfl⟩)
theorem bst_all {t : Tt} {k : Nat} {M : List (Sd × Bool)} (hM : MR (stR t k) M) {x : List Nat} (hx : ∀ i ∈ x, i < M.length) (ha : ∀ i, i < M.length → i ∈ x) : isF t (bst t (x.map fun i => (M.getD i default).1)) = isF t (bst t (stL t k)) := by
  refine bst_same fun s => ?_
  rw [mem_stL, List.mem_map]
  constructor
  · rintro ⟨i, hi, rfl⟩; exact hM.at (hx i hi)
  · intro h
    obtain ⟨v, hv⟩ := (hM.2 s).2 h
    obtain ⟨j, hj, e⟩ := List.getElem_of_mem hv
    exact ⟨j, ha j hj, by rw [at_lt hj, e]⟩
theorem bst_B {t : Tt} (h5 : t.groups.length ≤ 5) (h12 : t.hours.length ≤ 12) {M : List (Sd × Bool)} (hM : MR (stR t t.hours.length) M) {x : List Nat} (hx : ∀ i ∈ x, i < M.length) : CnB (bst t (x.map fun i => (M.getD i default).1)) := by
  rcases (fold_le (t := t) (x.map fun i => (M.getD i default).1) zC).2.2 with h | ⟨s, hs, h⟩
  · show CnB (List.foldl _ _ _)
    rw [h]; unfold CnB; simp [zC]
  · show CnB (List.foldl _ _ _)
    rw [h]
    obtain ⟨i, hi, rfl⟩ := List.mem_map.1 hs
    exact (stR_b h5 _ _ (hM.at (hx i hi))).cn h12
theorem bst_snoc {t : Tt} {M : List (Sd × Bool)} {x : List Nat} {i : Nat} : bst t ((x ++ [i]).map fun i => (M.getD i default).1) = bsH t (bst t (x.map fun i => (M.getD i default).1)) (M.getD i default).1 := by
  unfold bst
  rw [List.map_append, List.foldl_append]; rfl
def frR (t : Tt) : List Int × Int := if ttOk t = true then ((fnd t (isF t (bst t (stL t t.hours.length))) t.hours.length bgS).getD [], 0) else ([], 1)
theorem call63x {C : CT} (hC : ∀ {args K Q e s} {i : At K} {j : At Q}, xC C 48 args K Q i j e s = sp48 args K e s) {t : Tt} {b : Cn} {k : Nat} {u : Sd} {M : List (Sd × Bool)} (hD : Does t b k u M) {args e : List AV} {s : Sto} {K : AV → List AV → Sto → Prop} {Q : Kt} {i : At K} {j : At Q} (ha : args = argZ u)
    (h2 : (s.get 5 = some [.ref 13 0] ∧ s.get 6 = some (bestL b) ∧ s.get 13 = some (tC t) ∧ s.get 16003 = some [.ref 13 0] ∧ s.get 16004 = some [.clo (.func 17) [] [.ref 5 0, .ref 6 0]] ∧ s.get 16006 = some [.mp 2000016009] ∧ s.get 16007 = some [.clo (.func 48) [] [.ref 16003 0, .ref 16004 0, .ref 16006 0, .ref 16007 0]] ∧ s.get 2000016009 = some (ents fkS fvT M)) ∧ AV.stays TZ EZ e ∧ othL TZ EZ s)
    (hK : ∀ M', soundZ t b M' → K (resZ (fnd t (isF t b) k u)) e (mer TZ (stZ t b M') s)) : xC C 48 args K Q i j e s := by
  rw [hC]; exact call63 hD ha h2 hK
def othF (T : List Nat) : Sto → Prop
  | [] => True
  | (g, c) :: r => (T.contains g = false ∧ AV.stays T [] c) ∧ othF T r
theorem othF_get {T : List Nat} {g : Nat} {c : List AV} : ∀ {s : Sto}, othF T s → s.get g = some c → T.contains g = false ∧ AV.stays T [] c
  | [], _, h => by simp [Sto.get] at h
  | (k, x) :: r, ho, h => by
    simp only [Sto.get] at h
    split at h
    · rename_i e; subst e; cases h; exact ho.1
    · exact othF_get ho.2 h
def okO3 (G : Nat) : Sto → Bool
  | [] => true
  | (g, c) :: r => (g == G || TZ.contains g || okZs c) && okO3 G r
theorem okO3_oth {G : Nat} : ∀ {s : Sto}, (∀ c, (G, c) ∈ s → AV.stays TZ EZ c) → okO3 G s = true → othL TZ EZ s
  | [], _, _ => trivial
  | (g, c) :: r, hG, h => by
    simp only [okO3, Bool.and_eq_true, Bool.or_eq_true] at h
    refine ⟨?_, okO3_oth (fun c hc => hG c (List.mem_cons_of_mem _ hc)) h.2⟩
    rcases h.1 with (h1 | h1) | h1
    · rw [eq_of_beq h1] at hG ⊢; exact .inr (hG c List.mem_cons_self)
    · exact .inl h1
    · exact .inr (okZs_stay c h1)
theorem stays_ents (M : List (Sd × Bool)) : AV.stays TZ EZ (ents fkS fvT M) := by
  unfold ents
  induction M with
  | nil => trivial
  | cons p M ih => exact ⟨trivial, ih⟩
theorem call37x {C : CT} (hC : ∀ {args K Q e s} {i : At K} {j : At Q}, xC C 14 args K Q i j e s = sp14 args K e s) {t : Tt} (ht : ttOk t = true) {args e : List AV} {s : Sto} {K : AV → List AV → Sto → Prop} {Q : Kt} {i : At K} {j : At Q} (ha : AV.outs s args = some [.ptr t.c 0]) (h1 : AV.stays T37 [] e) (h2 : othF T37 s)
    (hK : ∀ M, MR (stR t t.hours.length) M → K (.clo (.func 43) [] [.ref 14004 0]) e ((14004, [.mp 2000014007]) :: (2000014007, ents fkS fvT M) :: s)) : xC C 14 args K Q i j e s := by
  rw [hC]
  exact ⟨t, ht, ha, { tags := fun g hg => by simp only [List.mem_cons, List.not_mem_nil, or_false] at hg; omega, slots := h1, others := fun g c hc => othF_get h2 hc }, hK⟩
def O43 : Nat → Sch := fun id => .done
theorem ho43 : Try.f43.body.map (okO O43) = some true := by kernel_rfl
def Cf43 : Nat → List AV → (AV → List AV → Sto → Prop) → Kt → List AV → Sto → Prop := fun f args K Q e s => match f with
  | _ => False
def Ct43 : CT := { f := Cf43, y := noYld, z := fun d => false }
theorem Ct43_ok : Ct43.ok Try.prog := ok_of_f (fun f args K Q e s h => by
  have h : Cf43 f args K Q e s := h
  unfold Cf43 at h; split at h
  · exact h.elim) (fun _ _ _ _ _ _ _ _ _ h => h)
theorem c43 : callable Try.prog 43 = true := by kernel_rfl
def O16 : Nat → Sch := fun id => if id = 4 then .alt (.one 0 (.one 1 (.one 2 (.one 3 (.one 4 (.one 5 (.one 6 (.one 7 (.done))))))))) (.one 1 (.one 0 (.one 2 (.one 3 (.one 4 (.one 5 (.one 6 (.one 7 (.done))))))))) else .done
theorem O16_4 : O16 4 = .alt (.one 0 (.one 1 (.one 2 (.one 3 (.one 4 (.one 5 (.one 6 (.one 7 (.done))))))))) (.one 1 (.one 0 (.one 2 (.one 3 (.one 4 (.one 5 (.one 6 (.one 7 (.done))))))))) := rfl
theorem ho16 : Try.f16.body.map (okO O16) = some true := by kernel_rfl
def Cf16 : Nat → List AV → (AV → List AV → Sto → Prop) → Kt → List AV → Sto → Prop := fun f args K Q e s => match f with
  | 40 => ent40 args K e s
  | 48 => sp48 args K e s
  | _ => False
def Ct16 : CT := { f := Cf16, y := noYld, z := fun d => false }
theorem Ct16_ok : Ct16.ok Try.prog := ok_of_f (fun f args K Q e s h => by
  have h : Cf16 f args K Q e s := h
  unfold Cf16 at h; split at h
  · exact ent40_ok h
  · exact sp48_ok h
  · exact h.elim) (fun _ _ _ _ _ _ _ _ _ h => h)
theorem x16_40  {KK : AV → List AV → Sto → Prop} {QQ : Kt} {ii : At KK} {jj : At QQ} {ee : List AV} {ss : Sto} : xC Ct16 40 [] KK QQ ii jj ee ss = (KK (.d (.agg bgS.v)) ee ss) := eq40
theorem c16 : callable Try.prog 16 = true := by kernel_rfl
def O5 : Nat → Sch := fun id => .done
theorem ho5 : Try.f5.body.map (okO O5) = some true := by kernel_rfl
def Cf5o : Nat → List AV → (AV → List AV → Sto → Prop) → Kt → List AV → Sto → Prop := fun f args K Q e s => match f with
  | 13 => ent13 args K e s
  | 14 => sp14 args K e s
  | 15 => ent15 (AV.outs s args) K (mk _) e s
  | 16 => inlE Try.prog Ct16 O16 16000 16 args K Q e s
  | _ => False
def Ct5o : CT := { f := Cf5o, y := noYld, z := fun d => false }
theorem Ct5o_ok : Ct5o.ok Try.prog := ok_of_f (fun f args K Q e s h => by
  have h : Cf5o f args K Q e s := h
  unfold Cf5o at h; split at h
  · exact ent13_ok h
  · exact sp14_ok h
  · exact ent15_ok h
  · exact inlE_ok Ct16_ok hmix ho16 h
  · exact h.elim) (fun _ _ _ _ _ _ _ _ _ h => h)
def Yd5 : Nat → List Nat → Code → Code → List AV → (AV → List AV → Sto → Prop) → Kt → List AV → Sto → Prop := fun G ps asg bdy => if G / 1000 = 1000000 then yldE Try.prog Ct5o O5 0 G ps asg bdy else fun _ _ _ _ _ => False
def Cy5_43 : CT := { f := Cf43, y := Yd5 }
theorem Cy5_43_ok : Cy5_43.ok Try.prog := ⟨Ct43_ok.f, fun g ps asg bdy args K Q e s h => by
  have h : Yd5 g ps asg bdy args K Q e s := h
  unfold Yd5 at h; split at h
  · exact yldE_ok Ct5o_ok hmix h
  · exact h.elim⟩
def Cf5 : Nat → List AV → (AV → List AV → Sto → Prop) → Kt → List AV → Sto → Prop := fun f args K Q e s => match f with
  | 13 => ent13 args K e s
  | 14 => sp14 args K e s
  | 15 => ent15 (AV.outs s args) K (mk _) e s
  | 16 => inlE Try.prog Ct16 O16 16000 16 args K Q e s
  | 43 => inlE Try.prog Cy5_43 O43 43000 43 args K Q e s
  | _ => False
def Ct5 : CT := { f := Cf5, y := noYld, z := fun d => false }
theorem Ct5_ok : Ct5.ok Try.prog := ok_of_f (fun f args K Q e s h => by
  have h : Cf5 f args K Q e s := h
  unfold Cf5 at h; split at h
  · exact ent13_ok h
  · exact sp14_ok h
  · exact ent15_ok h
  · exact inlE_ok Ct16_ok hmix ho16 h
  · exact inlE_ok Cy5_43_ok hmix ho43 h
  · exact h.elim) (fun _ _ _ _ _ _ _ _ _ h => h)
theorem z5_43 : type_of% (@xinl Try.prog Ct5 Cy5_43 O43 43000 43 _ _ _ _ rfl c43 Try.func43 rfl Try.ntmps43 Try.results43) := @xinl Try.prog Ct5 Cy5_43 O43 43000 43 _ _ _ _ rfl c43 Try.func43 rfl Try.ntmps43 Try.results43
theorem yy5_43_15 : type_of% (fun ps asg bdy => @xyld Try.prog Cy5_43 Ct5o O5 0 1000000015 Yd5 rfl ps asg bdy (if_pos (by omega))) := fun ps asg bdy => @xyld Try.prog Cy5_43 Ct5o O5 0 1000000015 Yd5 rfl ps asg bdy (if_pos (by omega))
theorem x5_13 {t : Tt} {KK : AV → List AV → Sto → Prop} {QQ : Kt} {ii : At KK} {jj : At QQ} {ee : List AV} {ss : Sto} : xC Ct5 13 [.d (.agg t.c)] KK QQ ii jj ee ss = ((t.hours.length ≤ 1000 ∧ t.groups.length ≤ 1000) ∧ KK (.d (.b (ttOk t))) ee ss) := eq13
theorem z5_16 : type_of% (@xinl Try.prog Ct5 Ct16 O16 16000 16 _ _ _ _ rfl c16 Try.func16 rfl Try.ntmps16 Try.results16) := @xinl Try.prog Ct5 Ct16 O16 16000 16 _ _ _ _ rfl c16 Try.func16 rfl Try.ntmps16 Try.results16
theorem x5o_15 {args : List AV} {KK : AV → List AV → Sto → Prop} {QQ : Kt} {ii : At KK} {jj : At QQ} {ee : List AV} {ss : Sto} : xC Ct5o 15 args KK QQ ii jj ee ss = ent15 (AV.outs ss args) KK (mk _) ee ss := id rfl
theorem c5 : callable Try.prog 5 = true := by kernel_rfl
theorem pf5 (t : Tt) (h : (t.hours.length ≤ 1000 ∧ t.groups.length ≤ 1000)) : PF Try.prog 5 [.agg t.c] (fun zz => zz = .ret (.tup [.sl 1 ((frR t).1.map ic), .i (frR t).2])) := by
  have hsz := h
  by_cases c1 : ttOk t = true
  case neg =>
    have hW : frR t = ([], 1) := by unfold frR; rw [if_neg c1]
    rw [hW]
    refine PF_nil (PF_start (O := O5) Ct5_ok hmix ho5 Try.func5 c5 rfl Try.ntmps5 Try.results5 ?_)
    simp (maxSteps := 4000000) +contextual (disch := first | omega | exact qdb_ok (by kernel_rfl) | exact okb_ok (by kernel_rfl)) only [bw1,bw2,bw3,bw5,bw6,bc1,bc2,bc3,bc4,bc5,bc6,AV.outs,AV.outF,packD,AV.dl,AV.cells?,↓reduceIte,reduceCtorEq,Nat.reduceAdd,Nat.reduceSub,List.reduceReplicate,Nat.reduceLeDiff,Nat.reduceLT,tfb,x5_13,hsz, c1]
    try rfl
  have hbig := tt_hours c1
  have hW : frR t = ((fnd t (isF t (bst t (stL t t.hours.length))) t.hours.length bgS).getD [], 0) := by unfold frR; rw [if_pos c1]
  rw [hW]
  refine PF_nil (PF_start (O := O5) Ct5_ok hmix ho5 Try.func5 c5 rfl Try.ntmps5 Try.results5 ?_)
  simp (maxSteps := 4000000) +contextual (disch := first | omega | exact qdb_ok (by kernel_rfl) | exact okb_ok (by kernel_rfl)) only [bw1,bw2,bw5,bw6,bc1,bc2,bc3,bc4,bc5,bc6,ps,pv,AV.dl,AV.cells?,AV.menc,AV.one,↓reduceIte,reduceCtorEq,Nat.reduceAdd,Nat.reduceSub,List.reduceReplicate,Nat.reduceLeDiff,Nat.reduceLT,Nat.reduceBEq,Nat.reduceEqDiff,tfb,x5_13,hsz, c1]
  refine call37x (t := t) rfl c1 ?_ ?_ ?_ ?_
  · rfl
  · simp [AV.stays, AV.stay]
  · simp [othF, AV.stays, AV.stay]
  intro M hM
  simp (maxSteps := 4000000) +contextual (disch := first | omega | exact qdb_ok (by kernel_rfl) | exact okb_ok (by kernel_rfl)) only [bw1,bw2,bw6]
  refine rng_cutX (C := Ct5) Ct5_ok 1000000015 (σ := List Nat) (fun x => [(6, .any)]) (fun x => [(6, bestL (bst t (x.map fun i => (M.getD i default).1)))]) (fun x => (x.Nodup ∧ ∀ i ∈ x, i < M.length) ∧ ∀ i, i < M.length → i ∈ x) ?_ ?_
  · simp (maxSteps := 4000000) +contextual (disch := first | omega | exact qdb_ok (by kernel_rfl) | exact okb_ok (by kernel_rfl)) only [bw1,bw2,bw3,bw5,bw6,bc0,bc2,bc3,bc4,bc5,bc6,bb0,↓reduceIte,reduceCtorEq,Nat.reduceAdd,Nat.reduceSub,List.reduceReplicate,Nat.reduceLeDiff,Nat.reduceLT,Nat.reduceBEq,Nat.reduceEqDiff,tfb,z5_43, eq_self, kill_ents, pairs_ents_eq, ents_len]
    refine ⟨mens_ents, ?_⟩
    refine loop_xu (O := O43) (tb := 38000) Cy5_43_ok hmix (by kernel_rfl) (σ := List Nat) (fun x => [(3, .any)]) (fun x => [(6, bestL (bst t (x.map fun i => (M.getD i default).1))), (2000043005, itc 2000014007 M.length x)]) (fun x => x.Nodup ∧ ∀ i ∈ x, i < M.length) (fun x => M.length - x.length) [] ⟨by simp, by simp⟩ ?_ ?_
    · simp (maxSteps := 4000000) +contextual (disch := first | omega | exact qdb_ok (by kernel_rfl) | exact okb_ok (by kernel_rfl)) only [bw5,bw6,bc0,bc3,bc4,bc5,bc6,AV.isNilS,AV.isNoRows,wk,↓reduceIte,reduceCtorEq,Nat.reduceEqDiff,wks, eq_self]
      try exact ⟨rfl, rfl, rfl, rfl, rfl⟩
    rintro seen ⟨hn1, hn2⟩
    have hbB := bst_B hbig.2.1 hbig.1 hM hn2
    simp (maxSteps := 4000000) +contextual (disch := first | omega | exact qdb_ok (by kernel_rfl) | exact okb_ok (by kernel_rfl)) only [bw1,bw2,bw5,bw6,bc0,bc3,bb0,↓reduceIte,reduceCtorEq,Nat.reduceEqDiff, eq_self]
    refine nx_ents (fk := fkS) (fv := fvT) (M := M) (G := 2000014007) (h := 2000043005) (n := M.length) (seen := seen) rfl rfl rfl ?_ ?_ ?_
    · simp [AV.mencs, AV.menc, Sto.mencs, mencs_ents, itc]
    · intro hall
      simp (maxSteps := 4000000) +contextual (disch := first | omega | exact qdb_ok (by kernel_rfl) | exact okb_ok (by kernel_rfl)) only [bw1,bw2,bw3,bw5,bw6,bc0,bc1,bc2,bc3,bc4,bc5,bc6,AV.isNilS,AV.isNoRows,wk,extV,extS,↓reduceIte,reduceCtorEq,Nat.reduceAdd,Nat.reduceLT,Nat.reduceBEq,Nat.reduceEqDiff,wks, eq_self, kill_ents, kill_itc]
      exact ⟨seen, ⟨⟨hn1, hn2⟩, hall⟩, rfl, rfl, rfl, rfl, rfl⟩
    · intro i hi hs
      have hfk : fkS (M.getD i default).1 = .agg (M.getD i default).1.v := rfl
      have hSL := seen_lt hn1 hn2 hi hs
      have hlen : M.length - (seen ++ [i]).length < M.length - seen.length := by
        have := hSL.1
        rw [List.length_append]
        simp only [List.length_cons, List.length_nil]
        omega
      have hcB := (stR_b hbig.2.1 _ _ (hM.at hi)).cn hbig.1
      by_cases hc : 0 < cmpC t (M.getD i default).1.n (bst t (seen.map fun i => (M.getD i default).1))
      · simp (maxSteps := 4000000) +contextual (disch := first | omega | exact qdb_ok (by kernel_rfl) | exact okb_ok (by kernel_rfl)) only [bw1,bw2,bw5,bw6,bw7,bc0,bc1,bc2,bc3,bc4,bc5,bc6,bb0,setPs,AV.isNilS,AV.isNoRows,wk,binIs,addF,AV.isPtr,extV,extS,AV.outs,AV.outF,AV.dl,AV.cells?,AV.menc,AV.one,D.one,Value.oneCell',↓reduceIte,reduceCtorEq,Nat.reduceAdd,Nat.reduceLeDiff,Nat.reduceLT,Nat.reduceBEq,Nat.reduceEqDiff,tfb,D.flat,en_ents,eq15,x5o_15,yy5_43_15,wks, eq_self, kill_ents, mencs_ents, kill_itc, mencs_itc, hfk, c1, hbB, hcB, hc]
        have hb1 : bst t ((seen ++ [i]).map fun i => (M.getD i default).1) = (M.getD i default).1.n := by rw [bst_snoc]; unfold bsH; rw [if_pos hc]
        exact ⟨hi, seen ++ [i], ⟨⟨hSL.2.1, hSL.2.2⟩, hlen⟩, by rw [hb1]; exact ⟨rfl, rfl, rfl, rfl, rfl⟩, wk_self _⟩
      · simp (maxSteps := 4000000) +contextual (disch := first | omega | exact qdb_ok (by kernel_rfl) | exact okb_ok (by kernel_rfl)) only [bw1,bw2,bw5,bw6,bw7,bc0,bc1,bc2,bc3,bc4,bc5,bc6,bb0,setPs,AV.isNilS,AV.isNoRows,wk,binIs,addF,AV.isPtr,extV,extS,AV.outs,AV.outF,AV.dl,AV.cells?,AV.menc,AV.one,D.one,Value.oneCell',↓reduceIte,reduceCtorEq,Nat.reduceAdd,Nat.reduceLeDiff,Nat.reduceLT,Nat.reduceBEq,Nat.reduceEqDiff,tfb,D.flat,en_ents,eq15,x5o_15,yy5_43_15,wks, eq_self, kill_ents, mencs_ents, kill_itc, mencs_itc, hfk, c1, hbB, hcB, hc]
        have hb1 : bst t ((seen ++ [i]).map fun i => (M.getD i default).1) = bst t (seen.map fun i => (M.getD i default).1) := by rw [bst_snoc]; unfold bsH; rw [if_neg hc]
        exact ⟨hi, seen ++ [i], ⟨⟨hSL.2.1, hSL.2.2⟩, hlen⟩, by rw [hb1]; exact ⟨rfl, rfl, rfl, rfl, rfl⟩, wk_self _⟩
  intro x hx
  have hisf := bst_all hM hx.1.2 hx.2
  have hbB := bst_B hbig.2.1 hbig.1 hM hx.1.2
  simp (maxSteps := 4000000) +contextual (disch := first | omega | exact qdb_ok (by kernel_rfl) | exact okb_ok (by kernel_rfl)) only [bw1,bw2,bw3,bw5,bw6,bc0,bc2,bc3,bc4,bc5,bc6,bb0,AV.dl,AV.cells?,AV.menc,AV.one,↓reduceIte,reduceCtorEq,Nat.reduceAdd,Nat.reduceSub,List.reduceReplicate,Nat.reduceLeDiff,Nat.reduceLT,Nat.reduceBEq,Nat.reduceEqDiff,tfb,z5_16,O16_4,x16_40, eq_self, kill_ents, mencs_ents]
  refine call63x (C := Ct16) (t := t) (b := bst t (x.map fun i => (M.getD i default).1)) (k := t.hours.length) (u := bgS) (M := []) rfl (zall c1 hbB t.hours.length bgS [] (Nat.le_refl _) (by rw [Nat.sub_self]; exact stR_b hbig.2.1 0 _ rfl) (fun p hp => absurd hp List.not_mem_nil)) ?_ ?_ ?_
  · with_reducible rfl
  · refine ⟨⟨?_, ?_, ?_, ?_, ?_, ?_, ?_, ?_⟩, okZs_stay _ ?_, okO3_oth (G := 2000014007) (fun c hc => ?_) ?_⟩
    rotate_left 9
    · simp only [List.mem_cons, Prod.mk.injEq, Nat.reduceEqDiff, false_and, false_or, or_false, true_and, List.not_mem_nil] at hc
      rw [hc]; exact stays_ents M
    all_goals kernel_rfl
  intro M2 hM2
  rw [hisf]
  simp (maxSteps := 4000000) +contextual (disch := first | omega | exact qdb_ok (by kernel_rfl) | exact okb_ok (by kernel_rfl)) only [bw1,bw2,bw3,bw5,bw6,bc1,bc2,bc3,bc4,bc5,bc6,extV,extS,AV.outs,AV.outF,packD,packA,↓reduceIte,reduceCtorEq,Nat.reduceAdd,Nat.reduceLT,Nat.reduceBEq,Nat.reduceEqDiff, eq_self, mer, List.contains_cons, List.contains_nil, Bool.or_true]
def ent5 (args : List AV) (K : AV → List AV → Sto → Prop) (e : List AV) (s : Sto) : Prop := ent (α := (Tt)) (fun aa => [.agg aa.c]) (fun aa => (aa.hours.length ≤ 1000 ∧ aa.groups.length ≤ 1000)) (fun aa => .tup [.sl 1 ((frR aa).1.map ic), .i (frR aa).2]) args K e s
theorem ent5_ok {args : List AV} {K : AV → List AV → Sto → Prop} {Q : Kt} {e : List AV} {s : Sto} (h : ent5 args K e s) : pcall Try.prog 5 args K Q e s := ent_ok (fun aa h => pf5 aa h) h
theorem eq5 {t : Tt} {KK : AV → List AV → Sto → Prop} {ee : List AV} {ss : Sto} : ent5 [.d (.agg t.c)] KK ee ss = (((t.hours.length ≤ 1000 ∧ t.groups.length ≤ 1000)) ∧ KK (.d (.tup [.sl 1 ((frR t).1.map ic), .i (frR t).2])) ee ss) := by
  unfold ent5; rw [ent_iff t (by intro b h; simpa [Prod.ext_iff, and_assoc, Int.ofNat_inj, ints_inj, hrs_inj, grs_inj, hr_inj, gr_inj, tt_inj, bcs_inj, cn_inj, sd_inj] using h) rfl]; simp
end Go.Proofs.Ytofbbkacihnjdaa
