/- A part of the proof that the last text ends: what functions of the program do, told by plain data. -/
import Derived.Test.YtofbbkacihnjdaaDoorHT
set_option linter.unusedVariables false
set_option linter.unusedSimpArgs false
namespace Go.Proofs.YtofbbkacihnjdaaDoor
open Go Go.E Go.Maps
set_option maxRecDepth 100000
set_option maxHeartbeats 4000000
theorem cmpN_neg {x y : List Int} : ∀ k i, cmpN y x k i = - cmpN x y k i
  | 0, _ => rfl
  | k + 1, i => by
    unfold cmpN
    repeat' split
    all_goals first | omega | exact cmpN_neg k (i + 1)
theorem cmpN_z {x y : List Int} : ∀ k i, cmpN x y k i = 0 → ∀ z, cmpN x z k i = cmpN y z k i
  | 0, _, _, _ => rfl
  | k + 1, i, h, z => by
    unfold cmpN at h
    split at h
    · cases h
    · split at h
      · cases h
      · have e : x.getD i default = y.getD i default := by omega
        unfold cmpN
        rw [e, cmpN_z k (i + 1) h z]
theorem cmpN_tr {x y z : List Int} : ∀ k i, cmpN x y k i ≤ 0 → cmpN y z k i ≤ 0 → cmpN x z k i ≤ 0
  | 0, _, _, _ => Int.le_refl _
  | k + 1, i, h1, h2 => by
    unfold cmpN at h1 h2 ⊢
    repeat' split at h1
    all_goals repeat' split at h2
    all_goals repeat' split
    all_goals first | omega | exact cmpN_tr k (i + 1) h1 h2
theorem cmpC_N {t : Tt} {a b : Cn} : cmpC t a b = cmpN (isort (hcL t a)) (isort (hcL t b)) t.groups.length 0 := by
  unfold cmpC cmpL
  rw [isort_len, hcL_len]
theorem cmpC_neg {t : Tt} {a b : Cn} : cmpC t b a = - cmpC t a b := by rw [cmpC_N, cmpC_N]; exact cmpN_neg _ _
theorem cmpC_tr {t : Tt} {a b c : Cn} (h1 : cmpC t a b ≤ 0) (h2 : cmpC t b c ≤ 0) : cmpC t a c ≤ 0 := by rw [cmpC_N] at *; exact cmpN_tr _ _ h1 h2
theorem cmpC_z {t : Tt} {a b : Cn} (h : cmpC t a b = 0) (c : Cn) : cmpC t c a = cmpC t c b := by
  have h1 : cmpC t a c = cmpC t b c := by rw [cmpC_N] at *; rw [cmpC_N]; exact cmpN_z _ _ h _
  rw [cmpC_neg (a := a), cmpC_neg (a := b), h1]
abbrev zC : Cn := ⟨0, 0, 0, 0, 0⟩
def bsH (t : Tt) (b : Cn) (s : Sd) : Cn := if 0 < cmpC t s.n b then s.n else b
def bst (t : Tt) (l : List Sd) : Cn := l.foldl (bsH t) zC
theorem bsH_le {t : Tt} {b : Cn} {s : Sd} : cmpC t b (bsH t b s) ≤ 0 ∧ cmpC t s.n (bsH t b s) ≤ 0 := by
  have hz : ∀ x : Cn, cmpC t x x ≤ 0 := fun x => by have := cmpC_neg (t := t) (a := x) (b := x); omega
  unfold bsH
  split
  · refine ⟨?_, hz _⟩
    rw [cmpC_neg]; omega
  · exact ⟨hz _, by omega⟩
theorem fold_le {t : Tt} : ∀ (l : List Sd) (b : Cn), cmpC t b (l.foldl (bsH t) b) ≤ 0 ∧ (∀ s ∈ l, cmpC t s.n (l.foldl (bsH t) b) ≤ 0) ∧ (l.foldl (bsH t) b = b ∨ ∃ s ∈ l, l.foldl (bsH t) b = s.n)
  | [], b => ⟨by have := cmpC_neg (t := t) (a := b) (b := b); simp only [List.foldl]; omega, by simp, .inl rfl⟩
  | s :: l, b => by
    obtain ⟨h1, h2, h3⟩ := fold_le l (bsH t b s)
    have h4 := bsH_le (t := t) (b := b) (s := s)
    refine ⟨cmpC_tr h4.1 h1, fun u hu => ?_, ?_⟩
    · rcases List.mem_cons.1 hu with rfl | hu
      · exact cmpC_tr h4.2 h1
      · exact h2 u hu
    · rcases h3 with h3 | ⟨u, hu, h3⟩
      · have h5 : bsH t b s = b ∨ bsH t b s = s.n := by unfold bsH; split <;> simp
        rcases h5 with h5 | h5
        · exact .inl (h3.trans h5)
        · exact .inr ⟨s, by simp, h3.trans h5⟩
      · exact .inr ⟨u, by simp [hu], h3⟩
theorem bst_same {t : Tt} {l l' : List Sd} (h : ∀ s, s ∈ l ↔ s ∈ l') : isF t (bst t l) = isF t (bst t l') := by
  have key : ∀ l l' : List Sd, (∀ s, s ∈ l → s ∈ l') → cmpC t (bst t l) (bst t l') ≤ 0 := fun l l' h => by
    obtain ⟨_, _, h3⟩ := fold_le (t := t) l zC
    obtain ⟨h4, h5, _⟩ := fold_le (t := t) l' zC
    rcases h3 with h3 | ⟨s, hs, h3⟩
    · show cmpC t (l.foldl (bsH t) zC) _ ≤ 0
      rw [h3]; exact h4
    · show cmpC t (l.foldl (bsH t) zC) _ ≤ 0
      rw [h3]; exact h5 s (h s hs)
  have h1 := key l l' fun s hs => (h s).1 hs
  have h2 := key l' l fun s hs => (h s).2 hs
  rw [cmpC_neg] at h2
  have h0 : cmpC t (bst t l) (bst t l') = 0 := by omega
  funext c
  show decide (cmpC t c (bst t l) = 0) = decide (cmpC t c (bst t l') = 0)
  rw [cmpC_z h0]
def stL (t : Tt) : Nat → List Sd
  | 0 => [bgS]
  | k + 1 => (stL t k).flatMap fun s => nxS s (-1) :: (((List.range t.groups.length).filter fun g : Nat => chB t s g).map fun g : Nat => nxS s (g : Int))
theorem mem_stL {t : Tt} : ∀ k s, s ∈ stL t k ↔ stR t k s
  | 0, s => by simp [stL, stR]
  | k + 1, u => by
    unfold stL stR
    rw [List.mem_flatMap]
    constructor
    · rintro ⟨s, h1, h2⟩
      refine ⟨s, (mem_stL k s).1 h1, ?_⟩
      rcases List.mem_cons.1 h2 with h2 | h2
      · exact .inl h2
      · obtain ⟨g, h3, rfl⟩ := List.mem_map.1 h2
        obtain ⟨h4, h5⟩ := List.mem_filter.1 h3
        exact .inr ⟨g, List.mem_range.1 h4, h5, rfl⟩
    · rintro ⟨s, h1, h2⟩
      refine ⟨s, (mem_stL k s).2 h1, ?_⟩
      rcases h2 with rfl | ⟨g, h3, h4, rfl⟩
      · exact List.mem_cons_self
      · exact List.mem_cons_of_mem _ (List.mem_map.2 ⟨g, List.mem_filter.2 ⟨List.mem_range.2 h3, h4⟩, rfl⟩)
theorem bst_all {t : Tt} {k : Nat} {M : List (Sd × Bool)} (hM : MR (stR t k) M) {x : List Nat} (hx : ∀ i ∈ x, i < M.length) (ha : ∀ i, i < M.length → i ∈ x) : isF t (bst t (x.map fun i => (M.getD i default).1)) = isF t (bst t (stL t k)) := by
  refine bst_same fun s => ?_
  rw [mem_stL, List.mem_map]
  constructor
  · rintro ⟨i, hi, rfl⟩; exact hM.at (hx i hi)
  · intro h
    obtain ⟨v, hv⟩ := (hM.2 s).2 h
    obtain ⟨j, hj, e⟩ := List.getElem_of_mem hv
    exact ⟨j, ha j hj, by rw [at_lt hj, e]⟩
theorem bst_B {t : Tt} (h5 : t.groups.length ≤ 5) (h12 : t.hours.length ≤ 12) {M : List (Sd × Bool)} (hM : MR (stR t t.hours.length) M) {x : List Nat} (hx : ∀ i ∈ x, i < M.length) : CnB (bst t (x.map fun i => (M.getD i default).1)) := by
  rcases (fold_le (t := t) (x.map fun i => (M.getD i default).1) zC).2.2 with h | ⟨s, hs, h⟩
  · show CnB (List.foldl _ _ _)
    rw [h]; unfold CnB; simp [zC]
  · show CnB (List.foldl _ _ _)
    rw [h]
    obtain ⟨i, hi, rfl⟩ := List.mem_map.1 hs
    exact (stR_b h5 _ _ (hM.at (hx i hi))).cn h12
theorem bst_snoc {t : Tt} {M : List (Sd × Bool)} {x : List Nat} {i : Nat} : bst t ((x ++ [i]).map fun i => (M.getD i default).1) = bsH t (bst t (x.map fun i => (M.getD i default).1)) (M.getD i default).1 := by
  unfold bst
  rw [List.map_append, List.foldl_append]; rfl
def frR (t : Tt) : List Int × Int := if ttOk t = true then ((fnd t (isF t (bst t (stL t t.hours.length))) t.hours.length bgS).getD [], 0) else ([], 1)
theorem call63x {C : CT} (hC : ∀ {args K Q e s} {i : At K} {j : At Q}, xC C 63 args K Q i j e s = sp63 args K e s) {t : Tt} {b : Cn} {k : Nat} {u : Sd} {M : List (Sd × Bool)} (hD : Does t b k u M) {args e : List AV} {s : Sto} {K : AV → List AV → Sto → Prop} {Q : Kt} {i : At K} {j : At Q} (ha : args = argZ u)
    (h2 : (s.get 5 = some [.ref 13 0] ∧ s.get 6 = some (bestL b) ∧ s.get 13 = some (tC t) ∧ s.get 38003 = some [.ref 13 0] ∧ s.get 38004 = some [.clo (.func 39) [] [.ref 5 0, .ref 6 0]] ∧ s.get 38006 = some [.mp 2000038009] ∧ s.get 38007 = some [.clo (.func 63) [] [.ref 38003 0, .ref 38004 0, .ref 38006 0, .ref 38007 0]] ∧ s.get 2000038009 = some (ents fkS fvT M)) ∧ AV.stays TZ EZ e ∧ othL TZ EZ s)
    (hK : ∀ M', soundZ t b M' → K (resZ (fnd t (isF t b) k u)) e (mer TZ (stZ t b M') s)) : xC C 63 args K Q i j e s := by
  rw [hC]; exact call63 hD ha h2 hK
def othF (T : List Nat) : Sto → Prop
  | [] => True
  | (g, c) :: r => (T.contains g = false ∧ AV.stays T [] c) ∧ othF T r
theorem othF_get {T : List Nat} {g : Nat} {c : List AV} : ∀ {s : Sto}, othF T s → s.get g = some c → T.contains g = false ∧ AV.stays T [] c
  | [], _, h => by simp [Sto.get] at h
  | (k, x) :: r, ho, h => by
    simp only [Sto.get] at h
    split at h
    · rename_i e; subst e; cases h; exact ho.1
    · exact othF_get ho.2 h
def okO3 (G : Nat) : Sto → Bool
  | [] => true
  | (g, c) :: r => (g == G || TZ.contains g || okZs c) && okO3 G r
theorem okO3_oth {G : Nat} : ∀ {s : Sto}, (∀ c, (G, c) ∈ s → AV.stays TZ EZ c) → okO3 G s = true → othL TZ EZ s
  | [], _, _ => trivial
  | (g, c) :: r, hG, h => by
    simp only [okO3, Bool.and_eq_true, Bool.or_eq_true] at h
    refine ⟨?_, okO3_oth (fun c hc => hG c (List.mem_cons_of_mem _ hc)) h.2⟩
    rcases h.1 with (h1 | h1) | h1
    · rw [eq_of_beq h1] at hG ⊢; exact .inr (hG c List.mem_cons_self)
    · exact .inl h1
    · exact .inr (okZs_stay c h1)
theorem stays_ents (M : List (Sd × Bool)) : AV.stays TZ EZ (ents fkS fvT M) := by
  unfold ents
  induction M with
  | nil => trivial
  | cons p M ih => exact ⟨trivial, ih⟩
theorem call37x {C : CT} (hC : ∀ {args K Q e s} {i : At K} {j : At Q}, xC C 37 args K Q i j e s = sp37 args K e s) {t : Tt} (ht : ttOk t = true) {args e : List AV} {s : Sto} {K : AV → List AV → Sto → Prop} {Q : Kt} {i : At K} {j : At Q} (ha : AV.outs s args = some [.ptr t.c 0]) (h1 : AV.stays T37 [] e) (h2 : othF T37 s)
    (hK : ∀ M, MR (stR t t.hours.length) M → K (.clo (.func 62) [] [.ref 37004 0]) e ((37004, [.mp 2000037007]) :: (2000037007, ents fkS fvT M) :: s)) : xC C 37 args K Q i j e s := by
  rw [hC]
  exact ⟨t, ht, ha, { tags := fun g hg => by simp only [List.mem_cons, List.not_mem_nil, or_false] at hg; omega, slots := h1, others := fun g c hc => othF_get h2 hc }, hK⟩
def O62 : Nat → Sch := fun id => .done
theorem ho62 : Tryd.f62.body.map (okO O62) = some true := by kernel_rfl
def Cf62 : Nat → List AV → (AV → List AV → Sto → Prop) → Kt → List AV → Sto → Prop := fun f args K Q e s => match f with
  | _ => False
def Ct62 : CT := { f := Cf62, y := noYld, z := fun d => false }
theorem Ct62_ok : Ct62.ok Tryd.prog := ok_of_f (fun f args K Q e s h => by
  have h : Cf62 f args K Q e s := h
  unfold Cf62 at h; split at h
  · exact h.elim) (fun _ _ _ _ _ _ _ _ _ h => h)
theorem c62 : callable Tryd.prog 62 = true := by kernel_rfl
def O38 : Nat → Sch := fun id => if id = 4 then .alt (.one 0 (.one 1 (.one 2 (.one 3 (.one 4 (.one 5 (.one 6 (.one 7 (.done))))))))) (.one 1 (.one 0 (.one 2 (.one 3 (.one 4 (.one 5 (.one 6 (.one 7 (.done))))))))) else .done
theorem O38_4 : O38 4 = .alt (.one 0 (.one 1 (.one 2 (.one 3 (.one 4 (.one 5 (.one 6 (.one 7 (.done))))))))) (.one 1 (.one 0 (.one 2 (.one 3 (.one 4 (.one 5 (.one 6 (.one 7 (.done))))))))) := rfl
theorem ho38 : Tryd.f38.body.map (okO O38) = some true := by kernel_rfl
def Cf38 : Nat → List AV → (AV → List AV → Sto → Prop) → Kt → List AV → Sto → Prop := fun f args K Q e s => match f with
  | 54 => ent54 args K e s
  | 63 => sp63 args K e s
  | _ => False
def Ct38 : CT := { f := Cf38, y := noYld, z := fun d => false }
theorem Ct38_ok : Ct38.ok Tryd.prog := ok_of_f (fun f args K Q e s h => by
  have h : Cf38 f args K Q e s := h
  unfold Cf38 at h; split at h
  · exact ent54_ok h
  · exact sp63_ok h
  · exact h.elim) (fun _ _ _ _ _ _ _ _ _ h => h)
theorem x38_54  {KK : AV → List AV → Sto → Prop} {QQ : Kt} {ii : At KK} {jj : At QQ} {ee : List AV} {ss : Sto} : xC Ct38 54 [] KK QQ ii jj ee ss = (KK (.d (.agg bgS.v)) ee ss) := eq54
theorem c38 : callable Tryd.prog 38 = true := by kernel_rfl
def O16 : Nat → Sch := fun id => .done
theorem ho16 : Tryd.f16.body.map (okO O16) = some true := by kernel_rfl
def Cf16o : Nat → List AV → (AV → List AV → Sto → Prop) → Kt → List AV → Sto → Prop := fun f args K Q e s => match f with
  | 31 => ent31 args K e s
  | 35 => ent35 (AV.outs s args) K (mk _) e s
  | 37 => sp37 args K e s
  | 38 => inlE Tryd.prog Ct38 O38 38000 38 args K Q e s
  | _ => False
def Ct16o : CT := { f := Cf16o, y := noYld, z := fun d => false }
theorem Ct16o_ok : Ct16o.ok Tryd.prog := ok_of_f (fun f args K Q e s h => by
  have h : Cf16o f args K Q e s := h
  unfold Cf16o at h; split at h
  · exact ent31_ok h
  · exact ent35_ok h
  · exact sp37_ok h
  · exact inlE_ok Ct38_ok hmix ho38 h
  · exact h.elim) (fun _ _ _ _ _ _ _ _ _ h => h)
def Yd16 : Nat → List Nat → Code → Code → List AV → (AV → List AV → Sto → Prop) → Kt → List AV → Sto → Prop := fun G ps asg bdy => if G / 1000 = 1000000 then yldE Tryd.prog Ct16o O16 0 G ps asg bdy else fun _ _ _ _ _ => False
def Cy16_62 : CT := { f := Cf62, y := Yd16 }
theorem Cy16_62_ok : Cy16_62.ok Tryd.prog := ⟨Ct62_ok.f, fun g ps asg bdy args K Q e s h => by
  have h : Yd16 g ps asg bdy args K Q e s := h
  unfold Yd16 at h; split at h
  · exact yldE_ok Ct16o_ok hmix h
  · exact h.elim⟩
def Cf16 : Nat → List AV → (AV → List AV → Sto → Prop) → Kt → List AV → Sto → Prop := fun f args K Q e s => match f with
  | 31 => ent31 args K e s
  | 35 => ent35 (AV.outs s args) K (mk _) e s
  | 37 => sp37 args K e s
  | 38 => inlE Tryd.prog Ct38 O38 38000 38 args K Q e s
  | 62 => inlE Tryd.prog Cy16_62 O62 62000 62 args K Q e s
  | _ => False
def Ct16 : CT := { f := Cf16, y := noYld, z := fun d => false }
theorem Ct16_ok : Ct16.ok Tryd.prog := ok_of_f (fun f args K Q e s h => by
  have h : Cf16 f args K Q e s := h
  unfold Cf16 at h; split at h
  · exact ent31_ok h
  · exact ent35_ok h
  · exact sp37_ok h
  · exact inlE_ok Ct38_ok hmix ho38 h
  · exact inlE_ok Cy16_62_ok hmix ho62 h
  · exact h.elim) (fun _ _ _ _ _ _ _ _ _ h => h)
theorem z16_62 : type_of% (@xinl Tryd.prog Ct16 Cy16_62 O62 62000 62 _ _ _ _ rfl c62 Tryd.func62 rfl Tryd.ntmps62 Tryd.results62) := @xinl Tryd.prog Ct16 Cy16_62 O62 62000 62 _ _ _ _ rfl c62 Tryd.func62 rfl Tryd.ntmps62 Tryd.results62
theorem yy16_62_15 : type_of% (fun ps asg bdy => @xyld Tryd.prog Cy16_62 Ct16o O16 0 1000000015 Yd16 rfl ps asg bdy (if_pos (by omega))) := fun ps asg bdy => @xyld Tryd.prog Cy16_62 Ct16o O16 0 1000000015 Yd16 rfl ps asg bdy (if_pos (by omega))
theorem x16_31 {t : Tt} {KK : AV → List AV → Sto → Prop} {QQ : Kt} {ii : At KK} {jj : At QQ} {ee : List AV} {ss : Sto} : xC Ct16 31 [.d (.agg t.c)] KK QQ ii jj ee ss = ((t.hours.length ≤ 1000 ∧ t.groups.length ≤ 1000) ∧ KK (.d (.b (ttOk t))) ee ss) := eq31
theorem z16_38 : type_of% (@xinl Tryd.prog Ct16 Ct38 O38 38000 38 _ _ _ _ rfl c38 Tryd.func38 rfl Tryd.ntmps38 Tryd.results38) := @xinl Tryd.prog Ct16 Ct38 O38 38000 38 _ _ _ _ rfl c38 Tryd.func38 rfl Tryd.ntmps38 Tryd.results38
theorem x16o_35 {args : List AV} {KK : AV → List AV → Sto → Prop} {QQ : Kt} {ii : At KK} {jj : At QQ} {ee : List AV} {ss : Sto} : xC Ct16o 35 args KK QQ ii jj ee ss = ent35 (AV.outs ss args) KK (mk _) ee ss := id rfl
theorem c16 : callable Tryd.prog 16 = true := by kernel_rfl
theorem pf16 (t : Tt) (h : (t.hours.length ≤ 1000 ∧ t.groups.length ≤ 1000)) : PF Tryd.prog 16 [.agg t.c] (fun zz => zz = .ret (.tup [.sl 1 ((frR t).1.map ic), .i (frR t).2])) := by
  have hsz := h
  by_cases c1 : ttOk t = true
  case neg =>
    have hW : frR t = ([], 1) := by unfold frR; rw [if_neg c1]
    rw [hW]
    refine PF_nil (PF_start (O := O16) Ct16_ok hmix ho16 Tryd.func16 c16 rfl Tryd.ntmps16 Tryd.results16 ?_)
    simp (maxSteps := 4000000) +contextual (disch := first | omega | exact qdb_ok (by kernel_rfl) | exact okb_ok (by kernel_rfl)) only [bw1,bw2,bw3,bw5,bw6,bc1,bc2,bc3,bc4,bc5,bc6,AV.outs,AV.outF,packD,AV.dl,AV.cells?,↓reduceIte,reduceCtorEq,Nat.reduceAdd,Nat.reduceSub,List.reduceReplicate,Nat.reduceLeDiff,Nat.reduceLT,tfb,x16_31,hsz, c1]
    try rfl
  have hbig := tt_hours c1
  have hW : frR t = ((fnd t (isF t (bst t (stL t t.hours.length))) t.hours.length bgS).getD [], 0) := by unfold frR; rw [if_pos c1]
  rw [hW]
  refine PF_nil (PF_start (O := O16) Ct16_ok hmix ho16 Tryd.func16 c16 rfl Tryd.ntmps16 Tryd.results16 ?_)
  simp (maxSteps := 4000000) +contextual (disch := first | omega | exact qdb_ok (by kernel_rfl) | exact okb_ok (by kernel_rfl)) only [bw1,bw2,bw5,bw6,bc1,bc2,bc3,bc4,bc5,bc6,ps,pv,AV.dl,AV.cells?,AV.menc,AV.one,↓reduceIte,reduceCtorEq,Nat.reduceAdd,Nat.reduceSub,List.reduceReplicate,Nat.reduceLeDiff,Nat.reduceLT,Nat.reduceBEq,Nat.reduceEqDiff,tfb,x16_31,hsz, c1]
  refine call37x (t := t) rfl c1 ?_ ?_ ?_ ?_
  · rfl
  · simp [AV.stays, AV.stay]
  · simp [othF, AV.stays, AV.stay]
  intro M hM
  simp (maxSteps := 4000000) +contextual (disch := first | omega | exact qdb_ok (by kernel_rfl) | exact okb_ok (by kernel_rfl)) only [bw1,bw2,bw6]
  refine rng_cutX (C := Ct16) Ct16_ok 1000000015 (σ := List Nat) (fun x => [(6, .any)]) (fun x => [(6, bestL (bst t (x.map fun i => (M.getD i default).1)))]) (fun x => (x.Nodup ∧ ∀ i ∈ x, i < M.length) ∧ ∀ i, i < M.length → i ∈ x) ?_ ?_
  · simp (maxSteps := 4000000) +contextual (disch := first | omega | exact qdb_ok (by kernel_rfl) | exact okb_ok (by kernel_rfl)) only [bw1,bw2,bw3,bw5,bw6,bc0,bc2,bc3,bc4,bc5,bc6,bb0,↓reduceIte,reduceCtorEq,Nat.reduceAdd,Nat.reduceSub,List.reduceReplicate,Nat.reduceLeDiff,Nat.reduceLT,Nat.reduceBEq,Nat.reduceEqDiff,tfb,z16_62, eq_self, kill_ents, pairs_ents_eq, ents_len]
    refine ⟨mens_ents, ?_⟩
    refine loop_xu (O := O62) (tb := 62000) Cy16_62_ok hmix (by kernel_rfl) (σ := List Nat) (fun x => [(3, .any)]) (fun x => [(6, bestL (bst t (x.map fun i => (M.getD i default).1))), (2000062005, itc 2000037007 M.length x)]) (fun x => x.Nodup ∧ ∀ i ∈ x, i < M.length) (fun x => M.length - x.length) [] ⟨by simp, by simp⟩ ?_ ?_
    · simp (maxSteps := 4000000) +contextual (disch := first | omega | exact qdb_ok (by kernel_rfl) | exact okb_ok (by kernel_rfl)) only [bw5,bw6,bc0,bc3,bc4,bc5,bc6,AV.isNilS,AV.isNoRows,wk,↓reduceIte,reduceCtorEq,Nat.reduceEqDiff,wks, eq_self]
      try exact ⟨rfl, rfl, rfl, rfl, rfl⟩
    rintro seen ⟨hn1, hn2⟩
    have hbB := bst_B hbig.2.1 hbig.1 hM hn2
    simp (maxSteps := 4000000) +contextual (disch := first | omega | exact qdb_ok (by kernel_rfl) | exact okb_ok (by kernel_rfl)) only [bw1,bw2,bw5,bw6,bc0,bc3,bb0,↓reduceIte,reduceCtorEq,Nat.reduceEqDiff, eq_self]
    refine nx_ents (fk := fkS) (fv := fvT) (M := M) (G := 2000037007) (h := 2000062005) (n := M.length) (seen := seen) rfl rfl rfl ?_ ?_ ?_
    · simp [AV.mencs, AV.menc, Sto.mencs, mencs_ents, itc]
    · intro hall
      simp (maxSteps := 4000000) +contextual (disch := first | omega | exact qdb_ok (by kernel_rfl) | exact okb_ok (by kernel_rfl)) only [bw1,bw2,bw3,bw5,bw6,bc0,bc1,bc2,bc3,bc4,bc5,bc6,AV.isNilS,AV.isNoRows,wk,extV,extS,↓reduceIte,reduceCtorEq,Nat.reduceAdd,Nat.reduceLT,Nat.reduceBEq,Nat.reduceEqDiff,wks, eq_self, kill_ents, kill_itc]
      exact ⟨seen, ⟨⟨hn1, hn2⟩, hall⟩, rfl, rfl, rfl, rfl, rfl⟩
    · intro i hi hs
      have hfk : fkS (M.getD i default).1 = .agg (M.getD i default).1.v := rfl
      have hSL := seen_lt hn1 hn2 hi hs
      have hlen : M.length - (seen ++ [i]).length < M.length - seen.length := by
        have := hSL.1
        rw [List.length_append]
        simp only [List.length_cons, List.length_nil]
        omega
      have hcB := (stR_b hbig.2.1 _ _ (hM.at hi)).cn hbig.1
      by_cases hc : 0 < cmpC t (M.getD i default).1.n (bst t (seen.map fun i => (M.getD i default).1))
      · simp (maxSteps := 4000000) +contextual (disch := first | omega | exact qdb_ok (by kernel_rfl) | exact okb_ok (by kernel_rfl)) only [bw1,bw2,bw5,bw6,bw7,bc0,bc1,bc2,bc3,bc4,bc5,bc6,bb0,setPs,AV.isNilS,AV.isNoRows,wk,binIs,addF,AV.isPtr,extV,extS,AV.outs,AV.outF,AV.dl,AV.cells?,AV.menc,AV.one,D.one,Value.oneCell',↓reduceIte,reduceCtorEq,Nat.reduceAdd,Nat.reduceLeDiff,Nat.reduceLT,Nat.reduceBEq,Nat.reduceEqDiff,tfb,D.flat,en_ents,eq35,x16o_35,yy16_62_15,wks, eq_self, kill_ents, mencs_ents, kill_itc, mencs_itc, hfk, c1, hbB, hcB, hc]
        have hb1 : bst t ((seen ++ [i]).map fun i => (M.getD i default).1) = (M.getD i default).1.n := by rw [bst_snoc]; unfold bsH; rw [if_pos hc]
        exact ⟨hi, seen ++ [i], ⟨⟨hSL.2.1, hSL.2.2⟩, hlen⟩, by rw [hb1]; exact ⟨rfl, rfl, rfl, rfl, rfl⟩, wk_self _⟩
      · simp (maxSteps := 4000000) +contextual (disch := first | omega | exact qdb_ok (by kernel_rfl) | exact okb_ok (by kernel_rfl)) only [bw1,bw2,bw5,bw6,bw7,bc0,bc1,bc2,bc3,bc4,bc5,bc6,bb0,setPs,AV.isNilS,AV.isNoRows,wk,binIs,addF,AV.isPtr,extV,extS,AV.outs,AV.outF,AV.dl,AV.cells?,AV.menc,AV.one,D.one,Value.oneCell',↓reduceIte,reduceCtorEq,Nat.reduceAdd,Nat.reduceLeDiff,Nat.reduceLT,Nat.reduceBEq,Nat.reduceEqDiff,tfb,D.flat,en_ents,eq35,x16o_35,yy16_62_15,wks, eq_self, kill_ents, mencs_ents, kill_itc, mencs_itc, hfk, c1, hbB, hcB, hc]
        have hb1 : bst t ((seen ++ [i]).map fun i => (M.getD i default).1) = bst t (seen.map fun i => (M.getD i default).1) := by rw [bst_snoc]; unfold bsH; rw [if_neg hc]
        exact ⟨hi, seen ++ [i], ⟨⟨hSL.2.1, hSL.2.2⟩, hlen⟩, by rw [hb1]; exact ⟨rfl, rfl, rfl, rfl, rfl⟩, wk_self _⟩
  intro x hx
  have hisf := bst_all hM hx.1.2 hx.2
  have hbB := bst_B hbig.2.1 hbig.1 hM hx.1.2
  simp (maxSteps := 4000000) +contextual (disch := first | omega | exact qdb_ok (by kernel_rfl) | exact okb_ok (by kernel_rfl)) only [bw1,bw2,bw3,bw5,bw6,bc0,bc2,bc3,bc4,bc5,bc6,bb0,AV.dl,AV.cells?,AV.menc,AV.one,↓reduceIte,reduceCtorEq,Nat.reduceAdd,Nat.reduceSub,List.reduceReplicate,Nat.reduceLeDiff,Nat.reduceLT,Nat.reduceBEq,Nat.reduceEqDiff,tfb,z16_38,O38_4,x38_54, eq_self, kill_ents, mencs_ents]
  refine call63x (C := Ct38) (t := t) (b := bst t (x.map fun i => (M.getD i default).1)) (k := t.hours.length) (u := bgS) (M := []) rfl (zall c1 hbB t.hours.length bgS [] (Nat.le_refl _) (by rw [Nat.sub_self]; exact stR_b hbig.2.1 0 _ rfl) (fun p hp => absurd hp List.not_mem_nil)) ?_ ?_ ?_
  · with_reducible rfl
  · refine ⟨⟨?_, ?_, ?_, ?_, ?_, ?_, ?_, ?_⟩, okZs_stay _ ?_, okO3_oth (G := 2000037007) (fun c hc => ?_) ?_⟩
    rotate_left 9
    · simp only [List.mem_cons, Prod.mk.injEq, Nat.reduceEqDiff, false_and, false_or, or_false, true_and, List.not_mem_nil] at hc
      rw [hc]; exact stays_ents M
    all_goals kernel_rfl
  intro M2 hM2
  rw [hisf]
  simp (maxSteps := 4000000) +contextual (disch := first | omega | exact qdb_ok (by kernel_rfl) | exact okb_ok (by kernel_rfl)) only [bw1,bw2,bw3,bw5,bw6,bc1,bc2,bc3,bc4,bc5,bc6,extV,extS,AV.outs,AV.outF,packD,packA,↓reduceIte,reduceCtorEq,Nat.reduceAdd,Nat.reduceLT,Nat.reduceBEq,Nat.reduceEqDiff, eq_self, mer, List.contains_cons, List.contains_nil, Bool.or_true]
end Go.Proofs.YtofbbkacihnjdaaDoor
