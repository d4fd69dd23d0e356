/- A part of the proof that the last text ends: what functions of the program do, told by plain data. -/
import Derived.Test.YtofbbkacihnjdaaDoorHKg
set_option linter.unusedVariables false
set_option linter.unusedSimpArgs false
namespace Go.Proofs.YtofbbkacihnjdaaDoor.M4
open Go Go.E Go.Maps
set_option maxRecDepth 100000
set_option maxHeartbeats 4000000
abbrev nlS : AV := .d (.v (.slice none 0 0))
def sp40 (args : List AV) (K : AV → List AV → Sto → Prop) (e : List AV) (s : Sto) : Prop :=
  ∃ t : Tt, ttOk t = true ∧ args = [.d (.agg t.c), nlS, nlS] ∧ (s.kill 40999).get 40999 = none ∧ (AV.stays [40999] [] (e.map (AV.kill 40999)) ∧ othF [40999] (s.kill 40999)) ∧ K (oG (plR t t.hours.length [])) (e.map (AV.kill 40999)) (s.kill 40999)
theorem nil1 {a b : AV} {a2 : List AV} : ∀ L w vs, AReps L w (a :: nlS :: b :: a2) vs → AReps L w (a :: .d (.sl 1 []) :: b :: a2) vs := fun _ _ _ ⟨u, ut, e, h1, u2, ut2, e2, h2, h3⟩ => ⟨u, ut, e, h1, u2, ut2, e2, nil_sl h2, h3⟩
theorem sp40_ok {args : List AV} {K : AV → List AV → Sto → Prop} {Q : Kt} {e : List AV} {s : Sto} (h : sp40 args K e s) : pcall Tryd.prog 40 args K Q e s := by
  obtain ⟨t, ht, rfl, h3, h4, h5⟩ := h
  have hbig := tt_hours ht
  refine pcall_weak nil1 ?_
  refine pcall_seed (a1 := [.d (.agg t.c), .d (.sl 1 [])]) (a2 := []) (g := 40999) (el := 26) (sz := 1) (by decide) rfl rfl ?_
  have hD : Do40 t t.hours.length [] [] := do40 ht t.hours.length [] [] (by
    have : 6 ^ t.hours.length ≤ 6 ^ 12 := Nat.pow_le_pow_right (by decide) hbig.1
    have h2 : (6 : Nat) ^ 12 ≤ 6 ^ 13 := by decide
    simp only [List.length_nil]; omega) (by simp) (fun j hj => by simp at hj)
  exact pcall_eat0 (args := [.d (.agg t.c), .d (.sl 1 []), .own 40999 26 1 []]) 40999 h3 { tags := fun g hg => by simp only [List.mem_singleton] at hg; omega, sub := fun g c h => by simp [Sto.get] at h, args := rfl, eo := rfl, av := fun x hx => by (cases hx), slots := h4.1, others := fun g c hc _ => (othF_get h4.2 hc).2 } hD rfl h5
theorem call40t {C : CT} {args e : List AV} {s : Sto} {K : AV → List AV → Sto → Prop} {Q : Kt} {i : At K} {j : At Q} (hC : ∀ {args K Q e s} {i : At K} {j : At Q}, xC C 40 args K Q i j e s = sp40 args K e s) (t : Tt) (ht : ttOk t = true) (h1 : args = [.d (.agg t.c), nlS, nlS]) (h3 : (s.kill 40999).get 40999 = none)
    (h4 : AV.stays [40999] [] (e.map (AV.kill 40999)) ∧ othF [40999] (s.kill 40999)) (h5 : K (oG (plR t t.hours.length [])) (e.map (AV.kill 40999)) (s.kill 40999)) : xC C 40 args K Q i j e s := by
  rw [hC]; exact ⟨t, ht, h1, h3, h4, h5⟩
theorem plan_len {t : Tt} {p : List Int} (h : goP t p) (ht : ttOk t = true) : p.length ≤ 1000 := by
  have := (pl_fo h.1).2
  have := (tt_hours ht).1
  omega
def O17 : Nat → Sch := fun id => if id = 8 then .one 0 (.one 1 (.one 2 (.one 3 (.one 4 (.one 7 (.alt (.one 5 (.one 6 (.one 8 (.one 9 (.one 10 (.done)))))) (.one 6 (.one 5 (.one 8 (.one 9 (.one 10 (.done)))))))))))) else .done
theorem O17_8 : O17 8 = .one 0 (.one 1 (.one 2 (.one 3 (.one 4 (.one 7 (.alt (.one 5 (.one 6 (.one 8 (.one 9 (.one 10 (.done)))))) (.one 6 (.one 5 (.one 8 (.one 9 (.one 10 (.done)))))))))))) := rfl
theorem ho17 : Tryd.f17.body.map (okO O17) = some true := by kernel_rfl
def Cf17 : Nat → List AV → (AV → List AV → Sto → Prop) → Kt → List AV → Sto → Prop := fun f args K Q e s => match f with
  | 21 => ent21 args K e s
  | 34 => ent34 args K e s
  | 36 => ent36 args K e s
  | 40 => sp40 args K e s
  | _ => False
def Ct17 : CT := { f := Cf17, y := noYld, z := fun d => false }
theorem Ct17_ok : Ct17.ok Tryd.prog := ok_of_f (fun f args K Q e s h => by
  have h : Cf17 f args K Q e s := h
  unfold Cf17 at h; split at h
  · exact ent21_ok h
  · exact ent34_ok h
  · exact ent36_ok h
  · exact sp40_ok h
  · exact h.elim) (fun _ _ _ _ _ _ _ _ _ h => h)
theorem x17_21 {t : Tt} {KK : AV → List AV → Sto → Prop} {QQ : Kt} {ii : At KK} {jj : At QQ} {ee : List AV} {ss : Sto} : xC Ct17 21 [.d (.agg t.c)] KK QQ ii jj ee ss = ((t.hours.length ≤ 1000 ∧ t.groups.length ≤ 1000) ∧ KK (.d (.b (ttOk t))) ee ss) := eq21
theorem x17_34 {t : Tt} {p : List Int} {KK : AV → List AV → Sto → Prop} {QQ : Kt} {ii : At KK} {jj : At QQ} {ee : List AV} {ss : Sto} : xC Ct17 34 [.d (.agg t.c), .d (.sl 1 (p.map ic))] KK QQ ii jj ee ss = ((ttOk t = true ∧ p.length ≤ 1000 ∧ foP t p) ∧ KK (.d (.sl 1 ((hasL t p).map ic))) ee ss) := eq34
theorem x17_36 {a : List Int} {b : List Int} {KK : AV → List AV → Sto → Prop} {QQ : Kt} {ii : At KK} {jj : At QQ} {ee : List AV} {ss : Sto} : xC Ct17 36 [.d (.sl 1 (a.map ic)), .d (.sl 1 (b.map ic))] KK QQ ii jj ee ss = ((a.length ≤ 1000 ∧ b.length = a.length) ∧ KK (.d (.i (cmpL (isort a) (isort b)))) ee ss) := eq36
theorem c17 : callable Tryd.prog 17 = true := by kernel_rfl
theorem pf17 (t : Tt) (h : (t.hours.length ≤ 1000 ∧ t.groups.length ≤ 1000)) : PF Tryd.prog 17 [.agg t.c] (fun zz => zz = .ret (.tup [.sl 1 ((frQ t).1.map ic), .i (frQ t).2])) := by
  have hsz := h
  by_cases ht : ttOk t = true
  case neg =>
    have hW : frQ t = ([], 1) := by unfold frQ; rw [if_neg ht]
    rw [hW]
    refine PF_nil (PF_start (O := O17) Ct17_ok hmix ho17 Tryd.func17 c17 rfl Tryd.ntmps17 Tryd.results17 ?_)
    simp (maxSteps := 4000000) +contextual (disch := first | omega | exact qdb_ok (by kernel_rfl) | exact okb_ok (by kernel_rfl)) only [bw1,bw2,bw3,bw5,bw6,bc1,bc2,bc3,bc4,bc5,bc6,AV.outs,AV.outF,packD,AV.dl,AV.cells?,↓reduceIte,reduceCtorEq,Nat.reduceAdd,Nat.reduceSub,List.reduceReplicate,Nat.reduceLeDiff,Nat.reduceLT,tfb,x17_21,hsz, ht]
    try rfl
  have hbig := tt_hours ht
  obtain ⟨p0, _, hp0, _⟩ := fr_law ht
  have hm0 := mem_all.2 hp0
  obtain ⟨a, l, hl⟩ : ∃ a l, plR t t.hours.length [] = a :: l := by
    cases hc : plR t t.hours.length [] with
    | nil => rw [hc] at hm0; cases hm0
    | cons a l => exact ⟨a, l, rfl⟩
  have hgo : ∀ q ∈ a :: l, goP t q := fun q hq => mem_all.1 (by rw [hl]; exact hq)
  have hW : frQ t = (l.foldl (bsP t) a, 0) := by unfold frQ; rw [if_pos ht, hl]; rfl
  rw [hW]
  have hlen : (plR t t.hours.length []).length ≤ 6 ^ 12 := Nat.le_trans (plR_len hbig.2.1 _ _) (Nat.pow_le_pow_right (by decide) hbig.1)
  rw [hl] at hlen
  have h612 : (6 : Nat) ^ 12 = 2176782336 := by decide
  have hll : l.length ≤ 2176782335 := by rw [List.length_cons] at hlen; omega
  obtain ⟨L, hL⟩ : ∃ L, a :: l = L := ⟨_, rfl⟩
  rw [hL] at hl hgo
  have hLl : L.length = l.length + 1 := by rw [← hL]; rfl
  have hL0 : (L.map plc).getD (Int.toNat 0) [] = plc a := by rw [← hL]; rfl
  have hLp : (0 : Int) < L.length := by omega
  refine PF_nil (PF_start (O := O17) Ct17_ok hmix ho17 Tryd.func17 c17 rfl Tryd.ntmps17 Tryd.results17 ?_)
  simp (maxSteps := 4000000) +contextual (disch := first | omega | exact qdb_ok (by kernel_rfl) | exact okb_ok (by kernel_rfl)) only [bw1,bw2,bw5,bw6,bc1,bc2,bc3,bc4,bc5,bc6,AV.dl,AV.cells?,↓reduceIte,reduceCtorEq,Nat.reduceAdd,Nat.reduceSub,List.reduceReplicate,Nat.reduceLeDiff,Nat.reduceLT,tfb,x17_21,hsz, ht]
  refine call40t (C := Ct17) (i := mk _) (j := mk _) rfl t ht rfl rfl ⟨by simp [AV.stays, AV.stay, AV.kill, AV.men, AV.mens], by simp [othF, Sto.kill, AV.stays, AV.stay, AV.kill, AV.men, AV.mens]⟩ ?_
  rw [hl]
  obtain ⟨W, hWd⟩ : ∃ W, l.foldl (bsP t) a = W := ⟨_, rfl⟩
  rw [hWd]
  simp (maxSteps := 4000000) +contextual (disch := first | omega | exact qdb_ok (by kernel_rfl) | exact okb_ok (by kernel_rfl)) only [bw1,bw2,bw4,bw5,bw6,bc2,bc3,bc4,bc5,bc6,idxV,AV.isSl,AV.rows,ps,pv,↓reduceIte,reduceCtorEq,Nat.reduceLeDiff,Nat.reduceBEq,Nat.reduceEqDiff,Int.reduceLE,tfb,Sto.kill, eq_self, hL0, hLp]
  refine loop_xu (O := O17) (tb := 0) Ct17_ok hmix (by kernel_rfl) (σ := Nat × List Int) (fun x => [(5, .d (.sl 1 (x.2.map ic))), (6, .i x.1)]) (fun _ => []) (fun x => (1 ≤ x.1 ∧ x.1 ≤ L.length) ∧ goP t x.2 ∧ (l.drop (x.1 - 1)).foldl (bsP t) x.2 = W) (fun x => L.length - x.1) (1, a) ⟨⟨Nat.le_refl _, by omega⟩, hgo a (by rw [← hL]; simp), hWd⟩ ?_ ?_
  · simp (maxSteps := 4000000) +contextual (disch := first | omega | exact qdb_ok (by kernel_rfl) | exact okb_ok (by kernel_rfl)) only [bw4,bw5,bw6,bc0,bc3,bc5,bc6,AV.isNilS,AV.isNoRows,wk,↓reduceIte,reduceCtorEq,eq_self]
    try rfl
  rintro ⟨i, B⟩ hx
  dsimp only at hx ⊢
  have hi1 := hx.1.1
  have hi2 := hx.1.2
  have hB := hx.2.1
  have hw := hx.2.2
  have hii : (0 : Int) ≤ i := by omega
  by_cases hlt : i < L.length
  case neg =>
    have hlt' : ¬ (i : Int) < L.length := by omega
    rw [List.drop_eq_nil_of_le (by omega)] at hw
    have hBW : B = W := hw
    have hfl := ics_flat W
    simp (maxSteps := 4000000) +contextual (disch := first | omega | exact qdb_ok (by kernel_rfl) | exact okb_ok (by kernel_rfl)) only [bw1,bw2,bw3,bw4,bw5,bw6,bw7,bc0,bc1,bc2,bc3,bc4,bc5,bc6,binIs,AV.isSlice,AV.rows,AV.outs,AV.outF,packD,↓reduceIte,tfb,eq_self, hlt', hBW]
    try rfl
  have hlt' : (i : Int) < L.length := by omega
  obtain ⟨x, hxe⟩ : ∃ x, L.getD i default = x := ⟨_, rfl⟩
  have hxg : goP t x := hgo x (by rw [← hxe, at_lt hlt]; exact List.getElem_mem _)
  have hrx : (L.map plc).getD i [] = plc x := by rw [Go.E.row_at hlt, hxe]
  have hdr : l.drop (i - 1) = x :: l.drop i := by
    rw [List.drop_eq_getElem_cons (show i - 1 < l.length by omega), show i - 1 + 1 = i by omega]
    congr 1
    rw [← hxe, at_lt hlt]
    subst hL
    rw [List.getElem_cons, dif_neg (by omega)]
  rw [hdr, List.foldl_cons] at hw
  have px : ttOk t = true ∧ x.length ≤ 1000 ∧ foP t x := ⟨ht, plan_len hxg ht, (pl_fo hxg.1).1⟩
  have pB : ttOk t = true ∧ B.length ≤ 1000 ∧ foP t B := ⟨ht, plan_len hB ht, (pl_fo hB.1).1⟩
  have hx1 : (hasL t x).length ≤ 1000 ∧ (hasL t B).length = (hasL t x).length := by rw [hasL_len, hasL_len]; exact ⟨by omega, rfl⟩
  have hfi : cmpL (isort (hasL t x)) (isort (hasL t B)) = fairI t x B := rfl
  by_cases hc : 0 < fairI t x B
  · have hb1 : bsP t B x = x := by unfold bsP; rw [if_pos hc]
    rw [hb1] at hw
    simp (maxSteps := 4000000) +contextual (disch := first | omega | exact qdb_ok (by kernel_rfl) | exact okb_ok (by kernel_rfl)) only [bw1,bw2,bw3,bw4,bw5,bw6,bw7,bc0,bc1,bc2,bc3,bc4,bc5,bc6,AV.isNilS,AV.isNoRows,wk,binIs,idxV,AV.isSl,AV.isSlice,AV.rows,ps,pv,AV.dl,↓reduceIte,reduceCtorEq,Nat.reduceAdd,Nat.reduceLeDiff,tfb,O17_8,x17_34,x17_36,eq_self, hlt', hii, hrx, px, pB, hx1, hfi, hc]
    exact ⟨(i + 1, x), ⟨⟨⟨by dsimp only; omega, by dsimp only; omega⟩, by dsimp only; assumption, hw⟩, by dsimp only; omega⟩, rfl, rfl⟩
  · have hb1 : bsP t B x = B := by unfold bsP; rw [if_neg hc]
    rw [hb1] at hw
    simp (maxSteps := 4000000) +contextual (disch := first | omega | exact qdb_ok (by kernel_rfl) | exact okb_ok (by kernel_rfl)) only [bw1,bw2,bw3,bw4,bw5,bw6,bw7,bc0,bc1,bc2,bc3,bc4,bc5,bc6,AV.isNilS,AV.isNoRows,wk,binIs,idxV,AV.isSl,AV.isSlice,AV.rows,ps,pv,AV.dl,↓reduceIte,reduceCtorEq,Nat.reduceAdd,Nat.reduceLeDiff,tfb,O17_8,x17_34,x17_36,eq_self, hlt', hii, hrx, px, pB, hx1, hfi, hc]
    exact ⟨(i + 1, B), ⟨⟨⟨by dsimp only; omega, by dsimp only; omega⟩, by dsimp only; assumption, hw⟩, by dsimp only; omega⟩, rfl, rfl⟩
def ent17 (args : List AV) (K : AV → List AV → Sto → Prop) (e : List AV) (s : Sto) : Prop := ent (α := (Tt)) (fun aa => [.agg aa.c]) (fun aa => (aa.hours.length ≤ 1000 ∧ aa.groups.length ≤ 1000)) (fun aa => .tup [.sl 1 ((frQ aa).1.map ic), .i (frQ aa).2]) args K e s
theorem ent17_ok {args : List AV} {K : AV → List AV → Sto → Prop} {Q : Kt} {e : List AV} {s : Sto} (h : ent17 args K e s) : pcall Tryd.prog 17 args K Q e s := ent_ok (fun aa h => pf17 aa h) h
theorem eq17 {t : Tt} {KK : AV → List AV → Sto → Prop} {ee : List AV} {ss : Sto} : ent17 [.d (.agg t.c)] KK ee ss = (((t.hours.length ≤ 1000 ∧ t.groups.length ≤ 1000)) ∧ KK (.d (.tup [.sl 1 ((frQ t).1.map ic), .i (frQ t).2])) ee ss) := by
  unfold ent17; rw [ent_iff t (by intro b h; simpa [Prod.ext_iff, and_assoc, Int.ofNat_inj, ints_inj, hrs_inj, grs_inj, hr_inj, gr_inj, tt_inj, bcs_inj, cn_inj, sd_inj, Int.ofNat_inj, ints_inj, hrs_inj, grs_inj, hr_inj, gr_inj, tt_inj, Int.ofNat_inj, ints_inj, hrs_inj, grs_inj, hr_inj, gr_inj, tt_inj, Int.ofNat_inj, ints_inj, hrs_inj, grs_inj, hr_inj, gr_inj, tt_inj, Int.ofNat_inj, ints_inj, hrs_inj, grs_inj, hr_inj, gr_inj, tt_inj, Int.ofNat_inj, ints_inj, hrs_inj, grs_inj, hr_inj, gr_inj, tt_inj, bcs_inj, cn_inj, sd_inj, Int.ofNat_inj, ints_inj, hrs_inj, grs_inj, hr_inj, gr_inj, tt_inj] using h) rfl]; simp
end Go.Proofs.YtofbbkacihnjdaaDoor.M4
