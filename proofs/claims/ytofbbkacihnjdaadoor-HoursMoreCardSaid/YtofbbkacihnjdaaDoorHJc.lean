/- A part of the proof that the last text ends: what functions of the program do, told by plain data. -/
import Derived.Test.YtofbbkacihnjdaaDoorHZ
import Derived.Test.YtofbbkacihnjdaaDoorHPd
import Derived.Test.YtofbbkacihnjdaaDoorEc
set_option linter.unusedVariables false
set_option linter.unusedSimpArgs false
namespace Go.Proofs.YtofbbkacihnjdaaDoor.M7
open Go Go.E Go.Maps
set_option maxRecDepth 100000
set_option maxHeartbeats 4000000
def sp16 (args : List AV) (K : AV → List AV → Sto → Prop) (e : List AV) (s : Sto) : Prop :=
  ∃ (t : Tt) (k el sz : Nat), szT t ∧ k ≠ 0 ∧ s.get k = none ∧ AV.pures (args.map (AV.frzD k el sz)) = some [.agg t.c] ∧ K (.d (.tup [.sl 1 ((frR t).1.map ic), .i (frR t).2])) (e.map (AV.frz k el sz)) (s.frz k el sz)
theorem sp16_ok {args : List AV} {K : AV → List AV → Sto → Prop} {Q : Kt} {e : List AV} {s : Sto} (h : sp16 args K e s) : pcall Tryd.prog 16 args K Q e s := by
  obtain ⟨t, k, el, sz, h1, h2, h3, h4, h5⟩ := h
  exact pcall_frzD el sz h2 h3 (pcall_pure h4 (pcall_d (ds := [.agg t.c]) (pf16 t h1) (fun d hd => by cases hd; exact h5) (fun c hc => by cases hc)))
def sp27 (args : List AV) (K : AV → List AV → Sto → Prop) (e : List AV) (s : Sto) : Prop :=
  ∃ (t : Tt) (p : List Int), (t.groups.length ≤ 1000 ∧ p.length ≤ 1000) ∧ args = [.d (.agg t.c), .d (.sl 1 (p.map ic))] ∧ K (.d (.b (plOk t p))) e s
theorem sp27_ok {args : List AV} {K : AV → List AV → Sto → Prop} {Q : Kt} {e : List AV} {s : Sto} (h : sp27 args K e s) : pcall Tryd.prog 27 args K Q e s := by
  obtain ⟨t, p, h1, rfl, h3⟩ := h
  exact pcall_d (ds := [.agg t.c, .sl 1 (p.map ic)]) (pf27 t p h1) (fun d hd => by cases hd; exact h3) (fun c hc => by cases hc)
def sp25 (args : List AV) (K : AV → List AV → Sto → Prop) (e : List AV) (s : Sto) : Prop :=
  ∃ (t : Tt) (p : List Int), (ttOk t = true ∧ p.length ≤ 1000 ∧ foP t p) ∧ args = [.d (.agg t.c), .d (.sl 1 (p.map ic))] ∧ K (.d (.sl 1 ((isort (hasL t p)).map ic))) e s
theorem sp25_ok {args : List AV} {K : AV → List AV → Sto → Prop} {Q : Kt} {e : List AV} {s : Sto} (h : sp25 args K e s) : pcall Tryd.prog 25 args K Q e s := by
  obtain ⟨t, p, h1, rfl, h3⟩ := h
  exact pcall_d (ds := [.agg t.c, .sl 1 (p.map ic)]) (pf25 t p h1) (fun d hd => by cases hd; exact h3) (fun c hc => by cases hc)
section
variable {C : CT} {args e : List AV} {s : Sto} {K : AV → List AV → Sto → Prop} {Q : Kt} {i : At K} {j : At Q}
theorem call16q (hC : ∀ {args K Q e s} {i : At K} {j : At Q}, xC C 16 args K Q i j e s = sp16 args K e s) (t : Tt) {p : List Int} (k el sz : Nat) (hf : frR t = (p, 0)) (h1 : szT t) (hk : k ≠ 0) (hg : s.get k = none) (h2 : AV.pures (args.map (AV.frzD k el sz)) = some [.agg t.c]) (h3 : K (.d (.tup [.sl 1 (p.map ic), .i 0])) (e.map (AV.frz k el sz)) (s.frz k el sz)) : xC C 16 args K Q i j e s := by
  rw [hC]; exact ⟨t, k, el, sz, h1, hk, hg, h2, by rw [hf]; exact h3⟩
theorem call16n (hC : ∀ {args K Q e s} {i : At K} {j : At Q}, xC C 16 args K Q i j e s = sp16 args K e s) (t : Tt) (k el sz : Nat) (hf : frR t = ([], 1)) (h1 : szT t) (hk : k ≠ 0) (hg : s.get k = none) (h2 : AV.pures (args.map (AV.frzD k el sz)) = some [.agg t.c]) (h3 : K (.d (.tup [.sl 1 [], .i 1])) (e.map (AV.frz k el sz)) (s.frz k el sz)) : xC C 16 args K Q i j e s := by
  rw [hC]; exact ⟨t, k, el, sz, h1, hk, hg, h2, by rw [hf]; exact h3⟩
theorem call27q (hC : ∀ {args K Q e s} {i : At K} {j : At Q}, xC C 27 args K Q i j e s = sp27 args K e s) (t : Tt) (p : List Int) (hp : plOk t p = true) (h1 : t.groups.length ≤ 1000 ∧ p.length ≤ 1000) (h2 : args = [.d (.agg t.c), .d (.sl 1 (p.map ic))]) (h3 : K (.d (.b true)) e s) : xC C 27 args K Q i j e s := by
  rw [hC]; exact ⟨t, p, h1, h2, by rw [hp]; exact h3⟩
theorem call25q (hC : ∀ {args K Q e s} {i : At K} {j : At Q}, xC C 25 args K Q i j e s = sp25 args K e s) (t : Tt) (p : List Int) (h1 : ttOk t = true ∧ p.length ≤ 1000 ∧ foP t p) (h2 : args = [.d (.agg t.c), .d (.sl 1 (p.map ic))]) (h3 : K (.d (.sl 1 ((isort (hasL t p)).map ic))) e s) : xC C 25 args K Q i j e s := by
  rw [hC]; exact ⟨t, p, h1, h2, h3⟩
end
structure Fq (t : Tt) (p : List Int) : Prop where
  ok : ttOk t = true
  fr : frR t = (p, 0)
  sz : szT t
  pl : plOk t p = true
  n1 : t.groups.length ≤ 1000 ∧ p.length ≤ 1000
  n2 : ttOk t = true ∧ p.length ≤ 1000 ∧ foP t p
theorem fq_of {t : Tt} (ht : ttOk t = true) : ∃ p, Fq t p := by
  obtain ⟨p, h1, h2, _⟩ := fr_law ht
  have hb := tt_hours ht
  have hf := pl_fo h2.1
  exact ⟨p, ht, h1, ⟨by omega, by omega⟩, h2.1, ⟨by omega, by omega⟩, ht, by omega, hf.1⟩
theorem lg_sz7 {t : Tt} (h : ¬ lgT t = true) : t.groups.length ≤ 8 ∧ t.hours.length ≤ 14 := by
  unfold lgT at h
  simp only [Bool.or_eq_true, decide_eq_true_eq, not_or] at h
  omega
def richV (t : Tt) (m : Int) (i : Nat) : AV := if i = 0 then .d (.v (.slice none 0 0)) else .own 193 49 5 (((t.groups.map (rcG m)).take i).map Gr.c)
def q7_0 : Sch := .alt (.one 5 (.one 7 (.one 10 (.one 11 (.one 12 (.one 13 (.done))))))) (.one 7 (.one 10 (.one 5 (.one 11 (.one 12 (.one 13 (.done)))))))
def q7_1 : Sch := .alt (.one 4 (.one 5 (.one 6 (.one 7 (.one 8 (.done)))))) (.one 5 (.one 4 (.one 6 (.one 7 (.one 8 (.done))))))
def q7_2 : Sch := .alt (.one 3 (.one 5 (.one 6 (.one 7 (.one 8 (.done)))))) (.one 5 (.one 3 (.one 6 (.one 7 (.one 8 (.done))))))
def q7_3 : Sch := .alt (.one 3 (.one 4 (.one 6 (.one 7 (.one 8 (.done)))))) (.one 4 (.one 3 (.one 6 (.one 7 (.one 8 (.done))))))
def q7_4 : Sch := .alt (.one 3 q7_1) (.alt (.one 4 q7_2) (.one 5 q7_3))
def q7_5 : Sch := .alt (.one 2 (.one 7 (.one 8 (.done)))) (.one 7 (.one 2 (.one 8 (.done))))
def q7_6 : Sch := .alt (.one 2 (.one 6 (.one 7 (.one 8 (.done))))) (.one 6 q7_5)
def q7_7 : Sch := .alt (.one 2 (.one 5 (.one 6 (.one 7 (.one 8 (.done)))))) (.one 5 q7_6)
def q7_8 : Sch := .alt (.one 2 (.one 4 (.one 6 (.one 7 (.one 8 (.done)))))) (.one 4 q7_6)
def q7_9 : Sch := .alt (.one 2 q7_1) (.alt (.one 4 q7_7) (.one 5 q7_8))
def q7_10 : Sch := .alt (.one 2 (.one 3 (.one 6 (.one 7 (.one 8 (.done)))))) (.one 3 q7_6)
def q7_11 : Sch := .alt (.one 2 q7_2) (.alt (.one 3 q7_7) (.one 5 q7_10))
def q7_12 : Sch := .alt (.one 2 q7_3) (.alt (.one 3 q7_8) (.one 4 q7_10))
def q7_13 : Sch := .alt (.one 2 q7_4) (.alt (.one 3 q7_9) (.alt (.one 4 q7_11) (.one 5 q7_12)))
def q7_14 : Sch := .alt (.one 1 (.one 6 (.one 7 (.one 8 (.done))))) (.one 6 (.one 1 (.one 7 (.one 8 (.done)))))
def q7_15 : Sch := .alt (.one 1 (.one 5 (.one 6 (.one 7 (.one 8 (.done)))))) (.one 5 q7_14)
def q7_16 : Sch := .alt (.one 1 (.one 4 (.one 6 (.one 7 (.one 8 (.done)))))) (.one 4 q7_14)
def q7_17 : Sch := .alt (.one 1 q7_1) (.alt (.one 4 q7_15) (.one 5 q7_16))
def q7_18 : Sch := .alt (.one 1 (.one 3 (.one 6 (.one 7 (.one 8 (.done)))))) (.one 3 q7_14)
def q7_19 : Sch := .alt (.one 1 q7_2) (.alt (.one 3 q7_15) (.one 5 q7_18))
def q7_20 : Sch := .alt (.one 1 q7_3) (.alt (.one 3 q7_16) (.one 4 q7_18))
def q7_21 : Sch := .alt (.one 1 q7_4) (.alt (.one 3 q7_17) (.alt (.one 4 q7_19) (.one 5 q7_20)))
def q7_22 : Sch := .alt (.one 1 q7_6) (.alt (.one 2 q7_14) (.one 6 (.one 1 q7_5)))
def q7_23 : Sch := .alt (.one 1 q7_7) (.alt (.one 2 q7_15) (.one 5 q7_22))
def q7_24 : Sch := .alt (.one 1 q7_8) (.alt (.one 2 q7_16) (.one 4 q7_22))
def q7_25 : Sch := .alt (.one 1 q7_9) (.alt (.one 2 q7_17) (.alt (.one 4 q7_23) (.one 5 q7_24)))
def q7_26 : Sch := .alt (.one 1 q7_10) (.alt (.one 2 q7_18) (.one 3 q7_22))
def q7_27 : Sch := .alt (.one 1 q7_11) (.alt (.one 2 q7_19) (.alt (.one 3 q7_23) (.one 5 q7_26)))
def q7_28 : Sch := .alt (.one 1 q7_12) (.alt (.one 2 q7_20) (.alt (.one 3 q7_24) (.one 4 q7_26)))
def q7_29 : Sch := .alt (.one 0 (.one 5 (.one 6 (.one 7 (.one 8 (.done)))))) (.one 5 (.one 0 (.one 6 (.one 7 (.one 8 (.done))))))
def q7_30 : Sch := .alt (.one 0 (.one 4 (.one 6 (.one 7 (.one 8 (.done)))))) (.one 4 (.one 0 (.one 6 (.one 7 (.one 8 (.done))))))
def q7_31 : Sch := .alt (.one 0 q7_1) (.alt (.one 4 q7_29) (.one 5 q7_30))
def q7_32 : Sch := .alt (.one 0 (.one 3 (.one 6 (.one 7 (.one 8 (.done)))))) (.one 3 (.one 0 (.one 6 (.one 7 (.one 8 (.done))))))
def q7_33 : Sch := .alt (.one 0 q7_2) (.alt (.one 3 q7_29) (.one 5 q7_32))
def q7_34 : Sch := .alt (.one 0 q7_3) (.alt (.one 3 q7_30) (.one 4 q7_32))
def q7_35 : Sch := .alt (.one 0 q7_4) (.alt (.one 3 q7_31) (.alt (.one 4 q7_33) (.one 5 q7_34)))
def q7_36 : Sch := .one 0 q7_6
def q7_37 : Sch := .alt (.one 0 q7_7) (.alt (.one 2 q7_29) (.one 5 q7_36))
def q7_38 : Sch := .alt (.one 0 q7_8) (.alt (.one 2 q7_30) (.one 4 q7_36))
def q7_39 : Sch := .alt (.one 0 q7_9) (.alt (.one 2 q7_31) (.alt (.one 4 q7_37) (.one 5 q7_38)))
def q7_40 : Sch := .alt (.one 0 q7_10) (.alt (.one 2 q7_32) (.one 3 q7_36))
def q7_41 : Sch := .alt (.one 0 q7_11) (.alt (.one 2 q7_33) (.alt (.one 3 q7_37) (.one 5 q7_40)))
def q7_42 : Sch := .alt (.one 0 q7_12) (.alt (.one 2 q7_34) (.alt (.one 3 q7_38) (.one 4 q7_40)))
def q7_43 : Sch := .one 0 q7_14
def q7_44 : Sch := .alt (.one 0 q7_15) (.alt (.one 1 q7_29) (.one 5 q7_43))
def q7_45 : Sch := .alt (.one 0 q7_16) (.alt (.one 1 q7_30) (.one 4 q7_43))
def q7_46 : Sch := .alt (.one 0 q7_17) (.alt (.one 1 q7_31) (.alt (.one 4 q7_44) (.one 5 q7_45)))
def q7_47 : Sch := .alt (.one 0 q7_18) (.alt (.one 1 q7_32) (.one 3 q7_43))
def q7_48 : Sch := .alt (.one 0 q7_19) (.alt (.one 1 q7_33) (.alt (.one 3 q7_44) (.one 5 q7_47)))
def q7_49 : Sch := .alt (.one 0 q7_20) (.alt (.one 1 q7_34) (.alt (.one 3 q7_45) (.one 4 q7_47)))
def q7_50 : Sch := .one 0 q7_22
def q7_51 : Sch := .alt (.one 0 q7_23) (.alt (.one 1 q7_37) (.alt (.one 2 q7_44) (.one 5 q7_50)))
def q7_52 : Sch := .alt (.one 0 q7_24) (.alt (.one 1 q7_38) (.alt (.one 2 q7_45) (.one 4 q7_50)))
def q7_53 : Sch := .alt (.one 0 q7_26) (.alt (.one 1 q7_40) (.alt (.one 2 q7_47) (.one 3 q7_50)))
def q7_54 : Sch := .alt (.one 5 (.one 7 (.one 9 (.one 10 (.one 11 (.one 12 (.done))))))) (.one 7 (.one 9 (.one 5 (.one 10 (.one 11 (.one 12 (.done)))))))
def O7 : Nat → Sch := fun id => if id = 12 then .one 1 (.one 3 (.one 6 (.one 8 (.one 9 (.alt (.one 0 (.one 2 (.one 4 q7_0))) (.alt (.one 2 (.one 4 (.alt (.one 0 q7_0) (.one 7 (.one 10 (.one 0 (.one 5 (.one 11 (.one 12 (.one 13 (.done))))))))))) (.one 7 (.one 10 (.alt (.one 0 (.one 2 (.one 4 (.one 5 (.one 11 (.one 12 (.one 13 (.done)))))))) (.one 2 (.one 4 (.one 0 (.one 5 (.one 11 (.one 12 (.one 13 (.done))))))))))))))))) else if id = 25 then .alt (.one 0 (.alt (.one 1 q7_13) (.alt (.one 2 q7_21) (.alt (.one 3 q7_25) (.alt (.one 4 q7_27) (.one 5 q7_28)))))) (.alt (.one 1 (.alt (.one 0 q7_13) (.alt (.one 2 q7_35) (.alt (.one 3 q7_39) (.alt (.one 4 q7_41) (.one 5 q7_42)))))) (.alt (.one 2 (.alt (.one 0 q7_21) (.alt (.one 1 q7_35) (.alt (.one 3 q7_46) (.alt (.one 4 q7_48) (.one 5 q7_49)))))) (.alt (.one 3 (.alt (.one 0 q7_25) (.alt (.one 1 q7_39) (.alt (.one 2 q7_46) (.alt (.one 4 q7_51) (.one 5 q7_52)))))) (.alt (.one 4 (.alt (.one 0 q7_27) (.alt (.one 1 q7_41) (.alt (.one 2 q7_48) (.alt (.one 3 q7_51) (.one 5 q7_53)))))) (.one 5 (.alt (.one 0 q7_28) (.alt (.one 1 q7_42) (.alt (.one 2 q7_49) (.alt (.one 3 q7_52) (.one 4 q7_53)))))))))) else if id = 28 then .one 1 (.one 3 (.one 6 (.one 8 (.alt (.one 0 (.one 2 (.one 4 q7_54))) (.alt (.one 2 (.one 4 (.alt (.one 0 q7_54) (.one 7 (.one 9 (.one 0 (.one 5 (.one 10 (.one 11 (.one 12 (.done))))))))))) (.one 7 (.one 9 (.alt (.one 0 (.one 2 (.one 4 (.one 5 (.one 10 (.one 11 (.one 12 (.done)))))))) (.one 2 (.one 4 (.one 0 (.one 5 (.one 10 (.one 11 (.one 12 (.done)))))))))))))))) else .done
theorem O7_12 : O7 12 = .one 1 (.one 3 (.one 6 (.one 8 (.one 9 (.alt (.one 0 (.one 2 (.one 4 q7_0))) (.alt (.one 2 (.one 4 (.alt (.one 0 q7_0) (.one 7 (.one 10 (.one 0 (.one 5 (.one 11 (.one 12 (.one 13 (.done))))))))))) (.one 7 (.one 10 (.alt (.one 0 (.one 2 (.one 4 (.one 5 (.one 11 (.one 12 (.one 13 (.done)))))))) (.one 2 (.one 4 (.one 0 (.one 5 (.one 11 (.one 12 (.one 13 (.done))))))))))))))))) := rfl
theorem O7_25 : O7 25 = .alt (.one 0 (.alt (.one 1 q7_13) (.alt (.one 2 q7_21) (.alt (.one 3 q7_25) (.alt (.one 4 q7_27) (.one 5 q7_28)))))) (.alt (.one 1 (.alt (.one 0 q7_13) (.alt (.one 2 q7_35) (.alt (.one 3 q7_39) (.alt (.one 4 q7_41) (.one 5 q7_42)))))) (.alt (.one 2 (.alt (.one 0 q7_21) (.alt (.one 1 q7_35) (.alt (.one 3 q7_46) (.alt (.one 4 q7_48) (.one 5 q7_49)))))) (.alt (.one 3 (.alt (.one 0 q7_25) (.alt (.one 1 q7_39) (.alt (.one 2 q7_46) (.alt (.one 4 q7_51) (.one 5 q7_52)))))) (.alt (.one 4 (.alt (.one 0 q7_27) (.alt (.one 1 q7_41) (.alt (.one 2 q7_48) (.alt (.one 3 q7_51) (.one 5 q7_53)))))) (.one 5 (.alt (.one 0 q7_28) (.alt (.one 1 q7_42) (.alt (.one 2 q7_49) (.alt (.one 3 q7_52) (.one 4 q7_53)))))))))) := rfl
theorem O7_28 : O7 28 = .one 1 (.one 3 (.one 6 (.one 8 (.alt (.one 0 (.one 2 (.one 4 q7_54))) (.alt (.one 2 (.one 4 (.alt (.one 0 q7_54) (.one 7 (.one 9 (.one 0 (.one 5 (.one 10 (.one 11 (.one 12 (.done))))))))))) (.one 7 (.one 9 (.alt (.one 0 (.one 2 (.one 4 (.one 5 (.one 10 (.one 11 (.one 12 (.done)))))))) (.one 2 (.one 4 (.one 0 (.one 5 (.one 10 (.one 11 (.one 12 (.done)))))))))))))))) := rfl
theorem ho7 : Tryd.f7.body.map (okO O7) = some true := by kernel_rfl
def Cf7 : Nat → List AV → (AV → List AV → Sto → Prop) → Kt → List AV → Sto → Prop := fun f args K Q e s => match f with
  | 9 => sp9 args K e s
  | 14 => ent14 args K e s
  | 16 => sp16 args K e s
  | 20 => ent20 args K e s
  | 21 => ent21 args K e s
  | 24 => ent24 args K e s
  | 25 => sp25 args K e s
  | 27 => sp27 args K e s
  | _ => False
def Ct7 : CT := { f := Cf7, y := noYld, z := fun d => false }
theorem ctz7 {d : Nat} : CT.z Ct7 d = (false) := id rfl
theorem Ct7_ok : Ct7.ok Tryd.prog := ok_of_f (fun f args K Q e s h => by
  have h : Cf7 f args K Q e s := h
  unfold Cf7 at h; split at h
  · exact sp9_ok h
  · exact ent14_ok h
  · exact sp16_ok h
  · exact ent20_ok h
  · exact ent21_ok h
  · exact ent24_ok h
  · exact sp25_ok h
  · exact sp27_ok h
  · exact h.elim) (fun _ _ _ _ _ _ _ _ _ h => h)
theorem x7_14 {a : List Int} {b : List Int} {KK : AV → List AV → Sto → Prop} {QQ : Kt} {ii : At KK} {jj : At QQ} {ee : List AV} {ss : Sto} : xC Ct7 14 [.d (.sl 1 (a.map ic)), .d (.sl 1 (b.map ic))] KK QQ ii jj ee ss = ((a.length ≤ 1000) ∧ KK (.d (.b (decide (a = b)))) ee ss) := eq14
theorem x7_14_m1 {a : List Int} {b : List Int} {g1 el1 : Nat} {KK : AV → List AV → Sto → Prop} {QQ : Kt} {ii : At KK} {jj : At QQ} {ee : List AV} {ss : Sto} : xC Ct7 14 [.own g1 el1 1 (a.map ic), .d (.sl 1 (b.map ic))] KK QQ ii jj ee ss = ((a.length ≤ 1000) ∧ (.b (decide (a = b)) : D).flat = true ∧ KK (.d (.b (decide (a = b)))) ee ss) := by
  show ent14 _ _ _ _ = _
  unfold ent14; rw [ent_iff (a, b) (by intro b h; simpa [Prod.ext_iff, and_assoc, Int.ofNat_inj, ints_inj, hrs_inj, grs_inj, hr_inj, gr_inj, tt_inj, bcs_inj, cn_inj, sd_inj, Int.ofNat_inj, ints_inj, hrs_inj, grs_inj, hr_inj, gr_inj, tt_inj, bcs_inj, cn_inj, sd_inj, Int.ofNat_inj, ints_inj, hrs_inj, grs_inj, hr_inj, gr_inj, tt_inj, Int.ofNat_inj, ints_inj, hrs_inj, grs_inj, hr_inj, gr_inj, tt_inj] using h) rfl]; simp
theorem x7_14_m2 {a : List Int} {b : List Int} {g1 el1 : Nat} {KK : AV → List AV → Sto → Prop} {QQ : Kt} {ii : At KK} {jj : At QQ} {ee : List AV} {ss : Sto} : xC Ct7 14 [.d (.sl 1 (a.map ic)), .own g1 el1 1 (b.map ic)] KK QQ ii jj ee ss = ((a.length ≤ 1000) ∧ (.b (decide (a = b)) : D).flat = true ∧ KK (.d (.b (decide (a = b)))) ee ss) := by
  show ent14 _ _ _ _ = _
  unfold ent14; rw [ent_iff (a, b) (by intro b h; simpa [Prod.ext_iff, and_assoc, Int.ofNat_inj, ints_inj, hrs_inj, grs_inj, hr_inj, gr_inj, tt_inj, bcs_inj, cn_inj, sd_inj, Int.ofNat_inj, ints_inj, hrs_inj, grs_inj, hr_inj, gr_inj, tt_inj, bcs_inj, cn_inj, sd_inj, Int.ofNat_inj, ints_inj, hrs_inj, grs_inj, hr_inj, gr_inj, tt_inj, Int.ofNat_inj, ints_inj, hrs_inj, grs_inj, hr_inj, gr_inj, tt_inj] using h) rfl]; simp
theorem x7_14_m3 {a : List Int} {b : List Int} {g1 el1 : Nat} {g2 el2 : Nat} {KK : AV → List AV → Sto → Prop} {QQ : Kt} {ii : At KK} {jj : At QQ} {ee : List AV} {ss : Sto} : xC Ct7 14 [.own g1 el1 1 (a.map ic), .own g2 el2 1 (b.map ic)] KK QQ ii jj ee ss = ((a.length ≤ 1000) ∧ (.b (decide (a = b)) : D).flat = true ∧ KK (.d (.b (decide (a = b)))) ee ss) := eqo14
theorem x7_20 {t : Tt} {KK : AV → List AV → Sto → Prop} {QQ : Kt} {ii : At KK} {jj : At QQ} {ee : List AV} {ss : Sto} : xC Ct7 20 [.d (.agg t.c)] KK QQ ii jj ee ss = (KK (.d (.b (lgT t))) ee ss) := eq20
theorem x7_21 {t : Tt} {KK : AV → List AV → Sto → Prop} {QQ : Kt} {ii : At KK} {jj : At QQ} {ee : List AV} {ss : Sto} : xC Ct7 21 [.d (.agg t.c)] KK QQ ii jj ee ss = ((t.hours.length ≤ 1000 ∧ t.groups.length ≤ 1000) ∧ KK (.d (.b (ttOk t))) ee ss) := eq21
theorem x7_24 {x : List Int} {y : List Int} {KK : AV → List AV → Sto → Prop} {QQ : Kt} {ii : At KK} {jj : At QQ} {ee : List AV} {ss : Sto} : xC Ct7 24 [.d (.sl 1 (x.map ic)), .d (.sl 1 (y.map ic))] KK QQ ii jj ee ss = ((x.length ≤ 1000 ∧ y.length = x.length) ∧ KK (.d (.i (cmpL x y))) ee ss) := eq24
theorem x7_24_m1 {x : List Int} {y : List Int} {g1 el1 : Nat} {KK : AV → List AV → Sto → Prop} {QQ : Kt} {ii : At KK} {jj : At QQ} {ee : List AV} {ss : Sto} : xC Ct7 24 [.own g1 el1 1 (x.map ic), .d (.sl 1 (y.map ic))] KK QQ ii jj ee ss = ((x.length ≤ 1000 ∧ y.length = x.length) ∧ (.i (cmpL x y) : D).flat = true ∧ KK (.d (.i (cmpL x y))) ee ss) := by
  show ent24 _ _ _ _ = _
  unfold ent24; rw [ent_iff (x, y) (by intro b h; simpa [Prod.ext_iff, and_assoc, Int.ofNat_inj, ints_inj, hrs_inj, grs_inj, hr_inj, gr_inj, tt_inj, bcs_inj, cn_inj, sd_inj, Int.ofNat_inj, ints_inj, hrs_inj, grs_inj, hr_inj, gr_inj, tt_inj, bcs_inj, cn_inj, sd_inj, Int.ofNat_inj, ints_inj, hrs_inj, grs_inj, hr_inj, gr_inj, tt_inj, Int.ofNat_inj, ints_inj, hrs_inj, grs_inj, hr_inj, gr_inj, tt_inj] using h) rfl]; simp
theorem x7_24_m2 {x : List Int} {y : List Int} {g1 el1 : Nat} {KK : AV → List AV → Sto → Prop} {QQ : Kt} {ii : At KK} {jj : At QQ} {ee : List AV} {ss : Sto} : xC Ct7 24 [.d (.sl 1 (x.map ic)), .own g1 el1 1 (y.map ic)] KK QQ ii jj ee ss = ((x.length ≤ 1000 ∧ y.length = x.length) ∧ (.i (cmpL x y) : D).flat = true ∧ KK (.d (.i (cmpL x y))) ee ss) := by
  show ent24 _ _ _ _ = _
  unfold ent24; rw [ent_iff (x, y) (by intro b h; simpa [Prod.ext_iff, and_assoc, Int.ofNat_inj, ints_inj, hrs_inj, grs_inj, hr_inj, gr_inj, tt_inj, bcs_inj, cn_inj, sd_inj, Int.ofNat_inj, ints_inj, hrs_inj, grs_inj, hr_inj, gr_inj, tt_inj, bcs_inj, cn_inj, sd_inj, Int.ofNat_inj, ints_inj, hrs_inj, grs_inj, hr_inj, gr_inj, tt_inj, Int.ofNat_inj, ints_inj, hrs_inj, grs_inj, hr_inj, gr_inj, tt_inj] using h) rfl]; simp
theorem x7_24_m3 {x : List Int} {y : List Int} {g1 el1 : Nat} {g2 el2 : Nat} {KK : AV → List AV → Sto → Prop} {QQ : Kt} {ii : At KK} {jj : At QQ} {ee : List AV} {ss : Sto} : xC Ct7 24 [.own g1 el1 1 (x.map ic), .own g2 el2 1 (y.map ic)] KK QQ ii jj ee ss = ((x.length ≤ 1000 ∧ y.length = x.length) ∧ (.i (cmpL x y) : D).flat = true ∧ KK (.d (.i (cmpL x y))) ee ss) := eqo24
theorem c7 : callable Tryd.prog 7 = true := by kernel_rfl
theorem pf7 (t : Tt) (w m : Int) (hw : 0 ≤ w ∧ w ≤ 255) (hm : 0 ≤ m ∧ m ≤ 255) : PFG Tryd.prog 7 1 gtb [.agg t.c, .v (.int .u8 w), .v (.int .u8 m)] (fun zz => zz = .ret (.b true)) := by
  by_cases g1 : lgT t = true
  case pos =>
    refine PFG_nil (PFG_start (O := O7) Ct7_ok hmix ho7 Tryd.func7 c7 rfl Tryd.ntmps7 Tryd.results7 ?_)
    simp (maxSteps := 4000000) +contextual (disch := first | omega | exact qdb_ok (by kernel_rfl) | exact okb_ok (by kernel_rfl)) only [bw1,bw2,bw3,bw4,bw5,bw6,bw7,bc0,bc1,bc2,bc3,bc4,bc5,bc6,bc7,bb0,setPs,AV.owns,AV.datF,AV.frz,AV.cpy,ifV,isEqB,nilV,nilX,AV.isNilS,AV.isNoRows,wk,dclo,datOf,binIs,addF,AV.isPtr,idxV,AV.isSl,AV.isSlice,AV.rows,ps,pv,extV,extS,AV.outs,AV.outF,packD,AV.dl,fieldV,fieldS,AV.cells?,AV.upr,AV.menc,AV.one,D.one,Value.oneCell',tagOf,AV.isApp,strV,strS,bolV,bolS,slcV,AV.isSlD,asrtS,AV.dcells,D.cells?,stcV,stcS,leafOk,eqDs,eqD,packA,D.val?,↓reduceIte,reduceCtorEq,Nat.reduceAdd,Nat.reduceSub,Nat.reduceMul,List.reduceReplicate,Nat.reduceLeDiff,Nat.reduceLT,Nat.reduceBEq,Nat.reduceEqDiff,Int.reduceNeg,Int.reduceEq,Int.reduceLE,Int.reduceLT,tfb,D.flat,D.flats,av_glob,n_seq,ctz7,x7_14,x7_20,x7_21,x7_24,g1]
    refine call9x (C := Ct7) (i := mk _) (j := mk _) rfl rfl rfl ?_
    simp (maxSteps := 4000000) +contextual (disch := first | omega | exact qdb_ok (by kernel_rfl) | exact okb_ok (by kernel_rfl)) only [bw1,bw2,bw3,bw4,bw5,bw6,bw7,bc0,bc1,bc2,bc3,bc4,bc5,bc6,bc7,bb0,setPs,AV.owns,AV.datF,AV.frz,AV.cpy,ifV,isEqB,nilV,nilX,AV.isNilS,AV.isNoRows,wk,dclo,datOf,binIs,addF,AV.isPtr,idxV,AV.isSl,AV.isSlice,AV.rows,ps,pv,extV,extS,AV.outs,AV.outF,packD,AV.dl,fieldV,fieldS,AV.cells?,AV.upr,AV.menc,AV.one,D.one,Value.oneCell',tagOf,AV.isApp,strV,strS,bolV,bolS,slcV,AV.isSlD,asrtS,AV.dcells,D.cells?,stcV,stcS,leafOk,eqDs,eqD,packA,D.val?,↓reduceIte,reduceCtorEq,Nat.reduceAdd,Nat.reduceSub,Nat.reduceMul,List.reduceReplicate,Nat.reduceLeDiff,Nat.reduceLT,Nat.reduceBEq,Nat.reduceEqDiff,Int.reduceNeg,Int.reduceEq,Int.reduceLE,Int.reduceLT,tfb,D.flat,D.flats,av_glob,n_seq,ctz7,x7_14,x7_20,x7_21,x7_24]
  have hsz0 := lg_sz7 g1
  have hsz : szT t := ⟨by omega, by omega⟩
  have hszp : t.hours.length ≤ 1000 ∧ t.groups.length ≤ 1000 := hsz
  by_cases ht : ttOk t = true
  case neg =>
    have hfr : frR t = ([], 1) := by unfold frR; rw [if_neg ht]
    refine PFG_nil (PFG_start (O := O7) Ct7_ok hmix ho7 Tryd.func7 c7 rfl Tryd.ntmps7 Tryd.results7 ?_)
    simp (maxSteps := 4000000) +contextual (disch := first | omega | exact qdb_ok (by kernel_rfl) | exact okb_ok (by kernel_rfl)) only [bw1,bw2,bw3,bw4,bw5,bw6,bw7,bc0,bc1,bc2,bc3,bc4,bc5,bc6,bc7,bb0,setPs,AV.owns,AV.datF,AV.frz,AV.cpy,ifV,isEqB,nilV,nilX,AV.isNilS,AV.isNoRows,wk,dclo,datOf,binIs,addF,AV.isPtr,idxV,AV.isSl,AV.isSlice,AV.rows,ps,pv,extV,extS,AV.outs,AV.outF,packD,AV.dl,fieldV,fieldS,AV.cells?,AV.upr,AV.menc,AV.one,D.one,Value.oneCell',tagOf,AV.isApp,strV,strS,bolV,bolS,slcV,AV.isSlD,asrtS,AV.dcells,D.cells?,stcV,stcS,leafOk,eqDs,eqD,packA,D.val?,↓reduceIte,reduceCtorEq,Nat.reduceAdd,Nat.reduceSub,Nat.reduceMul,List.reduceReplicate,Nat.reduceLeDiff,Nat.reduceLT,Nat.reduceBEq,Nat.reduceEqDiff,Int.reduceNeg,Int.reduceEq,Int.reduceLE,Int.reduceLT,tfb,D.flat,D.flats,av_glob,n_seq,ctz7,x7_14,x7_20,x7_21,x7_24,g1]
    refine call16n (C := Ct7) (i := mk _) (j := mk _) rfl t 9999 22 3 hfr hsz (by decide) rfl rfl ?_
    simp (maxSteps := 4000000) +contextual (disch := first | omega | exact qdb_ok (by kernel_rfl) | exact okb_ok (by kernel_rfl)) only [bw1,bw2,bw3,bw4,bw5,bw6,bw7,bc0,bc1,bc2,bc3,bc4,bc5,bc6,bc7,bb0,setPs,AV.owns,AV.datF,AV.frz,AV.cpy,ifV,isEqB,nilV,nilX,AV.isNilS,AV.isNoRows,wk,dclo,datOf,binIs,addF,AV.isPtr,idxV,AV.isSl,AV.isSlice,AV.rows,ps,pv,extV,extS,AV.outs,AV.outF,packD,AV.dl,fieldV,fieldS,AV.cells?,AV.upr,AV.menc,AV.one,D.one,Value.oneCell',tagOf,AV.isApp,strV,strS,bolV,bolS,slcV,AV.isSlD,asrtS,AV.dcells,D.cells?,stcV,stcS,leafOk,eqDs,eqD,packA,D.val?,↓reduceIte,reduceCtorEq,Nat.reduceAdd,Nat.reduceSub,Nat.reduceMul,List.reduceReplicate,Nat.reduceLeDiff,Nat.reduceLT,Nat.reduceBEq,Nat.reduceEqDiff,Int.reduceNeg,Int.reduceEq,Int.reduceLE,Int.reduceLT,tfb,D.flat,D.flats,av_glob,n_seq,ctz7,x7_14,x7_20,x7_21,x7_24,Sto.frz, AV.frz]
    refine call9x (C := Ct7) (i := mk _) (j := mk _) rfl rfl rfl ?_
    simp (maxSteps := 4000000) +contextual (disch := first | omega | exact qdb_ok (by kernel_rfl) | exact okb_ok (by kernel_rfl)) only [bw1,bw2,bw3,bw4,bw5,bw6,bw7,bc0,bc1,bc2,bc3,bc4,bc5,bc6,bc7,bb0,setPs,AV.owns,AV.datF,AV.frz,AV.cpy,ifV,isEqB,nilV,nilX,AV.isNilS,AV.isNoRows,wk,dclo,datOf,binIs,addF,AV.isPtr,idxV,AV.isSl,AV.isSlice,AV.rows,ps,pv,extV,extS,AV.outs,AV.outF,packD,AV.dl,fieldV,fieldS,AV.cells?,AV.upr,AV.menc,AV.one,D.one,Value.oneCell',tagOf,AV.isApp,strV,strS,bolV,bolS,slcV,AV.isSlD,asrtS,AV.dcells,D.cells?,stcV,stcS,leafOk,eqDs,eqD,packA,D.val?,↓reduceIte,reduceCtorEq,Nat.reduceAdd,Nat.reduceSub,Nat.reduceMul,List.reduceReplicate,Nat.reduceLeDiff,Nat.reduceLT,Nat.reduceBEq,Nat.reduceEqDiff,Int.reduceNeg,Int.reduceEq,Int.reduceLE,Int.reduceLT,tfb,D.flat,D.flats,av_glob,n_seq,ctz7,x7_14,x7_20,x7_21,x7_24]
  obtain ⟨p, hp⟩ := fq_of ht
  have hG : t.groups.length ≤ 1000 := hsz.2
  have hlen0 : (isort (hasL t p)).length = t.groups.length := by rw [isort_len, hasL_len]
  obtain ⟨q2, hq2⟩ := fq_of (sho_ok ht hm.1)
  have hlen2 : (isort (hasL (shoT t m) q2)).length = t.groups.length := by rw [isort_len, hasL_len]; rfl
  have hc2 := sho_law ht hm.1 hp.fr hq2.fr
  have hc2n : ¬ cmpL (isort (hasL (shoT t m) q2)) (isort (hasL t p)) < 0 := by omega
  have hbig := tt_hours ht
  have hr0 := hbig.2.2.1
  have hr9 := hbig.2.2.2
  by_cases hl0 : 0 < t.hours.length
  case neg =>
    have hl0' : ¬ (0 : Int) < t.hours.length := by omega
    refine PFG_nil (PFG_start (O := O7) Ct7_ok hmix ho7 Tryd.func7 c7 rfl Tryd.ntmps7 Tryd.results7 ?_)
    simp (maxSteps := 4000000) +contextual (disch := first | omega | exact qdb_ok (by kernel_rfl) | exact okb_ok (by kernel_rfl)) only [bw1,bw2,bw3,bw4,bw5,bw6,bw7,bc0,bc1,bc2,bc3,bc4,bc5,bc6,bc7,bb0,setPs,AV.owns,AV.datF,AV.frz,AV.cpy,ifV,isEqB,nilV,nilX,AV.isNilS,AV.isNoRows,wk,dclo,datOf,binIs,addF,AV.isPtr,idxV,AV.isSl,AV.isSlice,AV.rows,ps,pv,extV,extS,AV.outs,AV.outF,packD,AV.dl,fieldV,fieldS,AV.cells?,AV.upr,AV.menc,AV.one,D.one,Value.oneCell',tagOf,AV.isApp,strV,strS,bolV,bolS,slcV,AV.isSlD,asrtS,AV.dcells,D.cells?,stcV,stcS,leafOk,eqDs,eqD,packA,D.val?,↓reduceIte,reduceCtorEq,Nat.reduceAdd,Nat.reduceSub,Nat.reduceMul,List.reduceReplicate,Nat.reduceLeDiff,Nat.reduceLT,Nat.reduceBEq,Nat.reduceEqDiff,Int.reduceNeg,Int.reduceEq,Int.reduceLE,Int.reduceLT,tfb,D.flat,D.flats,av_glob,n_seq,ctz7,x7_14,x7_20,x7_21,x7_24,g1]
    refine call16q (C := Ct7) (i := mk _) (j := mk _) rfl t 9999 22 3 hp.fr hp.sz (by decide) rfl rfl ?_
    simp (maxSteps := 4000000) +contextual (disch := first | omega | exact qdb_ok (by kernel_rfl) | exact okb_ok (by kernel_rfl)) only [bw1,bw2,bw3,bw4,bw5,bw6,bw7,bc0,bc1,bc2,bc3,bc4,bc5,bc6,bc7,bb0,setPs,AV.owns,AV.datF,AV.frz,AV.cpy,ifV,isEqB,nilV,nilX,AV.isNilS,AV.isNoRows,wk,dclo,datOf,binIs,addF,AV.isPtr,idxV,AV.isSl,AV.isSlice,AV.rows,ps,pv,extV,extS,AV.outs,AV.outF,packD,AV.dl,fieldV,fieldS,AV.cells?,AV.upr,AV.menc,AV.one,D.one,Value.oneCell',tagOf,AV.isApp,strV,strS,bolV,bolS,slcV,AV.isSlD,asrtS,AV.dcells,D.cells?,stcV,stcS,leafOk,eqDs,eqD,packA,D.val?,↓reduceIte,reduceCtorEq,Nat.reduceAdd,Nat.reduceSub,Nat.reduceMul,List.reduceReplicate,Nat.reduceLeDiff,Nat.reduceLT,Nat.reduceBEq,Nat.reduceEqDiff,Int.reduceNeg,Int.reduceEq,Int.reduceLE,Int.reduceLT,tfb,D.flat,D.flats,av_glob,n_seq,ctz7,x7_14,x7_20,x7_21,x7_24,ht, hszp, Sto.frz, AV.frz, bne_self_eq_false, eq_self]
    refine call27q (C := Ct7) (i := mk _) (j := mk _) rfl t p hp.pl hp.n1 rfl ?_
    simp (maxSteps := 4000000) +contextual (disch := first | omega | exact qdb_ok (by kernel_rfl) | exact okb_ok (by kernel_rfl)) only [bw1,bw2,bw3,bw4,bw5,bw6,bw7,bc0,bc1,bc2,bc3,bc4,bc5,bc6,bc7,bb0,setPs,AV.owns,AV.datF,AV.frz,AV.cpy,ifV,isEqB,nilV,nilX,AV.isNilS,AV.isNoRows,wk,dclo,datOf,binIs,addF,AV.isPtr,idxV,AV.isSl,AV.isSlice,AV.rows,ps,pv,extV,extS,AV.outs,AV.outF,packD,AV.dl,fieldV,fieldS,AV.cells?,AV.upr,AV.menc,AV.one,D.one,Value.oneCell',tagOf,AV.isApp,strV,strS,bolV,bolS,slcV,AV.isSlD,asrtS,AV.dcells,D.cells?,stcV,stcS,leafOk,eqDs,eqD,packA,D.val?,↓reduceIte,reduceCtorEq,Nat.reduceAdd,Nat.reduceSub,Nat.reduceMul,List.reduceReplicate,Nat.reduceLeDiff,Nat.reduceLT,Nat.reduceBEq,Nat.reduceEqDiff,Int.reduceNeg,Int.reduceEq,Int.reduceLE,Int.reduceLT,tfb,D.flat,D.flats,av_glob,n_seq,ctz7,x7_14,x7_20,x7_21,x7_24]
    refine call25q (C := Ct7) (i := mk _) (j := mk _) rfl t p hp.n2 rfl ?_
    simp (maxSteps := 4000000) +contextual (disch := first | omega | exact qdb_ok (by kernel_rfl) | exact okb_ok (by kernel_rfl)) only [bw1,bw2,bw3,bw4,bw5,bw6,bw7,bc0,bc1,bc2,bc3,bc4,bc5,bc6,bc7,bb0,setPs,AV.owns,AV.datF,AV.frz,AV.cpy,ifV,isEqB,nilV,nilX,AV.isNilS,AV.isNoRows,wk,dclo,datOf,binIs,addF,AV.isPtr,idxV,AV.isSl,AV.isSlice,AV.rows,ps,pv,extV,extS,AV.outs,AV.outF,packD,AV.dl,fieldV,fieldS,AV.cells?,AV.upr,AV.menc,AV.one,D.one,Value.oneCell',tagOf,AV.isApp,strV,strS,bolV,bolS,slcV,AV.isSlD,asrtS,AV.dcells,D.cells?,stcV,stcS,leafOk,eqDs,eqD,packA,D.val?,↓reduceIte,reduceCtorEq,Nat.reduceAdd,Nat.reduceSub,Nat.reduceMul,List.reduceReplicate,Nat.reduceLeDiff,Nat.reduceLT,Nat.reduceBEq,Nat.reduceEqDiff,Int.reduceNeg,Int.reduceEq,Int.reduceLE,Int.reduceLT,tfb,D.flat,D.flats,av_glob,n_seq,ctz7,x7_14,x7_20,x7_21,x7_24,hl0', hr0, hr9]
    refine call16q (C := Ct7) (i := mk _) (j := mk _) rfl (shoT t m) 9999 81 3 hq2.fr hq2.sz (by decide) rfl rfl ?_
    simp (maxSteps := 4000000) +contextual (disch := first | omega | exact qdb_ok (by kernel_rfl) | exact okb_ok (by kernel_rfl)) only [bw1,bw2,bw3,bw4,bw5,bw6,bw7,bc0,bc1,bc2,bc3,bc4,bc5,bc6,bc7,bb0,setPs,AV.owns,AV.datF,AV.frz,AV.cpy,ifV,isEqB,nilV,nilX,AV.isNilS,AV.isNoRows,wk,dclo,datOf,binIs,addF,AV.isPtr,idxV,AV.isSl,AV.isSlice,AV.rows,ps,pv,extV,extS,AV.outs,AV.outF,packD,AV.dl,fieldV,fieldS,AV.cells?,AV.upr,AV.menc,AV.one,D.one,Value.oneCell',tagOf,AV.isApp,strV,strS,bolV,bolS,slcV,AV.isSlD,asrtS,AV.dcells,D.cells?,stcV,stcS,leafOk,eqDs,eqD,packA,D.val?,↓reduceIte,reduceCtorEq,Nat.reduceAdd,Nat.reduceSub,Nat.reduceMul,List.reduceReplicate,Nat.reduceLeDiff,Nat.reduceLT,Nat.reduceBEq,Nat.reduceEqDiff,Int.reduceNeg,Int.reduceEq,Int.reduceLE,Int.reduceLT,tfb,D.flat,D.flats,av_glob,n_seq,ctz7,x7_14,x7_20,x7_21,x7_24,Sto.frz, AV.frz, bne_self_eq_false, eq_self]
    refine call27q (C := Ct7) (i := mk _) (j := mk _) rfl (shoT t m) q2 hq2.pl hq2.n1 rfl ?_
    simp (maxSteps := 4000000) +contextual (disch := first | omega | exact qdb_ok (by kernel_rfl) | exact okb_ok (by kernel_rfl)) only [bw1,bw2,bw3,bw4,bw5,bw6,bw7,bc0,bc1,bc2,bc3,bc4,bc5,bc6,bc7,bb0,setPs,AV.owns,AV.datF,AV.frz,AV.cpy,ifV,isEqB,nilV,nilX,AV.isNilS,AV.isNoRows,wk,dclo,datOf,binIs,addF,AV.isPtr,idxV,AV.isSl,AV.isSlice,AV.rows,ps,pv,extV,extS,AV.outs,AV.outF,packD,AV.dl,fieldV,fieldS,AV.cells?,AV.upr,AV.menc,AV.one,D.one,Value.oneCell',tagOf,AV.isApp,strV,strS,bolV,bolS,slcV,AV.isSlD,asrtS,AV.dcells,D.cells?,stcV,stcS,leafOk,eqDs,eqD,packA,D.val?,↓reduceIte,reduceCtorEq,Nat.reduceAdd,Nat.reduceSub,Nat.reduceMul,List.reduceReplicate,Nat.reduceLeDiff,Nat.reduceLT,Nat.reduceBEq,Nat.reduceEqDiff,Int.reduceNeg,Int.reduceEq,Int.reduceLE,Int.reduceLT,tfb,D.flat,D.flats,av_glob,n_seq,ctz7,x7_14,x7_20,x7_21,x7_24]
    refine call25q (C := Ct7) (i := mk _) (j := mk _) rfl (shoT t m) q2 hq2.n2 rfl ?_
    by_cases hg0 : t.groups.length = 0
    case pos =>
      have hg0' : (t.groups.length : Int) = 0 := by omega
      simp (maxSteps := 4000000) +contextual (disch := first | omega | exact qdb_ok (by kernel_rfl) | exact okb_ok (by kernel_rfl)) only [bw1,bw2,bw3,bw4,bw5,bw6,bw7,bc0,bc1,bc2,bc3,bc4,bc5,bc6,bc7,bb0,setPs,AV.owns,AV.datF,AV.frz,AV.cpy,ifV,isEqB,nilV,nilX,AV.isNilS,AV.isNoRows,wk,dclo,datOf,binIs,addF,AV.isPtr,idxV,AV.isSl,AV.isSlice,AV.rows,ps,pv,extV,extS,AV.outs,AV.outF,packD,AV.dl,fieldV,fieldS,AV.cells?,AV.upr,AV.menc,AV.one,D.one,Value.oneCell',tagOf,AV.isApp,strV,strS,bolV,bolS,slcV,AV.isSlD,asrtS,AV.dcells,D.cells?,stcV,stcS,leafOk,eqDs,eqD,packA,D.val?,↓reduceIte,reduceCtorEq,Nat.reduceAdd,Nat.reduceSub,Nat.reduceMul,List.reduceReplicate,Nat.reduceLeDiff,Nat.reduceLT,Nat.reduceBEq,Nat.reduceEqDiff,Int.reduceNeg,Int.reduceEq,Int.reduceLE,Int.reduceLT,tfb,D.flat,D.flats,av_glob,n_seq,ctz7,x7_14,x7_20,x7_21,x7_24,hlen0, hlen2, hG, hc2n, eq_self, hg0']
      refine call9x (C := Ct7) (i := mk _) (j := mk _) rfl rfl rfl ?_
      simp (maxSteps := 4000000) +contextual (disch := first | omega | exact qdb_ok (by kernel_rfl) | exact okb_ok (by kernel_rfl)) only [bw1,bw2,bw3,bw4,bw5,bw6,bw7,bc0,bc1,bc2,bc3,bc4,bc5,bc6,bc7,bb0,setPs,AV.owns,AV.datF,AV.frz,AV.cpy,ifV,isEqB,nilV,nilX,AV.isNilS,AV.isNoRows,wk,dclo,datOf,binIs,addF,AV.isPtr,idxV,AV.isSl,AV.isSlice,AV.rows,ps,pv,extV,extS,AV.outs,AV.outF,packD,AV.dl,fieldV,fieldS,AV.cells?,AV.upr,AV.menc,AV.one,D.one,Value.oneCell',tagOf,AV.isApp,strV,strS,bolV,bolS,slcV,AV.isSlD,asrtS,AV.dcells,D.cells?,stcV,stcS,leafOk,eqDs,eqD,packA,D.val?,↓reduceIte,reduceCtorEq,Nat.reduceAdd,Nat.reduceSub,Nat.reduceMul,List.reduceReplicate,Nat.reduceLeDiff,Nat.reduceLT,Nat.reduceBEq,Nat.reduceEqDiff,Int.reduceNeg,Int.reduceEq,Int.reduceLE,Int.reduceLT,tfb,D.flat,D.flats,av_glob,n_seq,ctz7,x7_14,x7_20,x7_21,x7_24]
    have hg0n : ¬ (t.groups.length : Int) = 0 := by omega
    obtain ⟨j, hj⟩ : ∃ j : Nat, w % (t.groups.length : Int) = (j : Int) := ⟨(w % (t.groups.length : Int)).toNat, by
      have := Int.emod_nonneg w hg0n
      omega⟩
    have hjl : j < t.groups.length := by
      have := Int.emod_lt_of_pos w (show (0 : Int) < t.groups.length by omega)
      omega
    have hset : (List.map Gr.c t.groups).set j [D.v (Value.int IntKind.i64 127), D.i (t.groups.getD j default).early, D.i (t.groups.getD j default).late, D.i (t.groups.getD j default).most, D.i (t.groups.getD j default).cred] = (widT t j).groups.map Gr.c := by
      unfold widT
      dsimp only
      rw [List.map_set]; rfl
    have hrv0 : richV t m 0 = .d (.v (.slice none 0 0)) := rfl
    have hw4 : (t.groups.drop j).length = t.groups.length - j := by rw [List.length_drop]
    have hw5 : (t.groups.take j).length = j := by rw [List.length_take]; omega
    have hw1 : List.drop j (List.take t.groups.length (List.map Gr.c t.groups)) = (t.groups.drop j).map Gr.c := by
      rw [List.take_of_length_le (by simp), List.map_drop]
    have hw2 : List.drop (Int.toNat 0) (List.take j (List.map Gr.c t.groups)) = (t.groups.take j).map Gr.c := by rw [List.map_take]; rfl
    have hw3 : (t.groups.drop j).map Gr.c ++ (t.groups.take j).map Gr.c = (turT t j).groups.map Gr.c := by rw [← List.map_append]; rfl
    have hv1 : (t.groups.length - j) * 40 ≤ 140737488355328 := by omega
    have hv2 : t.groups.length - j ≤ 4611686018427387904 := by omega
    have hv3 : (t.groups.length - j + j) * 40 ≤ 140737488355328 := by omega
    have hv4 : t.groups.length - j + j ≤ 4611686018427387904 := by omega
    have hv5 : t.groups.length * 40 ≤ 140737488355328 := by omega
    have hv6 : t.groups.length ≤ 4611686018427387904 := by omega
    have j1 : (0 : Int) ≤ j := by omega
    have j2 : (j : Int) ≤ t.groups.length := by omega
    have j3 : (j : Int) < t.groups.length := by omega
    simp (maxSteps := 4000000) +contextual (disch := first | omega | exact qdb_ok (by kernel_rfl) | exact okb_ok (by kernel_rfl)) only [bw1,bw2,bw3,bw4,bw5,bw6,bw7,bc0,bc1,bc2,bc3,bc4,bc5,bc6,bc7,bb0,setPs,AV.owns,AV.datF,AV.frz,AV.cpy,ifV,isEqB,nilV,nilX,AV.isNilS,AV.isNoRows,wk,dclo,datOf,binIs,addF,AV.isPtr,idxV,AV.isSl,AV.isSlice,AV.rows,ps,pv,extV,extS,AV.outs,AV.outF,packD,AV.dl,fieldV,fieldS,AV.cells?,AV.upr,AV.menc,AV.one,D.one,Value.oneCell',tagOf,AV.isApp,strV,strS,bolV,bolS,slcV,AV.isSlD,asrtS,AV.dcells,D.cells?,stcV,stcS,leafOk,eqDs,eqD,packA,D.val?,↓reduceIte,reduceCtorEq,Nat.reduceAdd,Nat.reduceSub,Nat.reduceMul,List.reduceReplicate,Nat.reduceLeDiff,Nat.reduceLT,Nat.reduceBEq,Nat.reduceEqDiff,Int.reduceNeg,Int.reduceEq,Int.reduceLE,Int.reduceLT,tfb,D.flat,D.flats,av_glob,n_seq,ctz7,q7_0,q7_1,q7_2,q7_3,q7_4,q7_5,q7_6,q7_7,q7_8,q7_9,q7_10,q7_11,q7_12,q7_13,q7_14,q7_15,q7_16,q7_17,q7_18,q7_19,q7_20,q7_21,q7_22,q7_23,q7_24,q7_25,q7_26,q7_27,q7_28,q7_29,q7_30,q7_31,q7_32,q7_33,q7_34,q7_35,q7_36,q7_37,q7_38,q7_39,q7_40,q7_41,q7_42,q7_43,q7_44,q7_45,q7_46,q7_47,q7_48,q7_49,q7_50,q7_51,q7_52,q7_53,q7_54,O7_12,O7_25,O7_28,x7_14,x7_14_m1,x7_14_m2,x7_14_m3,x7_20,x7_21,x7_24,x7_24_m1,x7_24_m2,x7_24_m3,hlen0, hlen2, hG, hc2n, eq_self, hg0n, hj, hw1, hw2, hw3, hw4, hw5, hv1, hv2, hv3, hv4, hv5, hv6, j1, j2, j3, Int.le_refl, hset]
    refine loop_xu (O := O7) (tb := 0) Ct7_ok hmix (by kernel_rfl) (σ := Nat) (fun i => [(22, .i i), (23, .any)]) (fun i => [(22, [.d (.sl 3 (t.hours.map Hr.c)), richV t m i, .d (.i t.res)])]) (fun i => i ≤ t.groups.length ∧ ∀ g, g < i → (t.groups.getD g default).cred + m ≤ 1000) (fun i => t.groups.length - i) 0 ⟨Nat.zero_le _, fun _ h => by omega⟩ ?_ ?_
    · simp (maxSteps := 4000000) +contextual (disch := first | omega | exact qdb_ok (by kernel_rfl) | exact okb_ok (by kernel_rfl)) only [bw1,bw2,bw3,bw4,bw5,bw6,bw7,bc0,bc1,bc2,bc3,bc4,bc5,bc6,bc7,bb0,setPs,AV.owns,AV.datF,AV.frz,AV.cpy,ifV,isEqB,nilV,nilX,AV.isNilS,AV.isNoRows,wk,dclo,datOf,binIs,addF,AV.isPtr,idxV,AV.isSl,AV.isSlice,AV.rows,ps,pv,extV,extS,AV.outs,AV.outF,packD,AV.dl,fieldV,fieldS,AV.cells?,AV.upr,AV.menc,AV.one,D.one,Value.oneCell',tagOf,AV.isApp,strV,strS,bolV,bolS,slcV,AV.isSlD,asrtS,AV.dcells,D.cells?,stcV,stcS,leafOk,eqDs,eqD,packA,D.val?,↓reduceIte,reduceCtorEq,Nat.reduceAdd,Nat.reduceSub,Nat.reduceMul,List.reduceReplicate,Nat.reduceLeDiff,Nat.reduceLT,Nat.reduceBEq,Nat.reduceEqDiff,Int.reduceNeg,Int.reduceEq,Int.reduceLE,Int.reduceLT,tfb,D.flat,D.flats,av_glob,n_seq,ctz7,x7_14,x7_20,x7_21,x7_24,eq_self, hrv0]
    intro i hi0
    have hi := hi0.1
    have hcr := hi0.2
    by_cases hlt : i < t.groups.length
    case neg =>
      have hlt' : ¬ (i : Int) < t.groups.length := by omega
      have hin : i = t.groups.length := by omega
      have hrv1 : richV t m i = .own 193 49 5 ((rcT t m).groups.map Gr.c) := by
        unfold richV
        rw [if_neg (by omega), hin, List.take_of_length_le (by simp)]; rfl
      obtain ⟨q3, hq3⟩ := fq_of (wid_ok ht hjl)
      obtain ⟨q4, hq4⟩ := fq_of (tur_ok (k := j) ht (by omega))
      have hrok := rc_ok ht hm.1 (fun g hg => hcr g (by omega))
      obtain ⟨q5, hq5⟩ := fq_of hrok
      have hq5p : q5 = p := by
        have h1 := hq5.fr
        rw [rc_law ht hm.1 (fun g hg => hcr g (by omega)), hp.fr] at h1
        cases h1; rfl
      have hlen3 : (isort (hasL (widT t j) q3)).length = t.groups.length := by rw [isort_len, hasL_len, wid_len]
      have hlen4 : (isort (hasL (turT t j) q4)).length = t.groups.length := by rw [isort_len, hasL_len, tur_len (by omega)]
      have hc3 := wid_law ht hjl hp.fr hq3.fr
      have hc4 := tur_law ht (k := j) (by omega) hp.fr hq4.fr
      have hpd : p.length ≤ 1000 := hp.n1.2
      simp (maxSteps := 4000000) +contextual (disch := first | omega | exact qdb_ok (by kernel_rfl) | exact okb_ok (by kernel_rfl)) only [bw1,bw2,bw3,bw4,bw5,bw6,bw7,bc0,bc1,bc2,bc3,bc4,bc5,bc6,bc7,bb0,setPs,AV.owns,AV.datF,AV.frz,AV.cpy,ifV,isEqB,nilV,nilX,AV.isNilS,AV.isNoRows,wk,dclo,datOf,binIs,addF,AV.isPtr,idxV,AV.isSl,AV.isSlice,AV.rows,ps,pv,extV,extS,AV.outs,AV.outF,packD,AV.dl,fieldV,fieldS,AV.cells?,AV.upr,AV.menc,AV.one,D.one,Value.oneCell',tagOf,AV.isApp,strV,strS,bolV,bolS,slcV,AV.isSlD,asrtS,AV.dcells,D.cells?,stcV,stcS,leafOk,eqDs,eqD,packA,D.val?,↓reduceIte,reduceCtorEq,Nat.reduceAdd,Nat.reduceSub,Nat.reduceMul,List.reduceReplicate,Nat.reduceLeDiff,Nat.reduceLT,Nat.reduceBEq,Nat.reduceEqDiff,Int.reduceNeg,Int.reduceEq,Int.reduceLE,Int.reduceLT,tfb,D.flat,D.flats,av_glob,n_seq,ctz7,x7_14,x7_20,x7_21,x7_24,eq_self, hlt', hrv1]
      refine call16q (C := Ct7) (i := mk _) (j := mk _) rfl (widT t j) 146 49 5 hq3.fr hq3.sz (by decide) rfl rfl ?_
      simp (maxSteps := 4000000) +contextual (disch := first | omega | exact qdb_ok (by kernel_rfl) | exact okb_ok (by kernel_rfl)) only [bw1,bw2,bw3,bw4,bw5,bw6,bw7,bc0,bc1,bc2,bc3,bc4,bc5,bc6,bc7,bb0,setPs,AV.owns,AV.datF,AV.frz,AV.cpy,ifV,isEqB,nilV,nilX,AV.isNilS,AV.isNoRows,wk,dclo,datOf,binIs,addF,AV.isPtr,idxV,AV.isSl,AV.isSlice,AV.rows,ps,pv,extV,extS,AV.outs,AV.outF,packD,AV.dl,fieldV,fieldS,AV.cells?,AV.upr,AV.menc,AV.one,D.one,Value.oneCell',tagOf,AV.isApp,strV,strS,bolV,bolS,slcV,AV.isSlD,asrtS,AV.dcells,D.cells?,stcV,stcS,leafOk,eqDs,eqD,packA,D.val?,↓reduceIte,reduceCtorEq,Nat.reduceAdd,Nat.reduceSub,Nat.reduceMul,List.reduceReplicate,Nat.reduceLeDiff,Nat.reduceLT,Nat.reduceBEq,Nat.reduceEqDiff,Int.reduceNeg,Int.reduceEq,Int.reduceLE,Int.reduceLT,tfb,D.flat,D.flats,av_glob,n_seq,ctz7,x7_14,x7_20,x7_21,x7_24,Sto.frz, AV.frz, bne_self_eq_false, eq_self]
      refine call16q (C := Ct7) (i := mk _) (j := mk _) rfl (turT t j) 156 49 5 hq4.fr hq4.sz (by decide) rfl rfl ?_
      simp (maxSteps := 4000000) +contextual (disch := first | omega | exact qdb_ok (by kernel_rfl) | exact okb_ok (by kernel_rfl)) only [bw1,bw2,bw3,bw4,bw5,bw6,bw7,bc0,bc1,bc2,bc3,bc4,bc5,bc6,bc7,bb0,setPs,AV.owns,AV.datF,AV.frz,AV.cpy,ifV,isEqB,nilV,nilX,AV.isNilS,AV.isNoRows,wk,dclo,datOf,binIs,addF,AV.isPtr,idxV,AV.isSl,AV.isSlice,AV.rows,ps,pv,extV,extS,AV.outs,AV.outF,packD,AV.dl,fieldV,fieldS,AV.cells?,AV.upr,AV.menc,AV.one,D.one,Value.oneCell',tagOf,AV.isApp,strV,strS,bolV,bolS,slcV,AV.isSlD,asrtS,AV.dcells,D.cells?,stcV,stcS,leafOk,eqDs,eqD,packA,D.val?,↓reduceIte,reduceCtorEq,Nat.reduceAdd,Nat.reduceSub,Nat.reduceMul,List.reduceReplicate,Nat.reduceLeDiff,Nat.reduceLT,Nat.reduceBEq,Nat.reduceEqDiff,Int.reduceNeg,Int.reduceEq,Int.reduceLE,Int.reduceLT,tfb,D.flat,D.flats,av_glob,n_seq,ctz7,x7_14,x7_20,x7_21,x7_24,Sto.frz, AV.frz, bne_self_eq_false, eq_self]
      refine call16q (C := Ct7) (i := mk _) (j := mk _) rfl (rcT t m) 193 49 5 hq5.fr hq5.sz (by decide) rfl rfl ?_
      simp (maxSteps := 4000000) +contextual (disch := first | omega | exact qdb_ok (by kernel_rfl) | exact okb_ok (by kernel_rfl)) only [bw1,bw2,bw3,bw4,bw5,bw6,bw7,bc0,bc1,bc2,bc3,bc4,bc5,bc6,bc7,bb0,setPs,AV.owns,AV.datF,AV.frz,AV.cpy,ifV,isEqB,nilV,nilX,AV.isNilS,AV.isNoRows,wk,dclo,datOf,binIs,addF,AV.isPtr,idxV,AV.isSl,AV.isSlice,AV.rows,ps,pv,extV,extS,AV.outs,AV.outF,packD,AV.dl,fieldV,fieldS,AV.cells?,AV.upr,AV.menc,AV.one,D.one,Value.oneCell',tagOf,AV.isApp,strV,strS,bolV,bolS,slcV,AV.isSlD,asrtS,AV.dcells,D.cells?,stcV,stcS,leafOk,eqDs,eqD,packA,D.val?,↓reduceIte,reduceCtorEq,Nat.reduceAdd,Nat.reduceSub,Nat.reduceMul,List.reduceReplicate,Nat.reduceLeDiff,Nat.reduceLT,Nat.reduceBEq,Nat.reduceEqDiff,Int.reduceNeg,Int.reduceEq,Int.reduceLE,Int.reduceLT,tfb,D.flat,D.flats,av_glob,n_seq,ctz7,x7_14,x7_20,x7_21,x7_24,Sto.frz, AV.frz, bne_self_eq_false, eq_self]
      refine call27q (C := Ct7) (i := mk _) (j := mk _) rfl (widT t j) q3 hq3.pl hq3.n1 rfl ?_
      simp (maxSteps := 4000000) +contextual (disch := first | omega | exact qdb_ok (by kernel_rfl) | exact okb_ok (by kernel_rfl)) only [bw1,bw2,bw3,bw4,bw5,bw6,bw7,bc0,bc1,bc2,bc3,bc4,bc5,bc6,bc7,bb0,setPs,AV.owns,AV.datF,AV.frz,AV.cpy,ifV,isEqB,nilV,nilX,AV.isNilS,AV.isNoRows,wk,dclo,datOf,binIs,addF,AV.isPtr,idxV,AV.isSl,AV.isSlice,AV.rows,ps,pv,extV,extS,AV.outs,AV.outF,packD,AV.dl,fieldV,fieldS,AV.cells?,AV.upr,AV.menc,AV.one,D.one,Value.oneCell',tagOf,AV.isApp,strV,strS,bolV,bolS,slcV,AV.isSlD,asrtS,AV.dcells,D.cells?,stcV,stcS,leafOk,eqDs,eqD,packA,D.val?,↓reduceIte,reduceCtorEq,Nat.reduceAdd,Nat.reduceSub,Nat.reduceMul,List.reduceReplicate,Nat.reduceLeDiff,Nat.reduceLT,Nat.reduceBEq,Nat.reduceEqDiff,Int.reduceNeg,Int.reduceEq,Int.reduceLE,Int.reduceLT,tfb,D.flat,D.flats,av_glob,n_seq,ctz7,x7_14,x7_20,x7_21,x7_24]
      refine call27q (C := Ct7) (i := mk _) (j := mk _) rfl (turT t j) q4 hq4.pl hq4.n1 rfl ?_
      simp (maxSteps := 4000000) +contextual (disch := first | omega | exact qdb_ok (by kernel_rfl) | exact okb_ok (by kernel_rfl)) only [bw1,bw2,bw3,bw4,bw5,bw6,bw7,bc0,bc1,bc2,bc3,bc4,bc5,bc6,bc7,bb0,setPs,AV.owns,AV.datF,AV.frz,AV.cpy,ifV,isEqB,nilV,nilX,AV.isNilS,AV.isNoRows,wk,dclo,datOf,binIs,addF,AV.isPtr,idxV,AV.isSl,AV.isSlice,AV.rows,ps,pv,extV,extS,AV.outs,AV.outF,packD,AV.dl,fieldV,fieldS,AV.cells?,AV.upr,AV.menc,AV.one,D.one,Value.oneCell',tagOf,AV.isApp,strV,strS,bolV,bolS,slcV,AV.isSlD,asrtS,AV.dcells,D.cells?,stcV,stcS,leafOk,eqDs,eqD,packA,D.val?,↓reduceIte,reduceCtorEq,Nat.reduceAdd,Nat.reduceSub,Nat.reduceMul,List.reduceReplicate,Nat.reduceLeDiff,Nat.reduceLT,Nat.reduceBEq,Nat.reduceEqDiff,Int.reduceNeg,Int.reduceEq,Int.reduceLE,Int.reduceLT,tfb,D.flat,D.flats,av_glob,n_seq,ctz7,x7_14,x7_20,x7_21,x7_24]
      refine call25q (C := Ct7) (i := mk _) (j := mk _) rfl (widT t j) q3 hq3.n2 rfl ?_
      simp (maxSteps := 4000000) +contextual (disch := first | omega | exact qdb_ok (by kernel_rfl) | exact okb_ok (by kernel_rfl)) only [bw1,bw2,bw3,bw4,bw5,bw6,bw7,bc0,bc1,bc2,bc3,bc4,bc5,bc6,bc7,bb0,setPs,AV.owns,AV.datF,AV.frz,AV.cpy,ifV,isEqB,nilV,nilX,AV.isNilS,AV.isNoRows,wk,dclo,datOf,binIs,addF,AV.isPtr,idxV,AV.isSl,AV.isSlice,AV.rows,ps,pv,extV,extS,AV.outs,AV.outF,packD,AV.dl,fieldV,fieldS,AV.cells?,AV.upr,AV.menc,AV.one,D.one,Value.oneCell',tagOf,AV.isApp,strV,strS,bolV,bolS,slcV,AV.isSlD,asrtS,AV.dcells,D.cells?,stcV,stcS,leafOk,eqDs,eqD,packA,D.val?,↓reduceIte,reduceCtorEq,Nat.reduceAdd,Nat.reduceSub,Nat.reduceMul,List.reduceReplicate,Nat.reduceLeDiff,Nat.reduceLT,Nat.reduceBEq,Nat.reduceEqDiff,Int.reduceNeg,Int.reduceEq,Int.reduceLE,Int.reduceLT,tfb,D.flat,D.flats,av_glob,n_seq,ctz7,x7_14,x7_20,x7_21,x7_24,hlen0, hlen3, hG, hc3, eq_self]
      refine call25q (C := Ct7) (i := mk _) (j := mk _) rfl (turT t j) q4 hq4.n2 rfl ?_
      simp (maxSteps := 4000000) +contextual (disch := first | omega | exact qdb_ok (by kernel_rfl) | exact okb_ok (by kernel_rfl)) only [bw1,bw2,bw3,bw4,bw5,bw6,bw7,bc0,bc1,bc2,bc3,bc4,bc5,bc6,bc7,bb0,setPs,AV.owns,AV.datF,AV.frz,AV.cpy,ifV,isEqB,nilV,nilX,AV.isNilS,AV.isNoRows,wk,dclo,datOf,binIs,addF,AV.isPtr,idxV,AV.isSl,AV.isSlice,AV.rows,ps,pv,extV,extS,AV.outs,AV.outF,packD,AV.dl,fieldV,fieldS,AV.cells?,AV.upr,AV.menc,AV.one,D.one,Value.oneCell',tagOf,AV.isApp,strV,strS,bolV,bolS,slcV,AV.isSlD,asrtS,AV.dcells,D.cells?,stcV,stcS,leafOk,eqDs,eqD,packA,D.val?,↓reduceIte,reduceCtorEq,Nat.reduceAdd,Nat.reduceSub,Nat.reduceMul,List.reduceReplicate,Nat.reduceLeDiff,Nat.reduceLT,Nat.reduceBEq,Nat.reduceEqDiff,Int.reduceNeg,Int.reduceEq,Int.reduceLE,Int.reduceLT,tfb,D.flat,D.flats,av_glob,n_seq,ctz7,x7_14,x7_20,x7_21,x7_24,hlen0, hlen4, hG, hc4, eq_self, hq5p, decide_true, hpd]
      refine call9x (C := Ct7) (i := mk _) (j := mk _) rfl rfl rfl ?_
      simp (maxSteps := 4000000) +contextual (disch := first | omega | exact qdb_ok (by kernel_rfl) | exact okb_ok (by kernel_rfl)) only [bw1,bw2,bw3,bw4,bw5,bw6,bw7,bc0,bc1,bc2,bc3,bc4,bc5,bc6,bc7,bb0,setPs,AV.owns,AV.datF,AV.frz,AV.cpy,ifV,isEqB,nilV,nilX,AV.isNilS,AV.isNoRows,wk,dclo,datOf,binIs,addF,AV.isPtr,idxV,AV.isSl,AV.isSlice,AV.rows,ps,pv,extV,extS,AV.outs,AV.outF,packD,AV.dl,fieldV,fieldS,AV.cells?,AV.upr,AV.menc,AV.one,D.one,Value.oneCell',tagOf,AV.isApp,strV,strS,bolV,bolS,slcV,AV.isSlD,asrtS,AV.dcells,D.cells?,stcV,stcS,leafOk,eqDs,eqD,packA,D.val?,↓reduceIte,reduceCtorEq,Nat.reduceAdd,Nat.reduceSub,Nat.reduceMul,List.reduceReplicate,Nat.reduceLeDiff,Nat.reduceLT,Nat.reduceBEq,Nat.reduceEqDiff,Int.reduceNeg,Int.reduceEq,Int.reduceLE,Int.reduceLT,tfb,D.flat,D.flats,av_glob,n_seq,ctz7,x7_14,x7_20,x7_21,x7_24]
    have hlt' : (i : Int) < t.groups.length := by omega
    have hii : (0 : Int) ≤ i := by omega
    have hrg : (t.groups.map Gr.c).getD i [] = Gr.c (t.groups.getD i default) := Go.E.row_at hlt
    have hgr := tt_group ht hlt
    have hgc0 := hgr.2.2.1
    have hgc1 := hgr.2.2.2
    by_cases hov : 1000 < (t.groups.getD i default).cred + m
    · by_cases hi1 : i = 0
      · have hrv1 : richV t m i = .d (.v (.slice none 0 0)) := by rw [hi1]; rfl
        simp (maxSteps := 4000000) +contextual (disch := first | omega | exact qdb_ok (by kernel_rfl) | exact okb_ok (by kernel_rfl)) only [bw1,bw2,bw3,bw4,bw5,bw6,bw7,bc0,bc1,bc2,bc3,bc4,bc5,bc6,bc7,bb0,setPs,AV.owns,AV.datF,AV.frz,AV.cpy,ifV,isEqB,nilV,nilX,AV.isNilS,AV.isNoRows,wk,dclo,datOf,binIs,addF,AV.isPtr,idxV,AV.isSl,AV.isSlice,AV.rows,ps,pv,extV,extS,AV.outs,AV.outF,packD,AV.dl,fieldV,fieldS,AV.cells?,AV.upr,AV.menc,AV.one,D.one,Value.oneCell',tagOf,AV.isApp,strV,strS,bolV,bolS,slcV,AV.isSlD,asrtS,AV.dcells,D.cells?,stcV,stcS,leafOk,eqDs,eqD,packA,D.val?,↓reduceIte,reduceCtorEq,Nat.reduceAdd,Nat.reduceSub,Nat.reduceMul,List.reduceReplicate,Nat.reduceLeDiff,Nat.reduceLT,Nat.reduceBEq,Nat.reduceEqDiff,Int.reduceNeg,Int.reduceEq,Int.reduceLE,Int.reduceLT,tfb,D.flat,D.flats,av_glob,n_seq,ctz7,x7_14,x7_20,x7_21,x7_24,eq_self, hlt', hii, hrg, hov, hgc0, hgc1, hrv1]
        refine call9x (C := Ct7) (i := mk _) (j := mk _) rfl rfl rfl ?_
        simp (maxSteps := 4000000) +contextual (disch := first | omega | exact qdb_ok (by kernel_rfl) | exact okb_ok (by kernel_rfl)) only [bw1,bw2,bw3,bw4,bw5,bw6,bw7,bc0,bc1,bc2,bc3,bc4,bc5,bc6,bc7,bb0,setPs,AV.owns,AV.datF,AV.frz,AV.cpy,ifV,isEqB,nilV,nilX,AV.isNilS,AV.isNoRows,wk,dclo,datOf,binIs,addF,AV.isPtr,idxV,AV.isSl,AV.isSlice,AV.rows,ps,pv,extV,extS,AV.outs,AV.outF,packD,AV.dl,fieldV,fieldS,AV.cells?,AV.upr,AV.menc,AV.one,D.one,Value.oneCell',tagOf,AV.isApp,strV,strS,bolV,bolS,slcV,AV.isSlD,asrtS,AV.dcells,D.cells?,stcV,stcS,leafOk,eqDs,eqD,packA,D.val?,↓reduceIte,reduceCtorEq,Nat.reduceAdd,Nat.reduceSub,Nat.reduceMul,List.reduceReplicate,Nat.reduceLeDiff,Nat.reduceLT,Nat.reduceBEq,Nat.reduceEqDiff,Int.reduceNeg,Int.reduceEq,Int.reduceLE,Int.reduceLT,tfb,D.flat,D.flats,av_glob,n_seq,ctz7,x7_14,x7_20,x7_21,x7_24]
      have hrv1 : richV t m i = .own 193 49 5 (((t.groups.map (rcG m)).take i).map Gr.c) := by unfold richV; rw [if_neg hi1]
      simp (maxSteps := 4000000) +contextual (disch := first | omega | exact qdb_ok (by kernel_rfl) | exact okb_ok (by kernel_rfl)) only [bw1,bw2,bw3,bw4,bw5,bw6,bw7,bc0,bc1,bc2,bc3,bc4,bc5,bc6,bc7,bb0,setPs,AV.owns,AV.datF,AV.frz,AV.cpy,ifV,isEqB,nilV,nilX,AV.isNilS,AV.isNoRows,wk,dclo,datOf,binIs,addF,AV.isPtr,idxV,AV.isSl,AV.isSlice,AV.rows,ps,pv,extV,extS,AV.outs,AV.outF,packD,AV.dl,fieldV,fieldS,AV.cells?,AV.upr,AV.menc,AV.one,D.one,Value.oneCell',tagOf,AV.isApp,strV,strS,bolV,bolS,slcV,AV.isSlD,asrtS,AV.dcells,D.cells?,stcV,stcS,leafOk,eqDs,eqD,packA,D.val?,↓reduceIte,reduceCtorEq,Nat.reduceAdd,Nat.reduceSub,Nat.reduceMul,List.reduceReplicate,Nat.reduceLeDiff,Nat.reduceLT,Nat.reduceBEq,Nat.reduceEqDiff,Int.reduceNeg,Int.reduceEq,Int.reduceLE,Int.reduceLT,tfb,D.flat,D.flats,av_glob,n_seq,ctz7,x7_14,x7_20,x7_21,x7_24,eq_self, hlt', hii, hrg, hov, hgc0, hgc1, hrv1]
      refine call9x (C := Ct7) (i := mk _) (j := mk _) rfl rfl rfl ?_
      simp (maxSteps := 4000000) +contextual (disch := first | omega | exact qdb_ok (by kernel_rfl) | exact okb_ok (by kernel_rfl)) only [bw1,bw2,bw3,bw4,bw5,bw6,bw7,bc0,bc1,bc2,bc3,bc4,bc5,bc6,bc7,bb0,setPs,AV.owns,AV.datF,AV.frz,AV.cpy,ifV,isEqB,nilV,nilX,AV.isNilS,AV.isNoRows,wk,dclo,datOf,binIs,addF,AV.isPtr,idxV,AV.isSl,AV.isSlice,AV.rows,ps,pv,extV,extS,AV.outs,AV.outF,packD,AV.dl,fieldV,fieldS,AV.cells?,AV.upr,AV.menc,AV.one,D.one,Value.oneCell',tagOf,AV.isApp,strV,strS,bolV,bolS,slcV,AV.isSlD,asrtS,AV.dcells,D.cells?,stcV,stcS,leafOk,eqDs,eqD,packA,D.val?,↓reduceIte,reduceCtorEq,Nat.reduceAdd,Nat.reduceSub,Nat.reduceMul,List.reduceReplicate,Nat.reduceLeDiff,Nat.reduceLT,Nat.reduceBEq,Nat.reduceEqDiff,Int.reduceNeg,Int.reduceEq,Int.reduceLE,Int.reduceLT,tfb,D.flat,D.flats,av_glob,n_seq,ctz7,x7_14,x7_20,x7_21,x7_24]
    have hnx : ∀ g, g < i + 1 → (t.groups.getD g default).cred + m ≤ 1000 := fun g hg => by
      rcases Nat.lt_succ_iff_lt_or_eq.1 hg with h | h
      · exact hcr g h
      · rw [h]; omega
    have hti : (List.take i (List.map (rcG m) t.groups)).length = i := by rw [List.length_take, List.length_map]; omega
    have hsn : (t.groups.map (rcG m)).take (i + 1) = (t.groups.map (rcG m)).take i ++ [rcG m (t.groups.getD i default)] := by
      rw [List.take_succ_eq_append_getElem (by simpa using hlt), List.getElem_map, at_lt hlt]
    by_cases hi1 : i = 0
    · have hrv1 : richV t m i = .d (.v (.slice none 0 0)) := by rw [hi1]; rfl
      have hap : AV.own 193 49 5 [[D.i (t.groups.getD i default).days, D.i (t.groups.getD i default).early, D.i (t.groups.getD i default).late, D.i (t.groups.getD i default).most, D.v (Value.int IntKind.i64 ((t.groups.getD i default).cred + m))]] = richV t m (i + 1) := by
        unfold richV
        rw [if_neg (by omega), hsn, List.map_append, hi1]; rfl
      simp (maxSteps := 4000000) +contextual (disch := first | omega | exact qdb_ok (by kernel_rfl) | exact okb_ok (by kernel_rfl)) only [bw1,bw2,bw3,bw4,bw5,bw6,bw7,bc0,bc1,bc2,bc3,bc4,bc5,bc6,bc7,bb0,setPs,AV.owns,AV.datF,AV.frz,AV.cpy,ifV,isEqB,nilV,nilX,AV.isNilS,AV.isNoRows,wk,dclo,datOf,binIs,addF,AV.isPtr,idxV,AV.isSl,AV.isSlice,AV.rows,ps,pv,extV,extS,AV.outs,AV.outF,packD,AV.dl,fieldV,fieldS,AV.cells?,AV.upr,AV.menc,AV.one,D.one,Value.oneCell',tagOf,AV.isApp,strV,strS,bolV,bolS,slcV,AV.isSlD,asrtS,AV.dcells,D.cells?,stcV,stcS,leafOk,eqDs,eqD,packA,D.val?,↓reduceIte,reduceCtorEq,Nat.reduceAdd,Nat.reduceSub,Nat.reduceMul,List.reduceReplicate,Nat.reduceLeDiff,Nat.reduceLT,Nat.reduceBEq,Nat.reduceEqDiff,Int.reduceNeg,Int.reduceEq,Int.reduceLE,Int.reduceLT,tfb,D.flat,D.flats,av_glob,n_seq,ctz7,x7_14,x7_20,x7_21,x7_24,eq_self, hlt', hii, hrg, hov, hrv1, hgc0, hgc1]
      exact ⟨i + 1, ⟨⟨by omega, hnx⟩, by omega⟩, rfl, .inr hap⟩
    have hrv1 : richV t m i = .own 193 49 5 (((t.groups.map (rcG m)).take i).map Gr.c) := by unfold richV; rw [if_neg hi1]
    simp (maxSteps := 4000000) +contextual (disch := first | omega | exact qdb_ok (by kernel_rfl) | exact okb_ok (by kernel_rfl)) only [bw1,bw2,bw3,bw4,bw5,bw6,bw7,bc0,bc1,bc2,bc3,bc4,bc5,bc6,bc7,bb0,setPs,AV.owns,AV.datF,AV.frz,AV.cpy,ifV,isEqB,nilV,nilX,AV.isNilS,AV.isNoRows,wk,dclo,datOf,binIs,addF,AV.isPtr,idxV,AV.isSl,AV.isSlice,AV.rows,ps,pv,extV,extS,AV.outs,AV.outF,packD,AV.dl,fieldV,fieldS,AV.cells?,AV.upr,AV.menc,AV.one,D.one,Value.oneCell',tagOf,AV.isApp,strV,strS,bolV,bolS,slcV,AV.isSlD,asrtS,AV.dcells,D.cells?,stcV,stcS,leafOk,eqDs,eqD,packA,D.val?,↓reduceIte,reduceCtorEq,Nat.reduceAdd,Nat.reduceSub,Nat.reduceMul,List.reduceReplicate,Nat.reduceLeDiff,Nat.reduceLT,Nat.reduceBEq,Nat.reduceEqDiff,Int.reduceNeg,Int.reduceEq,Int.reduceLE,Int.reduceLT,tfb,D.flat,D.flats,av_glob,n_seq,ctz7,x7_14,x7_20,x7_21,x7_24,eq_self, hlt', hii, hrg, hov, hrv1, hgc0, hgc1]
    refine ⟨by rw [hti]; omega, by rw [hti]; omega, i + 1, ⟨⟨by omega, hnx⟩, by omega⟩, rfl, .inr ?_⟩
    unfold richV
    rw [if_neg (by omega), hsn, List.map_append]; rfl
  obtain ⟨k, hk⟩ : ∃ k : Nat, w % (t.hours.length : Int) = (k : Int) := ⟨(w % (t.hours.length : Int)).toNat, by
    have := Int.emod_nonneg w (show (t.hours.length : Int) ≠ 0 by omega)
    omega⟩
  have hkl : k < t.hours.length := by
    have := Int.emod_lt_of_pos w (show (0 : Int) < t.hours.length by omega)
    omega
  have hl0' : (0 : Int) < t.hours.length := by omega
  have hl0n : ¬ (t.hours.length : Int) = 0 := by omega
  have hr4 : (t.hours.take k).length = k := by rw [List.length_take]; omega
  have hr5 : (t.hours.drop (k + 1)).length = t.hours.length - (k + 1) := by rw [List.length_drop]
  have hr1 : List.drop (Int.toNat 0) (List.take k (List.map Hr.c t.hours)) = (t.hours.take k).map Hr.c := by rw [List.map_take]; rfl
  have hr2 : List.drop ((k : Int) + 1).toNat (List.take t.hours.length (List.map Hr.c t.hours)) = (t.hours.drop (k + 1)).map Hr.c := by
    rw [List.take_of_length_le (by simp), show ((k : Int) + 1).toNat = k + 1 by omega, List.map_drop]
  have hr3 : (t.hours.take k).map Hr.c ++ (t.hours.drop (k + 1)).map Hr.c = (lesT t k).hours.map Hr.c := by rw [← List.map_append]; rfl
  have hs1 : k * 24 ≤ 140737488355328 := by omega
  have hs2 : k ≤ 4611686018427387904 := by omega
  have hs3 : (k + (t.hours.length - (k + 1))) * 24 ≤ 140737488355328 := by omega
  have hs4 : k + (t.hours.length - (k + 1)) ≤ 4611686018427387904 := by omega
  obtain ⟨q1, hq1⟩ := fq_of (les_ok ht hkl)
  have hc1 := les_law ht hkl hp.fr hq1.fr
  have hlen1 : (isort (hasL (lesT t k) q1)).length = t.groups.length := by rw [isort_len, hasL_len]; rfl
  have hc1n : ¬ 0 < cmpL (isort (hasL (lesT t k) q1)) (isort (hasL t p)) := by omega
  have k1 : (0 : Int) ≤ k := by omega
  have k2 : (k : Int) ≤ t.hours.length := by omega
  have k3 : (0 : Int) ≤ (k : Int) + 1 := by omega
  have k4 : (k : Int) + 1 ≤ t.hours.length := by omega
  refine PFG_nil (PFG_start (O := O7) Ct7_ok hmix ho7 Tryd.func7 c7 rfl Tryd.ntmps7 Tryd.results7 ?_)
  simp (maxSteps := 4000000) +contextual (disch := first | omega | exact qdb_ok (by kernel_rfl) | exact okb_ok (by kernel_rfl)) only [bw1,bw2,bw3,bw4,bw5,bw6,bw7,bc0,bc1,bc2,bc3,bc4,bc5,bc6,bc7,bb0,setPs,AV.owns,AV.datF,AV.frz,AV.cpy,ifV,isEqB,nilV,nilX,AV.isNilS,AV.isNoRows,wk,dclo,datOf,binIs,addF,AV.isPtr,idxV,AV.isSl,AV.isSlice,AV.rows,ps,pv,extV,extS,AV.outs,AV.outF,packD,AV.dl,fieldV,fieldS,AV.cells?,AV.upr,AV.menc,AV.one,D.one,Value.oneCell',tagOf,AV.isApp,strV,strS,bolV,bolS,slcV,AV.isSlD,asrtS,AV.dcells,D.cells?,stcV,stcS,leafOk,eqDs,eqD,packA,D.val?,↓reduceIte,reduceCtorEq,Nat.reduceAdd,Nat.reduceSub,Nat.reduceMul,List.reduceReplicate,Nat.reduceLeDiff,Nat.reduceLT,Nat.reduceBEq,Nat.reduceEqDiff,Int.reduceNeg,Int.reduceEq,Int.reduceLE,Int.reduceLT,tfb,D.flat,D.flats,av_glob,n_seq,ctz7,x7_14,x7_20,x7_21,x7_24,g1]
  refine call16q (C := Ct7) (i := mk _) (j := mk _) rfl t 9999 22 3 hp.fr hp.sz (by decide) rfl rfl ?_
  simp (maxSteps := 4000000) +contextual (disch := first | omega | exact qdb_ok (by kernel_rfl) | exact okb_ok (by kernel_rfl)) only [bw1,bw2,bw3,bw4,bw5,bw6,bw7,bc0,bc1,bc2,bc3,bc4,bc5,bc6,bc7,bb0,setPs,AV.owns,AV.datF,AV.frz,AV.cpy,ifV,isEqB,nilV,nilX,AV.isNilS,AV.isNoRows,wk,dclo,datOf,binIs,addF,AV.isPtr,idxV,AV.isSl,AV.isSlice,AV.rows,ps,pv,extV,extS,AV.outs,AV.outF,packD,AV.dl,fieldV,fieldS,AV.cells?,AV.upr,AV.menc,AV.one,D.one,Value.oneCell',tagOf,AV.isApp,strV,strS,bolV,bolS,slcV,AV.isSlD,asrtS,AV.dcells,D.cells?,stcV,stcS,leafOk,eqDs,eqD,packA,D.val?,↓reduceIte,reduceCtorEq,Nat.reduceAdd,Nat.reduceSub,Nat.reduceMul,List.reduceReplicate,Nat.reduceLeDiff,Nat.reduceLT,Nat.reduceBEq,Nat.reduceEqDiff,Int.reduceNeg,Int.reduceEq,Int.reduceLE,Int.reduceLT,tfb,D.flat,D.flats,av_glob,n_seq,ctz7,x7_14,x7_20,x7_21,x7_24,ht, hszp, Sto.frz, AV.frz]
  refine call27q (C := Ct7) (i := mk _) (j := mk _) rfl t p hp.pl hp.n1 rfl ?_
  simp (maxSteps := 4000000) +contextual (disch := first | omega | exact qdb_ok (by kernel_rfl) | exact okb_ok (by kernel_rfl)) only [bw1,bw2,bw3,bw4,bw5,bw6,bw7,bc0,bc1,bc2,bc3,bc4,bc5,bc6,bc7,bb0,setPs,AV.owns,AV.datF,AV.frz,AV.cpy,ifV,isEqB,nilV,nilX,AV.isNilS,AV.isNoRows,wk,dclo,datOf,binIs,addF,AV.isPtr,idxV,AV.isSl,AV.isSlice,AV.rows,ps,pv,extV,extS,AV.outs,AV.outF,packD,AV.dl,fieldV,fieldS,AV.cells?,AV.upr,AV.menc,AV.one,D.one,Value.oneCell',tagOf,AV.isApp,strV,strS,bolV,bolS,slcV,AV.isSlD,asrtS,AV.dcells,D.cells?,stcV,stcS,leafOk,eqDs,eqD,packA,D.val?,↓reduceIte,reduceCtorEq,Nat.reduceAdd,Nat.reduceSub,Nat.reduceMul,List.reduceReplicate,Nat.reduceLeDiff,Nat.reduceLT,Nat.reduceBEq,Nat.reduceEqDiff,Int.reduceNeg,Int.reduceEq,Int.reduceLE,Int.reduceLT,tfb,D.flat,D.flats,av_glob,n_seq,ctz7,x7_14,x7_20,x7_21,x7_24]
  refine call25q (C := Ct7) (i := mk _) (j := mk _) rfl t p hp.n2 rfl ?_
  simp (maxSteps := 4000000) +contextual (disch := first | omega | exact qdb_ok (by kernel_rfl) | exact okb_ok (by kernel_rfl)) only [bw1,bw2,bw3,bw4,bw5,bw6,bw7,bc0,bc1,bc2,bc3,bc4,bc5,bc6,bc7,bb0,setPs,AV.owns,AV.datF,AV.frz,AV.cpy,ifV,isEqB,nilV,nilX,AV.isNilS,AV.isNoRows,wk,dclo,datOf,binIs,addF,AV.isPtr,idxV,AV.isSl,AV.isSlice,AV.rows,ps,pv,extV,extS,AV.outs,AV.outF,packD,AV.dl,fieldV,fieldS,AV.cells?,AV.upr,AV.menc,AV.one,D.one,Value.oneCell',tagOf,AV.isApp,strV,strS,bolV,bolS,slcV,AV.isSlD,asrtS,AV.dcells,D.cells?,stcV,stcS,leafOk,eqDs,eqD,packA,D.val?,↓reduceIte,reduceCtorEq,Nat.reduceAdd,Nat.reduceSub,Nat.reduceMul,List.reduceReplicate,Nat.reduceLeDiff,Nat.reduceLT,Nat.reduceBEq,Nat.reduceEqDiff,Int.reduceNeg,Int.reduceEq,Int.reduceLE,Int.reduceLT,tfb,D.flat,D.flats,av_glob,n_seq,ctz7,q7_0,q7_1,q7_2,q7_3,q7_4,q7_5,q7_6,q7_7,q7_8,q7_9,q7_10,q7_11,q7_12,q7_13,q7_14,q7_15,q7_16,q7_17,q7_18,q7_19,q7_20,q7_21,q7_22,q7_23,q7_24,q7_25,q7_26,q7_27,q7_28,q7_29,q7_30,q7_31,q7_32,q7_33,q7_34,q7_35,q7_36,q7_37,q7_38,q7_39,q7_40,q7_41,q7_42,q7_43,q7_44,q7_45,q7_46,q7_47,q7_48,q7_49,q7_50,q7_51,q7_52,q7_53,q7_54,O7_12,O7_25,O7_28,x7_14,x7_14_m1,x7_14_m2,x7_14_m3,x7_20,x7_21,x7_24,x7_24_m1,x7_24_m2,x7_24_m3,hl0', hl0n, hk, k1, k2, k3, k4, hr1, hr2, hr3, hr4, hr5, hs1, hs2, hs3, hs4, Int.le_refl]
  refine call16q (C := Ct7) (i := mk _) (j := mk _) rfl (lesT t k) 70 81 3 hq1.fr hq1.sz (by decide) rfl rfl ?_
  simp (maxSteps := 4000000) +contextual (disch := first | omega | exact qdb_ok (by kernel_rfl) | exact okb_ok (by kernel_rfl)) only [bw1,bw2,bw3,bw4,bw5,bw6,bw7,bc0,bc1,bc2,bc3,bc4,bc5,bc6,bc7,bb0,setPs,AV.owns,AV.datF,AV.frz,AV.cpy,ifV,isEqB,nilV,nilX,AV.isNilS,AV.isNoRows,wk,dclo,datOf,binIs,addF,AV.isPtr,idxV,AV.isSl,AV.isSlice,AV.rows,ps,pv,extV,extS,AV.outs,AV.outF,packD,AV.dl,fieldV,fieldS,AV.cells?,AV.upr,AV.menc,AV.one,D.one,Value.oneCell',tagOf,AV.isApp,strV,strS,bolV,bolS,slcV,AV.isSlD,asrtS,AV.dcells,D.cells?,stcV,stcS,leafOk,eqDs,eqD,packA,D.val?,↓reduceIte,reduceCtorEq,Nat.reduceAdd,Nat.reduceSub,Nat.reduceMul,List.reduceReplicate,Nat.reduceLeDiff,Nat.reduceLT,Nat.reduceBEq,Nat.reduceEqDiff,Int.reduceNeg,Int.reduceEq,Int.reduceLE,Int.reduceLT,tfb,D.flat,D.flats,av_glob,n_seq,ctz7,x7_14,x7_20,x7_21,x7_24,Sto.frz, AV.frz, bne_self_eq_false, eq_self]
  refine call27q (C := Ct7) (i := mk _) (j := mk _) rfl (lesT t k) q1 hq1.pl hq1.n1 rfl ?_
  simp (maxSteps := 4000000) +contextual (disch := first | omega | exact qdb_ok (by kernel_rfl) | exact okb_ok (by kernel_rfl)) only [bw1,bw2,bw3,bw4,bw5,bw6,bw7,bc0,bc1,bc2,bc3,bc4,bc5,bc6,bc7,bb0,setPs,AV.owns,AV.datF,AV.frz,AV.cpy,ifV,isEqB,nilV,nilX,AV.isNilS,AV.isNoRows,wk,dclo,datOf,binIs,addF,AV.isPtr,idxV,AV.isSl,AV.isSlice,AV.rows,ps,pv,extV,extS,AV.outs,AV.outF,packD,AV.dl,fieldV,fieldS,AV.cells?,AV.upr,AV.menc,AV.one,D.one,Value.oneCell',tagOf,AV.isApp,strV,strS,bolV,bolS,slcV,AV.isSlD,asrtS,AV.dcells,D.cells?,stcV,stcS,leafOk,eqDs,eqD,packA,D.val?,↓reduceIte,reduceCtorEq,Nat.reduceAdd,Nat.reduceSub,Nat.reduceMul,List.reduceReplicate,Nat.reduceLeDiff,Nat.reduceLT,Nat.reduceBEq,Nat.reduceEqDiff,Int.reduceNeg,Int.reduceEq,Int.reduceLE,Int.reduceLT,tfb,D.flat,D.flats,av_glob,n_seq,ctz7,x7_14,x7_20,x7_21,x7_24]
  refine call25q (C := Ct7) (i := mk _) (j := mk _) rfl (lesT t k) q1 hq1.n2 rfl ?_
  simp (maxSteps := 4000000) +contextual (disch := first | omega | exact qdb_ok (by kernel_rfl) | exact okb_ok (by kernel_rfl)) only [bw1,bw2,bw3,bw4,bw5,bw6,bw7,bc0,bc1,bc2,bc3,bc4,bc5,bc6,bc7,bb0,setPs,AV.owns,AV.datF,AV.frz,AV.cpy,ifV,isEqB,nilV,nilX,AV.isNilS,AV.isNoRows,wk,dclo,datOf,binIs,addF,AV.isPtr,idxV,AV.isSl,AV.isSlice,AV.rows,ps,pv,extV,extS,AV.outs,AV.outF,packD,AV.dl,fieldV,fieldS,AV.cells?,AV.upr,AV.menc,AV.one,D.one,Value.oneCell',tagOf,AV.isApp,strV,strS,bolV,bolS,slcV,AV.isSlD,asrtS,AV.dcells,D.cells?,stcV,stcS,leafOk,eqDs,eqD,packA,D.val?,↓reduceIte,reduceCtorEq,Nat.reduceAdd,Nat.reduceSub,Nat.reduceMul,List.reduceReplicate,Nat.reduceLeDiff,Nat.reduceLT,Nat.reduceBEq,Nat.reduceEqDiff,Int.reduceNeg,Int.reduceEq,Int.reduceLE,Int.reduceLT,tfb,D.flat,D.flats,av_glob,n_seq,ctz7,x7_14,x7_20,x7_21,x7_24,hlen0, hlen1, hG, hc1n, eq_self, hr0, hr9]
  refine call16q (C := Ct7) (i := mk _) (j := mk _) rfl (shoT t m) 9999 81 3 hq2.fr hq2.sz (by decide) rfl rfl ?_
  simp (maxSteps := 4000000) +contextual (disch := first | omega | exact qdb_ok (by kernel_rfl) | exact okb_ok (by kernel_rfl)) only [bw1,bw2,bw3,bw4,bw5,bw6,bw7,bc0,bc1,bc2,bc3,bc4,bc5,bc6,bc7,bb0,setPs,AV.owns,AV.datF,AV.frz,AV.cpy,ifV,isEqB,nilV,nilX,AV.isNilS,AV.isNoRows,wk,dclo,datOf,binIs,addF,AV.isPtr,idxV,AV.isSl,AV.isSlice,AV.rows,ps,pv,extV,extS,AV.outs,AV.outF,packD,AV.dl,fieldV,fieldS,AV.cells?,AV.upr,AV.menc,AV.one,D.one,Value.oneCell',tagOf,AV.isApp,strV,strS,bolV,bolS,slcV,AV.isSlD,asrtS,AV.dcells,D.cells?,stcV,stcS,leafOk,eqDs,eqD,packA,D.val?,↓reduceIte,reduceCtorEq,Nat.reduceAdd,Nat.reduceSub,Nat.reduceMul,List.reduceReplicate,Nat.reduceLeDiff,Nat.reduceLT,Nat.reduceBEq,Nat.reduceEqDiff,Int.reduceNeg,Int.reduceEq,Int.reduceLE,Int.reduceLT,tfb,D.flat,D.flats,av_glob,n_seq,ctz7,x7_14,x7_20,x7_21,x7_24,Sto.frz, AV.frz, bne_self_eq_false, eq_self]
  refine call27q (C := Ct7) (i := mk _) (j := mk _) rfl (shoT t m) q2 hq2.pl hq2.n1 rfl ?_
  simp (maxSteps := 4000000) +contextual (disch := first | omega | exact qdb_ok (by kernel_rfl) | exact okb_ok (by kernel_rfl)) only [bw1,bw2,bw3,bw4,bw5,bw6,bw7,bc0,bc1,bc2,bc3,bc4,bc5,bc6,bc7,bb0,setPs,AV.owns,AV.datF,AV.frz,AV.cpy,ifV,isEqB,nilV,nilX,AV.isNilS,AV.isNoRows,wk,dclo,datOf,binIs,addF,AV.isPtr,idxV,AV.isSl,AV.isSlice,AV.rows,ps,pv,extV,extS,AV.outs,AV.outF,packD,AV.dl,fieldV,fieldS,AV.cells?,AV.upr,AV.menc,AV.one,D.one,Value.oneCell',tagOf,AV.isApp,strV,strS,bolV,bolS,slcV,AV.isSlD,asrtS,AV.dcells,D.cells?,stcV,stcS,leafOk,eqDs,eqD,packA,D.val?,↓reduceIte,reduceCtorEq,Nat.reduceAdd,Nat.reduceSub,Nat.reduceMul,List.reduceReplicate,Nat.reduceLeDiff,Nat.reduceLT,Nat.reduceBEq,Nat.reduceEqDiff,Int.reduceNeg,Int.reduceEq,Int.reduceLE,Int.reduceLT,tfb,D.flat,D.flats,av_glob,n_seq,ctz7,x7_14,x7_20,x7_21,x7_24]
  refine call25q (C := Ct7) (i := mk _) (j := mk _) rfl (shoT t m) q2 hq2.n2 rfl ?_
  by_cases hg0 : t.groups.length = 0
  case pos =>
    have hg0' : (t.groups.length : Int) = 0 := by omega
    simp (maxSteps := 4000000) +contextual (disch := first | omega | exact qdb_ok (by kernel_rfl) | exact okb_ok (by kernel_rfl)) only [bw1,bw2,bw3,bw4,bw5,bw6,bw7,bc0,bc1,bc2,bc3,bc4,bc5,bc6,bc7,bb0,setPs,AV.owns,AV.datF,AV.frz,AV.cpy,ifV,isEqB,nilV,nilX,AV.isNilS,AV.isNoRows,wk,dclo,datOf,binIs,addF,AV.isPtr,idxV,AV.isSl,AV.isSlice,AV.rows,ps,pv,extV,extS,AV.outs,AV.outF,packD,AV.dl,fieldV,fieldS,AV.cells?,AV.upr,AV.menc,AV.one,D.one,Value.oneCell',tagOf,AV.isApp,strV,strS,bolV,bolS,slcV,AV.isSlD,asrtS,AV.dcells,D.cells?,stcV,stcS,leafOk,eqDs,eqD,packA,D.val?,↓reduceIte,reduceCtorEq,Nat.reduceAdd,Nat.reduceSub,Nat.reduceMul,List.reduceReplicate,Nat.reduceLeDiff,Nat.reduceLT,Nat.reduceBEq,Nat.reduceEqDiff,Int.reduceNeg,Int.reduceEq,Int.reduceLE,Int.reduceLT,tfb,D.flat,D.flats,av_glob,n_seq,ctz7,x7_14,x7_20,x7_21,x7_24,hlen0, hlen2, hG, hc2n, eq_self, hg0']
    refine call9x (C := Ct7) (i := mk _) (j := mk _) rfl rfl rfl ?_
    simp (maxSteps := 4000000) +contextual (disch := first | omega | exact qdb_ok (by kernel_rfl) | exact okb_ok (by kernel_rfl)) only [bw1,bw2,bw3,bw4,bw5,bw6,bw7,bc0,bc1,bc2,bc3,bc4,bc5,bc6,bc7,bb0,setPs,AV.owns,AV.datF,AV.frz,AV.cpy,ifV,isEqB,nilV,nilX,AV.isNilS,AV.isNoRows,wk,dclo,datOf,binIs,addF,AV.isPtr,idxV,AV.isSl,AV.isSlice,AV.rows,ps,pv,extV,extS,AV.outs,AV.outF,packD,AV.dl,fieldV,fieldS,AV.cells?,AV.upr,AV.menc,AV.one,D.one,Value.oneCell',tagOf,AV.isApp,strV,strS,bolV,bolS,slcV,AV.isSlD,asrtS,AV.dcells,D.cells?,stcV,stcS,leafOk,eqDs,eqD,packA,D.val?,↓reduceIte,reduceCtorEq,Nat.reduceAdd,Nat.reduceSub,Nat.reduceMul,List.reduceReplicate,Nat.reduceLeDiff,Nat.reduceLT,Nat.reduceBEq,Nat.reduceEqDiff,Int.reduceNeg,Int.reduceEq,Int.reduceLE,Int.reduceLT,tfb,D.flat,D.flats,av_glob,n_seq,ctz7,x7_14,x7_20,x7_21,x7_24]
  have hg0n : ¬ (t.groups.length : Int) = 0 := by omega
  obtain ⟨j, hj⟩ : ∃ j : Nat, w % (t.groups.length : Int) = (j : Int) := ⟨(w % (t.groups.length : Int)).toNat, by
    have := Int.emod_nonneg w hg0n
    omega⟩
  have hjl : j < t.groups.length := by
    have := Int.emod_lt_of_pos w (show (0 : Int) < t.groups.length by omega)
    omega
  have hset : (List.map Gr.c t.groups).set j [D.v (Value.int IntKind.i64 127), D.i (t.groups.getD j default).early, D.i (t.groups.getD j default).late, D.i (t.groups.getD j default).most, D.i (t.groups.getD j default).cred] = (widT t j).groups.map Gr.c := by
    unfold widT
    dsimp only
    rw [List.map_set]; rfl
  have hrv0 : richV t m 0 = .d (.v (.slice none 0 0)) := rfl
  have hw4 : (t.groups.drop j).length = t.groups.length - j := by rw [List.length_drop]
  have hw5 : (t.groups.take j).length = j := by rw [List.length_take]; omega
  have hw1 : List.drop j (List.take t.groups.length (List.map Gr.c t.groups)) = (t.groups.drop j).map Gr.c := by
    rw [List.take_of_length_le (by simp), List.map_drop]
  have hw2 : List.drop (Int.toNat 0) (List.take j (List.map Gr.c t.groups)) = (t.groups.take j).map Gr.c := by rw [List.map_take]; rfl
  have hw3 : (t.groups.drop j).map Gr.c ++ (t.groups.take j).map Gr.c = (turT t j).groups.map Gr.c := by rw [← List.map_append]; rfl
  have hv1 : (t.groups.length - j) * 40 ≤ 140737488355328 := by omega
  have hv2 : t.groups.length - j ≤ 4611686018427387904 := by omega
  have hv3 : (t.groups.length - j + j) * 40 ≤ 140737488355328 := by omega
  have hv4 : t.groups.length - j + j ≤ 4611686018427387904 := by omega
  have hv5 : t.groups.length * 40 ≤ 140737488355328 := by omega
  have hv6 : t.groups.length ≤ 4611686018427387904 := by omega
  have j1 : (0 : Int) ≤ j := by omega
  have j2 : (j : Int) ≤ t.groups.length := by omega
  have j3 : (j : Int) < t.groups.length := by omega
  simp (maxSteps := 4000000) +contextual (disch := first | omega | exact qdb_ok (by kernel_rfl) | exact okb_ok (by kernel_rfl)) only [bw1,bw2,bw3,bw4,bw5,bw6,bw7,bc0,bc1,bc2,bc3,bc4,bc5,bc6,bc7,bb0,setPs,AV.owns,AV.datF,AV.frz,AV.cpy,ifV,isEqB,nilV,nilX,AV.isNilS,AV.isNoRows,wk,dclo,datOf,binIs,addF,AV.isPtr,idxV,AV.isSl,AV.isSlice,AV.rows,ps,pv,extV,extS,AV.outs,AV.outF,packD,AV.dl,fieldV,fieldS,AV.cells?,AV.upr,AV.menc,AV.one,D.one,Value.oneCell',tagOf,AV.isApp,strV,strS,bolV,bolS,slcV,AV.isSlD,asrtS,AV.dcells,D.cells?,stcV,stcS,leafOk,eqDs,eqD,packA,D.val?,↓reduceIte,reduceCtorEq,Nat.reduceAdd,Nat.reduceSub,Nat.reduceMul,List.reduceReplicate,Nat.reduceLeDiff,Nat.reduceLT,Nat.reduceBEq,Nat.reduceEqDiff,Int.reduceNeg,Int.reduceEq,Int.reduceLE,Int.reduceLT,tfb,D.flat,D.flats,av_glob,n_seq,ctz7,q7_0,q7_1,q7_2,q7_3,q7_4,q7_5,q7_6,q7_7,q7_8,q7_9,q7_10,q7_11,q7_12,q7_13,q7_14,q7_15,q7_16,q7_17,q7_18,q7_19,q7_20,q7_21,q7_22,q7_23,q7_24,q7_25,q7_26,q7_27,q7_28,q7_29,q7_30,q7_31,q7_32,q7_33,q7_34,q7_35,q7_36,q7_37,q7_38,q7_39,q7_40,q7_41,q7_42,q7_43,q7_44,q7_45,q7_46,q7_47,q7_48,q7_49,q7_50,q7_51,q7_52,q7_53,q7_54,O7_12,O7_25,O7_28,x7_14,x7_14_m1,x7_14_m2,x7_14_m3,x7_20,x7_21,x7_24,x7_24_m1,x7_24_m2,x7_24_m3,hlen0, hlen2, hG, hc2n, eq_self, hg0n, hj, hw1, hw2, hw3, hw4, hw5, hv1, hv2, hv3, hv4, hv5, hv6, j1, j2, j3, Int.le_refl, hset]
  refine loop_xu (O := O7) (tb := 0) Ct7_ok hmix (by kernel_rfl) (σ := Nat) (fun i => [(22, .i i), (23, .any)]) (fun i => [(22, [.d (.sl 3 (t.hours.map Hr.c)), richV t m i, .d (.i t.res)])]) (fun i => i ≤ t.groups.length ∧ ∀ g, g < i → (t.groups.getD g default).cred + m ≤ 1000) (fun i => t.groups.length - i) 0 ⟨Nat.zero_le _, fun _ h => by omega⟩ ?_ ?_
  · simp (maxSteps := 4000000) +contextual (disch := first | omega | exact qdb_ok (by kernel_rfl) | exact okb_ok (by kernel_rfl)) only [bw1,bw2,bw3,bw4,bw5,bw6,bw7,bc0,bc1,bc2,bc3,bc4,bc5,bc6,bc7,bb0,setPs,AV.owns,AV.datF,AV.frz,AV.cpy,ifV,isEqB,nilV,nilX,AV.isNilS,AV.isNoRows,wk,dclo,datOf,binIs,addF,AV.isPtr,idxV,AV.isSl,AV.isSlice,AV.rows,ps,pv,extV,extS,AV.outs,AV.outF,packD,AV.dl,fieldV,fieldS,AV.cells?,AV.upr,AV.menc,AV.one,D.one,Value.oneCell',tagOf,AV.isApp,strV,strS,bolV,bolS,slcV,AV.isSlD,asrtS,AV.dcells,D.cells?,stcV,stcS,leafOk,eqDs,eqD,packA,D.val?,↓reduceIte,reduceCtorEq,Nat.reduceAdd,Nat.reduceSub,Nat.reduceMul,List.reduceReplicate,Nat.reduceLeDiff,Nat.reduceLT,Nat.reduceBEq,Nat.reduceEqDiff,Int.reduceNeg,Int.reduceEq,Int.reduceLE,Int.reduceLT,tfb,D.flat,D.flats,av_glob,n_seq,ctz7,x7_14,x7_20,x7_21,x7_24,eq_self, hrv0]
  intro i hi0
  have hi := hi0.1
  have hcr := hi0.2
  by_cases hlt : i < t.groups.length
  case neg =>
    have hlt' : ¬ (i : Int) < t.groups.length := by omega
    have hin : i = t.groups.length := by omega
    have hrv1 : richV t m i = .own 193 49 5 ((rcT t m).groups.map Gr.c) := by
      unfold richV
      rw [if_neg (by omega), hin, List.take_of_length_le (by simp)]; rfl
    obtain ⟨q3, hq3⟩ := fq_of (wid_ok ht hjl)
    obtain ⟨q4, hq4⟩ := fq_of (tur_ok (k := j) ht (by omega))
    have hrok := rc_ok ht hm.1 (fun g hg => hcr g (by omega))
    obtain ⟨q5, hq5⟩ := fq_of hrok
    have hq5p : q5 = p := by
      have h1 := hq5.fr
      rw [rc_law ht hm.1 (fun g hg => hcr g (by omega)), hp.fr] at h1
      cases h1; rfl
    have hlen3 : (isort (hasL (widT t j) q3)).length = t.groups.length := by rw [isort_len, hasL_len, wid_len]
    have hlen4 : (isort (hasL (turT t j) q4)).length = t.groups.length := by rw [isort_len, hasL_len, tur_len (by omega)]
    have hc3 := wid_law ht hjl hp.fr hq3.fr
    have hc4 := tur_law ht (k := j) (by omega) hp.fr hq4.fr
    have hpd : p.length ≤ 1000 := hp.n1.2
    simp (maxSteps := 4000000) +contextual (disch := first | omega | exact qdb_ok (by kernel_rfl) | exact okb_ok (by kernel_rfl)) only [bw1,bw2,bw3,bw4,bw5,bw6,bw7,bc0,bc1,bc2,bc3,bc4,bc5,bc6,bc7,bb0,setPs,AV.owns,AV.datF,AV.frz,AV.cpy,ifV,isEqB,nilV,nilX,AV.isNilS,AV.isNoRows,wk,dclo,datOf,binIs,addF,AV.isPtr,idxV,AV.isSl,AV.isSlice,AV.rows,ps,pv,extV,extS,AV.outs,AV.outF,packD,AV.dl,fieldV,fieldS,AV.cells?,AV.upr,AV.menc,AV.one,D.one,Value.oneCell',tagOf,AV.isApp,strV,strS,bolV,bolS,slcV,AV.isSlD,asrtS,AV.dcells,D.cells?,stcV,stcS,leafOk,eqDs,eqD,packA,D.val?,↓reduceIte,reduceCtorEq,Nat.reduceAdd,Nat.reduceSub,Nat.reduceMul,List.reduceReplicate,Nat.reduceLeDiff,Nat.reduceLT,Nat.reduceBEq,Nat.reduceEqDiff,Int.reduceNeg,Int.reduceEq,Int.reduceLE,Int.reduceLT,tfb,D.flat,D.flats,av_glob,n_seq,ctz7,x7_14,x7_20,x7_21,x7_24,eq_self, hlt', hrv1]
    refine call16q (C := Ct7) (i := mk _) (j := mk _) rfl (widT t j) 146 49 5 hq3.fr hq3.sz (by decide) rfl rfl ?_
    simp (maxSteps := 4000000) +contextual (disch := first | omega | exact qdb_ok (by kernel_rfl) | exact okb_ok (by kernel_rfl)) only [bw1,bw2,bw3,bw4,bw5,bw6,bw7,bc0,bc1,bc2,bc3,bc4,bc5,bc6,bc7,bb0,setPs,AV.owns,AV.datF,AV.frz,AV.cpy,ifV,isEqB,nilV,nilX,AV.isNilS,AV.isNoRows,wk,dclo,datOf,binIs,addF,AV.isPtr,idxV,AV.isSl,AV.isSlice,AV.rows,ps,pv,extV,extS,AV.outs,AV.outF,packD,AV.dl,fieldV,fieldS,AV.cells?,AV.upr,AV.menc,AV.one,D.one,Value.oneCell',tagOf,AV.isApp,strV,strS,bolV,bolS,slcV,AV.isSlD,asrtS,AV.dcells,D.cells?,stcV,stcS,leafOk,eqDs,eqD,packA,D.val?,↓reduceIte,reduceCtorEq,Nat.reduceAdd,Nat.reduceSub,Nat.reduceMul,List.reduceReplicate,Nat.reduceLeDiff,Nat.reduceLT,Nat.reduceBEq,Nat.reduceEqDiff,Int.reduceNeg,Int.reduceEq,Int.reduceLE,Int.reduceLT,tfb,D.flat,D.flats,av_glob,n_seq,ctz7,x7_14,x7_20,x7_21,x7_24,Sto.frz, AV.frz, bne_self_eq_false, eq_self]
    refine call16q (C := Ct7) (i := mk _) (j := mk _) rfl (turT t j) 156 49 5 hq4.fr hq4.sz (by decide) rfl rfl ?_
    simp (maxSteps := 4000000) +contextual (disch := first | omega | exact qdb_ok (by kernel_rfl) | exact okb_ok (by kernel_rfl)) only [bw1,bw2,bw3,bw4,bw5,bw6,bw7,bc0,bc1,bc2,bc3,bc4,bc5,bc6,bc7,bb0,setPs,AV.owns,AV.datF,AV.frz,AV.cpy,ifV,isEqB,nilV,nilX,AV.isNilS,AV.isNoRows,wk,dclo,datOf,binIs,addF,AV.isPtr,idxV,AV.isSl,AV.isSlice,AV.rows,ps,pv,extV,extS,AV.outs,AV.outF,packD,AV.dl,fieldV,fieldS,AV.cells?,AV.upr,AV.menc,AV.one,D.one,Value.oneCell',tagOf,AV.isApp,strV,strS,bolV,bolS,slcV,AV.isSlD,asrtS,AV.dcells,D.cells?,stcV,stcS,leafOk,eqDs,eqD,packA,D.val?,↓reduceIte,reduceCtorEq,Nat.reduceAdd,Nat.reduceSub,Nat.reduceMul,List.reduceReplicate,Nat.reduceLeDiff,Nat.reduceLT,Nat.reduceBEq,Nat.reduceEqDiff,Int.reduceNeg,Int.reduceEq,Int.reduceLE,Int.reduceLT,tfb,D.flat,D.flats,av_glob,n_seq,ctz7,x7_14,x7_20,x7_21,x7_24,Sto.frz, AV.frz, bne_self_eq_false, eq_self]
    refine call16q (C := Ct7) (i := mk _) (j := mk _) rfl (rcT t m) 193 49 5 hq5.fr hq5.sz (by decide) rfl rfl ?_
    simp (maxSteps := 4000000) +contextual (disch := first | omega | exact qdb_ok (by kernel_rfl) | exact okb_ok (by kernel_rfl)) only [bw1,bw2,bw3,bw4,bw5,bw6,bw7,bc0,bc1,bc2,bc3,bc4,bc5,bc6,bc7,bb0,setPs,AV.owns,AV.datF,AV.frz,AV.cpy,ifV,isEqB,nilV,nilX,AV.isNilS,AV.isNoRows,wk,dclo,datOf,binIs,addF,AV.isPtr,idxV,AV.isSl,AV.isSlice,AV.rows,ps,pv,extV,extS,AV.outs,AV.outF,packD,AV.dl,fieldV,fieldS,AV.cells?,AV.upr,AV.menc,AV.one,D.one,Value.oneCell',tagOf,AV.isApp,strV,strS,bolV,bolS,slcV,AV.isSlD,asrtS,AV.dcells,D.cells?,stcV,stcS,leafOk,eqDs,eqD,packA,D.val?,↓reduceIte,reduceCtorEq,Nat.reduceAdd,Nat.reduceSub,Nat.reduceMul,List.reduceReplicate,Nat.reduceLeDiff,Nat.reduceLT,Nat.reduceBEq,Nat.reduceEqDiff,Int.reduceNeg,Int.reduceEq,Int.reduceLE,Int.reduceLT,tfb,D.flat,D.flats,av_glob,n_seq,ctz7,x7_14,x7_20,x7_21,x7_24,Sto.frz, AV.frz, bne_self_eq_false, eq_self]
    refine call27q (C := Ct7) (i := mk _) (j := mk _) rfl (widT t j) q3 hq3.pl hq3.n1 rfl ?_
    simp (maxSteps := 4000000) +contextual (disch := first | omega | exact qdb_ok (by kernel_rfl) | exact okb_ok (by kernel_rfl)) only [bw1,bw2,bw3,bw4,bw5,bw6,bw7,bc0,bc1,bc2,bc3,bc4,bc5,bc6,bc7,bb0,setPs,AV.owns,AV.datF,AV.frz,AV.cpy,ifV,isEqB,nilV,nilX,AV.isNilS,AV.isNoRows,wk,dclo,datOf,binIs,addF,AV.isPtr,idxV,AV.isSl,AV.isSlice,AV.rows,ps,pv,extV,extS,AV.outs,AV.outF,packD,AV.dl,fieldV,fieldS,AV.cells?,AV.upr,AV.menc,AV.one,D.one,Value.oneCell',tagOf,AV.isApp,strV,strS,bolV,bolS,slcV,AV.isSlD,asrtS,AV.dcells,D.cells?,stcV,stcS,leafOk,eqDs,eqD,packA,D.val?,↓reduceIte,reduceCtorEq,Nat.reduceAdd,Nat.reduceSub,Nat.reduceMul,List.reduceReplicate,Nat.reduceLeDiff,Nat.reduceLT,Nat.reduceBEq,Nat.reduceEqDiff,Int.reduceNeg,Int.reduceEq,Int.reduceLE,Int.reduceLT,tfb,D.flat,D.flats,av_glob,n_seq,ctz7,x7_14,x7_20,x7_21,x7_24]
    refine call27q (C := Ct7) (i := mk _) (j := mk _) rfl (turT t j) q4 hq4.pl hq4.n1 rfl ?_
    simp (maxSteps := 4000000) +contextual (disch := first | omega | exact qdb_ok (by kernel_rfl) | exact okb_ok (by kernel_rfl)) only [bw1,bw2,bw3,bw4,bw5,bw6,bw7,bc0,bc1,bc2,bc3,bc4,bc5,bc6,bc7,bb0,setPs,AV.owns,AV.datF,AV.frz,AV.cpy,ifV,isEqB,nilV,nilX,AV.isNilS,AV.isNoRows,wk,dclo,datOf,binIs,addF,AV.isPtr,idxV,AV.isSl,AV.isSlice,AV.rows,ps,pv,extV,extS,AV.outs,AV.outF,packD,AV.dl,fieldV,fieldS,AV.cells?,AV.upr,AV.menc,AV.one,D.one,Value.oneCell',tagOf,AV.isApp,strV,strS,bolV,bolS,slcV,AV.isSlD,asrtS,AV.dcells,D.cells?,stcV,stcS,leafOk,eqDs,eqD,packA,D.val?,↓reduceIte,reduceCtorEq,Nat.reduceAdd,Nat.reduceSub,Nat.reduceMul,List.reduceReplicate,Nat.reduceLeDiff,Nat.reduceLT,Nat.reduceBEq,Nat.reduceEqDiff,Int.reduceNeg,Int.reduceEq,Int.reduceLE,Int.reduceLT,tfb,D.flat,D.flats,av_glob,n_seq,ctz7,x7_14,x7_20,x7_21,x7_24]
    refine call25q (C := Ct7) (i := mk _) (j := mk _) rfl (widT t j) q3 hq3.n2 rfl ?_
    simp (maxSteps := 4000000) +contextual (disch := first | omega | exact qdb_ok (by kernel_rfl) | exact okb_ok (by kernel_rfl)) only [bw1,bw2,bw3,bw4,bw5,bw6,bw7,bc0,bc1,bc2,bc3,bc4,bc5,bc6,bc7,bb0,setPs,AV.owns,AV.datF,AV.frz,AV.cpy,ifV,isEqB,nilV,nilX,AV.isNilS,AV.isNoRows,wk,dclo,datOf,binIs,addF,AV.isPtr,idxV,AV.isSl,AV.isSlice,AV.rows,ps,pv,extV,extS,AV.outs,AV.outF,packD,AV.dl,fieldV,fieldS,AV.cells?,AV.upr,AV.menc,AV.one,D.one,Value.oneCell',tagOf,AV.isApp,strV,strS,bolV,bolS,slcV,AV.isSlD,asrtS,AV.dcells,D.cells?,stcV,stcS,leafOk,eqDs,eqD,packA,D.val?,↓reduceIte,reduceCtorEq,Nat.reduceAdd,Nat.reduceSub,Nat.reduceMul,List.reduceReplicate,Nat.reduceLeDiff,Nat.reduceLT,Nat.reduceBEq,Nat.reduceEqDiff,Int.reduceNeg,Int.reduceEq,Int.reduceLE,Int.reduceLT,tfb,D.flat,D.flats,av_glob,n_seq,ctz7,x7_14,x7_20,x7_21,x7_24,hlen0, hlen3, hG, hc3, eq_self]
    refine call25q (C := Ct7) (i := mk _) (j := mk _) rfl (turT t j) q4 hq4.n2 rfl ?_
    simp (maxSteps := 4000000) +contextual (disch := first | omega | exact qdb_ok (by kernel_rfl) | exact okb_ok (by kernel_rfl)) only [bw1,bw2,bw3,bw4,bw5,bw6,bw7,bc0,bc1,bc2,bc3,bc4,bc5,bc6,bc7,bb0,setPs,AV.owns,AV.datF,AV.frz,AV.cpy,ifV,isEqB,nilV,nilX,AV.isNilS,AV.isNoRows,wk,dclo,datOf,binIs,addF,AV.isPtr,idxV,AV.isSl,AV.isSlice,AV.rows,ps,pv,extV,extS,AV.outs,AV.outF,packD,AV.dl,fieldV,fieldS,AV.cells?,AV.upr,AV.menc,AV.one,D.one,Value.oneCell',tagOf,AV.isApp,strV,strS,bolV,bolS,slcV,AV.isSlD,asrtS,AV.dcells,D.cells?,stcV,stcS,leafOk,eqDs,eqD,packA,D.val?,↓reduceIte,reduceCtorEq,Nat.reduceAdd,Nat.reduceSub,Nat.reduceMul,List.reduceReplicate,Nat.reduceLeDiff,Nat.reduceLT,Nat.reduceBEq,Nat.reduceEqDiff,Int.reduceNeg,Int.reduceEq,Int.reduceLE,Int.reduceLT,tfb,D.flat,D.flats,av_glob,n_seq,ctz7,x7_14,x7_20,x7_21,x7_24,hlen0, hlen4, hG, hc4, eq_self, hq5p, decide_true, hpd]
    refine call9x (C := Ct7) (i := mk _) (j := mk _) rfl rfl rfl ?_
    simp (maxSteps := 4000000) +contextual (disch := first | omega | exact qdb_ok (by kernel_rfl) | exact okb_ok (by kernel_rfl)) only [bw1,bw2,bw3,bw4,bw5,bw6,bw7,bc0,bc1,bc2,bc3,bc4,bc5,bc6,bc7,bb0,setPs,AV.owns,AV.datF,AV.frz,AV.cpy,ifV,isEqB,nilV,nilX,AV.isNilS,AV.isNoRows,wk,dclo,datOf,binIs,addF,AV.isPtr,idxV,AV.isSl,AV.isSlice,AV.rows,ps,pv,extV,extS,AV.outs,AV.outF,packD,AV.dl,fieldV,fieldS,AV.cells?,AV.upr,AV.menc,AV.one,D.one,Value.oneCell',tagOf,AV.isApp,strV,strS,bolV,bolS,slcV,AV.isSlD,asrtS,AV.dcells,D.cells?,stcV,stcS,leafOk,eqDs,eqD,packA,D.val?,↓reduceIte,reduceCtorEq,Nat.reduceAdd,Nat.reduceSub,Nat.reduceMul,List.reduceReplicate,Nat.reduceLeDiff,Nat.reduceLT,Nat.reduceBEq,Nat.reduceEqDiff,Int.reduceNeg,Int.reduceEq,Int.reduceLE,Int.reduceLT,tfb,D.flat,D.flats,av_glob,n_seq,ctz7,x7_14,x7_20,x7_21,x7_24]
  have hlt' : (i : Int) < t.groups.length := by omega
  have hii : (0 : Int) ≤ i := by omega
  have hrg : (t.groups.map Gr.c).getD i [] = Gr.c (t.groups.getD i default) := Go.E.row_at hlt
  have hgr := tt_group ht hlt
  have hgc0 := hgr.2.2.1
  have hgc1 := hgr.2.2.2
  by_cases hov : 1000 < (t.groups.getD i default).cred + m
  · by_cases hi1 : i = 0
    · have hrv1 : richV t m i = .d (.v (.slice none 0 0)) := by rw [hi1]; rfl
      simp (maxSteps := 4000000) +contextual (disch := first | omega | exact qdb_ok (by kernel_rfl) | exact okb_ok (by kernel_rfl)) only [bw1,bw2,bw3,bw4,bw5,bw6,bw7,bc0,bc1,bc2,bc3,bc4,bc5,bc6,bc7,bb0,setPs,AV.owns,AV.datF,AV.frz,AV.cpy,ifV,isEqB,nilV,nilX,AV.isNilS,AV.isNoRows,wk,dclo,datOf,binIs,addF,AV.isPtr,idxV,AV.isSl,AV.isSlice,AV.rows,ps,pv,extV,extS,AV.outs,AV.outF,packD,AV.dl,fieldV,fieldS,AV.cells?,AV.upr,AV.menc,AV.one,D.one,Value.oneCell',tagOf,AV.isApp,strV,strS,bolV,bolS,slcV,AV.isSlD,asrtS,AV.dcells,D.cells?,stcV,stcS,leafOk,eqDs,eqD,packA,D.val?,↓reduceIte,reduceCtorEq,Nat.reduceAdd,Nat.reduceSub,Nat.reduceMul,List.reduceReplicate,Nat.reduceLeDiff,Nat.reduceLT,Nat.reduceBEq,Nat.reduceEqDiff,Int.reduceNeg,Int.reduceEq,Int.reduceLE,Int.reduceLT,tfb,D.flat,D.flats,av_glob,n_seq,ctz7,x7_14,x7_20,x7_21,x7_24,eq_self, hlt', hii, hrg, hov, hgc0, hgc1, hrv1]
      refine call9x (C := Ct7) (i := mk _) (j := mk _) rfl rfl rfl ?_
      simp (maxSteps := 4000000) +contextual (disch := first | omega | exact qdb_ok (by kernel_rfl) | exact okb_ok (by kernel_rfl)) only [bw1,bw2,bw3,bw4,bw5,bw6,bw7,bc0,bc1,bc2,bc3,bc4,bc5,bc6,bc7,bb0,setPs,AV.owns,AV.datF,AV.frz,AV.cpy,ifV,isEqB,nilV,nilX,AV.isNilS,AV.isNoRows,wk,dclo,datOf,binIs,addF,AV.isPtr,idxV,AV.isSl,AV.isSlice,AV.rows,ps,pv,extV,extS,AV.outs,AV.outF,packD,AV.dl,fieldV,fieldS,AV.cells?,AV.upr,AV.menc,AV.one,D.one,Value.oneCell',tagOf,AV.isApp,strV,strS,bolV,bolS,slcV,AV.isSlD,asrtS,AV.dcells,D.cells?,stcV,stcS,leafOk,eqDs,eqD,packA,D.val?,↓reduceIte,reduceCtorEq,Nat.reduceAdd,Nat.reduceSub,Nat.reduceMul,List.reduceReplicate,Nat.reduceLeDiff,Nat.reduceLT,Nat.reduceBEq,Nat.reduceEqDiff,Int.reduceNeg,Int.reduceEq,Int.reduceLE,Int.reduceLT,tfb,D.flat,D.flats,av_glob,n_seq,ctz7,x7_14,x7_20,x7_21,x7_24]
    have hrv1 : richV t m i = .own 193 49 5 (((t.groups.map (rcG m)).take i).map Gr.c) := by unfold richV; rw [if_neg hi1]
    simp (maxSteps := 4000000) +contextual (disch := first | omega | exact qdb_ok (by kernel_rfl) | exact okb_ok (by kernel_rfl)) only [bw1,bw2,bw3,bw4,bw5,bw6,bw7,bc0,bc1,bc2,bc3,bc4,bc5,bc6,bc7,bb0,setPs,AV.owns,AV.datF,AV.frz,AV.cpy,ifV,isEqB,nilV,nilX,AV.isNilS,AV.isNoRows,wk,dclo,datOf,binIs,addF,AV.isPtr,idxV,AV.isSl,AV.isSlice,AV.rows,ps,pv,extV,extS,AV.outs,AV.outF,packD,AV.dl,fieldV,fieldS,AV.cells?,AV.upr,AV.menc,AV.one,D.one,Value.oneCell',tagOf,AV.isApp,strV,strS,bolV,bolS,slcV,AV.isSlD,asrtS,AV.dcells,D.cells?,stcV,stcS,leafOk,eqDs,eqD,packA,D.val?,↓reduceIte,reduceCtorEq,Nat.reduceAdd,Nat.reduceSub,Nat.reduceMul,List.reduceReplicate,Nat.reduceLeDiff,Nat.reduceLT,Nat.reduceBEq,Nat.reduceEqDiff,Int.reduceNeg,Int.reduceEq,Int.reduceLE,Int.reduceLT,tfb,D.flat,D.flats,av_glob,n_seq,ctz7,x7_14,x7_20,x7_21,x7_24,eq_self, hlt', hii, hrg, hov, hgc0, hgc1, hrv1]
    refine call9x (C := Ct7) (i := mk _) (j := mk _) rfl rfl rfl ?_
    simp (maxSteps := 4000000) +contextual (disch := first | omega | exact qdb_ok (by kernel_rfl) | exact okb_ok (by kernel_rfl)) only [bw1,bw2,bw3,bw4,bw5,bw6,bw7,bc0,bc1,bc2,bc3,bc4,bc5,bc6,bc7,bb0,setPs,AV.owns,AV.datF,AV.frz,AV.cpy,ifV,isEqB,nilV,nilX,AV.isNilS,AV.isNoRows,wk,dclo,datOf,binIs,addF,AV.isPtr,idxV,AV.isSl,AV.isSlice,AV.rows,ps,pv,extV,extS,AV.outs,AV.outF,packD,AV.dl,fieldV,fieldS,AV.cells?,AV.upr,AV.menc,AV.one,D.one,Value.oneCell',tagOf,AV.isApp,strV,strS,bolV,bolS,slcV,AV.isSlD,asrtS,AV.dcells,D.cells?,stcV,stcS,leafOk,eqDs,eqD,packA,D.val?,↓reduceIte,reduceCtorEq,Nat.reduceAdd,Nat.reduceSub,Nat.reduceMul,List.reduceReplicate,Nat.reduceLeDiff,Nat.reduceLT,Nat.reduceBEq,Nat.reduceEqDiff,Int.reduceNeg,Int.reduceEq,Int.reduceLE,Int.reduceLT,tfb,D.flat,D.flats,av_glob,n_seq,ctz7,x7_14,x7_20,x7_21,x7_24]
  have hnx : ∀ g, g < i + 1 → (t.groups.getD g default).cred + m ≤ 1000 := fun g hg => by
    rcases Nat.lt_succ_iff_lt_or_eq.1 hg with h | h
    · exact hcr g h
    · rw [h]; omega
  have hti : (List.take i (List.map (rcG m) t.groups)).length = i := by rw [List.length_take, List.length_map]; omega
  have hsn : (t.groups.map (rcG m)).take (i + 1) = (t.groups.map (rcG m)).take i ++ [rcG m (t.groups.getD i default)] := by
    rw [List.take_succ_eq_append_getElem (by simpa using hlt), List.getElem_map, at_lt hlt]
  by_cases hi1 : i = 0
  · have hrv1 : richV t m i = .d (.v (.slice none 0 0)) := by rw [hi1]; rfl
    have hap : AV.own 193 49 5 [[D.i (t.groups.getD i default).days, D.i (t.groups.getD i default).early, D.i (t.groups.getD i default).late, D.i (t.groups.getD i default).most, D.v (Value.int IntKind.i64 ((t.groups.getD i default).cred + m))]] = richV t m (i + 1) := by
      unfold richV
      rw [if_neg (by omega), hsn, List.map_append, hi1]; rfl
    simp (maxSteps := 4000000) +contextual (disch := first | omega | exact qdb_ok (by kernel_rfl) | exact okb_ok (by kernel_rfl)) only [bw1,bw2,bw3,bw4,bw5,bw6,bw7,bc0,bc1,bc2,bc3,bc4,bc5,bc6,bc7,bb0,setPs,AV.owns,AV.datF,AV.frz,AV.cpy,ifV,isEqB,nilV,nilX,AV.isNilS,AV.isNoRows,wk,dclo,datOf,binIs,addF,AV.isPtr,idxV,AV.isSl,AV.isSlice,AV.rows,ps,pv,extV,extS,AV.outs,AV.outF,packD,AV.dl,fieldV,fieldS,AV.cells?,AV.upr,AV.menc,AV.one,D.one,Value.oneCell',tagOf,AV.isApp,strV,strS,bolV,bolS,slcV,AV.isSlD,asrtS,AV.dcells,D.cells?,stcV,stcS,leafOk,eqDs,eqD,packA,D.val?,↓reduceIte,reduceCtorEq,Nat.reduceAdd,Nat.reduceSub,Nat.reduceMul,List.reduceReplicate,Nat.reduceLeDiff,Nat.reduceLT,Nat.reduceBEq,Nat.reduceEqDiff,Int.reduceNeg,Int.reduceEq,Int.reduceLE,Int.reduceLT,tfb,D.flat,D.flats,av_glob,n_seq,ctz7,x7_14,x7_20,x7_21,x7_24,eq_self, hlt', hii, hrg, hov, hrv1, hgc0, hgc1]
    exact ⟨i + 1, ⟨⟨by omega, hnx⟩, by omega⟩, rfl, .inr hap⟩
  have hrv1 : richV t m i = .own 193 49 5 (((t.groups.map (rcG m)).take i).map Gr.c) := by unfold richV; rw [if_neg hi1]
  simp (maxSteps := 4000000) +contextual (disch := first | omega | exact qdb_ok (by kernel_rfl) | exact okb_ok (by kernel_rfl)) only [bw1,bw2,bw3,bw4,bw5,bw6,bw7,bc0,bc1,bc2,bc3,bc4,bc5,bc6,bc7,bb0,setPs,AV.owns,AV.datF,AV.frz,AV.cpy,ifV,isEqB,nilV,nilX,AV.isNilS,AV.isNoRows,wk,dclo,datOf,binIs,addF,AV.isPtr,idxV,AV.isSl,AV.isSlice,AV.rows,ps,pv,extV,extS,AV.outs,AV.outF,packD,AV.dl,fieldV,fieldS,AV.cells?,AV.upr,AV.menc,AV.one,D.one,Value.oneCell',tagOf,AV.isApp,strV,strS,bolV,bolS,slcV,AV.isSlD,asrtS,AV.dcells,D.cells?,stcV,stcS,leafOk,eqDs,eqD,packA,D.val?,↓reduceIte,reduceCtorEq,Nat.reduceAdd,Nat.reduceSub,Nat.reduceMul,List.reduceReplicate,Nat.reduceLeDiff,Nat.reduceLT,Nat.reduceBEq,Nat.reduceEqDiff,Int.reduceNeg,Int.reduceEq,Int.reduceLE,Int.reduceLT,tfb,D.flat,D.flats,av_glob,n_seq,ctz7,x7_14,x7_20,x7_21,x7_24,eq_self, hlt', hii, hrg, hov, hrv1, hgc0, hgc1]
  refine ⟨by rw [hti]; omega, by rw [hti]; omega, i + 1, ⟨⟨by omega, hnx⟩, by omega⟩, rfl, .inr ?_⟩
  unfold richV
  rw [if_neg (by omega), hsn, List.map_append]; rfl
end Go.Proofs.YtofbbkacihnjdaaDoor.M7
