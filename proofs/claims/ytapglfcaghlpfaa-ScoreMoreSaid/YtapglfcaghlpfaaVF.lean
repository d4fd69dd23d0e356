/- A part of the proof that the last text ends: what functions of the program do, told by plain data. -/
import Derived.Test.YtapglfcaghlpfaaUE
import Derived.Test.YtapglfcaghlpfaaVE
import Derived.Test.YtapglfcaghlpfaaEc
set_option linter.unusedVariables false
set_option linter.unusedSimpArgs false
namespace Go.Proofs.Ytapglfcaghlpfaa
open Go Go.E Go.Maps
set_option maxRecDepth 100000
set_option maxHeartbeats 16000000
/-! ### ScoreMore -/
theorem fl_le {s : Ska} : ∀ k, flR s k ≤ k
  | 0 => Nat.le_refl _
  | k + 1 => by
    have := fl_le (s := s) k
    unfold flR
    split <;> omega
theorem eqa17_0 {r : Rul} {s : Ska} {g1 el1 : Nat} {KK : AV → List AV → Sto → Prop} {ee : List AV} {ss : Sto} : ent17 [.d (r.d), .agg [.own g1 el1 6 (s.calls.map Cal.c), .d (.sl 1 (s.parts.map pc)), .d (.i s.over)]] KK ee ss = ((∀ x ∈ s.calls, i64 x.place) ∧ (.tup [.agg (progG r s).1.c, .i (progG r s).2] : D).flat = true ∧ KK (.d (.tup [.agg (progG r s).1.c, .i (progG r s).2])) ee ss) := by
  unfold ent17; rw [ent_iff (r, s) (by intro b h; simpa [Prod.ext_iff, and_assoc, Int.ofNat_inj, ints_inj, cals_inj, pcs_inj, skas_inj, scos_inj, ska_inj, rul_inj, sco_inj, cal_inj, ods_inj, od_inj, spns_inj] using h) rfl]; simp
def O4 : Nat → Sch := fun id => if id = 13 then .one 0 (.one 2 (.one 3 (.one 4 (.alt (.one 1 (.one 5 (.one 6 (.done)))) (.one 5 (.one 1 (.one 6 (.done)))))))) else if id = 23 then .alt (.one 0 (.alt (.one 1 (.alt (.one 2 (.one 3 (.one 4 (.one 5 (.done))))) (.one 3 (.one 2 (.one 4 (.one 5 (.done))))))) (.alt (.one 2 (.alt (.one 1 (.one 3 (.one 4 (.one 5 (.done))))) (.one 3 (.alt (.one 1 (.one 4 (.one 5 (.done)))) (.one 4 (.one 1 (.one 5 (.done)))))))) (.one 3 (.alt (.one 1 (.one 2 (.one 4 (.one 5 (.done))))) (.one 2 (.alt (.one 1 (.one 4 (.one 5 (.done)))) (.one 4 (.one 1 (.one 5 (.done))))))))))) (.alt (.one 1 (.alt (.one 0 (.alt (.one 2 (.one 3 (.one 4 (.one 5 (.done))))) (.one 3 (.one 2 (.one 4 (.one 5 (.done))))))) (.alt (.one 2 (.alt (.one 0 (.one 3 (.one 4 (.one 5 (.done))))) (.one 3 (.one 0 (.one 4 (.one 5 (.done))))))) (.one 3 (.alt (.one 0 (.one 2 (.one 4 (.one 5 (.done))))) (.one 2 (.one 0 (.one 4 (.one 5 (.done)))))))))) (.alt (.one 2 (.alt (.one 0 (.alt (.one 1 (.one 3 (.one 4 (.one 5 (.done))))) (.one 3 (.alt (.one 1 (.one 4 (.one 5 (.done)))) (.one 4 (.one 1 (.one 5 (.done)))))))) (.alt (.one 1 (.alt (.one 0 (.one 3 (.one 4 (.one 5 (.done))))) (.one 3 (.one 0 (.one 4 (.one 5 (.done))))))) (.one 3 (.one 0 (.alt (.one 1 (.one 4 (.one 5 (.done)))) (.one 4 (.one 1 (.one 5 (.done)))))))))) (.one 3 (.alt (.one 0 (.alt (.one 1 (.one 2 (.one 4 (.one 5 (.done))))) (.one 2 (.alt (.one 1 (.one 4 (.one 5 (.done)))) (.one 4 (.one 1 (.one 5 (.done)))))))) (.alt (.one 1 (.alt (.one 0 (.one 2 (.one 4 (.one 5 (.done))))) (.one 2 (.one 0 (.one 4 (.one 5 (.done))))))) (.one 2 (.one 0 (.alt (.one 1 (.one 4 (.one 5 (.done)))) (.one 4 (.one 1 (.one 5 (.done)))))))))))) else if id = 24 then .one 1 (.one 5 (.alt (.one 0 (.alt (.one 2 (.alt (.one 3 (.one 8 (.alt (.one 4 (.one 6 (.one 7 (.one 9 (.one 10 (.one 11 (.done))))))) (.one 6 (.one 4 (.one 7 (.one 9 (.one 10 (.one 11 (.done)))))))))) (.alt (.one 4 (.alt (.one 3 (.one 6 (.one 8 (.one 7 (.one 9 (.one 10 (.one 11 (.done)))))))) (.one 6 (.one 3 (.one 8 (.one 7 (.one 9 (.one 10 (.one 11 (.done)))))))))) (.one 6 (.alt (.one 3 (.one 8 (.one 4 (.one 7 (.one 9 (.one 10 (.one 11 (.done)))))))) (.one 4 (.one 3 (.one 8 (.one 7 (.one 9 (.one 10 (.one 11 (.done))))))))))))) (.alt (.one 4 (.one 2 (.alt (.one 3 (.one 6 (.one 8 (.one 7 (.one 9 (.one 10 (.one 11 (.done)))))))) (.one 6 (.one 3 (.one 8 (.one 7 (.one 9 (.one 10 (.one 11 (.done))))))))))) (.one 6 (.alt (.one 2 (.alt (.one 3 (.one 8 (.one 4 (.one 7 (.one 9 (.one 10 (.one 11 (.done)))))))) (.one 4 (.one 3 (.one 8 (.one 7 (.one 9 (.one 10 (.one 11 (.done)))))))))) (.one 4 (.one 2 (.one 3 (.one 8 (.one 7 (.one 9 (.one 10 (.one 11 (.done)))))))))))))) (.alt (.one 2 (.alt (.one 0 (.alt (.one 3 (.one 8 (.alt (.one 4 (.one 6 (.one 7 (.one 9 (.one 10 (.one 11 (.done))))))) (.one 6 (.one 4 (.one 7 (.one 9 (.one 10 (.one 11 (.done)))))))))) (.alt (.one 4 (.alt (.one 3 (.one 6 (.one 8 (.one 7 (.one 9 (.one 10 (.one 11 (.done)))))))) (.one 6 (.one 3 (.one 8 (.one 7 (.one 9 (.one 10 (.one 11 (.done)))))))))) (.one 6 (.alt (.one 3 (.one 8 (.one 4 (.one 7 (.one 9 (.one 10 (.one 11 (.done)))))))) (.one 4 (.one 3 (.one 8 (.one 7 (.one 9 (.one 10 (.one 11 (.done))))))))))))) (.alt (.one 4 (.alt (.one 0 (.alt (.one 3 (.one 6 (.one 8 (.one 7 (.one 9 (.one 10 (.one 11 (.done)))))))) (.one 6 (.one 3 (.one 8 (.one 7 (.one 9 (.one 10 (.one 11 (.done)))))))))) (.one 6 (.one 0 (.one 3 (.one 8 (.one 7 (.one 9 (.one 10 (.one 11 (.done))))))))))) (.one 6 (.alt (.one 0 (.alt (.one 3 (.one 8 (.one 4 (.one 7 (.one 9 (.one 10 (.one 11 (.done)))))))) (.one 4 (.one 3 (.one 8 (.one 7 (.one 9 (.one 10 (.one 11 (.done)))))))))) (.one 4 (.one 0 (.one 3 (.one 8 (.one 7 (.one 9 (.one 10 (.one 11 (.done)))))))))))))) (.alt (.one 4 (.alt (.one 0 (.one 2 (.alt (.one 3 (.one 6 (.one 8 (.one 7 (.one 9 (.one 10 (.one 11 (.done)))))))) (.one 6 (.one 3 (.one 8 (.one 7 (.one 9 (.one 10 (.one 11 (.done))))))))))) (.alt (.one 2 (.alt (.one 0 (.alt (.one 3 (.one 6 (.one 8 (.one 7 (.one 9 (.one 10 (.one 11 (.done)))))))) (.one 6 (.one 3 (.one 8 (.one 7 (.one 9 (.one 10 (.one 11 (.done)))))))))) (.one 6 (.one 0 (.one 3 (.one 8 (.one 7 (.one 9 (.one 10 (.one 11 (.done))))))))))) (.one 6 (.alt (.one 0 (.one 2 (.one 3 (.one 8 (.one 7 (.one 9 (.one 10 (.one 11 (.done))))))))) (.one 2 (.one 0 (.one 3 (.one 8 (.one 7 (.one 9 (.one 10 (.one 11 (.done)))))))))))))) (.one 6 (.alt (.one 0 (.alt (.one 2 (.alt (.one 3 (.one 8 (.one 4 (.one 7 (.one 9 (.one 10 (.one 11 (.done)))))))) (.one 4 (.one 3 (.one 8 (.one 7 (.one 9 (.one 10 (.one 11 (.done)))))))))) (.one 4 (.one 2 (.one 3 (.one 8 (.one 7 (.one 9 (.one 10 (.one 11 (.done))))))))))) (.alt (.one 2 (.alt (.one 0 (.alt (.one 3 (.one 8 (.one 4 (.one 7 (.one 9 (.one 10 (.one 11 (.done)))))))) (.one 4 (.one 3 (.one 8 (.one 7 (.one 9 (.one 10 (.one 11 (.done)))))))))) (.one 4 (.one 0 (.one 3 (.one 8 (.one 7 (.one 9 (.one 10 (.one 11 (.done))))))))))) (.one 4 (.alt (.one 0 (.one 2 (.one 3 (.one 8 (.one 7 (.one 9 (.one 10 (.one 11 (.done))))))))) (.one 2 (.one 0 (.one 3 (.one 8 (.one 7 (.one 9 (.one 10 (.one 11 (.done)))))))))))))))))) else .done
theorem O4_13 : O4 13 = .one 0 (.one 2 (.one 3 (.one 4 (.alt (.one 1 (.one 5 (.one 6 (.done)))) (.one 5 (.one 1 (.one 6 (.done)))))))) := rfl
theorem O4_23 : O4 23 = .alt (.one 0 (.alt (.one 1 (.alt (.one 2 (.one 3 (.one 4 (.one 5 (.done))))) (.one 3 (.one 2 (.one 4 (.one 5 (.done))))))) (.alt (.one 2 (.alt (.one 1 (.one 3 (.one 4 (.one 5 (.done))))) (.one 3 (.alt (.one 1 (.one 4 (.one 5 (.done)))) (.one 4 (.one 1 (.one 5 (.done)))))))) (.one 3 (.alt (.one 1 (.one 2 (.one 4 (.one 5 (.done))))) (.one 2 (.alt (.one 1 (.one 4 (.one 5 (.done)))) (.one 4 (.one 1 (.one 5 (.done))))))))))) (.alt (.one 1 (.alt (.one 0 (.alt (.one 2 (.one 3 (.one 4 (.one 5 (.done))))) (.one 3 (.one 2 (.one 4 (.one 5 (.done))))))) (.alt (.one 2 (.alt (.one 0 (.one 3 (.one 4 (.one 5 (.done))))) (.one 3 (.one 0 (.one 4 (.one 5 (.done))))))) (.one 3 (.alt (.one 0 (.one 2 (.one 4 (.one 5 (.done))))) (.one 2 (.one 0 (.one 4 (.one 5 (.done)))))))))) (.alt (.one 2 (.alt (.one 0 (.alt (.one 1 (.one 3 (.one 4 (.one 5 (.done))))) (.one 3 (.alt (.one 1 (.one 4 (.one 5 (.done)))) (.one 4 (.one 1 (.one 5 (.done)))))))) (.alt (.one 1 (.alt (.one 0 (.one 3 (.one 4 (.one 5 (.done))))) (.one 3 (.one 0 (.one 4 (.one 5 (.done))))))) (.one 3 (.one 0 (.alt (.one 1 (.one 4 (.one 5 (.done)))) (.one 4 (.one 1 (.one 5 (.done)))))))))) (.one 3 (.alt (.one 0 (.alt (.one 1 (.one 2 (.one 4 (.one 5 (.done))))) (.one 2 (.alt (.one 1 (.one 4 (.one 5 (.done)))) (.one 4 (.one 1 (.one 5 (.done)))))))) (.alt (.one 1 (.alt (.one 0 (.one 2 (.one 4 (.one 5 (.done))))) (.one 2 (.one 0 (.one 4 (.one 5 (.done))))))) (.one 2 (.one 0 (.alt (.one 1 (.one 4 (.one 5 (.done)))) (.one 4 (.one 1 (.one 5 (.done)))))))))))) := rfl
theorem O4_24 : O4 24 = .one 1 (.one 5 (.alt (.one 0 (.alt (.one 2 (.alt (.one 3 (.one 8 (.alt (.one 4 (.one 6 (.one 7 (.one 9 (.one 10 (.one 11 (.done))))))) (.one 6 (.one 4 (.one 7 (.one 9 (.one 10 (.one 11 (.done)))))))))) (.alt (.one 4 (.alt (.one 3 (.one 6 (.one 8 (.one 7 (.one 9 (.one 10 (.one 11 (.done)))))))) (.one 6 (.one 3 (.one 8 (.one 7 (.one 9 (.one 10 (.one 11 (.done)))))))))) (.one 6 (.alt (.one 3 (.one 8 (.one 4 (.one 7 (.one 9 (.one 10 (.one 11 (.done)))))))) (.one 4 (.one 3 (.one 8 (.one 7 (.one 9 (.one 10 (.one 11 (.done))))))))))))) (.alt (.one 4 (.one 2 (.alt (.one 3 (.one 6 (.one 8 (.one 7 (.one 9 (.one 10 (.one 11 (.done)))))))) (.one 6 (.one 3 (.one 8 (.one 7 (.one 9 (.one 10 (.one 11 (.done))))))))))) (.one 6 (.alt (.one 2 (.alt (.one 3 (.one 8 (.one 4 (.one 7 (.one 9 (.one 10 (.one 11 (.done)))))))) (.one 4 (.one 3 (.one 8 (.one 7 (.one 9 (.one 10 (.one 11 (.done)))))))))) (.one 4 (.one 2 (.one 3 (.one 8 (.one 7 (.one 9 (.one 10 (.one 11 (.done)))))))))))))) (.alt (.one 2 (.alt (.one 0 (.alt (.one 3 (.one 8 (.alt (.one 4 (.one 6 (.one 7 (.one 9 (.one 10 (.one 11 (.done))))))) (.one 6 (.one 4 (.one 7 (.one 9 (.one 10 (.one 11 (.done)))))))))) (.alt (.one 4 (.alt (.one 3 (.one 6 (.one 8 (.one 7 (.one 9 (.one 10 (.one 11 (.done)))))))) (.one 6 (.one 3 (.one 8 (.one 7 (.one 9 (.one 10 (.one 11 (.done)))))))))) (.one 6 (.alt (.one 3 (.one 8 (.one 4 (.one 7 (.one 9 (.one 10 (.one 11 (.done)))))))) (.one 4 (.one 3 (.one 8 (.one 7 (.one 9 (.one 10 (.one 11 (.done))))))))))))) (.alt (.one 4 (.alt (.one 0 (.alt (.one 3 (.one 6 (.one 8 (.one 7 (.one 9 (.one 10 (.one 11 (.done)))))))) (.one 6 (.one 3 (.one 8 (.one 7 (.one 9 (.one 10 (.one 11 (.done)))))))))) (.one 6 (.one 0 (.one 3 (.one 8 (.one 7 (.one 9 (.one 10 (.one 11 (.done))))))))))) (.one 6 (.alt (.one 0 (.alt (.one 3 (.one 8 (.one 4 (.one 7 (.one 9 (.one 10 (.one 11 (.done)))))))) (.one 4 (.one 3 (.one 8 (.one 7 (.one 9 (.one 10 (.one 11 (.done)))))))))) (.one 4 (.one 0 (.one 3 (.one 8 (.one 7 (.one 9 (.one 10 (.one 11 (.done)))))))))))))) (.alt (.one 4 (.alt (.one 0 (.one 2 (.alt (.one 3 (.one 6 (.one 8 (.one 7 (.one 9 (.one 10 (.one 11 (.done)))))))) (.one 6 (.one 3 (.one 8 (.one 7 (.one 9 (.one 10 (.one 11 (.done))))))))))) (.alt (.one 2 (.alt (.one 0 (.alt (.one 3 (.one 6 (.one 8 (.one 7 (.one 9 (.one 10 (.one 11 (.done)))))))) (.one 6 (.one 3 (.one 8 (.one 7 (.one 9 (.one 10 (.one 11 (.done)))))))))) (.one 6 (.one 0 (.one 3 (.one 8 (.one 7 (.one 9 (.one 10 (.one 11 (.done))))))))))) (.one 6 (.alt (.one 0 (.one 2 (.one 3 (.one 8 (.one 7 (.one 9 (.one 10 (.one 11 (.done))))))))) (.one 2 (.one 0 (.one 3 (.one 8 (.one 7 (.one 9 (.one 10 (.one 11 (.done)))))))))))))) (.one 6 (.alt (.one 0 (.alt (.one 2 (.alt (.one 3 (.one 8 (.one 4 (.one 7 (.one 9 (.one 10 (.one 11 (.done)))))))) (.one 4 (.one 3 (.one 8 (.one 7 (.one 9 (.one 10 (.one 11 (.done)))))))))) (.one 4 (.one 2 (.one 3 (.one 8 (.one 7 (.one 9 (.one 10 (.one 11 (.done))))))))))) (.alt (.one 2 (.alt (.one 0 (.alt (.one 3 (.one 8 (.one 4 (.one 7 (.one 9 (.one 10 (.one 11 (.done)))))))) (.one 4 (.one 3 (.one 8 (.one 7 (.one 9 (.one 10 (.one 11 (.done)))))))))) (.one 4 (.one 0 (.one 3 (.one 8 (.one 7 (.one 9 (.one 10 (.one 11 (.done))))))))))) (.one 4 (.alt (.one 0 (.one 2 (.one 3 (.one 8 (.one 7 (.one 9 (.one 10 (.one 11 (.done))))))))) (.one 2 (.one 0 (.one 3 (.one 8 (.one 7 (.one 9 (.one 10 (.one 11 (.done)))))))))))))))))) := rfl
theorem ho4 : Try.f4.body.map (okO O4) = some true := by kernel_rfl
def Cf4 : Nat → List AV → (AV → List AV → Sto → Prop) → Kt → List AV → Sto → Prop := fun f args K Q e s => match f with
  | 11 => ent11 args K e s
  | 12 => ent12 args K e s
  | 13 => ent13 args K e s
  | 17 => ent17 args K e s
  | 19 => ent19 args K e s
  | 20 => ent20 args K e s
  | _ => False
def Ct4 : CT := { f := Cf4, y := noYld, z := fun d => false }
theorem ctz4 {d : Nat} : CT.z Ct4 d = (false) := id rfl
theorem Ct4_ok : Ct4.ok Try.prog := ok_of_f (fun f args K Q e s h => by
  have h : Cf4 f args K Q e s := h
  unfold Cf4 at h; split at h
  · exact ent11_ok h
  · exact ent12_ok h
  · exact ent13_ok h
  · exact ent17_ok h
  · exact ent19_ok h
  · exact ent20_ok h
  · exact h.elim) (fun _ _ _ _ _ _ _ _ _ h => h)
theorem x4_11 {l : List Ska} {most : Int} {KK : AV → List AV → Sto → Prop} {QQ : Kt} {ii : At KK} {jj : At QQ} {ee : List AV} {ss : Sto} : xC Ct4 11 [.d (.sl 3 (l.map Ska.c)), .d (.i most)] KK QQ ii jj ee ss = ((0 ≤ most ∧ most ≤ 1000) ∧ KK (.d (.b (great l most))) ee ss) := eq11
theorem x4_11_m1 {l : List Ska} {most : Int} {g1 el1 : Nat} {KK : AV → List AV → Sto → Prop} {QQ : Kt} {ii : At KK} {jj : At QQ} {ee : List AV} {ss : Sto} : xC Ct4 11 [.own g1 el1 3 (l.map Ska.c), .d (.i most)] KK QQ ii jj ee ss = ((0 ≤ most ∧ most ≤ 1000) ∧ (.b (great l most) : D).flat = true ∧ KK (.d (.b (great l most))) ee ss) := eqo11
theorem x4_12 {r : Rul} {l : List Ska} {KK : AV → List AV → Sto → Prop} {QQ : Kt} {ii : At KK} {jj : At QQ} {ee : List AV} {ss : Sto} : xC Ct4 12 [.d (r.d), .d (.sl 3 (l.map Ska.c))] KK QQ ii jj ee ss = ((l.length ≤ 1000) ∧ KK (.d (.b (conOk r l))) ee ss) := eq12
theorem x4_12_m1 {r : Rul} {l : List Ska} {g1 el1 : Nat} {KK : AV → List AV → Sto → Prop} {QQ : Kt} {ii : At KK} {jj : At QQ} {ee : List AV} {ss : Sto} : xC Ct4 12 [.d (r.d), .own g1 el1 3 (l.map Ska.c)] KK QQ ii jj ee ss = ((l.length ≤ 1000) ∧ (.b (conOk r l) : D).flat = true ∧ KK (.d (.b (conOk r l))) ee ss) := eqo12
theorem x4_13  {KK : AV → List AV → Sto → Prop} {QQ : Kt} {ii : At KK} {jj : At QQ} {ee : List AV} {ss : Sto} : xC Ct4 13 [] KK QQ ii jj ee ss = (KK (.d (.b true)) ee ss) := eq13
theorem x4_17 {r : Rul} {s : Ska} {KK : AV → List AV → Sto → Prop} {QQ : Kt} {ii : At KK} {jj : At QQ} {ee : List AV} {ss : Sto} : xC Ct4 17 [.d (r.d), .d (.agg s.c)] KK QQ ii jj ee ss = ((∀ x ∈ s.calls, i64 x.place) ∧ KK (.d (.tup [.agg (progG r s).1.c, .i (progG r s).2])) ee ss) := eq17
theorem x4_19 {falls : Nat} {sec : Int} {KK : AV → List AV → Sto → Prop} {QQ : Kt} {ii : At KK} {jj : At QQ} {ee : List AV} {ss : Sto} : xC Ct4 19 [.d (.i (falls : Int)), .d (.i sec)] KK QQ ii jj ee ss = ((falls ≤ 1000 ∧ 0 ≤ sec ∧ sec ≤ 100000) ∧ KK (.d (.i (off falls sec))) ee ss) := eq19
theorem x4_20 {a : Sco} {b : Sco} {KK : AV → List AV → Sto → Prop} {QQ : Kt} {ii : At KK} {jj : At QQ} {ee : List AV} {ss : Sto} : xC Ct4 20 [.d (.agg a.c), .d (.agg b.c)] KK QQ ii jj ee ss = (KK (.d (.b (better a b))) ee ss) := eq20
theorem x4_17a0 {r : Rul} {s : Ska} {g1 el1 : Nat} {KK : AV → List AV → Sto → Prop} {QQ : Kt} {ii : At KK} {jj : At QQ} {ee : List AV} {ss : Sto} : xC Ct4 17 [.d (r.d), .agg [.own g1 el1 6 (s.calls.map Cal.c), .d (.sl 1 (s.parts.map pc)), .d (.i s.over)]] KK QQ ii jj ee ss = ((∀ x ∈ s.calls, i64 x.place) ∧ (.tup [.agg (progG r s).1.c, .i (progG r s).2] : D).flat = true ∧ KK (.d (.tup [.agg (progG r s).1.c, .i (progG r s).2])) ee ss) := eqa17_0
theorem c4 : callable Try.prog 4 = true := by kernel_rfl
theorem pf4 (r : Rul) (s : Ska) (call judge : Int) (h : (∀ x ∈ s.calls, i64 x.place) ∧ (0 ≤ call ∧ call ≤ 255) ∧ 0 ≤ judge ∧ judge ≤ 255) : PF Try.prog 4 [r.d, .agg s.c, .v (.int .u8 call), .v (.int .u8 judge)] (fun zz => zz = .ret (.b true)) := by
  obtain ⟨h0, ⟨u1, u2⟩, u3, u4⟩ := h
  by_cases c1 : (80 : Int) < r.bases.length
  · refine PF_nil (PF_start (O := O4) Ct4_ok hmix ho4 Try.func4 c4 rfl Try.ntmps4 Try.results4 ?_)
    simp (maxSteps := 4000000) +contextual (disch := first | omega | exact qdb_ok (by kernel_rfl) | exact okb_ok (by kernel_rfl)) only [bw1,bw2,bw3,bw4,bw5,bw6,bw7,bc0,bc1,bc2,bc3,bc4,bc5,bc6,bc7,setPs,AV.owns,AV.datF,AV.frz,AV.cpy,ifV,isEqB,nilV,nilX,AV.isNilS,AV.isNoRows,wk,dclo,datOf,binIs,addF,AV.isPtr,idxV,AV.isSl,AV.isSlice,AV.rows,ps,pv,extV,extS,AV.outs,AV.outF,packD,AV.dl,fieldV,fieldS,AV.cells?,AV.upr,AV.menc,AV.one,D.one,Value.oneCell',tagOf,AV.isApp,strV,strS,bolV,bolS,slcV,AV.isSlD,asrtS,AV.dcells,D.cells?,stcV,stcS,leafOk,eqDs,eqD,packA,D.val?,↓reduceIte,reduceCtorEq,Nat.reduceAdd,Nat.reduceSub,Nat.reduceMul,List.reduceReplicate,Nat.reduceLeDiff,Nat.reduceLT,Nat.reduceBEq,Nat.reduceEqDiff,Int.reduceNeg,Int.reduceEq,Int.reduceLE,Int.reduceLT,tfb,n_seq,ctz4,O4_13,O4_23,O4_24,x4_11,x4_11_m1,x4_12,x4_12_m1,x4_13,x4_17,x4_17a0,x4_19,x4_20,c1]
  by_cases c2 : great (one s) 1 = true
  · refine PF_nil (PF_start (O := O4) Ct4_ok hmix ho4 Try.func4 c4 rfl Try.ntmps4 Try.results4 ?_)
    simp (maxSteps := 4000000) +contextual (disch := first | omega | exact qdb_ok (by kernel_rfl) | exact okb_ok (by kernel_rfl)) only [bw1,bw2,bw3,bw4,bw5,bw6,bw7,bc0,bc1,bc2,bc3,bc4,bc5,bc6,bc7,setPs,AV.owns,AV.datF,AV.frz,AV.cpy,ifV,isEqB,nilV,nilX,AV.isNilS,AV.isNoRows,wk,dclo,datOf,binIs,addF,AV.isPtr,idxV,AV.isSl,AV.isSlice,AV.rows,ps,pv,extV,extS,AV.outs,AV.outF,packD,AV.dl,fieldV,fieldS,AV.cells?,AV.upr,AV.menc,AV.one,D.one,Value.oneCell',tagOf,AV.isApp,strV,strS,bolV,bolS,slcV,AV.isSlD,asrtS,AV.dcells,D.cells?,stcV,stcS,leafOk,eqDs,eqD,packA,D.val?,↓reduceIte,reduceCtorEq,Nat.reduceAdd,Nat.reduceSub,Nat.reduceMul,List.reduceReplicate,Nat.reduceLeDiff,Nat.reduceLT,Nat.reduceBEq,Nat.reduceEqDiff,Int.reduceNeg,Int.reduceEq,Int.reduceLE,Int.reduceLT,tfb,n_seq,ctz4,O4_13,O4_23,O4_24,x4_11,x4_11_m1,x4_12,x4_12_m1,x4_13,x4_17,x4_17a0,x4_19,x4_20,c1, one_rows, one_len, c2]
    rfl
  by_cases c : ¬ conOk r (one s) = true
  · have hw : progG r s = (⟨0, 0, 0, 0⟩, 1) := by unfold progG; rw [if_neg c]
    refine PF_nil (PF_start (O := O4) Ct4_ok hmix ho4 Try.func4 c4 rfl Try.ntmps4 Try.results4 ?_)
    simp (maxSteps := 4000000) +contextual (disch := first | omega | exact qdb_ok (by kernel_rfl) | exact okb_ok (by kernel_rfl)) only [bw1,bw2,bw3,bw4,bw5,bw6,bw7,bc0,bc1,bc2,bc3,bc4,bc5,bc6,bc7,setPs,AV.owns,AV.datF,AV.frz,AV.cpy,ifV,isEqB,nilV,nilX,AV.isNilS,AV.isNoRows,wk,dclo,datOf,binIs,addF,AV.isPtr,idxV,AV.isSl,AV.isSlice,AV.rows,ps,pv,extV,extS,AV.outs,AV.outF,packD,AV.dl,fieldV,fieldS,AV.cells?,AV.upr,AV.menc,AV.one,D.one,Value.oneCell',tagOf,AV.isApp,strV,strS,bolV,bolS,slcV,AV.isSlD,asrtS,AV.dcells,D.cells?,stcV,stcS,leafOk,eqDs,eqD,packA,D.val?,↓reduceIte,reduceCtorEq,Nat.reduceAdd,Nat.reduceSub,Nat.reduceMul,List.reduceReplicate,Nat.reduceLeDiff,Nat.reduceLT,Nat.reduceBEq,Nat.reduceEqDiff,Int.reduceNeg,Int.reduceEq,Int.reduceLE,Int.reduceLT,tfb,n_seq,ctz4,O4_13,O4_23,O4_24,x4_11,x4_11_m1,x4_12,x4_12_m1,x4_13,x4_17,x4_17a0,x4_19,x4_20,c1, one_rows, one_len, c2, hw]
    exact ⟨rfl, h0⟩
  have c : conOk r (one s) = true := by simpa using c
  have hw : progG r s = (progR r s, 0) := by unfold progG; rw [if_pos c]
  have hv := con_valid c (s := s) (by simp [one])
  have hcl := hv.calls
  have hov := hv.over
  have f0 : flR s 0 = 0 := rfl
  have f1 : ∀ k, flR s (k + 1) = flR s k + if (s.calls.getD k default).fall = true then 1 else 0 := fun k => rfl
  have fb := fl_le (s := s)
  have hoff : (progR r s).off = off (flR s s.calls.length) s.over := rfl
  refine PF_nil (PF_startN 19 (O := O4) Ct4_ok hmix ho4 Try.func4 c4 rfl Try.ntmps4 Try.results4 ?_)
  simp (maxSteps := 4000000) +contextual (disch := first | omega | exact qdb_ok (by kernel_rfl) | exact okb_ok (by kernel_rfl)) only [bw1,bw2,bw3,bw4,bw5,bw6,bw7,bc0,bc1,bc2,bc3,bc4,bc5,bc6,bc7,setPs,AV.owns,AV.datF,AV.frz,AV.cpy,ifV,isEqB,nilV,nilX,AV.isNilS,AV.isNoRows,wk,dclo,datOf,binIs,addF,AV.isPtr,idxV,AV.isSl,AV.isSlice,AV.rows,ps,pv,extV,extS,AV.outs,AV.outF,packD,AV.dl,fieldV,fieldS,AV.cells?,AV.upr,AV.menc,AV.one,D.one,Value.oneCell',tagOf,AV.isApp,strV,strS,bolV,bolS,slcV,AV.isSlD,asrtS,AV.dcells,D.cells?,stcV,stcS,leafOk,eqDs,eqD,packA,D.val?,↓reduceIte,reduceCtorEq,Nat.reduceAdd,Nat.reduceSub,Nat.reduceMul,List.reduceReplicate,Nat.reduceLeDiff,Nat.reduceLT,Nat.reduceBEq,Nat.reduceEqDiff,Int.reduceNeg,Int.reduceEq,Int.reduceLE,Int.reduceLT,tfb,n_seq,ctz4,O4_13,O4_23,O4_24,x4_11,x4_11_m1,x4_12,x4_12_m1,x4_13,x4_17,x4_17a0,x4_19,x4_20,c1, one_rows, one_len, c2, hw]
  refine ⟨rfl, h0, ?_⟩
  refine loop_s (O := O4) (tb := 0) Ct4_ok hmix (by kernel_rfl) (σ := Nat) (fun i => [(11, .i (flR s i : Nat)), (51, .i i)]) (fun i => i ≤ s.calls.length) (fun i => s.calls.length - i) (fun i => i + 1) 0 (by omega) ?_ ?_
  · simp (maxSteps := 4000000) +contextual (disch := first | omega | exact qdb_ok (by kernel_rfl) | exact okb_ok (by kernel_rfl)) only [bw1,bw2,bw3,bw4,bw5,bw6,bw7,bc0,bc1,bc2,bc3,bc4,bc5,bc6,bc7,setPs,AV.owns,AV.datF,AV.frz,AV.cpy,ifV,isEqB,nilV,nilX,AV.isNilS,AV.isNoRows,wk,dclo,datOf,binIs,addF,AV.isPtr,idxV,AV.isSl,AV.isSlice,AV.rows,ps,pv,extV,extS,AV.outs,AV.outF,packD,AV.dl,fieldV,fieldS,AV.cells?,AV.upr,AV.menc,AV.one,D.one,Value.oneCell',tagOf,AV.isApp,strV,strS,bolV,bolS,slcV,AV.isSlD,asrtS,AV.dcells,D.cells?,stcV,stcS,leafOk,eqDs,eqD,packA,D.val?,↓reduceIte,reduceCtorEq,Nat.reduceAdd,Nat.reduceSub,Nat.reduceMul,List.reduceReplicate,Nat.reduceLeDiff,Nat.reduceLT,Nat.reduceBEq,Nat.reduceEqDiff,Int.reduceNeg,Int.reduceEq,Int.reduceLE,Int.reduceLT,tfb,n_seq,ctz4,O4_13,O4_23,O4_24,x4_11,x4_11_m1,x4_12,x4_12_m1,x4_13,x4_17,x4_17a0,x4_19,x4_20,eq_self, f0]
  intro i hi
  have fbi := fb i
  by_cases hlt : i < s.calls.length
  · have hlt' : (i : Int) < s.calls.length := by omega
    have f1i := f1 i
    by_cases d : (s.calls.getD i default).fall = true
    · rw [if_pos d] at f1i
      simp (maxSteps := 4000000) +contextual (disch := first | omega | exact qdb_ok (by kernel_rfl) | exact okb_ok (by kernel_rfl)) only [bw1,bw2,bw3,bw4,bw5,bw6,bw7,bc0,bc1,bc2,bc3,bc4,bc5,bc6,bc7,setPs,AV.owns,AV.datF,AV.frz,AV.cpy,ifV,isEqB,nilV,nilX,AV.isNilS,AV.isNoRows,wk,dclo,datOf,binIs,addF,AV.isPtr,idxV,AV.isSl,AV.isSlice,AV.rows,ps,pv,extV,extS,AV.outs,AV.outF,packD,AV.dl,fieldV,fieldS,AV.cells?,AV.upr,AV.menc,AV.one,D.one,Value.oneCell',tagOf,AV.isApp,strV,strS,bolV,bolS,slcV,AV.isSlD,asrtS,AV.dcells,D.cells?,stcV,stcS,leafOk,eqDs,eqD,packA,D.val?,↓reduceIte,reduceCtorEq,Nat.reduceAdd,Nat.reduceSub,Nat.reduceMul,List.reduceReplicate,Nat.reduceLeDiff,Nat.reduceLT,Nat.reduceBEq,Nat.reduceEqDiff,Int.reduceNeg,Int.reduceEq,Int.reduceLE,Int.reduceLT,tfb,n_seq,ctz4,O4_13,O4_23,O4_24,x4_11,x4_11_m1,x4_12,x4_12_m1,x4_13,x4_17,x4_17a0,x4_19,x4_20,eq_self, hlt', d, f1i]
      and_intros <;> first | omega | rfl
    · rw [if_neg d] at f1i
      have d := Bool.eq_false_iff.2 d
      simp (maxSteps := 4000000) +contextual (disch := first | omega | exact qdb_ok (by kernel_rfl) | exact okb_ok (by kernel_rfl)) only [bw1,bw2,bw3,bw4,bw5,bw6,bw7,bc0,bc1,bc2,bc3,bc4,bc5,bc6,bc7,setPs,AV.owns,AV.datF,AV.frz,AV.cpy,ifV,isEqB,nilV,nilX,AV.isNilS,AV.isNoRows,wk,dclo,datOf,binIs,addF,AV.isPtr,idxV,AV.isSl,AV.isSlice,AV.rows,ps,pv,extV,extS,AV.outs,AV.outF,packD,AV.dl,fieldV,fieldS,AV.cells?,AV.upr,AV.menc,AV.one,D.one,Value.oneCell',tagOf,AV.isApp,strV,strS,bolV,bolS,slcV,AV.isSlD,asrtS,AV.dcells,D.cells?,stcV,stcS,leafOk,eqDs,eqD,packA,D.val?,↓reduceIte,reduceCtorEq,Nat.reduceAdd,Nat.reduceSub,Nat.reduceMul,List.reduceReplicate,Nat.reduceLeDiff,Nat.reduceLT,Nat.reduceBEq,Nat.reduceEqDiff,Int.reduceNeg,Int.reduceEq,Int.reduceLE,Int.reduceLT,tfb,n_seq,ctz4,O4_13,O4_23,O4_24,x4_11,x4_11_m1,x4_12,x4_12_m1,x4_13,x4_17,x4_17a0,x4_19,x4_20,eq_self, hlt', d, f1i]
      and_intros <;> first | omega | rfl
  have hlt' : ¬ (i : Int) < s.calls.length := by omega
  obtain rfl : i = s.calls.length := by omega
  have fbe := fb s.calls.length
  have hx : ∀ {KK : AV → List AV → Sto → Prop} {QQ : Kt} {ii : At KK} {jj : At QQ} {ee : List AV} {ss : Sto}, xC Ct4 17 [.d (r.d), .d (.agg [.sl 6 (List.map Cal.c s.calls), .sl 1 (List.map pc s.parts), .i (min 600 (s.over + 5))])] KK QQ ii jj ee ss = ((∀ x ∈ s.calls, i64 x.place) ∧ KK (.d (.tup [.agg (progG r (lateS s)).1.c, .i (progG r (lateS s)).2])) ee ss) := x4_17 (s := lateS s)
  have hw2 : progG r (lateS s) = (progR r (lateS s), 0) := by unfold progG; rw [if_pos (late_ok c)]
  obtain ⟨l1, l2, l3⟩ := late_law c
  have l1' : ¬ (progR r s).total < (progR r (lateS s)).total := by omega
  have l3' : ¬ (progR r (lateS s)).off < off (flR s s.calls.length) s.over := by rw [← hoff]; omega
  by_cases cn : s.calls.length = 0
  · have cn' : (s.calls.length : Int) = 0 := by omega
    have l3'' : ¬ (progR r (lateS s)).off < off (flR s 0) s.over := by rw [← cn]; exact l3'
    simp (maxSteps := 4000000) +contextual (disch := first | omega | exact qdb_ok (by kernel_rfl) | exact okb_ok (by kernel_rfl)) only [bw1,bw2,bw3,bw4,bw5,bw6,bw7,bc0,bc1,bc2,bc3,bc4,bc5,bc6,bc7,setPs,AV.owns,AV.datF,AV.frz,AV.cpy,ifV,isEqB,nilV,nilX,AV.isNilS,AV.isNoRows,wk,dclo,datOf,binIs,addF,AV.isPtr,idxV,AV.isSl,AV.isSlice,AV.rows,ps,pv,extV,extS,AV.outs,AV.outF,packD,AV.dl,fieldV,fieldS,AV.cells?,AV.upr,AV.menc,AV.one,D.one,Value.oneCell',tagOf,AV.isApp,strV,strS,bolV,bolS,slcV,AV.isSlD,asrtS,AV.dcells,D.cells?,stcV,stcS,leafOk,eqDs,eqD,packA,D.val?,↓reduceIte,reduceCtorEq,Nat.reduceAdd,Nat.reduceSub,Nat.reduceMul,List.reduceReplicate,Nat.reduceLeDiff,Nat.reduceLT,Nat.reduceBEq,Nat.reduceEqDiff,Int.reduceNeg,Int.reduceEq,Int.reduceLE,Int.reduceLT,tfb,n_seq,ctz4,O4_13,O4_23,O4_24,x4_11,x4_11_m1,x4_12,x4_12_m1,x4_13,x4_17,x4_17a0,x4_19,x4_20,eq_self, hlt', Int.lt_irrefl, hoff, hx, hw2, l1', l2, l3'', cn, cn', bne_self_eq_false]
    exact ⟨⟨by omega, by omega, by omega⟩, h0⟩
  have cn' : ¬ (s.calls.length : Int) = 0 := by omega
  obtain ⟨k, hk⟩ : ∃ k : Nat, k = call.toNat % s.calls.length := ⟨_, rfl⟩
  have hkl : k < s.calls.length := by rw [hk]; exact Nat.mod_lt _ (by omega)
  have hkl' : (k : Int) < s.calls.length := by omega
  have hk1 : call % (s.calls.length : Int) = k := by
    have e : call = (call.toNat : Int) := by omega
    rw [hk, e, Int.toNat_natCast, Int.natCast_emod]
  have hkr : call.tmod (s.calls.length : Int) = k := by rw [Int.tmod_eq_emod_of_nonneg u1, hk1]
  obtain ⟨_, _, _, m4, m5⟩ := hv.cat hkl
  have hjn := hv.jn
  obtain ⟨j, hj⟩ : ∃ j : Nat, j = judge.toNat % (s.calls.getD k default).marks.length := ⟨_, rfl⟩
  have hjl : j < (s.calls.getD k default).marks.length := by rw [hj]; exact Nat.mod_lt _ (by omega)
  have hjl' : (j : Int) < (s.calls.getD k default).marks.length := by omega
  have hj1 : judge % ((s.calls.getD k default).marks.length : Int) = j := by
    have e : judge = (judge.toNat : Int) := by omega
    rw [hj, e, Int.toNat_natCast, Int.natCast_emod]
  have hjr : judge.tmod ((s.calls.getD k default).marks.length : Int) = j := by rw [Int.tmod_eq_emod_of_nonneg u3, hj1]
  have hmj := m5 ((s.calls.getD k default).marks.getD j default) (by rw [at_lt hjl]; exact List.getElem_mem _)
  have hb0 : ((s.calls.length : Int) == 0) = false := by simpa using cn'
  have hmn : ¬ ((s.calls.getD k default).marks.length : Int) = 0 := by omega
  simp (maxSteps := 4000000) +contextual (disch := first | omega | exact qdb_ok (by kernel_rfl) | exact okb_ok (by kernel_rfl)) only [bw1,bw2,bw3,bw4,bw5,bw6,bw7,bc0,bc1,bc2,bc3,bc4,bc5,bc6,bc7,setPs,AV.owns,AV.datF,AV.frz,AV.cpy,ifV,isEqB,nilV,nilX,AV.isNilS,AV.isNoRows,wk,dclo,datOf,binIs,addF,AV.isPtr,idxV,AV.isSl,AV.isSlice,AV.rows,ps,pv,extV,extS,AV.outs,AV.outF,packD,AV.dl,fieldV,fieldS,AV.cells?,AV.upr,AV.menc,AV.one,D.one,Value.oneCell',tagOf,AV.isApp,strV,strS,bolV,bolS,slcV,AV.isSlD,asrtS,AV.dcells,D.cells?,stcV,stcS,leafOk,eqDs,eqD,packA,D.val?,↓reduceIte,reduceCtorEq,Nat.reduceAdd,Nat.reduceSub,Nat.reduceMul,List.reduceReplicate,Nat.reduceLeDiff,Nat.reduceLT,Nat.reduceBEq,Nat.reduceEqDiff,Int.reduceNeg,Int.reduceEq,Int.reduceLE,Int.reduceLT,tfb,n_seq,ctz4,O4_13,O4_23,O4_24,x4_11,x4_11_m1,x4_12,x4_12_m1,x4_13,x4_17,x4_17a0,x4_19,x4_20,eq_self, hlt', Int.lt_irrefl, hoff, hx, hw2, l1', l2, l3', cn, cn', one_rows, one_len, c, hk1, hkl', hj1, hjl', hmn, hb0, bne_self_eq_false]
  refine ⟨⟨by omega, by omega, by omega⟩, h0, rfl, by omega, by omega, by omega, by omega, by omega, by omega, by omega, by omega, by omega, by omega, ?_⟩
  refine n_frz 138 3 1 (by decide) rfl ?_
  refine n_w Ct4_ok hmix (by kernel_rfl) ?_
  obtain ⟨p1, p2, p3⟩ := fall_law c hkl
  obtain ⟨q1, q2, q3⟩ := more_law c hkl hjl
  have hF : (List.map Cal.c s.calls).set k [.i (s.calls.getD k default).place, .i (s.calls.getD k default).elem, .i (s.calls.getD k default).under, .b (s.calls.getD k default).late, .b true, .sl 1 (List.map ic (s.calls.getD k default).marks)] = List.map Cal.c (callS s k (fallC (s.calls.getD k default))).calls := by
    unfold callS; simp only; rw [List.map_set]; rfl
  have hM : (List.map Cal.c s.calls).set k [.i (s.calls.getD k default).place, .i (s.calls.getD k default).elem, .i (s.calls.getD k default).under, .b (s.calls.getD k default).late, .b (s.calls.getD k default).fall, .sl 1 ((List.map ic (s.calls.getD k default).marks).set j [.i (min 5 ((s.calls.getD k default).marks.getD j default + 1))])] = List.map Cal.c (callS s k (moreC j (s.calls.getD k default))).calls := by
    unfold callS moreC; simp only; rw [List.map_set]
    refine congrArg (List.set _ k) ?_
    show _ = [_, _, _, _, _, D.sl 1 (List.map ic (List.set _ _ _))]
    rw [List.map_set]
  have hi1 : ∀ x ∈ (callS s k (fallC (s.calls.getD k default))).calls, i64 x.place := fun x hx => by
    have := (con_valid p1 (s := callS s k (fallC (s.calls.getD k default))) (by simp [one])).call x hx
    unfold i64; omega
  have hi2 : ∀ x ∈ (callS s k (moreC j (s.calls.getD k default))).calls, i64 x.place := fun x hx => by
    have := (con_valid q1 (s := callS s k (moreC j (s.calls.getD k default))) (by simp [one])).call x hx
    unfold i64; omega
  have hwF : progG r (callS s k (fallC (s.calls.getD k default))) = (progR r (callS s k (fallC (s.calls.getD k default))), 0) := by unfold progG; rw [if_pos p1]
  have hwM : progG r (callS s k (moreC j (s.calls.getD k default))) = (progR r (callS s k (moreC j (s.calls.getD k default))), 0) := by unfold progG; rw [if_pos q1]
  have hxF : ∀ {KK : AV → List AV → Sto → Prop} {QQ : Kt} {ii : At KK} {jj : At QQ} {ee : List AV} {ss : Sto}, xC Ct4 17 [.d (r.d), .agg [.own 123 37 6 ((List.map Cal.c s.calls).set k [.i (s.calls.getD k default).place, .i (s.calls.getD k default).elem, .i (s.calls.getD k default).under, .b (s.calls.getD k default).late, .b true, .sl 1 (List.map ic (s.calls.getD k default).marks)]), .d (.sl 1 (List.map pc s.parts)), .d (.i s.over)]] KK QQ ii jj ee ss = KK (.d (.tup [.agg (progR r (callS s k (fallC (s.calls.getD k default)))).c, .i 0])) ee ss := by
    intro KK QQ ii jj ee ss
    rw [hF]
    have := x4_17a0 (r := r) (s := callS s k (fallC (s.calls.getD k default))) (g1 := 123) (el1 := 37) (KK := KK) (QQ := QQ) (ii := ii) (jj := jj) (ee := ee) (ss := ss)
    rw [hwF] at this
    refine Eq.trans this ?_
    exact propext ⟨fun h => h.2.2, fun h => ⟨hi1, rfl, h⟩⟩
  have hxM : ∀ {KK : AV → List AV → Sto → Prop} {QQ : Kt} {ii : At KK} {jj : At QQ} {ee : List AV} {ss : Sto}, xC Ct4 17 [.d (r.d), .agg [.own 127 37 6 ((List.map Cal.c s.calls).set k [.i (s.calls.getD k default).place, .i (s.calls.getD k default).elem, .i (s.calls.getD k default).under, .b (s.calls.getD k default).late, .b (s.calls.getD k default).fall, .sl 1 ((List.map ic (s.calls.getD k default).marks).set j [.i (min 5 ((s.calls.getD k default).marks.getD j default + 1))])]), .d (.sl 1 (List.map pc s.parts)), .d (.i s.over)]] KK QQ ii jj ee ss = KK (.d (.tup [.agg (progR r (callS s k (moreC j (s.calls.getD k default)))).c, .i 0])) ee ss := by
    intro KK QQ ii jj ee ss
    rw [hM]
    have := x4_17a0 (r := r) (s := callS s k (moreC j (s.calls.getD k default))) (g1 := 127) (el1 := 37) (KK := KK) (QQ := QQ) (ii := ii) (jj := jj) (ee := ee) (ss := ss)
    rw [hwM] at this
    refine Eq.trans this ?_
    exact propext ⟨fun h => h.2.2, fun h => ⟨hi2, rfl, h⟩⟩
  have hbn := better_no q3 q2
  generalize progR r (callS s k (fallC (s.calls.getD k default))) = B at hxF p2 p3
  generalize progR r (callS s k (moreC j (s.calls.getD k default))) = M at hxM q2 q3 hbn
  have p2' : B.total ≤ (progR r s).total := p2
  simp (maxSteps := 4000000) +contextual (disch := first | omega | exact qdb_ok (by kernel_rfl) | exact okb_ok (by kernel_rfl)) only [bw1,bw2,bw3,bw4,bw5,bw6,bw7,bc0,bc1,bc2,bc3,bc4,bc5,bc6,bc7,setPs,AV.owns,AV.datF,AV.frz,AV.cpy,ifV,isEqB,nilV,nilX,AV.isNilS,AV.isNoRows,wk,dclo,datOf,binIs,addF,AV.isPtr,idxV,AV.isSl,AV.isSlice,AV.rows,ps,pv,extV,extS,AV.outs,AV.outF,packD,AV.dl,fieldV,fieldS,AV.cells?,AV.upr,AV.menc,AV.one,D.one,Value.oneCell',tagOf,AV.isApp,strV,strS,bolV,bolS,slcV,AV.isSlD,asrtS,AV.dcells,D.cells?,stcV,stcS,leafOk,eqDs,eqD,packA,D.val?,↓reduceIte,reduceCtorEq,Nat.reduceAdd,Nat.reduceSub,Nat.reduceMul,List.reduceReplicate,Nat.reduceLeDiff,Nat.reduceLT,Nat.reduceBEq,Nat.reduceEqDiff,Int.reduceNeg,Int.reduceEq,Int.reduceLE,Int.reduceLT,tfb,n_seq,ctz4,O4_13,O4_23,O4_24,x4_11,x4_11_m1,x4_12,x4_12_m1,x4_13,x4_17,x4_17a0,x4_19,x4_20,eq_self, one_rows, one_len, c, hkl', hxF, hxM, ← hoff, p2, p3, q2, q3, hbn, beq_self_eq_true]
  omega
end Go.Proofs.Ytapglfcaghlpfaa
