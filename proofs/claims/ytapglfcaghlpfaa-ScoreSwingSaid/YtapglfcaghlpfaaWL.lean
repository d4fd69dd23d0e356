/- A part of the proof that the last text ends: what functions of the program do, told by plain data. -/
import Derived.Test.YtapglfcaghlpfaaWI
set_option linter.unusedVariables false
set_option linter.unusedSimpArgs false
namespace Go.Proofs.Ytapglfcaghlpfaa
open Go Go.E Go.Maps
set_option maxRecDepth 100000
set_option maxHeartbeats 16000000
theorem great_w {l : List Ska} (h : ¬ great l 8 = true) : l.length ≤ 8 := by
  unfold great at h
  simp only [Bool.or_eq_true, decide_eq_true_eq, not_or] at h
  omega
def bfN (r : Rul) (l : List Ska) (k : Nat) : List Sco := (List.range k).map fun i => progR r (l.getD i default)
def bhN (r : Rul) (l : List Ska) (j : Nat) (bs : List Int) (k : Nat) : List Sco := (List.range k).map fun i => progR r (chS (l.getD i default) j bs (3 * i))
theorem bfN_succ {r : Rul} {l : List Ska} {k : Nat} : bfN r l (k + 1) = bfN r l k ++ [progR r (l.getD k default)] := by
  unfold bfN; rw [List.range_succ, List.map_append]; rfl
theorem bhN_succ {r : Rul} {l : List Ska} {j : Nat} {bs : List Int} {k : Nat} : bhN r l j bs (k + 1) = bhN r l j bs k ++ [progR r (chS (l.getD k default) j bs (3 * k))] := by
  unfold bhN; rw [List.range_succ, List.map_append]; rfl
theorem bfN_len {r : Rul} {l : List Ska} {k : Nat} : (bfN r l k).length = k := by unfold bfN; rw [List.length_map, List.length_range]
theorem bhN_len {r : Rul} {l : List Ska} {j : Nat} {bs : List Int} {k : Nat} : (bhN r l j bs k).length = k := by unfold bhN; rw [List.length_map, List.length_range]
def O9 : Nat → Sch := fun id => if id = 14 then .one 2 (.one 3 (.one 4 (.one 5 (.alt (.one 0 (.alt (.one 1 (.alt (.one 6 (.alt (.one 7 (.one 8 (.one 9 (.one 10 (.one 11 (.one 12 (.one 13 (.done)))))))) (.one 11 (.one 7 (.one 8 (.one 9 (.one 10 (.one 12 (.one 13 (.done)))))))))) (.one 11 (.one 6 (.one 7 (.one 8 (.one 9 (.one 10 (.one 12 (.one 13 (.done))))))))))) (.one 11 (.one 1 (.one 6 (.one 7 (.one 8 (.one 9 (.one 10 (.one 12 (.one 13 (.done)))))))))))) (.alt (.one 1 (.alt (.one 0 (.alt (.one 6 (.alt (.one 7 (.one 8 (.one 9 (.one 10 (.one 11 (.one 12 (.one 13 (.done)))))))) (.one 11 (.one 7 (.one 8 (.one 9 (.one 10 (.one 12 (.one 13 (.done)))))))))) (.one 11 (.one 6 (.one 7 (.one 8 (.one 9 (.one 10 (.one 12 (.one 13 (.done))))))))))) (.alt (.one 6 (.alt (.one 0 (.alt (.one 7 (.one 8 (.one 9 (.one 10 (.one 11 (.one 12 (.one 13 (.done)))))))) (.one 11 (.one 7 (.one 8 (.one 9 (.one 10 (.one 12 (.one 13 (.done)))))))))) (.one 11 (.one 0 (.one 7 (.one 8 (.one 9 (.one 10 (.one 12 (.one 13 (.done))))))))))) (.one 11 (.alt (.one 0 (.one 6 (.one 7 (.one 8 (.one 9 (.one 10 (.one 12 (.one 13 (.done))))))))) (.one 6 (.one 0 (.one 7 (.one 8 (.one 9 (.one 10 (.one 12 (.one 13 (.done)))))))))))))) (.one 11 (.one 1 (.alt (.one 0 (.one 6 (.one 7 (.one 8 (.one 9 (.one 10 (.one 12 (.one 13 (.done))))))))) (.one 6 (.one 0 (.one 7 (.one 8 (.one 9 (.one 10 (.one 12 (.one 13 (.done))))))))))))))))) else if id = 17 then .one 0 (.one 4 (.alt (.one 1 (.alt (.one 2 (.alt (.one 3 (.one 5 (.one 6 (.one 7 (.one 8 (.one 9 (.done))))))) (.one 5 (.alt (.one 3 (.one 6 (.one 7 (.one 8 (.one 9 (.done)))))) (.one 6 (.one 3 (.one 7 (.one 8 (.one 9 (.done)))))))))) (.one 5 (.alt (.one 2 (.alt (.one 3 (.one 6 (.one 7 (.one 8 (.one 9 (.done)))))) (.one 6 (.one 3 (.one 7 (.one 8 (.one 9 (.done)))))))) (.one 6 (.one 2 (.one 3 (.one 7 (.one 8 (.one 9 (.done))))))))))) (.one 5 (.alt (.one 1 (.alt (.one 2 (.alt (.one 3 (.one 6 (.one 7 (.one 8 (.one 9 (.done)))))) (.one 6 (.one 3 (.one 7 (.one 8 (.one 9 (.done)))))))) (.one 6 (.one 2 (.one 3 (.one 7 (.one 8 (.one 9 (.done))))))))) (.one 6 (.one 1 (.one 2 (.one 3 (.one 7 (.one 8 (.one 9 (.done)))))))))))) else if id = 26 then .one 0 (.one 1 (.one 2 (.one 3 (.one 4 (.one 5 (.one 6 (.one 7 (.one 8 (.one 9 (.one 10 (.one 11 (.one 12 (.one 13 (.one 14 (.one 15 (.one 16 (.one 17 (.one 18 (.one 19 (.one 20 (.one 21 (.one 22 (.one 23 (.one 24 (.one 25 (.one 26 (.one 27 (.one 28 (.one 29 (.one 30 (.one 31 (.one 32 (.one 33 (.one 34 (.one 35 (.one 36 (.one 37 (.one 38 (.one 39 (.one 40 (.one 41 (.one 42 (.one 43 (.one 44 (.one 45 (.done)))))))))))))))))))))))))))))))))))))))))))))) else if id = 35 then .one 0 (.one 1 (.one 2 (.one 3 (.one 4 (.one 5 (.one 6 (.one 7 (.one 8 (.one 9 (.one 10 (.one 11 (.one 12 (.one 13 (.one 14 (.one 15 (.one 16 (.one 17 (.one 18 (.one 19 (.one 20 (.one 21 (.one 22 (.one 23 (.one 24 (.one 25 (.one 26 (.one 27 (.one 28 (.one 29 (.one 30 (.one 31 (.one 32 (.done))))))))))))))))))))))))))))))))) else .done
theorem O9_14 : O9 14 = .one 2 (.one 3 (.one 4 (.one 5 (.alt (.one 0 (.alt (.one 1 (.alt (.one 6 (.alt (.one 7 (.one 8 (.one 9 (.one 10 (.one 11 (.one 12 (.one 13 (.done)))))))) (.one 11 (.one 7 (.one 8 (.one 9 (.one 10 (.one 12 (.one 13 (.done)))))))))) (.one 11 (.one 6 (.one 7 (.one 8 (.one 9 (.one 10 (.one 12 (.one 13 (.done))))))))))) (.one 11 (.one 1 (.one 6 (.one 7 (.one 8 (.one 9 (.one 10 (.one 12 (.one 13 (.done)))))))))))) (.alt (.one 1 (.alt (.one 0 (.alt (.one 6 (.alt (.one 7 (.one 8 (.one 9 (.one 10 (.one 11 (.one 12 (.one 13 (.done)))))))) (.one 11 (.one 7 (.one 8 (.one 9 (.one 10 (.one 12 (.one 13 (.done)))))))))) (.one 11 (.one 6 (.one 7 (.one 8 (.one 9 (.one 10 (.one 12 (.one 13 (.done))))))))))) (.alt (.one 6 (.alt (.one 0 (.alt (.one 7 (.one 8 (.one 9 (.one 10 (.one 11 (.one 12 (.one 13 (.done)))))))) (.one 11 (.one 7 (.one 8 (.one 9 (.one 10 (.one 12 (.one 13 (.done)))))))))) (.one 11 (.one 0 (.one 7 (.one 8 (.one 9 (.one 10 (.one 12 (.one 13 (.done))))))))))) (.one 11 (.alt (.one 0 (.one 6 (.one 7 (.one 8 (.one 9 (.one 10 (.one 12 (.one 13 (.done))))))))) (.one 6 (.one 0 (.one 7 (.one 8 (.one 9 (.one 10 (.one 12 (.one 13 (.done)))))))))))))) (.one 11 (.one 1 (.alt (.one 0 (.one 6 (.one 7 (.one 8 (.one 9 (.one 10 (.one 12 (.one 13 (.done))))))))) (.one 6 (.one 0 (.one 7 (.one 8 (.one 9 (.one 10 (.one 12 (.one 13 (.done))))))))))))))))) := rfl
theorem O9_17 : O9 17 = .one 0 (.one 4 (.alt (.one 1 (.alt (.one 2 (.alt (.one 3 (.one 5 (.one 6 (.one 7 (.one 8 (.one 9 (.done))))))) (.one 5 (.alt (.one 3 (.one 6 (.one 7 (.one 8 (.one 9 (.done)))))) (.one 6 (.one 3 (.one 7 (.one 8 (.one 9 (.done)))))))))) (.one 5 (.alt (.one 2 (.alt (.one 3 (.one 6 (.one 7 (.one 8 (.one 9 (.done)))))) (.one 6 (.one 3 (.one 7 (.one 8 (.one 9 (.done)))))))) (.one 6 (.one 2 (.one 3 (.one 7 (.one 8 (.one 9 (.done))))))))))) (.one 5 (.alt (.one 1 (.alt (.one 2 (.alt (.one 3 (.one 6 (.one 7 (.one 8 (.one 9 (.done)))))) (.one 6 (.one 3 (.one 7 (.one 8 (.one 9 (.done)))))))) (.one 6 (.one 2 (.one 3 (.one 7 (.one 8 (.one 9 (.done))))))))) (.one 6 (.one 1 (.one 2 (.one 3 (.one 7 (.one 8 (.one 9 (.done)))))))))))) := rfl
theorem O9_26 : O9 26 = .one 0 (.one 1 (.one 2 (.one 3 (.one 4 (.one 5 (.one 6 (.one 7 (.one 8 (.one 9 (.one 10 (.one 11 (.one 12 (.one 13 (.one 14 (.one 15 (.one 16 (.one 17 (.one 18 (.one 19 (.one 20 (.one 21 (.one 22 (.one 23 (.one 24 (.one 25 (.one 26 (.one 27 (.one 28 (.one 29 (.one 30 (.one 31 (.one 32 (.one 33 (.one 34 (.one 35 (.one 36 (.one 37 (.one 38 (.one 39 (.one 40 (.one 41 (.one 42 (.one 43 (.one 44 (.one 45 (.done)))))))))))))))))))))))))))))))))))))))))))))) := rfl
theorem O9_35 : O9 35 = .one 0 (.one 1 (.one 2 (.one 3 (.one 4 (.one 5 (.one 6 (.one 7 (.one 8 (.one 9 (.one 10 (.one 11 (.one 12 (.one 13 (.one 14 (.one 15 (.one 16 (.one 17 (.one 18 (.one 19 (.one 20 (.one 21 (.one 22 (.one 23 (.one 24 (.one 25 (.one 26 (.one 27 (.one 28 (.one 29 (.one 30 (.one 31 (.one 32 (.done))))))))))))))))))))))))))))))))) := rfl
theorem ho9 : Try.f9.body.map (okO O9) = some true := by kernel_rfl
def Cf9 : Nat → List AV → (AV → List AV → Sto → Prop) → Kt → List AV → Sto → Prop := fun f args K Q e s => match f with
  | 11 => ent11 args K e s
  | 12 => ent12 args K e s
  | 13 => ent13 args K e s
  | 14 => ent14 args K e s
  | 17 => ent17 args K e s
  | 18 => ent18 args K e s
  | 26 => ent26 args K e s
  | 29 => ent29 args K e s
  | 31 => ent31 args K e s
  | _ => False
def Ct9 : CT := { f := Cf9, y := noYld, z := fun d => false }
theorem ctz9 {d : Nat} : CT.z Ct9 d = (false) := id rfl
theorem Ct9_ok : Ct9.ok Try.prog := ok_of_f (fun f args K Q e s h => by
  have h : Cf9 f args K Q e s := h
  unfold Cf9 at h; split at h
  · exact ent11_ok h
  · exact ent12_ok h
  · exact ent13_ok h
  · exact ent14_ok h
  · exact ent17_ok h
  · exact ent18_ok h
  · exact ent26_ok h
  · exact ent29_ok h
  · exact ent31_ok h
  · exact h.elim) (fun _ _ _ _ _ _ _ _ _ h => h)
theorem x9_11 {l : List Ska} {most : Int} {KK : AV → List AV → Sto → Prop} {QQ : Kt} {ii : At KK} {jj : At QQ} {ee : List AV} {ss : Sto} : xC Ct9 11 [.d (.sl 3 (l.map Ska.c)), .d (.i most)] KK QQ ii jj ee ss = ((0 ≤ most ∧ most ≤ 1000) ∧ KK (.d (.b (great l most))) ee ss) := eq11
theorem x9_11_m1 {l : List Ska} {most : Int} {g1 el1 : Nat} {KK : AV → List AV → Sto → Prop} {QQ : Kt} {ii : At KK} {jj : At QQ} {ee : List AV} {ss : Sto} : xC Ct9 11 [.own g1 el1 3 (l.map Ska.c), .d (.i most)] KK QQ ii jj ee ss = ((0 ≤ most ∧ most ≤ 1000) ∧ (.b (great l most) : D).flat = true ∧ KK (.d (.b (great l most))) ee ss) := eqo11
theorem x9_12 {r : Rul} {l : List Ska} {KK : AV → List AV → Sto → Prop} {QQ : Kt} {ii : At KK} {jj : At QQ} {ee : List AV} {ss : Sto} : xC Ct9 12 [.d (r.d), .d (.sl 3 (l.map Ska.c))] KK QQ ii jj ee ss = ((l.length ≤ 1000) ∧ KK (.d (.b (conOk r l))) ee ss) := eq12
theorem x9_12_m1 {r : Rul} {l : List Ska} {g1 el1 : Nat} {KK : AV → List AV → Sto → Prop} {QQ : Kt} {ii : At KK} {jj : At QQ} {ee : List AV} {ss : Sto} : xC Ct9 12 [.d (r.d), .own g1 el1 3 (l.map Ska.c)] KK QQ ii jj ee ss = ((l.length ≤ 1000) ∧ (.b (conOk r l) : D).flat = true ∧ KK (.d (.b (conOk r l))) ee ss) := eqo12
theorem x9_13  {KK : AV → List AV → Sto → Prop} {QQ : Kt} {ii : At KK} {jj : At QQ} {ee : List AV} {ss : Sto} : xC Ct9 13 [] KK QQ ii jj ee ss = (KK (.d (.b true)) ee ss) := eq13
theorem x9_14 {l : List Ska} {KK : AV → List AV → Sto → Prop} {QQ : Kt} {ii : At KK} {jj : At QQ} {ee : List AV} {ss : Sto} : xC Ct9 14 [.d (.sl 3 (l.map Ska.c))] KK QQ ii jj ee ss = ((l.length ≤ 1000) ∧ KK (.d (.i (if (jud l).2 = true then (jud l).1 else -1))) ee ss) := eq14
theorem x9_14_m1 {l : List Ska} {g1 el1 : Nat} {KK : AV → List AV → Sto → Prop} {QQ : Kt} {ii : At KK} {jj : At QQ} {ee : List AV} {ss : Sto} : xC Ct9 14 [.own g1 el1 3 (l.map Ska.c)] KK QQ ii jj ee ss = ((l.length ≤ 1000) ∧ (.i (if (jud l).2 = true then (jud l).1 else -1) : D).flat = true ∧ KK (.d (.i (if (jud l).2 = true then (jud l).1 else -1))) ee ss) := eqo14
theorem x9_17 {r : Rul} {s : Ska} {KK : AV → List AV → Sto → Prop} {QQ : Kt} {ii : At KK} {jj : At QQ} {ee : List AV} {ss : Sto} : xC Ct9 17 [.d (r.d), .d (.agg s.c)] KK QQ ii jj ee ss = ((∀ x ∈ s.calls, i64 x.place) ∧ KK (.d (.tup [.agg (progG r s).1.c, .i (progG r s).2])) ee ss) := eq17
theorem x9_18 {s : Ska} {j : Nat} {bs : List Int} {z : Nat} {KK : AV → List AV → Sto → Prop} {QQ : Kt} {ii : At KK} {jj : At QQ} {ee : List AV} {ss : Sto} : xC Ct9 18 [.d (.agg s.c), .d (.i (j : Int)), .d (.sl 1 (bs.map bc)), .d (.i (z : Int))] KK QQ ii jj ee ss = (((((s.calls.length ≤ 1000 ∧ s.parts.length ≤ 1000) ∧ z ≤ 1000) ∧ 1 ≤ bs.length ∧ ∀ b ∈ bs, 0 ≤ b ∧ b ≤ 255) ∧ (∀ c ∈ s.calls, j < c.marks.length ∧ c.marks.length ≤ 1000) ∧ ∀ p ∈ s.parts, j < p.length ∧ p.length ≤ 1000) ∧ KK (.d (.agg (chS s j bs z).c)) ee ss) := eq18
theorem x9_18_m1 {s : Ska} {j : Nat} {bs : List Int} {z : Nat} {g1 el1 : Nat} {KK : AV → List AV → Sto → Prop} {QQ : Kt} {ii : At KK} {jj : At QQ} {ee : List AV} {ss : Sto} : xC Ct9 18 [.d (.agg s.c), .d (.i (j : Int)), .own g1 el1 1 (bs.map bc), .d (.i (z : Int))] KK QQ ii jj ee ss = (((((s.calls.length ≤ 1000 ∧ s.parts.length ≤ 1000) ∧ z ≤ 1000) ∧ 1 ≤ bs.length ∧ ∀ b ∈ bs, 0 ≤ b ∧ b ≤ 255) ∧ (∀ c ∈ s.calls, j < c.marks.length ∧ c.marks.length ≤ 1000) ∧ ∀ p ∈ s.parts, j < p.length ∧ p.length ≤ 1000) ∧ (.agg (chS s j bs z).c : D).flat = true ∧ KK (.d (.agg (chS s j bs z).c)) ee ss) := eqo18
theorem x9_26 {r : Rul} {l : List Ska} {j : Int} {KK : AV → List AV → Sto → Prop} {QQ : Kt} {ii : At KK} {jj : At QQ} {ee : List AV} {ss : Sto} : xC Ct9 26 [.d (r.d), .d (.sl 3 (l.map Ska.c)), .d (.i j)] KK QQ ii jj ee ss = ((l.length ≤ 1000 ∧ ∀ s ∈ l, ∀ x ∈ s.calls, i64 x.place) ∧ KK (.d (.tup [.sl 2 ((swG r l j).1.map Spn.c), .i (swG r l j).2])) ee ss) := eq26
theorem x9_26_m1 {r : Rul} {l : List Ska} {j : Int} {g1 el1 : Nat} {KK : AV → List AV → Sto → Prop} {QQ : Kt} {ii : At KK} {jj : At QQ} {ee : List AV} {ss : Sto} : xC Ct9 26 [.d (r.d), .own g1 el1 3 (l.map Ska.c), .d (.i j)] KK QQ ii jj ee ss = ((l.length ≤ 1000 ∧ ∀ s ∈ l, ∀ x ∈ s.calls, i64 x.place) ∧ (.tup [.sl 2 ((swG r l j).1.map Spn.c), .i (swG r l j).2] : D).flat = true ∧ KK (.d (.tup [.sl 2 ((swG r l j).1.map Spn.c), .i (swG r l j).2])) ee ss) := eqo26
theorem x9_29 {l : List Sco} {KK : AV → List AV → Sto → Prop} {QQ : Kt} {ii : At KK} {jj : At QQ} {ee : List AV} {ss : Sto} : xC Ct9 29 [.d (.sl 4 (l.map Sco.c))] KK QQ ii jj ee ss = ((l.length ≤ 1000000) ∧ KK (.d (.tup [.sl 1 ((rkG l).1.map ic), .i (rkG l).2])) ee ss) := eq29
theorem x9_29_m1 {l : List Sco} {g1 el1 : Nat} {KK : AV → List AV → Sto → Prop} {QQ : Kt} {ii : At KK} {jj : At QQ} {ee : List AV} {ss : Sto} : xC Ct9 29 [.own g1 el1 4 (l.map Sco.c)] KK QQ ii jj ee ss = ((l.length ≤ 1000000) ∧ KK (.d (.tup [.sl 1 ((rkG l).1.map ic), .i (rkG l).2])) ee ss) := eqo29
theorem x9_31 {r : Rul} {l : List Ska} {first : Int} {KK : AV → List AV → Sto → Prop} {QQ : Kt} {ii : At KK} {jj : At QQ} {ee : List AV} {ss : Sto} : xC Ct9 31 [.d (r.d), .d (.sl 3 (l.map Ska.c)), .d (.i first)] KK QQ ii jj ee ss = (((l.length ≤ 1000 ∧ (l.length ≤ 12 ∨ 40 < l.length)) ∧ (∀ s ∈ l, ∀ x ∈ s.calls, i64 x.place) ∧ i64 first) ∧ KK (.d (.tup [.sl 1 ((opG r l first).1.map ic), .i (opG r l first).2])) ee ss) := eq31
theorem x9_31_m1 {r : Rul} {l : List Ska} {first : Int} {g1 el1 : Nat} {KK : AV → List AV → Sto → Prop} {QQ : Kt} {ii : At KK} {jj : At QQ} {ee : List AV} {ss : Sto} : xC Ct9 31 [.d (r.d), .own g1 el1 3 (l.map Ska.c), .d (.i first)] KK QQ ii jj ee ss = (((l.length ≤ 1000 ∧ (l.length ≤ 12 ∨ 40 < l.length)) ∧ (∀ s ∈ l, ∀ x ∈ s.calls, i64 x.place) ∧ i64 first) ∧ (.tup [.sl 1 ((opG r l first).1.map ic), .i (opG r l first).2] : D).flat = true ∧ KK (.d (.tup [.sl 1 ((opG r l first).1.map ic), .i (opG r l first).2])) ee ss) := eqo31
theorem c9 : callable Try.prog 9 = true := by kernel_rfl
theorem pf9 (r : Rul) (l : List Ska) (judge first : Int) (bs : List Int) (h : ((∀ s ∈ l, ∀ x ∈ s.calls, i64 x.place) ∧ i64 judge ∧ i64 first) ∧ ∀ b ∈ bs, 0 ≤ b ∧ b ≤ 255) : PF Try.prog 9 [r.d, .sl 3 (l.map Ska.c), .i judge, .i first, .sl 1 (bs.map bc)] (fun zz => zz = .ret (.b true)) := by
  obtain ⟨⟨h0, hj64, hf64⟩, hb2⟩ := h
  by_cases c1 : (80 : Int) < r.bases.length
  · refine PF_nil (PF_start (O := O9) Ct9_ok hmix ho9 Try.func9 c9 rfl Try.ntmps9 Try.results9 ?_)
    simp (maxSteps := 4000000) +contextual (disch := first | omega | exact qdb_ok (by kernel_rfl) | exact okb_ok (by kernel_rfl)) only [bw1,bw2,bw3,bw4,bw5,bw6,bw7,bc0,bc1,bc2,bc3,bc4,bc5,bc6,bc7,setPs,AV.owns,AV.datF,AV.frz,AV.cpy,ifV,isEqB,nilV,nilX,AV.isNilS,AV.isNoRows,wk,dclo,datOf,binIs,addF,AV.isPtr,idxV,AV.isSl,AV.isSlice,AV.rows,ps,pv,extV,extS,AV.outs,AV.outF,packD,AV.dl,fieldV,fieldS,AV.cells?,AV.upr,AV.menc,AV.one,D.one,Value.oneCell',tagOf,AV.isApp,strV,strS,bolV,bolS,slcV,AV.isSlD,asrtS,AV.dcells,D.cells?,stcV,stcS,leafOk,eqDs,eqD,packA,D.val?,↓reduceIte,reduceCtorEq,Nat.reduceAdd,Nat.reduceSub,Nat.reduceMul,List.reduceReplicate,Nat.reduceLeDiff,Nat.reduceLT,Nat.reduceBEq,Nat.reduceEqDiff,Int.reduceNeg,Int.reduceEq,Int.reduceLE,Int.reduceLT,tfb,ctz9,O9_14,O9_17,O9_26,O9_35,x9_11,x9_11_m1,x9_12,x9_12_m1,x9_13,x9_14,x9_14_m1,x9_17,x9_18,x9_18_m1,x9_26,x9_26_m1,x9_29,x9_29_m1,x9_31,x9_31_m1,c1]
  by_cases c2 : great l 8 = true
  · refine PF_nil (PF_start (O := O9) Ct9_ok hmix ho9 Try.func9 c9 rfl Try.ntmps9 Try.results9 ?_)
    simp (maxSteps := 4000000) +contextual (disch := first | omega | exact qdb_ok (by kernel_rfl) | exact okb_ok (by kernel_rfl)) only [bw1,bw2,bw3,bw4,bw5,bw6,bw7,bc0,bc1,bc2,bc3,bc4,bc5,bc6,bc7,setPs,AV.owns,AV.datF,AV.frz,AV.cpy,ifV,isEqB,nilV,nilX,AV.isNilS,AV.isNoRows,wk,dclo,datOf,binIs,addF,AV.isPtr,idxV,AV.isSl,AV.isSlice,AV.rows,ps,pv,extV,extS,AV.outs,AV.outF,packD,AV.dl,fieldV,fieldS,AV.cells?,AV.upr,AV.menc,AV.one,D.one,Value.oneCell',tagOf,AV.isApp,strV,strS,bolV,bolS,slcV,AV.isSlD,asrtS,AV.dcells,D.cells?,stcV,stcS,leafOk,eqDs,eqD,packA,D.val?,↓reduceIte,reduceCtorEq,Nat.reduceAdd,Nat.reduceSub,Nat.reduceMul,List.reduceReplicate,Nat.reduceLeDiff,Nat.reduceLT,Nat.reduceBEq,Nat.reduceEqDiff,Int.reduceNeg,Int.reduceEq,Int.reduceLE,Int.reduceLT,tfb,ctz9,O9_14,O9_17,O9_26,O9_35,x9_11,x9_11_m1,x9_12,x9_12_m1,x9_13,x9_14,x9_14_m1,x9_17,x9_18,x9_18_m1,x9_26,x9_26_m1,x9_29,x9_29_m1,x9_31,x9_31_m1,c1, c2]
    try rfl
  have hl8 := great_w c2
  by_cases d3 : bs.length = 0
  · have d3' : (bs.length : Int) = 0 := by omega
    refine PF_nil (PF_start (O := O9) Ct9_ok hmix ho9 Try.func9 c9 rfl Try.ntmps9 Try.results9 ?_)
    simp (maxSteps := 4000000) +contextual (disch := first | omega | exact qdb_ok (by kernel_rfl) | exact okb_ok (by kernel_rfl)) only [bw1,bw2,bw3,bw4,bw5,bw6,bw7,bc0,bc1,bc2,bc3,bc4,bc5,bc6,bc7,setPs,AV.owns,AV.datF,AV.frz,AV.cpy,ifV,isEqB,nilV,nilX,AV.isNilS,AV.isNoRows,wk,dclo,datOf,binIs,addF,AV.isPtr,idxV,AV.isSl,AV.isSlice,AV.rows,ps,pv,extV,extS,AV.outs,AV.outF,packD,AV.dl,fieldV,fieldS,AV.cells?,AV.upr,AV.menc,AV.one,D.one,Value.oneCell',tagOf,AV.isApp,strV,strS,bolV,bolS,slcV,AV.isSlD,asrtS,AV.dcells,D.cells?,stcV,stcS,leafOk,eqDs,eqD,packA,D.val?,↓reduceIte,reduceCtorEq,Nat.reduceAdd,Nat.reduceSub,Nat.reduceMul,List.reduceReplicate,Nat.reduceLeDiff,Nat.reduceLT,Nat.reduceBEq,Nat.reduceEqDiff,Int.reduceNeg,Int.reduceEq,Int.reduceLE,Int.reduceLT,tfb,ctz9,O9_14,O9_17,O9_26,O9_35,x9_11,x9_11_m1,x9_12,x9_12_m1,x9_13,x9_14,x9_14_m1,x9_17,x9_18,x9_18_m1,x9_26,x9_26_m1,x9_29,x9_29_m1,x9_31,x9_31_m1,c1, c2, d3']
    try rfl
  have d3' : ¬ (bs.length : Int) = 0 := by omega
  have d3'' : ((bs.length : Int) == 0) = false := by simpa using d3'
  have hb1 : 1 ≤ bs.length := by omega
  have hp26 : l.length ≤ 1000 ∧ ∀ s ∈ l, ∀ x ∈ s.calls, i64 x.place := ⟨by omega, h0⟩
  have hp31 : (l.length ≤ 1000 ∧ (l.length ≤ 12 ∨ 40 < l.length)) ∧ (∀ s ∈ l, ∀ x ∈ s.calls, i64 x.place) ∧ i64 first := ⟨⟨by omega, .inl (by omega)⟩, h0, hf64⟩
  obtain ⟨O, hO⟩ : ∃ O, O = opG r l first := ⟨_, rfl⟩
  have hO' : opG r l first = O := hO.symm
  by_cases ce : (swG r l judge).2 = 0
  case neg =>
    have he : (swG r l judge).1 = [] := by
      unfold swG at ce ⊢
      split
      · rename_i c; rw [if_pos c] at ce
        split
        · rename_i c'; rw [if_pos c'] at ce; exact absurd rfl ce
        · rfl
      · rfl
    have ce' : ((swG r l judge).2 == 0) = false := by simpa using ce
    refine PF_nil (PF_start (O := O9) Ct9_ok hmix ho9 Try.func9 c9 rfl Try.ntmps9 Try.results9 ?_)
    simp (maxSteps := 4000000) +contextual (disch := first | omega | exact qdb_ok (by kernel_rfl) | exact okb_ok (by kernel_rfl)) only [bw1,bw2,bw3,bw4,bw5,bw6,bw7,bc0,bc1,bc2,bc3,bc4,bc5,bc6,bc7,setPs,AV.owns,AV.datF,AV.frz,AV.cpy,ifV,isEqB,nilV,nilX,AV.isNilS,AV.isNoRows,wk,dclo,datOf,binIs,addF,AV.isPtr,idxV,AV.isSl,AV.isSlice,AV.rows,ps,pv,extV,extS,AV.outs,AV.outF,packD,AV.dl,fieldV,fieldS,AV.cells?,AV.upr,AV.menc,AV.one,D.one,Value.oneCell',tagOf,AV.isApp,strV,strS,bolV,bolS,slcV,AV.isSlD,asrtS,AV.dcells,D.cells?,stcV,stcS,leafOk,eqDs,eqD,packA,D.val?,↓reduceIte,reduceCtorEq,Nat.reduceAdd,Nat.reduceSub,Nat.reduceMul,List.reduceReplicate,Nat.reduceLeDiff,Nat.reduceLT,Nat.reduceBEq,Nat.reduceEqDiff,Int.reduceNeg,Int.reduceEq,Int.reduceLE,Int.reduceLT,tfb,ctz9,O9_14,O9_17,O9_26,O9_35,x9_11,x9_11_m1,x9_12,x9_12_m1,x9_13,x9_14,x9_14_m1,x9_17,x9_18,x9_18_m1,x9_26,x9_26_m1,x9_29,x9_29_m1,x9_31,x9_31_m1,c1, c2, d3'', hO', ce, ce', he]
    exact ⟨hp26, hp31⟩
  have herr : errG r l = 0 ∧ inB judge 0 ((jud l).1 - 1) = true := by
    unfold swG at ce
    split at ce
    · rename_i c
      refine ⟨c, ?_⟩
      split at ce
      · rename_i c'; exact c'
      · simp at ce
    · rename_i c; exact absurd ce c
  obtain ⟨ck, hl40⟩ := err_ok herr.1
  obtain ⟨hj0, hj1⟩ := inB_iff.1 herr.2
  obtain ⟨j, rfl⟩ := Int.eq_ofNat_of_zero_le hj0
  have hjl : (j : Int) < (jud l).1 := by omega
  have hsw : swG r l (j : Int) = (swR r l j, 0) := by unfold swG; rw [if_pos herr.1, if_pos herr.2, Int.toNat_natCast]
  have hj2 : (jud l).2 = true := by
    cases hh : (jud l).2
    · have := (judN_b (l := l) l.length 0).2 hh
      have : (jud l).1 = 0 := this
      omega
    · rfl
  have hjn0 : ¬ ((j : Int) < 0) := by omega
  have hjge : ¬ ((jud l).1 ≤ (j : Int)) := by omega
  have hsl := swR_len (r := r) (l := l) (j := j)
  have x0 : bfN r l 0 = [] := rfl
  have y0 : bhN r l j bs 0 = [] := rfl
  have x1 := fun k => bfN_succ (r := r) (l := l) (k := k)
  have y1 := fun k => bhN_succ (r := r) (l := l) (j := j) (bs := bs) (k := k)
  have xl := fun k => bfN_len (r := r) (l := l) (k := k)
  have yl := fun k => bhN_len (r := r) (l := l) (j := j) (bs := bs) (k := k)
  refine PF_nil (PF_start (O := O9) Ct9_ok hmix ho9 Try.func9 c9 rfl Try.ntmps9 Try.results9 ?_)
  simp (maxSteps := 4000000) +contextual (disch := first | omega | exact qdb_ok (by kernel_rfl) | exact okb_ok (by kernel_rfl)) only [bw1,bw2,bw3,bw4,bw5,bw6,bw7,bc0,bc1,bc2,bc3,bc4,bc5,bc6,bc7,setPs,AV.owns,AV.datF,AV.frz,AV.cpy,ifV,isEqB,nilV,nilX,AV.isNilS,AV.isNoRows,wk,dclo,datOf,binIs,addF,AV.isPtr,idxV,AV.isSl,AV.isSlice,AV.rows,ps,pv,extV,extS,AV.outs,AV.outF,packD,AV.dl,fieldV,fieldS,AV.cells?,AV.upr,AV.menc,AV.one,D.one,Value.oneCell',tagOf,AV.isApp,strV,strS,bolV,bolS,slcV,AV.isSlD,asrtS,AV.dcells,D.cells?,stcV,stcS,leafOk,eqDs,eqD,packA,D.val?,↓reduceIte,reduceCtorEq,Nat.reduceAdd,Nat.reduceSub,Nat.reduceMul,List.reduceReplicate,Nat.reduceLeDiff,Nat.reduceLT,Nat.reduceBEq,Nat.reduceEqDiff,Int.reduceNeg,Int.reduceEq,Int.reduceLE,Int.reduceLT,tfb,ctz9,O9_14,O9_17,O9_26,O9_35,x9_11,x9_11_m1,x9_12,x9_12_m1,x9_13,x9_14,x9_14_m1,x9_17,x9_18,x9_18_m1,x9_26,x9_26_m1,x9_29,x9_29_m1,x9_31,x9_31_m1,c1, c2, d3'', hO', hsw, ck, hj2, hjn0, hjge, hsl, bne_self_eq_false]
  refine ⟨hp26, hp31, by omega, by omega, ?_⟩
  refine seed (m1 := mk _) (m2 := mk _) 15 123 40 4 (by decide) rfl rfl (by simp [Sto.mens, AV.mens, AV.men]) rfl ?_
  refine seed (m1 := mk _) (m2 := mk _) 16 127 40 4 (by decide) rfl rfl (by simp [Sto.mens, AV.mens, AV.men]) rfl ?_
  refine loop_u (O := O9) (tb := 0) Ct9_ok hmix (by kernel_rfl) (σ := Nat) (fun k => [(15, .own 123 40 4 ((bfN r l k).map Sco.c)), (16, .own 127 40 4 ((bhN r l j bs k).map Sco.c)), (91, .i k)]) (fun k => []) (fun k => k ≤ l.length) (fun k => l.length - k) (fun k => k + 1) 0 (by omega) ?_ ?_
  · simp (maxSteps := 4000000) +contextual (disch := first | omega | exact qdb_ok (by kernel_rfl) | exact okb_ok (by kernel_rfl)) only [bw1,bw2,bw3,bw4,bw5,bw6,bw7,bc0,bc1,bc2,bc3,bc4,bc5,bc6,bc7,setPs,AV.owns,AV.datF,AV.frz,AV.cpy,ifV,isEqB,nilV,nilX,AV.isNilS,AV.isNoRows,wk,dclo,datOf,binIs,addF,AV.isPtr,idxV,AV.isSl,AV.isSlice,AV.rows,ps,pv,extV,extS,AV.outs,AV.outF,packD,AV.dl,fieldV,fieldS,AV.cells?,AV.upr,AV.menc,AV.one,D.one,Value.oneCell',tagOf,AV.isApp,strV,strS,bolV,bolS,slcV,AV.isSlD,asrtS,AV.dcells,D.cells?,stcV,stcS,leafOk,eqDs,eqD,packA,D.val?,↓reduceIte,reduceCtorEq,Nat.reduceAdd,Nat.reduceSub,Nat.reduceMul,List.reduceReplicate,Nat.reduceLeDiff,Nat.reduceLT,Nat.reduceBEq,Nat.reduceEqDiff,Int.reduceNeg,Int.reduceEq,Int.reduceLE,Int.reduceLT,tfb,ctz9,O9_14,O9_17,O9_26,O9_35,x9_11,x9_11_m1,x9_12,x9_12_m1,x9_13,x9_14,x9_14_m1,x9_17,x9_18,x9_18_m1,x9_26,x9_26_m1,x9_29,x9_29_m1,x9_31,x9_31_m1,eq_self, x0, y0]
  intro k hk
  by_cases hlt : k < l.length
  · have hlt' : (k : Int) < l.length := by omega
    have hm : l.getD k default ∈ l := by rw [at_lt hlt]; exact List.getElem_mem _
    have hv := con_valid ck hm
    have vy2 : Vy (l.getD k default) (chS (l.getD k default) j bs (3 * k)) j := vy_ch hb1 hb2
    have o1 := vy_ok ck hm (vy_self hv hjl)
    have o2 := vy_ok ck hm vy2
    have w1 : progG r (l.getD k default) = (progR r (l.getD k default), 0) := by unfold progG; rw [if_pos o1]
    have w2 : progG r (chS (l.getD k default) j bs (3 * k)) = (progR r (chS (l.getD k default) j bs (3 * k)), 0) := by unfold progG; rw [if_pos o2]
    have i1 : ∀ x ∈ (l.getD k default).calls, i64 x.place := h0 _ hm
    have i2 : ∀ x ∈ (chS (l.getD k default) j bs (3 * k)).calls, i64 x.place := fun x hx => by
      have := (con_valid o2 (s := chS (l.getD k default) j bs (3 * k)) (by simp [one])).call x hx
      unfold i64; omega
    have hp18 : ((((l.getD k default).calls.length ≤ 1000 ∧ (l.getD k default).parts.length ≤ 1000) ∧ 3 * k ≤ 1000) ∧ 1 ≤ bs.length ∧ ∀ b ∈ bs, 0 ≤ b ∧ b ≤ 255) ∧ (∀ c ∈ (l.getD k default).calls, j < c.marks.length ∧ c.marks.length ≤ 1000) ∧ ∀ p ∈ (l.getD k default).parts, j < p.length ∧ p.length ≤ 1000 := by
      have := hv.calls
      have := hv.parts
      have := hv.jn
      exact ⟨⟨⟨⟨by omega, by omega⟩, by omega⟩, hb1, hb2⟩, fun x hx => by have := (hv.call x hx).2.2.2.1; omega, fun p hp => by have := (hv.part p hp).1; omega⟩
    have hx18 : ∀ {KK : AV → List AV → Sto → Prop} {QQ : Kt} {ii : At KK} {jj : At QQ} {ee : List AV} {ss : Sto}, xC Ct9 18 [.d (.agg [.sl 6 ((l.getD k default).calls.map Cal.c), .sl 1 ((l.getD k default).parts.map pc), .i (l.getD k default).over]), .d (.i (j : Int)), .d (.sl 1 (bs.map bc)), .d (.i (3 * (k : Int)))] KK QQ ii jj ee ss = KK (.d (.agg (chS (l.getD k default) j bs (3 * k)).c)) ee ss := by
      intro KK QQ ii jj ee ss
      have := x9_18 (s := l.getD k default) (j := j) (bs := bs) (z := 3 * k) (KK := KK) (QQ := QQ) (ii := ii) (jj := jj) (ee := ee) (ss := ss)
      rw [show ((3 * k : Nat) : Int) = 3 * (k : Int) by omega] at this
      exact this.trans (propext ⟨fun h => h.2, fun h => ⟨hp18, h⟩⟩)
    have hx17 : ∀ {KK : AV → List AV → Sto → Prop} {QQ : Kt} {ii : At KK} {jj : At QQ} {ee : List AV} {ss : Sto}, xC Ct9 17 [.d r.d, .d (.agg [.sl 6 ((l.getD k default).calls.map Cal.c), .sl 1 ((l.getD k default).parts.map pc), .i (l.getD k default).over])] KK QQ ii jj ee ss = KK (.d (.tup [.agg (progR r (l.getD k default)).c, .i 0])) ee ss := by
      intro KK QQ ii jj ee ss
      have := x9_17 (r := r) (s := l.getD k default) (KK := KK) (QQ := QQ) (ii := ii) (jj := jj) (ee := ee) (ss := ss)
      rw [w1] at this
      exact this.trans (propext ⟨fun h => h.2, fun h => ⟨i1, h⟩⟩)
    have hx17b : ∀ {KK : AV → List AV → Sto → Prop} {QQ : Kt} {ii : At KK} {jj : At QQ} {ee : List AV} {ss : Sto}, xC Ct9 17 [.d r.d, .d (.agg (chS (l.getD k default) j bs (3 * k)).c)] KK QQ ii jj ee ss = KK (.d (.tup [.agg (progR r (chS (l.getD k default) j bs (3 * k))).c, .i 0])) ee ss := by
      intro KK QQ ii jj ee ss
      have := x9_17 (r := r) (s := chS (l.getD k default) j bs (3 * k)) (KK := KK) (QQ := QQ) (ii := ii) (jj := jj) (ee := ee) (ss := ss)
      rw [w2] at this
      exact this.trans (propext ⟨fun h => h.2, fun h => ⟨i2, h⟩⟩)
    have hwr : IntKind.i64.wrap (3 * (k : Int)) = 3 * (k : Int) := wrap_ok (by omega) (by omega)
    have x1k := x1 k
    have y1k := y1 k
    have xlk := xl k
    have ylk := yl k
    simp (maxSteps := 4000000) +contextual (disch := first | omega | exact qdb_ok (by kernel_rfl) | exact okb_ok (by kernel_rfl)) only [bw1,bw2,bw3,bw4,bw5,bw6,bw7,bc0,bc1,bc2,bc3,bc4,bc5,bc6,bc7,setPs,AV.owns,AV.datF,AV.frz,AV.cpy,ifV,isEqB,nilV,nilX,AV.isNilS,AV.isNoRows,wk,dclo,datOf,binIs,addF,AV.isPtr,idxV,AV.isSl,AV.isSlice,AV.rows,ps,pv,extV,extS,AV.outs,AV.outF,packD,AV.dl,fieldV,fieldS,AV.cells?,AV.upr,AV.menc,AV.one,D.one,Value.oneCell',tagOf,AV.isApp,strV,strS,bolV,bolS,slcV,AV.isSlD,asrtS,AV.dcells,D.cells?,stcV,stcS,leafOk,eqDs,eqD,packA,D.val?,↓reduceIte,reduceCtorEq,Nat.reduceAdd,Nat.reduceSub,Nat.reduceMul,List.reduceReplicate,Nat.reduceLeDiff,Nat.reduceLT,Nat.reduceBEq,Nat.reduceEqDiff,Int.reduceNeg,Int.reduceEq,Int.reduceLE,Int.reduceLT,tfb,ctz9,O9_14,O9_17,O9_26,O9_35,x9_11,x9_11_m1,x9_12,x9_12_m1,x9_13,x9_14,x9_14_m1,x9_17,x9_18,x9_18_m1,x9_26,x9_26_m1,x9_29,x9_29_m1,x9_31,x9_31_m1,eq_self, hlt', hwr, hx17, hx18, hx17b, bne_self_eq_false, xlk, ylk, List.length_map]
    refine ⟨by omega, by omega, by omega, by omega, by omega, ⟨by omega, by omega⟩, ?_, ?_⟩
    · rw [x1k, List.map_append]; rfl
    · rw [y1k, List.map_append]; rfl
  have hlt' : ¬ (k : Int) < l.length := by omega
  obtain rfl : k = l.length := by omega
  have hXl := xl l.length
  have hYl := yl l.length
  have hX := fun i (hi : i < l.length) => swing_law ck hjl hXl (fun k hk => ⟨l.getD k default, vy_self (con_valid ck (by rw [at_lt hk]; exact List.getElem_mem _)) hjl, by unfold bfN; rw [getD_rng hk]⟩) hi
  have hY := fun i (hi : i < l.length) => swing_law ck hjl hYl (fun k hk => ⟨chS (l.getD k default) j bs (3 * k), vy_ch hb1 hb2, by unfold bhN; rw [getD_rng hk]⟩) hi
  generalize bfN r l l.length = X at *
  generalize bhN r l j bs l.length = Y at *
  have hrX : rkG X = (rkR X l.length, 0) := by unfold rkG; rw [if_neg (by omega), hXl]
  have hrY : rkG Y = (rkR Y l.length, 0) := by unfold rkG; rw [if_neg (by omega), hYl]
  have hrXl : (rkR X l.length).length = l.length := rkR_len
  have hrYl : (rkR Y l.length).length = l.length := rkR_len
  simp (maxSteps := 4000000) +contextual (disch := first | omega | exact qdb_ok (by kernel_rfl) | exact okb_ok (by kernel_rfl)) only [bw1,bw2,bw3,bw4,bw5,bw6,bw7,bc0,bc1,bc2,bc3,bc4,bc5,bc6,bc7,setPs,AV.owns,AV.datF,AV.frz,AV.cpy,ifV,isEqB,nilV,nilX,AV.isNilS,AV.isNoRows,wk,dclo,datOf,binIs,addF,AV.isPtr,idxV,AV.isSl,AV.isSlice,AV.rows,ps,pv,extV,extS,AV.outs,AV.outF,packD,AV.dl,fieldV,fieldS,AV.cells?,AV.upr,AV.menc,AV.one,D.one,Value.oneCell',tagOf,AV.isApp,strV,strS,bolV,bolS,slcV,AV.isSlD,asrtS,AV.dcells,D.cells?,stcV,stcS,leafOk,eqDs,eqD,packA,D.val?,↓reduceIte,reduceCtorEq,Nat.reduceAdd,Nat.reduceSub,Nat.reduceMul,List.reduceReplicate,Nat.reduceLeDiff,Nat.reduceLT,Nat.reduceBEq,Nat.reduceEqDiff,Int.reduceNeg,Int.reduceEq,Int.reduceLE,Int.reduceLT,tfb,ctz9,O9_14,O9_17,O9_26,O9_35,x9_11,x9_11_m1,x9_12,x9_12_m1,x9_13,x9_14,x9_14_m1,x9_17,x9_18,x9_18_m1,x9_26,x9_26_m1,x9_29,x9_29_m1,x9_31,x9_31_m1,eq_self, hlt', Int.lt_irrefl, hrX, hrY, hrXl, hrYl, hsl, bne_self_eq_false]
  refine ⟨by omega, by omega, ?_⟩
  refine loop_xu (O := O9) (tb := 0) Ct9_ok hmix (by kernel_rfl) (σ := Nat) (fun k => [(160, .i k)]) (fun k => []) (fun k => k ≤ l.length) (fun k => l.length - k) 0 (by omega) ?_ ?_
  · simp (maxSteps := 4000000) +contextual (disch := first | omega | exact qdb_ok (by kernel_rfl) | exact okb_ok (by kernel_rfl)) only [bw1,bw2,bw3,bw4,bw5,bw6,bw7,bc0,bc1,bc2,bc3,bc4,bc5,bc6,bc7,setPs,AV.owns,AV.datF,AV.frz,AV.cpy,ifV,isEqB,nilV,nilX,AV.isNilS,AV.isNoRows,wk,dclo,datOf,binIs,addF,AV.isPtr,idxV,AV.isSl,AV.isSlice,AV.rows,ps,pv,extV,extS,AV.outs,AV.outF,packD,AV.dl,fieldV,fieldS,AV.cells?,AV.upr,AV.menc,AV.one,D.one,Value.oneCell',tagOf,AV.isApp,strV,strS,bolV,bolS,slcV,AV.isSlD,asrtS,AV.dcells,D.cells?,stcV,stcS,leafOk,eqDs,eqD,packA,D.val?,↓reduceIte,reduceCtorEq,Nat.reduceAdd,Nat.reduceSub,Nat.reduceMul,List.reduceReplicate,Nat.reduceLeDiff,Nat.reduceLT,Nat.reduceBEq,Nat.reduceEqDiff,Int.reduceNeg,Int.reduceEq,Int.reduceLE,Int.reduceLT,tfb,ctz9,O9_14,O9_17,O9_26,O9_35,x9_11,x9_11_m1,x9_12,x9_12_m1,x9_13,x9_14,x9_14_m1,x9_17,x9_18,x9_18_m1,x9_26,x9_26_m1,x9_29,x9_29_m1,x9_31,x9_31_m1,eq_self]
  intro i hi
  by_cases hit : i < l.length
  case neg =>
    have hit' : ¬ (i : Int) < l.length := by omega
    obtain rfl : i = l.length := by omega
    simp (maxSteps := 4000000) +contextual (disch := first | omega | exact qdb_ok (by kernel_rfl) | exact okb_ok (by kernel_rfl)) only [bw1,bw2,bw3,bw4,bw5,bw6,bw7,bc0,bc1,bc2,bc3,bc4,bc5,bc6,bc7,setPs,AV.owns,AV.datF,AV.frz,AV.cpy,ifV,isEqB,nilV,nilX,AV.isNilS,AV.isNoRows,wk,dclo,datOf,binIs,addF,AV.isPtr,idxV,AV.isSl,AV.isSlice,AV.rows,ps,pv,extV,extS,AV.outs,AV.outF,packD,AV.dl,fieldV,fieldS,AV.cells?,AV.upr,AV.menc,AV.one,D.one,Value.oneCell',tagOf,AV.isApp,strV,strS,bolV,bolS,slcV,AV.isSlD,asrtS,AV.dcells,D.cells?,stcV,stcS,leafOk,eqDs,eqD,packA,D.val?,↓reduceIte,reduceCtorEq,Nat.reduceAdd,Nat.reduceSub,Nat.reduceMul,List.reduceReplicate,Nat.reduceLeDiff,Nat.reduceLT,Nat.reduceBEq,Nat.reduceEqDiff,Int.reduceNeg,Int.reduceEq,Int.reduceLE,Int.reduceLT,tfb,ctz9,O9_14,O9_17,O9_26,O9_35,x9_11,x9_11_m1,x9_12,x9_12_m1,x9_13,x9_14,x9_14_m1,x9_17,x9_18,x9_18_m1,x9_26,x9_26_m1,x9_29,x9_29_m1,x9_31,x9_31_m1,eq_self, Int.lt_irrefl, hsl]
  have hit' : (i : Int) < l.length := by omega
  obtain ⟨a1, a2⟩ := hX i hit
  obtain ⟨b1, b2⟩ := hY i hit
  obtain ⟨s1, s2⟩ := sw_hi (r := r) (j := j) hit
  have hrow : ((swR r l j).map Spn.c).getD i [] = Spn.c ((swR r l j).getD i default) := row_at (by rw [hsl]; exact hit)
  have hob : opB r l first i j = true → O.2 = 0 → (i : Int) ∈ O.1 := fun hb h2 => by
    have hm := op_mem hit hjl hb
    rw [hO]
    unfold opG
    rw [hO] at h2
    unfold opG at h2
    rw [if_pos herr.1] at h2 ⊢
    split at h2
    · rename_i hin; rw [if_pos hin]; exact hm
    · simp at h2
  have hob2 : opB r l first i j = inB first ((swR r l j).getD i default).lo (((swR r l j).getD i default).hi - 1) := rfl
  generalize (swR r l j).getD i default = S at *
  have rX : ((rkR X l.length).map ic).getD i [] = [.i ((rkR X l.length).getD i default)] := by
    rw [List.getD_eq_getElem?_getD, List.getElem?_map, List.getElem?_eq_getElem (by omega), at_lt (by omega)]; rfl
  have rY : ((rkR Y l.length).map ic).getD i [] = [.i ((rkR Y l.length).getD i default)] := by
    rw [List.getD_eq_getElem?_getD, List.getElem?_map, List.getElem?_eq_getElem (by omega), at_lt (by omega)]; rfl
  generalize (rkR X l.length).getD i default = x at *
  generalize (rkR Y l.length).getD i default = y at *
  have n1 : ¬ S.lo < 1 := by omega
  have n2 : ¬ x < S.lo := by omega
  have n3 : ¬ S.hi < x := by omega
  have n4 : ¬ y < S.lo := by omega
  have n5 : ¬ S.hi < y := by omega
  have n6 : ¬ (l.length : Int) < S.hi := by omega
  by_cases cf : O.2 = 0
  case neg =>
    have cf' : (O.2 == 0) = false := by simpa using cf
    simp (maxSteps := 4000000) +contextual (disch := first | omega | exact qdb_ok (by kernel_rfl) | exact okb_ok (by kernel_rfl)) only [bw1,bw2,bw3,bw4,bw5,bw6,bw7,bc0,bc1,bc2,bc3,bc4,bc5,bc6,bc7,setPs,AV.owns,AV.datF,AV.frz,AV.cpy,ifV,isEqB,nilV,nilX,AV.isNilS,AV.isNoRows,wk,dclo,datOf,binIs,addF,AV.isPtr,idxV,AV.isSl,AV.isSlice,AV.rows,ps,pv,extV,extS,AV.outs,AV.outF,packD,AV.dl,fieldV,fieldS,AV.cells?,AV.upr,AV.menc,AV.one,D.one,Value.oneCell',tagOf,AV.isApp,strV,strS,bolV,bolS,slcV,AV.isSlD,asrtS,AV.dcells,D.cells?,stcV,stcS,leafOk,eqDs,eqD,packA,D.val?,↓reduceIte,reduceCtorEq,Nat.reduceAdd,Nat.reduceSub,Nat.reduceMul,List.reduceReplicate,Nat.reduceLeDiff,Nat.reduceLT,Nat.reduceBEq,Nat.reduceEqDiff,Int.reduceNeg,Int.reduceEq,Int.reduceLE,Int.reduceLT,tfb,ctz9,O9_14,O9_17,O9_26,O9_35,x9_11,x9_11_m1,x9_12,x9_12_m1,x9_13,x9_14,x9_14_m1,x9_17,x9_18,x9_18_m1,x9_26,x9_26_m1,x9_29,x9_29_m1,x9_31,x9_31_m1,eq_self, hit', hsl, hrow, rX, rY, hrXl, hrYl, n1, n2, n3, n4, n5, n6, cf, cf', List.length_map]
    exact ⟨by omega, by omega, by omega, by omega, by omega, i + 1, ⟨by omega, by omega⟩, rfl⟩
  simp (maxSteps := 4000000) +contextual (disch := first | omega | exact qdb_ok (by kernel_rfl) | exact okb_ok (by kernel_rfl)) only [bw1,bw2,bw3,bw4,bw5,bw6,bw7,bc0,bc1,bc2,bc3,bc4,bc5,bc6,bc7,setPs,AV.owns,AV.datF,AV.frz,AV.cpy,ifV,isEqB,nilV,nilX,AV.isNilS,AV.isNoRows,wk,dclo,datOf,binIs,addF,AV.isPtr,idxV,AV.isSl,AV.isSlice,AV.rows,ps,pv,extV,extS,AV.outs,AV.outF,packD,AV.dl,fieldV,fieldS,AV.cells?,AV.upr,AV.menc,AV.one,D.one,Value.oneCell',tagOf,AV.isApp,strV,strS,bolV,bolS,slcV,AV.isSlD,asrtS,AV.dcells,D.cells?,stcV,stcS,leafOk,eqDs,eqD,packA,D.val?,↓reduceIte,reduceCtorEq,Nat.reduceAdd,Nat.reduceSub,Nat.reduceMul,List.reduceReplicate,Nat.reduceLeDiff,Nat.reduceLT,Nat.reduceBEq,Nat.reduceEqDiff,Int.reduceNeg,Int.reduceEq,Int.reduceLE,Int.reduceLT,tfb,ctz9,O9_14,O9_17,O9_26,O9_35,x9_11,x9_11_m1,x9_12,x9_12_m1,x9_13,x9_14,x9_14_m1,x9_17,x9_18,x9_18_m1,x9_26,x9_26_m1,x9_29,x9_29_m1,x9_31,x9_31_m1,eq_self, hit', hsl, hrow, rX, rY, hrXl, hrYl, n1, n2, n3, n4, n5, n6, cf, bne_self_eq_false, List.length_map]
  refine ⟨by omega, by omega, by omega, by omega, by omega, ?_⟩
  obtain ⟨B, hB⟩ : ∃ B : Nat → Bool, B = fun k => (O.1.take k).any fun z => decide (z = (i : Int)) := ⟨_, rfl⟩
  have b0 : B 0 = false := by rw [hB]; rfl
  have b1 : ∀ k, k < O.1.length → B (k + 1) = (B k || decide (O.1.getD k default = (i : Int))) := fun k hk => by
    rw [hB]; simp only
    rw [List.take_succ_eq_append_getElem hk, List.any_append, at_lt hk]; simp
  have bE : (i : Int) ∈ O.1 → B O.1.length = true := fun h => by
    rw [hB]; simp only
    rw [List.take_length, List.any_eq_true]
    exact ⟨_, h, by simp⟩
  refine loop_u (O := O9) (tb := 0) Ct9_ok hmix (by kernel_rfl) (σ := Nat) (fun k => [(29, .b (B k)), (31, .any), (215, .i k)]) (fun k => []) (fun k => k ≤ O.1.length) (fun k => O.1.length - k) (fun k => k + 1) 0 (by omega) ?_ ?_
  · simp (maxSteps := 4000000) +contextual (disch := first | omega | exact qdb_ok (by kernel_rfl) | exact okb_ok (by kernel_rfl)) only [bw1,bw2,bw3,bw4,bw5,bw6,bw7,bc0,bc1,bc2,bc3,bc4,bc5,bc6,bc7,setPs,AV.owns,AV.datF,AV.frz,AV.cpy,ifV,isEqB,nilV,nilX,AV.isNilS,AV.isNoRows,wk,dclo,datOf,binIs,addF,AV.isPtr,idxV,AV.isSl,AV.isSlice,AV.rows,ps,pv,extV,extS,AV.outs,AV.outF,packD,AV.dl,fieldV,fieldS,AV.cells?,AV.upr,AV.menc,AV.one,D.one,Value.oneCell',tagOf,AV.isApp,strV,strS,bolV,bolS,slcV,AV.isSlD,asrtS,AV.dcells,D.cells?,stcV,stcS,leafOk,eqDs,eqD,packA,D.val?,↓reduceIte,reduceCtorEq,Nat.reduceAdd,Nat.reduceSub,Nat.reduceMul,List.reduceReplicate,Nat.reduceLeDiff,Nat.reduceLT,Nat.reduceBEq,Nat.reduceEqDiff,Int.reduceNeg,Int.reduceEq,Int.reduceLE,Int.reduceLT,tfb,ctz9,O9_14,O9_17,O9_26,O9_35,x9_11,x9_11_m1,x9_12,x9_12_m1,x9_13,x9_14,x9_14_m1,x9_17,x9_18,x9_18_m1,x9_26,x9_26_m1,x9_29,x9_29_m1,x9_31,x9_31_m1,eq_self, b0]
  intro q hq
  have hOl : O.1.length ≤ 8 := by
    rw [hO]; unfold opG
    split
    · split
      · unfold opL
        rw [List.length_map]
        have := List.length_filter_le (fun (i : Nat) => opI r l first i (jud l).1.toNat) (List.range l.length)
        rw [List.length_range] at this
        omega
      · simp
    · simp
  by_cases hqt : q < O.1.length
  · have hqt' : (q : Int) < O.1.length := by omega
    have b1q := b1 q hqt
    cases hBq : B q
    · rw [hBq] at b1q
      by_cases hz : O.1.getD q default = (i : Int)
      · rw [decide_eq_true hz] at b1q
        simp (maxSteps := 4000000) +contextual (disch := first | omega | exact qdb_ok (by kernel_rfl) | exact okb_ok (by kernel_rfl)) only [bw1,bw2,bw3,bw4,bw5,bw6,bw7,bc0,bc1,bc2,bc3,bc4,bc5,bc6,bc7,setPs,AV.owns,AV.datF,AV.frz,AV.cpy,ifV,isEqB,nilV,nilX,AV.isNilS,AV.isNoRows,wk,dclo,datOf,binIs,addF,AV.isPtr,idxV,AV.isSl,AV.isSlice,AV.rows,ps,pv,extV,extS,AV.outs,AV.outF,packD,AV.dl,fieldV,fieldS,AV.cells?,AV.upr,AV.menc,AV.one,D.one,Value.oneCell',tagOf,AV.isApp,strV,strS,bolV,bolS,slcV,AV.isSlD,asrtS,AV.dcells,D.cells?,stcV,stcS,leafOk,eqDs,eqD,packA,D.val?,↓reduceIte,reduceCtorEq,Nat.reduceAdd,Nat.reduceSub,Nat.reduceMul,List.reduceReplicate,Nat.reduceLeDiff,Nat.reduceLT,Nat.reduceBEq,Nat.reduceEqDiff,Int.reduceNeg,Int.reduceEq,Int.reduceLE,Int.reduceLT,tfb,ctz9,O9_14,O9_17,O9_26,O9_35,x9_11,x9_11_m1,x9_12,x9_12_m1,x9_13,x9_14,x9_14_m1,x9_17,x9_18,x9_18_m1,x9_26,x9_26_m1,x9_29,x9_29_m1,x9_31,x9_31_m1,eq_self, hqt', hBq, hz, b1q]
        exact ⟨by omega, by omega, by omega⟩
      · rw [decide_eq_false hz] at b1q
        have hz' : (O.1.getD q default == (i : Int)) = false := by simpa using hz
        simp (maxSteps := 4000000) +contextual (disch := first | omega | exact qdb_ok (by kernel_rfl) | exact okb_ok (by kernel_rfl)) only [bw1,bw2,bw3,bw4,bw5,bw6,bw7,bc0,bc1,bc2,bc3,bc4,bc5,bc6,bc7,setPs,AV.owns,AV.datF,AV.frz,AV.cpy,ifV,isEqB,nilV,nilX,AV.isNilS,AV.isNoRows,wk,dclo,datOf,binIs,addF,AV.isPtr,idxV,AV.isSl,AV.isSlice,AV.rows,ps,pv,extV,extS,AV.outs,AV.outF,packD,AV.dl,fieldV,fieldS,AV.cells?,AV.upr,AV.menc,AV.one,D.one,Value.oneCell',tagOf,AV.isApp,strV,strS,bolV,bolS,slcV,AV.isSlD,asrtS,AV.dcells,D.cells?,stcV,stcS,leafOk,eqDs,eqD,packA,D.val?,↓reduceIte,reduceCtorEq,Nat.reduceAdd,Nat.reduceSub,Nat.reduceMul,List.reduceReplicate,Nat.reduceLeDiff,Nat.reduceLT,Nat.reduceBEq,Nat.reduceEqDiff,Int.reduceNeg,Int.reduceEq,Int.reduceLE,Int.reduceLT,tfb,ctz9,O9_14,O9_17,O9_26,O9_35,x9_11,x9_11_m1,x9_12,x9_12_m1,x9_13,x9_14,x9_14_m1,x9_17,x9_18,x9_18_m1,x9_26,x9_26_m1,x9_29,x9_29_m1,x9_31,x9_31_m1,eq_self, hqt', hBq, hz', b1q]
        exact ⟨by omega, by omega, by omega⟩
    · rw [hBq, Bool.true_or] at b1q
      simp (maxSteps := 4000000) +contextual (disch := first | omega | exact qdb_ok (by kernel_rfl) | exact okb_ok (by kernel_rfl)) only [bw1,bw2,bw3,bw4,bw5,bw6,bw7,bc0,bc1,bc2,bc3,bc4,bc5,bc6,bc7,setPs,AV.owns,AV.datF,AV.frz,AV.cpy,ifV,isEqB,nilV,nilX,AV.isNilS,AV.isNoRows,wk,dclo,datOf,binIs,addF,AV.isPtr,idxV,AV.isSl,AV.isSlice,AV.rows,ps,pv,extV,extS,AV.outs,AV.outF,packD,AV.dl,fieldV,fieldS,AV.cells?,AV.upr,AV.menc,AV.one,D.one,Value.oneCell',tagOf,AV.isApp,strV,strS,bolV,bolS,slcV,AV.isSlD,asrtS,AV.dcells,D.cells?,stcV,stcS,leafOk,eqDs,eqD,packA,D.val?,↓reduceIte,reduceCtorEq,Nat.reduceAdd,Nat.reduceSub,Nat.reduceMul,List.reduceReplicate,Nat.reduceLeDiff,Nat.reduceLT,Nat.reduceBEq,Nat.reduceEqDiff,Int.reduceNeg,Int.reduceEq,Int.reduceLE,Int.reduceLT,tfb,ctz9,O9_14,O9_17,O9_26,O9_35,x9_11,x9_11_m1,x9_12,x9_12_m1,x9_13,x9_14,x9_14_m1,x9_17,x9_18,x9_18_m1,x9_26,x9_26_m1,x9_29,x9_29_m1,x9_31,x9_31_m1,eq_self, hqt', hBq, b1q]
      exact ⟨by omega, by omega, by omega⟩
  have hqt' : ¬ (q : Int) < O.1.length := by omega
  obtain rfl : q = O.1.length := by omega
  have key : S.lo ≤ first → first < S.hi → B O.1.length = true := fun h1 h2 => bE (hob (by rw [hob2, inB_iff]; omega) cf)
  generalize B O.1.length = Z at *
  by_cases p1 : x ≤ first <;> by_cases p2 : y ≤ first <;> by_cases p3 : S.lo ≤ first <;> by_cases p4 : first < S.hi <;> cases hZ : Z
  all_goals first
    | omega
    | (exact absurd (key p3 p4) (by rw [hZ]; decide))
    | skip
  all_goals
    subst hZ
    simp (maxSteps := 4000000) +contextual (disch := first | omega | exact qdb_ok (by kernel_rfl) | exact okb_ok (by kernel_rfl)) only [bw1,bw2,bw3,bw4,bw5,bw6,bw7,bc0,bc1,bc2,bc3,bc4,bc5,bc6,bc7,setPs,AV.owns,AV.datF,AV.frz,AV.cpy,ifV,isEqB,nilV,nilX,AV.isNilS,AV.isNoRows,wk,dclo,datOf,binIs,addF,AV.isPtr,idxV,AV.isSl,AV.isSlice,AV.rows,ps,pv,extV,extS,AV.outs,AV.outF,packD,AV.dl,fieldV,fieldS,AV.cells?,AV.upr,AV.menc,AV.one,D.one,Value.oneCell',tagOf,AV.isApp,strV,strS,bolV,bolS,slcV,AV.isSlD,asrtS,AV.dcells,D.cells?,stcV,stcS,leafOk,eqDs,eqD,packA,D.val?,↓reduceIte,reduceCtorEq,Nat.reduceAdd,Nat.reduceSub,Nat.reduceMul,List.reduceReplicate,Nat.reduceLeDiff,Nat.reduceLT,Nat.reduceBEq,Nat.reduceEqDiff,Int.reduceNeg,Int.reduceEq,Int.reduceLE,Int.reduceLT,tfb,ctz9,O9_14,O9_17,O9_26,O9_35,x9_11,x9_11_m1,x9_12,x9_12_m1,x9_13,x9_14,x9_14_m1,x9_17,x9_18,x9_18_m1,x9_26,x9_26_m1,x9_29,x9_29_m1,x9_31,x9_31_m1,eq_self, hqt', Int.lt_irrefl, rX, rY, hrXl, hrYl, hit', p1, p2, p3, p4, List.length_map]
  all_goals exact ⟨by omega, by omega, i + 1, ⟨by omega, by omega⟩, by rw [cf], by rw [cf], by rw [cf], by rw [cf], rfl⟩
end Go.Proofs.Ytapglfcaghlpfaa
