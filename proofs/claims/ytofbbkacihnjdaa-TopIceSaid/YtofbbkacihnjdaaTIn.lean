/- A part of the proof that the last text ends: what functions of the program do, told by plain data. -/
import Derived.Test.YtofbbkacihnjdaaTIm
set_option linter.unusedVariables false
set_option linter.unusedSimpArgs false
namespace Go.Proofs.Ytofbbkacihnjdaa.Ic
open Go Go.E Go.Maps
set_option maxRecDepth 100000
set_option maxHeartbeats 16000000
theorem call33x {C : CT} {args e : List AV} {s : Sto} {K : AV → List AV → Sto → Prop} {Q : Kt} {i : At K} {j : At Q} (hC : ∀ {args K Q e s} {i : At K} {j : At Q}, xC C 33 args K Q i j e s = sp33 args K e s) (l : List Ev) (st : Rs) (n : Nat) (B : Int) (h1 : args = [.ref 32004 0, .d (.sl 5 (l.map (Ev.c n)))]) (h2 : st.z.length = n ∧ (1 ≤ n ∧ n ≤ 24) ∧ l.length ≤ 256 ∧ (∀ x ∈ l, x.ok) ∧ st.ok B ∧ B + 480000 * l.length ≤ 1000000000) (h3 : s.get 32004 = some st.c ∧ AV.stays TR [.ref 32004 0] e ∧ othL TR [.ref 32004 0] s)
    (hK : ∀ s' : Rs, ((pyR l st).2.2 = 0 → s' = (pyR l st).1) → K (.d (.tup [.i ((pyR l st).2.1 : Int), .i (pyR l st).2.2])) e (mer TR [(32004, s'.c)] s)) : xC C 33 args K Q i j e s := by
  rw [hC]; exact ⟨l, st, n, B, h1, h2, h3, hK⟩
def O35 : Nat → Sch := fun id => .done
theorem ho35 : Try.f35.body.map (okO O35) = some true := by kernel_rfl
def Cf35 : Nat → List AV → (AV → List AV → Sto → Prop) → Kt → List AV → Sto → Prop := fun f args K Q e s => match f with
  | _ => False
def Ct35 : CT := { f := Cf35, y := noYld, z := fun d => false }
theorem Ct35_ok : Ct35.ok Try.prog := ok_of_f (fun f args K Q e s h => by
  have h : Cf35 f args K Q e s := h
  unfold Cf35 at h; split at h
  · exact h.elim) (fun _ _ _ _ _ _ _ _ _ h => h)
theorem c35 : callable Try.prog 35 = true := by kernel_rfl
def O34 : Nat → Sch := fun id => .done
theorem ho34 : Try.f34.body.map (okO O34) = some true := by kernel_rfl
def Cf34 : Nat → List AV → (AV → List AV → Sto → Prop) → Kt → List AV → Sto → Prop := fun f args K Q e s => match f with
  | 35 => inlE Try.prog Ct35 O35 35000 35 args K Q e s
  | _ => False
def Ct34 : CT := { f := Cf34, y := noYld, z := fun d => false }
theorem Ct34_ok : Ct34.ok Try.prog := ok_of_f (fun f args K Q e s h => by
  have h : Cf34 f args K Q e s := h
  unfold Cf34 at h; split at h
  · exact inlE_ok Ct35_ok hmix ho35 h
  · exact h.elim) (fun _ _ _ _ _ _ _ _ _ h => h)
theorem z34_35 : type_of% (@xinl Try.prog Ct34 Ct35 O35 35000 35 _ _ _ _ rfl c35 Try.func35 rfl Try.ntmps35 Try.results35) := @xinl Try.prog Ct34 Ct35 O35 35000 35 _ _ _ _ rfl c35 Try.func35 rfl Try.ntmps35 Try.results35
theorem c34 : callable Try.prog 34 = true := by kernel_rfl
def O32 : Nat → Sch := fun id => .done
theorem ho32 : Try.f32.body.map (okO O32) = some true := by kernel_rfl
def Cf32 : Nat → List AV → (AV → List AV → Sto → Prop) → Kt → List AV → Sto → Prop := fun f args K Q e s => match f with
  | _ => False
def Ct32 : CT := { f := Cf32, y := noYld, z := fun d => false }
theorem ctz32 {d : Nat} : CT.z Ct32 d = (false) := id rfl
theorem Ct32_ok : Ct32.ok Try.prog := ok_of_f (fun f args K Q e s h => by
  have h : Cf32 f args K Q e s := h
  unfold Cf32 at h; split at h
  · exact h.elim) (fun _ _ _ _ _ _ _ _ _ h => h)
theorem c32 : callable Try.prog 32 = true := by kernel_rfl
theorem ix_end {least most : Int} {zs : List Zo} {i : Nat} (h : zs.length ≤ i) : ixN least most zs (zs.length - i) i = -1 := by
  rw [show zs.length - i = 0 by omega, ixN]
theorem ix_yes {least most : Int} {zs : List Zo} {i : Nat} (h : i < zs.length) (ho : outB least most (zs.getD i default) = true) : ixN least most zs (zs.length - i) i = i := by
  rw [show zs.length - i = (zs.length - (i + 1)) + 1 by omega, ixN, if_pos ho]
theorem ix_no {least most : Int} {zs : List Zo} {i : Nat} (h : i < zs.length) (ho : outB least most (zs.getD i default) = false) : ixN least most zs (zs.length - i) i = ixN least most zs (zs.length - (i + 1)) (i + 1) := by
  rw [show zs.length - i = (zs.length - (i + 1)) + 1 by omega, ixN, if_neg (by rw [ho]; decide)]
theorem rk_in {r : List Zo} (h : rkOk r = true) : (1 ≤ r.length ∧ r.length ≤ 24) ∧ (r0 r).ok 0 := by
  unfold rkOk at h
  rw [Bool.and_eq_true, inB_iff] at h
  refine ⟨by omega, fun z hz => ?_, ?_, ?_, ?_⟩
  · have := h.2
    simp only [Bool.not_eq_true', List.any_eq_false] at this
    have := this z hz
    unfold Zo.bad at this
    simp only [Bool.or_eq_true, Bool.not_eq_true', not_or, Bool.not_eq_false] at this
    exact ok_in this.1
  · exact ⟨by simp [r0], by simp [r0], by simp [r0]⟩
  · exact ⟨by simp [r0], by simp [r0], by simp [r0]⟩
  · exact ⟨by simp [r0], by simp [r0], by simp [r0]⟩
def O11 : Nat → Sch := fun id => .done
theorem ho11 : Try.f11.body.map (okO O11) = some true := by kernel_rfl
def Cf11 : Nat → List AV → (AV → List AV → Sto → Prop) → Kt → List AV → Sto → Prop := fun f args K Q e s => match f with
  | 19 => ent19 args K e s
  | 21 => ent21 args K e s
  | 22 => ent22 args K e s
  | 32 => inlE Try.prog Ct32 O32 32000 32 args K Q e s
  | 33 => sp33 args K e s
  | 34 => inlE Try.prog Ct34 O34 34000 34 args K Q e s
  | _ => False
def Ct11 : CT := { f := Cf11, y := noYld, z := fun d => false }
theorem Ct11_ok : Ct11.ok Try.prog := ok_of_f (fun f args K Q e s h => by
  have h : Cf11 f args K Q e s := h
  unfold Cf11 at h; split at h
  · exact ent19_ok h
  · exact ent21_ok h
  · exact ent22_ok h
  · exact inlE_ok Ct32_ok hmix ho32 h
  · exact sp33_ok h
  · exact inlE_ok Ct34_ok hmix ho34 h
  · exact h.elim) (fun _ _ _ _ _ _ _ _ _ h => h)
theorem x11_19 {r : List Zo} {KK : AV → List AV → Sto → Prop} {QQ : Kt} {ii : At KK} {jj : At QQ} {ee : List AV} {ss : Sto} : xC Ct11 19 [.d (.sl 4 (r.map Zo.c))] KK QQ ii jj ee ss = ((r.length ≤ 1000) ∧ KK (.d (.b (rkOk r))) ee ss) := eq19
theorem x11_21 {n : Int} {lo : Int} {hi : Int} {KK : AV → List AV → Sto → Prop} {QQ : Kt} {ii : At KK} {jj : At QQ} {ee : List AV} {ss : Sto} : xC Ct11 21 [.d (.i n), .d (.i lo), .d (.i hi)] KK QQ ii jj ee ss = (KK (.d (.b (inB n lo hi))) ee ss) := eq21
theorem x11_22 {least : Int} {most : Int} {KK : AV → List AV → Sto → Prop} {QQ : Kt} {ii : At KK} {jj : At QQ} {ee : List AV} {ss : Sto} : xC Ct11 22 [.d (.i least), .d (.i most)] KK QQ ii jj ee ss = (KK (.d (.b (inB most 0 20000 && inB least 0 most))) ee ss) := eq22
theorem z11_32 : type_of% (@xinl Try.prog Ct11 Ct32 O32 32000 32 _ _ _ _ rfl c32 Try.func32 rfl Try.ntmps32 Try.results32) := @xinl Try.prog Ct11 Ct32 O32 32000 32 _ _ _ _ rfl c32 Try.func32 rfl Try.ntmps32 Try.results32
theorem z11_34 : type_of% (@xinl Try.prog Ct11 Ct34 O34 34000 34 _ _ _ _ rfl c34 Try.func34 rfl Try.ntmps34 Try.results34) := @xinl Try.prog Ct11 Ct34 O34 34000 34 _ _ _ _ rfl c34 Try.func34 rfl Try.ntmps34 Try.results34
theorem c11 : callable Try.prog 11 = true := by kernel_rfl
theorem sumB {q m : Nat} (h : q + 480000 * m ≤ 1000000000) : (q : Int) + 480000 * (m : Int) ≤ 1000000000 := by omega
theorem mulS {m d : Nat} : ((480000 * m * (d + 1) : Nat) : Int) = ((480000 * m * d : Nat) : Int) + 480000 * (m : Int) := by
  rw [Nat.mul_succ]
  generalize 480000 * m * d = q
  omega
theorem take_up {r : List Zo} {k : Nat} (h : k < r.length) : (r.take k).map Zo.c ++ [Zo.c (r.getD k default)] = (r.take (k + 1)).map Zo.c := by
  rw [List.take_add_one, List.map_append, List.getElem?_eq_getElem h, at_lt h]; rfl
theorem pf11 {r : List Zo} {day : List Ev} {days : Nat} {least most : Int} (h : rkOk r = true ∧ ((1 ≤ days ∧ days ≤ 100) ∧ (inB most 0 20000 && inB least 0 most) = true) ∧ day.length ≤ 256 ∧ (∀ x ∈ day, x.ok) ∧ 480000 * day.length * days ≤ 1000000000) : PF Try.prog 11 [.sl 4 (r.map Zo.c), .sl 5 (day.map (Ev.c r.length)), .i (days : Int), .i least, .i most] (fun zz => zz = .ret (.tup [.i (kpR r day days least most).1, .i (kpR r day days least most).2.1, .i (kpR r day days least most).2.2])) := by
  obtain ⟨hrk, ⟨hdays, hbd⟩, hlen, hev, hprod⟩ := h
  obtain ⟨h24, hok0⟩ := rk_in hrk
  have hr1000 : r.length ≤ 1000 := by omega
  have hdin : inB (days : Int) 0 100 = true := inB_iff.2 (by omega)
  have hdl : ¬ (256 : Int) < day.length := by omega
  have hd1 : (0 : Int) < days := by omega
  refine PF_nil (PF_start (O := O11) Ct11_ok hmix ho11 Try.func11 c11 rfl Try.ntmps11 Try.results11 ?_)
  simp (maxSteps := 4000000) +contextual (disch := first | exact lit_lt rfl | omega | exact qdb_ok (by kernel_rfl) | exact okb_ok (by kernel_rfl)) only [bw1,bw2,bw3,bw4,bw5,bw6,bw7,bc0,bc1,bc2,bc3,bc4,bc5,bc6,binIs,AV.isSlice,AV.rows,AV.cells?,Value.oneCell',↓reduceIte,reduceCtorEq,Nat.reduceAdd,Nat.reduceSub,List.reduceReplicate,Nat.reduceLeDiff,Nat.reduceLT,Nat.reduceBEq,Nat.reduceEqDiff,tfb,x11_19,x11_21,x11_22,z11_32,hrk, hr1000, hdin, hbd, hdl, hd1]
  refine seedS (m1 := mk _) (m2 := mk _) 32004 0 32021 82 4 _ (by decide) (by decide) rfl rfl (by simp [AV.mens, AV.men]) (by simp [Sto.mens, AV.mens, AV.men]) rfl ?_
  refine loop_xu (O := O32) (tb := 32000) Ct32_ok hmix (by kernel_rfl) (σ := Nat) (fun k => [(8, .i k), (5, .any)]) (fun k => [(32004, (⟨r.take k, ⟨0, 0⟩, ⟨0, 0⟩, ⟨0, 0⟩⟩ : Rs).c)]) (fun k => k ≤ r.length) (fun k => r.length - k) 0 (Nat.zero_le _) ?_ ?_
  · simp (maxSteps := 4000000) +contextual (disch := first | exact lit_lt rfl | omega | exact qdb_ok (by kernel_rfl) | exact okb_ok (by kernel_rfl)) only [bw4,bw5,bw6,bc0,bc3,bc4,bc5,bc6,AV.isNilS,AV.isNoRows,wk,↓reduceIte,reduceCtorEq,Nat.reduceEqDiff,eq_self]
  intro k hk
  by_cases hlt : k < r.length
  · have hlt' : (k : Int) < r.length := by omega
    have hzr : (r.map Zo.c).getD k [] = Zo.c (r.getD k default) := Go.E.row_at hlt
    have htu := take_up hlt
    have htl : (r.take k).length = k := by rw [List.length_take]; omega
    simp (maxSteps := 4000000) +contextual (disch := first | exact lit_lt rfl | omega | exact qdb_ok (by kernel_rfl) | exact okb_ok (by kernel_rfl)) only [bw1,bw2,bw4,bw5,bw6,bw7,bc0,bc1,bc2,bc3,bc4,bc5,bc6,AV.isNilS,AV.isNoRows,wk,binIs,addF,AV.isPtr,idxV,AV.isSl,AV.rows,ps,pv,AV.dl,AV.cells?,AV.menc,AV.one,D.one,Value.oneCell',tagOf,AV.isApp,AV.dcells,D.cells?,↓reduceIte,reduceCtorEq,Nat.reduceAdd,Nat.reduceMul,List.reduceReplicate,Nat.reduceLeDiff,Nat.reduceLT,Nat.reduceBEq,Nat.reduceEqDiff,tfb,ctz32,eq_self, hlt', hzr, htu, htl]
    exact ⟨by omega, by omega, by omega, k + 1, ⟨by omega, by omega⟩, rfl, rfl⟩
  have hlt' : ¬ (k : Int) < r.length := by omega
  have hkr : k = r.length := by omega
  have htk : r.take k = r := by rw [hkr, List.take_length]
  simp (maxSteps := 4000000) +contextual (disch := first | exact lit_lt rfl | omega | exact qdb_ok (by kernel_rfl) | exact okb_ok (by kernel_rfl)) only [bw1,bw2,bw3,bw5,bw6,bw7,bc0,bc1,bc2,bc3,bc4,bc5,bc6,binIs,packA,↓reduceIte,reduceCtorEq,Nat.reduceAdd,Nat.reduceEqDiff,tfb,eq_self, hlt', htk]
  have hK0 : kpN day least most days 0 (r0 r) = kpR r day days least most := rfl
  refine loop_xu (O := O11) (tb := 0) Ct11_ok hmix (by kernel_rfl) (σ := Nat × Rs) (fun y => [(43, .i y.1), (14, .any), (15, .any), (16, .any), (17, .any)]) (fun y => [(32004, y.2.c)]) (fun y => y.1 ≤ days ∧ y.2.z.length = r.length ∧ y.2.ok ((480000 * day.length * y.1 : Nat) : Int) ∧ kpN day least most (days - y.1) y.1 y.2 = kpR r day days least most) (fun y => days - y.1) (0, r0 r) ⟨Nat.zero_le _, rfl, by simpa using hok0, hK0⟩ ?_ ?_
  · simp (maxSteps := 4000000) +contextual (disch := first | exact lit_lt rfl | omega | exact qdb_ok (by kernel_rfl) | exact okb_ok (by kernel_rfl)) only [bw4,bw5,bw6,bc0,bc3,bc5,bc6,AV.isNilS,AV.isNoRows,wk,↓reduceIte,reduceCtorEq,Nat.reduceEqDiff,eq_self, r0]
  rintro ⟨d, s1⟩ ⟨hd, hn1, hok, hw⟩
  dsimp only at hd hn1 hok hw ⊢
  by_cases hdt : d < days
  case neg =>
    have hdt' : ¬ (d : Int) < days := by omega
    have hdn : d = days := by omega
    rw [hdn, Nat.sub_self, kpN] at hw
    simp (maxSteps := 4000000) +contextual (disch := first | exact lit_lt rfl | omega | exact qdb_ok (by kernel_rfl) | exact okb_ok (by kernel_rfl)) only [bw1,bw2,bw3,bw5,bw6,bw7,bc0,bc1,bc2,bc3,bc4,bc5,bc6,bc7,binIs,AV.outs,AV.outF,packD,↓reduceIte,reduceCtorEq,Nat.reduceEqDiff,tfb,eq_self, hdt']
    rw [← hw]
    exact ⟨rfl, rfl, rfl⟩
  have hdt' : (d : Int) < days := by omega
  have hprod2 : 480000 * day.length * (d + 1) ≤ 1000000000 := Nat.le_trans (Nat.mul_le_mul_left _ (by omega)) hprod
  rw [Nat.mul_succ] at hprod2
  simp (maxSteps := 4000000) +contextual (disch := first | exact lit_lt rfl | omega | exact qdb_ok (by kernel_rfl) | exact okb_ok (by kernel_rfl)) only [bw1,bw2,bw5,bw6,bw7,bc0,bc1,bc3,bc4,bc5,bc6,binIs,↓reduceIte,reduceCtorEq,Nat.reduceEqDiff,tfb,eq_self, hdt']
  refine call33x (C := Ct11) (i := mk _) (j := mk _) rfl day s1 r.length _ rfl ⟨hn1, h24, hlen, hev, hok, sumB hprod2⟩ ⟨rfl, by simp [AV.stays, AV.stay], by simp [AV.stays, AV.stay, othL]⟩ fun s' hs' => ?_
  by_cases he : (pyR day s1).2.2 = 0
  case neg =>
    have hw2 : kpR r day days least most = (0, 0, (pyR day s1).2.2) := by
      rw [← hw, show days - d = (days - (d + 1)) + 1 by omega, kpN, if_neg he]
    simp (maxSteps := 4000000) +contextual (disch := first | exact lit_lt rfl | omega | exact qdb_ok (by kernel_rfl) | exact okb_ok (by kernel_rfl)) only [bw1,bw2,bw3,bw5,bw6,bc1,bc2,bc3,bc4,bc5,bc6,bc7,binIs,extV,extS,AV.outs,AV.outF,packD,↓reduceIte,Nat.reduceAdd,Nat.reduceLT,Nat.reduceBEq,tfb,eq_self, he, mer, List.contains_cons, List.contains_nil]
    rw [hw2]
    exact ⟨rfl, rfl, rfl⟩
  have hs1 := hs' he
  subst hs1
  obtain ⟨hpo, hpz⟩ := py_ok hev (by omega) hn1 hok
  have hpo := hpo he
  obtain ⟨p, hp⟩ : ∃ p, (pyR day s1).1 = p := ⟨_, rfl⟩
  rw [hp] at hpo hpz
  have hpl : (p.z.length : Int) = r.length := by omega
  simp (maxSteps := 4000000) +contextual (disch := first | exact lit_lt rfl | omega | exact qdb_ok (by kernel_rfl) | exact okb_ok (by kernel_rfl)) only [bw1,bw2,bw3,bw4,bw5,bw6,bc0,bc1,bc2,bc3,bc4,bc5,bc6,binIs,addF,AV.isPtr,AV.isSlice,AV.rows,extV,extS,AV.dl,↓reduceIte,reduceCtorEq,Nat.reduceAdd,Nat.reduceSub,List.reduceReplicate,Nat.reduceLeDiff,Nat.reduceLT,Nat.reduceBEq,Nat.reduceEqDiff,Int.reduceNeg,tfb,z11_34,eq_self, he, mer, List.contains_cons, List.contains_nil, hp]
  rw [show days - d = (days - (d + 1)) + 1 by omega, kpN, if_pos he, hp] at hw
  refine loop_xu (O := O34) (tb := 34000) Ct34_ok hmix (by kernel_rfl) (σ := Nat) (fun j => [(8, .i j), (5, .any)]) (fun _ => []) (fun j => j ≤ p.z.length ∧ ixN least most p.z (p.z.length - j) j = ixR least most p.z) (fun j => p.z.length - j) 0 ⟨Nat.zero_le _, rfl⟩ ?_ ?_
  · simp (maxSteps := 4000000) +contextual (disch := first | exact lit_lt rfl | omega | exact qdb_ok (by kernel_rfl) | exact okb_ok (by kernel_rfl)) only [bw4,bw5,bw6,bc0,bc3,bc5,bc6,AV.isNilS,AV.isNoRows,wk,↓reduceIte,reduceCtorEq,Nat.reduceEqDiff,eq_self]
  intro j ⟨hj, hji⟩
  by_cases hjt : j < p.z.length
  case neg =>
    have hjt' : ¬ (j : Int) < p.z.length := by omega
    rw [ix_end (by omega)] at hji
    rw [← hji, if_neg (by decide)] at hw
    simp (maxSteps := 4000000) +contextual (disch := first | exact lit_lt rfl | omega | exact qdb_ok (by kernel_rfl) | exact okb_ok (by kernel_rfl)) only [bw1,bw2,bw3,bw5,bw6,bw7,bc0,bc1,bc2,bc3,bc4,bc5,bc6,AV.isNilS,AV.isNoRows,wk,binIs,packA,↓reduceIte,reduceCtorEq,Nat.reduceAdd,Nat.reduceEqDiff,Int.reduceNeg,Int.reduceLE,tfb,eq_self, hjt']
    exact ⟨(d + 1, p), ⟨⟨by dsimp only; omega, hpz, by dsimp only; rw [mulS]; exact hpo, hw⟩, by dsimp only; omega⟩, rfl, rfl, rfl, rfl, rfl, rfl, rfl, rfl⟩
  have hjt' : (j : Int) < p.z.length := by omega
  have hj0 : (0 : Int) ≤ j := by omega
  have hzr : (p.z.map Zo.c).getD j [] = Zo.c (p.z.getD j default) := Go.E.row_at hjt
  by_cases c1 : (p.z.getD j default).ice.lo < least
  · have ho : outB least most (p.z.getD j default) = true := by unfold outB; rw [decide_eq_true c1]; rfl
    rw [ix_yes hjt ho] at hji
    rw [← hji, if_pos hj0] at hw
    simp (maxSteps := 4000000) +contextual (disch := first | exact lit_lt rfl | omega | exact qdb_ok (by kernel_rfl) | exact okb_ok (by kernel_rfl)) only [bw1,bw2,bw3,bw4,bw5,bw6,bw7,bc0,bc1,bc2,bc3,bc4,bc5,bc6,bc7,binIs,addF,AV.isPtr,idxV,AV.isSl,AV.rows,ps,pv,AV.outs,AV.outF,packD,AV.cells?,packA,↓reduceIte,reduceCtorEq,Nat.reduceAdd,Nat.reduceSub,List.reduceReplicate,Nat.reduceLeDiff,Nat.reduceLT,Nat.reduceBEq,Nat.reduceEqDiff,Int.reduceNeg,tfb,z34_35,eq_self, hjt', hzr, c1, hj0]
    rw [← hw]
    exact ⟨rfl, rfl, rfl⟩
  by_cases c2 : most < (p.z.getD j default).ice.hi
  · have ho : outB least most (p.z.getD j default) = true := by unfold outB; rw [decide_eq_true c2, Bool.or_true]
    rw [ix_yes hjt ho] at hji
    rw [← hji, if_pos hj0] at hw
    simp (maxSteps := 4000000) +contextual (disch := first | exact lit_lt rfl | omega | exact qdb_ok (by kernel_rfl) | exact okb_ok (by kernel_rfl)) only [bw1,bw2,bw3,bw4,bw5,bw6,bw7,bc0,bc1,bc2,bc3,bc4,bc5,bc6,bc7,binIs,addF,AV.isPtr,idxV,AV.isSl,AV.rows,ps,pv,AV.outs,AV.outF,packD,AV.cells?,packA,↓reduceIte,reduceCtorEq,Nat.reduceAdd,Nat.reduceSub,List.reduceReplicate,Nat.reduceLeDiff,Nat.reduceLT,Nat.reduceBEq,Nat.reduceEqDiff,Int.reduceNeg,tfb,z34_35,eq_self, hjt', hzr, c1, c2, hj0]
    rw [← hw]
    exact ⟨rfl, rfl, rfl⟩
  have ho : outB least most (p.z.getD j default) = false := by unfold outB; rw [decide_eq_false c1, decide_eq_false c2]; rfl
  rw [ix_no hjt ho] at hji
  simp (maxSteps := 4000000) +contextual (disch := first | exact lit_lt rfl | omega | exact qdb_ok (by kernel_rfl) | exact okb_ok (by kernel_rfl)) only [bw1,bw2,bw3,bw4,bw5,bw6,bw7,bc0,bc1,bc2,bc3,bc4,bc5,bc6,AV.isNilS,AV.isNoRows,wk,binIs,addF,AV.isPtr,idxV,AV.isSl,AV.rows,ps,pv,AV.cells?,packA,↓reduceIte,reduceCtorEq,Nat.reduceAdd,Nat.reduceSub,List.reduceReplicate,Nat.reduceLeDiff,Nat.reduceLT,Nat.reduceBEq,Nat.reduceEqDiff,Int.reduceNeg,tfb,z34_35,eq_self, hjt', hzr, c1, c2, hj0]
  exact ⟨j + 1, ⟨⟨by omega, hji⟩, by omega⟩, rfl⟩
end Go.Proofs.Ytofbbkacihnjdaa.Ic
