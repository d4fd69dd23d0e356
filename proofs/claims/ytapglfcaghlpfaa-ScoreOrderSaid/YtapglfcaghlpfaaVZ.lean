/- A part of the proof that the last text ends: what functions of the program do, told by plain data. -/
import Derived.Test.YtapglfcaghlpfaaVY
set_option linter.unusedVariables false
set_option linter.unusedSimpArgs false
namespace Go.Proofs.Ytapglfcaghlpfaa
open Go Go.E Go.Maps
set_option maxRecDepth 100000
set_option maxHeartbeats 16000000
/-! ### ScoreOrder -/
theorem prog_b {r : Rul} {s : Ska} {n : Int} (hv : Valid r s n) : (∀ k, k ≤ s.calls.length → -16000000000 ≤ elR r s k ∧ elR r s k ≤ 16000000000) ∧ (-500000000 ≤ (progR r s).parts ∧ (progR r s).parts ≤ 500000000) ∧ 0 ≤ (progR r s).off ∧ (progR r s).off ≤ 10300400 := by
  have hcl := hv.calls
  have hpl := hv.parts
  have hov := hv.over
  have eb : ∀ k, k ≤ s.calls.length → (-1000000000 * (k : Int) ≤ elR r s k ∧ elR r s k ≤ 1000000000 * k) ∧ flR s k ≤ k := fun k => by
    induction k with
    | zero => intro _; exact ⟨⟨by simp [elR], by simp [elR]⟩, Nat.le_refl _⟩
    | succ k ih =>
      intro hk
      have := ih (by omega)
      have h2 := valR_b hv (i := k) (by omega)
      unfold elR flR
      refine ⟨by omega, ?_⟩
      split <;> omega
  have pb : ∀ k, k ≤ s.parts.length → -100000000 * (k : Int) ≤ paR r s k ∧ paR r s k ≤ 100000000 * k := fun k => by
    induction k with
    | zero => intro _; exact ⟨by simp [paR], by simp [paR]⟩
    | succ k ih =>
      intro hk
      have := ih (by omega)
      have h2 := (paV_q hv (i := k) (by omega)).2.2.2
      unfold paR; omega
  refine ⟨fun k hk => by have := (eb k hk).1; omega, ?_, ?_⟩
  · have := pb s.parts.length (Nat.le_refl _)
    unfold progR; simp only; omega
  · have := (eb s.calls.length (Nat.le_refl _)).2
    unfold progR; simp only
    exact off_b hov.1 (by omega) (by omega)
theorem great_no {s : Ska} (h : ¬ great (one s) 1 = true) : s.calls.length ≤ 24 ∧ s.parts.length ≤ 12 ∧ (∀ c ∈ s.calls, c.marks.length ≤ 20) ∧ ∀ p ∈ s.parts, p.length ≤ 20 := by
  unfold great big one at h
  simp only [List.any_cons, List.any_nil, Bool.or_eq_true, decide_eq_true_eq, not_or, Bool.or_false, List.any_eq_true, not_exists, not_and] at h
  obtain ⟨_, ⟨⟨a, b⟩, c⟩, d⟩ := h
  exact ⟨by omega, by omega, fun x hx => by have := c x hx; omega, fun x hx => by have := d x hx; omega⟩
section
variable {r : Rul} {s : Ska} {t j : Nat} {back : Bool}
theorem os_i64 (h : ∀ x ∈ s.calls, i64 x.place) : ∀ x ∈ (ordS s t j back).calls, i64 x.place := fun x hx => by
  unfold ordS at hx
  simp only at hx
  obtain ⟨y, hy, rfl⟩ := List.mem_map.1 hx
  exact h y (ord_perm.mem_iff.1 hy)
theorem os_prog : progG r (ordS s t j back) = progG r s := by
  unfold progG
  rw [os_ok]
  split
  · rename_i h; rw [prog_turn (con_valid h (s := s) (by simp [one]))]
  · rfl
theorem os_vals : valsG r (ordS s t j back) = (if conOk r (one s) = true then ordN (valsG r s).1 t back s.calls.length else [], (valsG r s).2) := by
  unfold valsG
  rw [os_ok]
  split
  · rename_i h; rw [os_len, vals_turn (con_valid h (s := s) (by simp [one]))]
  · rfl
end
def O6 : Nat → Sch := fun id => if id = 23 then .one 0 (.one 2 (.one 3 (.one 4 (.one 5 (.one 6 (.one 7 (.one 8 (.one 9 (.one 10 (.one 11 (.one 12 (.one 13 (.one 14 (.one 15 (.alt (.one 1 (.one 16 (.one 17 (.one 18 (.one 19 (.one 20 (.done))))))) (.one 16 (.alt (.one 1 (.one 17 (.one 18 (.one 19 (.one 20 (.done)))))) (.one 17 (.one 1 (.one 18 (.one 19 (.one 20 (.done))))))))))))))))))))))) else .done
theorem O6_23 : O6 23 = .one 0 (.one 2 (.one 3 (.one 4 (.one 5 (.one 6 (.one 7 (.one 8 (.one 9 (.one 10 (.one 11 (.one 12 (.one 13 (.one 14 (.one 15 (.alt (.one 1 (.one 16 (.one 17 (.one 18 (.one 19 (.one 20 (.done))))))) (.one 16 (.alt (.one 1 (.one 17 (.one 18 (.one 19 (.one 20 (.done)))))) (.one 17 (.one 1 (.one 18 (.one 19 (.one 20 (.done))))))))))))))))))))))) := rfl
theorem ho6 : Try.f6.body.map (okO O6) = some true := by kernel_rfl
def Cf6 : Nat → List AV → (AV → List AV → Sto → Prop) → Kt → List AV → Sto → Prop := fun f args K Q e s => match f with
  | 11 => ent11 args K e s
  | 13 => ent13 args K e s
  | 17 => ent17 args K e s
  | 22 => ent22 args K e s
  | 24 => ent24 args K e s
  | 25 => ent25 args K e s
  | _ => False
def Ct6 : CT := { f := Cf6, y := noYld, z := fun d => false }
theorem ctz6 {d : Nat} : CT.z Ct6 d = (false) := id rfl
theorem Ct6_ok : Ct6.ok Try.prog := ok_of_f (fun f args K Q e s h => by
  have h : Cf6 f args K Q e s := h
  unfold Cf6 at h; split at h
  · exact ent11_ok h
  · exact ent13_ok h
  · exact ent17_ok h
  · exact ent22_ok h
  · exact ent24_ok h
  · exact ent25_ok h
  · exact h.elim) (fun _ _ _ _ _ _ _ _ _ h => h)
theorem x6_11 {l : List Ska} {most : Int} {KK : AV → List AV → Sto → Prop} {QQ : Kt} {ii : At KK} {jj : At QQ} {ee : List AV} {ss : Sto} : xC Ct6 11 [.d (.sl 3 (l.map Ska.c)), .d (.i most)] KK QQ ii jj ee ss = ((0 ≤ most ∧ most ≤ 1000) ∧ KK (.d (.b (great l most))) ee ss) := eq11
theorem x6_11_m1 {l : List Ska} {most : Int} {g1 el1 : Nat} {KK : AV → List AV → Sto → Prop} {QQ : Kt} {ii : At KK} {jj : At QQ} {ee : List AV} {ss : Sto} : xC Ct6 11 [.own g1 el1 3 (l.map Ska.c), .d (.i most)] KK QQ ii jj ee ss = ((0 ≤ most ∧ most ≤ 1000) ∧ (.b (great l most) : D).flat = true ∧ KK (.d (.b (great l most))) ee ss) := eqo11
theorem x6_13  {KK : AV → List AV → Sto → Prop} {QQ : Kt} {ii : At KK} {jj : At QQ} {ee : List AV} {ss : Sto} : xC Ct6 13 [] KK QQ ii jj ee ss = (KK (.d (.b true)) ee ss) := eq13
theorem x6_17 {r : Rul} {s : Ska} {KK : AV → List AV → Sto → Prop} {QQ : Kt} {ii : At KK} {jj : At QQ} {ee : List AV} {ss : Sto} : xC Ct6 17 [.d (r.d), .d (.agg s.c)] KK QQ ii jj ee ss = ((∀ x ∈ s.calls, i64 x.place) ∧ KK (.d (.tup [.agg (progG r s).1.c, .i (progG r s).2])) ee ss) := eq17
theorem x6_22 {r : Rul} {s : Ska} {KK : AV → List AV → Sto → Prop} {QQ : Kt} {ii : At KK} {jj : At QQ} {ee : List AV} {ss : Sto} : xC Ct6 22 [.d (r.d), .d (.agg s.c)] KK QQ ii jj ee ss = ((∀ x ∈ s.calls, i64 x.place) ∧ KK (.d (.tup [.sl 1 ((valsG r s).1.map ic), .i (valsG r s).2])) ee ss) := eq22
theorem x6_24 {a : List Int} {b : List Int} {KK : AV → List AV → Sto → Prop} {QQ : Kt} {ii : At KK} {jj : At QQ} {ee : List AV} {ss : Sto} : xC Ct6 24 [.d (.sl 1 (a.map ic)), .d (.sl 1 (b.map ic))] KK QQ ii jj ee ss = ((a.length ≤ 1000000) ∧ KK (.d (.b (decide (a = b)))) ee ss) := eq24
theorem x6_24_m1 {a : List Int} {b : List Int} {g1 el1 : Nat} {KK : AV → List AV → Sto → Prop} {QQ : Kt} {ii : At KK} {jj : At QQ} {ee : List AV} {ss : Sto} : xC Ct6 24 [.own g1 el1 1 (a.map ic), .d (.sl 1 (b.map ic))] KK QQ ii jj ee ss = ((a.length ≤ 1000000) ∧ (.b (decide (a = b)) : D).flat = true ∧ KK (.d (.b (decide (a = b)))) ee ss) := by
  show ent24 _ _ _ _ = _
  unfold ent24; rw [ent_iff (a, b) (by intro b h; simpa [Prod.ext_iff, and_assoc, Int.ofNat_inj, ints_inj, cals_inj, pcs_inj, skas_inj, scos_inj, ska_inj, rul_inj, sco_inj, cal_inj, ods_inj, od_inj, spns_inj, bcs_inj] using h) rfl]; simp
theorem x6_24_m2 {a : List Int} {b : List Int} {g1 el1 : Nat} {KK : AV → List AV → Sto → Prop} {QQ : Kt} {ii : At KK} {jj : At QQ} {ee : List AV} {ss : Sto} : xC Ct6 24 [.d (.sl 1 (a.map ic)), .own g1 el1 1 (b.map ic)] KK QQ ii jj ee ss = ((a.length ≤ 1000000) ∧ (.b (decide (a = b)) : D).flat = true ∧ KK (.d (.b (decide (a = b)))) ee ss) := by
  show ent24 _ _ _ _ = _
  unfold ent24; rw [ent_iff (a, b) (by intro b h; simpa [Prod.ext_iff, and_assoc, Int.ofNat_inj, ints_inj, cals_inj, pcs_inj, skas_inj, scos_inj, ska_inj, rul_inj, sco_inj, cal_inj, ods_inj, od_inj, spns_inj, bcs_inj] using h) rfl]; simp
theorem x6_24_m3 {a : List Int} {b : List Int} {g1 el1 : Nat} {g2 el2 : Nat} {KK : AV → List AV → Sto → Prop} {QQ : Kt} {ii : At KK} {jj : At QQ} {ee : List AV} {ss : Sto} : xC Ct6 24 [.own g1 el1 1 (a.map ic), .own g2 el2 1 (b.map ic)] KK QQ ii jj ee ss = ((a.length ≤ 1000000) ∧ (.b (decide (a = b)) : D).flat = true ∧ KK (.d (.b (decide (a = b)))) ee ss) := eqo24
theorem x6_25 {l : List Int} {t : Nat} {KK : AV → List AV → Sto → Prop} {QQ : Kt} {ii : At KK} {jj : At QQ} {ee : List AV} {ss : Sto} : xC Ct6 25 [.d (.sl 1 (l.map ic)), .d (.i (t : Int))] KK QQ ii jj ee ss = ((l.length ≤ 1000 ∧ t ≤ 1000) ∧ KK (.d (.sl 1 ((rotN l t l.length).map ic))) ee ss) := eq25
theorem x6_25_m1 {l : List Int} {t : Nat} {g1 el1 : Nat} {KK : AV → List AV → Sto → Prop} {QQ : Kt} {ii : At KK} {jj : At QQ} {ee : List AV} {ss : Sto} : xC Ct6 25 [.own g1 el1 1 (l.map ic), .d (.i (t : Int))] KK QQ ii jj ee ss = ((l.length ≤ 1000 ∧ t ≤ 1000) ∧ (.sl 1 ((rotN l t l.length).map ic) : D).flat = true ∧ KK (.d (.sl 1 ((rotN l t l.length).map ic))) ee ss) := eqo25
theorem c6 : callable Try.prog 6 = true := by kernel_rfl
theorem pf6 (r : Rul) (s : Ska) (t j : Nat) (back : Bool) (h : (∀ x ∈ s.calls, i64 x.place) ∧ t ≤ 255 ∧ j ≤ 255) : PF Try.prog 6 [r.d, .agg s.c, .v (.int .u8 (t : Int)), .v (.int .u8 (j : Int)), .b back] (fun zz => zz = .ret (.b true)) := by
  obtain ⟨h0, u1, u2⟩ := h
  by_cases c1 : (80 : Int) < r.bases.length
  · refine PF_nil (PF_start (O := O6) Ct6_ok hmix ho6 Try.func6 c6 rfl Try.ntmps6 Try.results6 ?_)
    simp (maxSteps := 4000000) +contextual (disch := first | omega | exact qdb_ok (by kernel_rfl) | exact okb_ok (by kernel_rfl)) only [bw1,bw2,bw3,bw4,bw5,bw6,bw7,bc0,bc1,bc2,bc3,bc4,bc5,bc6,bc7,setPs,AV.owns,AV.datF,AV.frz,AV.cpy,ifV,isEqB,nilV,nilX,AV.isNilS,AV.isNoRows,wk,dclo,datOf,binIs,addF,AV.isPtr,idxV,AV.isSl,AV.isSlice,AV.rows,ps,pv,extV,extS,AV.outs,AV.outF,packD,AV.dl,fieldV,fieldS,AV.cells?,AV.upr,AV.menc,AV.one,D.one,Value.oneCell',tagOf,AV.isApp,strV,strS,bolV,bolS,slcV,AV.isSlD,asrtS,AV.dcells,D.cells?,stcV,stcS,leafOk,eqDs,eqD,packA,D.val?,↓reduceIte,reduceCtorEq,Nat.reduceAdd,Nat.reduceSub,Nat.reduceMul,List.reduceReplicate,Nat.reduceLeDiff,Nat.reduceLT,Nat.reduceBEq,Nat.reduceEqDiff,Int.reduceNeg,Int.reduceEq,Int.reduceLE,Int.reduceLT,tfb,n_seq,ctz6,O6_23,x6_11,x6_11_m1,x6_13,x6_17,x6_22,x6_24,x6_24_m1,x6_24_m2,x6_24_m3,x6_25,x6_25_m1,c1]
  by_cases c2 : great (one s) 1 = true
  · refine PF_nil (PF_start (O := O6) Ct6_ok hmix ho6 Try.func6 c6 rfl Try.ntmps6 Try.results6 ?_)
    simp (maxSteps := 4000000) +contextual (disch := first | omega | exact qdb_ok (by kernel_rfl) | exact okb_ok (by kernel_rfl)) only [bw1,bw2,bw3,bw4,bw5,bw6,bw7,bc0,bc1,bc2,bc3,bc4,bc5,bc6,bc7,setPs,AV.owns,AV.datF,AV.frz,AV.cpy,ifV,isEqB,nilV,nilX,AV.isNilS,AV.isNoRows,wk,dclo,datOf,binIs,addF,AV.isPtr,idxV,AV.isSl,AV.isSlice,AV.rows,ps,pv,extV,extS,AV.outs,AV.outF,packD,AV.dl,fieldV,fieldS,AV.cells?,AV.upr,AV.menc,AV.one,D.one,Value.oneCell',tagOf,AV.isApp,strV,strS,bolV,bolS,slcV,AV.isSlD,asrtS,AV.dcells,D.cells?,stcV,stcS,leafOk,eqDs,eqD,packA,D.val?,↓reduceIte,reduceCtorEq,Nat.reduceAdd,Nat.reduceSub,Nat.reduceMul,List.reduceReplicate,Nat.reduceLeDiff,Nat.reduceLT,Nat.reduceBEq,Nat.reduceEqDiff,Int.reduceNeg,Int.reduceEq,Int.reduceLE,Int.reduceLT,tfb,n_seq,ctz6,O6_23,x6_11,x6_11_m1,x6_13,x6_17,x6_22,x6_24,x6_24_m1,x6_24_m2,x6_24_m3,x6_25,x6_25_m1,c1, one_rows, one_len, c2]
    try rfl
  obtain ⟨g1, g2, g3, g4⟩ := great_no c2
  obtain ⟨P, hP⟩ : ∃ P, P = progG r s := ⟨_, rfl⟩
  obtain ⟨V, hV⟩ : ∃ V, V = valsG r s := ⟨_, rfl⟩
  obtain ⟨W, hW⟩ : ∃ W : Nat → List Int, W = fun k => if conOk r (one s) = true then ordN V.1 t back k else [] := ⟨_, rfl⟩
  obtain ⟨N, hN⟩ : ∃ N : Nat → List Cal, N = fun k => (ordN s.calls t back k).map (turnC j) := ⟨_, rfl⟩
  obtain ⟨M, hM⟩ : ∃ M : Nat → List (List Int), M = fun k => (rotN s.parts t k).map (turnP j) := ⟨_, rfl⟩
  have w0 : W 0 = [] := by rw [hW]; simp only; split <;> rfl
  have n0 : N 0 = [] := by rw [hN]; rfl
  have m0 : M 0 = [] := by rw [hM]; rfl
  have n1 : ∀ k, N (k + 1) = N k ++ [turnC j (s.calls.getD (kk s.calls.length t back k) default)] := fun k => by rw [hN]; simp only; rw [ordN_succ, List.map_append]; rfl
  have m1 : ∀ k, M (k + 1) = M k ++ [turnP j (s.parts.getD ((k + t) % s.parts.length) default)] := fun k => by rw [hM]; simp only; rw [rotN_succ, List.map_append]; rfl
  have nl : ∀ k, (N k).length = k := fun k => by rw [hN]; simp only; rw [List.length_map, ordN_len]
  have ml : ∀ k, (M k).length = k := fun k => by rw [hM]; simp only; rw [List.length_map, rotN_len]
  have wl : ∀ k, (W k).length ≤ k := fun k => by rw [hW]; simp only; split; rw [ordN_len]; omega; exact Nat.zero_le _
  have hVl : V.1.length = if conOk r (one s) = true then s.calls.length else 0 := by
    rw [hV]; unfold valsG; split
    · exact valsR_len
    · rfl
  have hVe : V.2 = P.2 := by rw [hV, hP]; unfold valsG progG; split <;> rfl
  refine PF_nil (PF_startN 9 (O := O6) Ct6_ok hmix ho6 Try.func6 c6 rfl Try.ntmps6 Try.results6 ?_)
  simp (maxSteps := 4000000) +contextual (disch := first | omega | exact qdb_ok (by kernel_rfl) | exact okb_ok (by kernel_rfl)) only [bw1,bw2,bw3,bw4,bw5,bw6,bw7,bc0,bc1,bc2,bc3,bc4,bc5,bc6,bc7,setPs,AV.owns,AV.datF,AV.frz,AV.cpy,ifV,isEqB,nilV,nilX,AV.isNilS,AV.isNoRows,wk,dclo,datOf,binIs,addF,AV.isPtr,idxV,AV.isSl,AV.isSlice,AV.rows,ps,pv,extV,extS,AV.outs,AV.outF,packD,AV.dl,fieldV,fieldS,AV.cells?,AV.upr,AV.menc,AV.one,D.one,Value.oneCell',tagOf,AV.isApp,strV,strS,bolV,bolS,slcV,AV.isSlD,asrtS,AV.dcells,D.cells?,stcV,stcS,leafOk,eqDs,eqD,packA,D.val?,↓reduceIte,reduceCtorEq,Nat.reduceAdd,Nat.reduceSub,Nat.reduceMul,List.reduceReplicate,Nat.reduceLeDiff,Nat.reduceLT,Nat.reduceBEq,Nat.reduceEqDiff,Int.reduceNeg,Int.reduceEq,Int.reduceLE,Int.reduceLT,tfb,n_seq,ctz6,O6_23,x6_11,x6_11_m1,x6_13,x6_17,x6_22,x6_24,x6_24_m1,x6_24_m2,x6_24_m3,x6_25,x6_25_m1,c1, one_rows, one_len, c2, ← hP, ← hV]
  refine ⟨rfl, h0, h0, ?_⟩
  refine seed (m1 := mk _) (m2 := mk _) 17 100 3 1 (by decide) rfl rfl (by simp [Sto.mens, AV.mens, AV.men]) rfl ?_
  refine seedS 16 0 88 37 6 _ (by decide) (by decide) rfl rfl (by simp [AV.mens, AV.men]) (by simp [Sto.mens, AV.mens, AV.men]) rfl ?_
  refine loop_u (O := O6) (tb := 0) Ct6_ok hmix (by kernel_rfl) (σ := Nat) (fun k => [(17, .own 100 3 1 ((W k).map ic)), (58, .i k)]) (fun k => [(16, [.own 88 37 6 ((N k).map Cal.c), .d (.v (.slice none 0 0)), .d (.i s.over)])]) (fun k => k ≤ s.calls.length) (fun k => s.calls.length - k) (fun k => k + 1) 0 (by omega) ?_ ?_
  · simp (maxSteps := 4000000) +contextual (disch := first | omega | exact qdb_ok (by kernel_rfl) | exact okb_ok (by kernel_rfl)) only [bw1,bw2,bw3,bw4,bw5,bw6,bw7,bc0,bc1,bc2,bc3,bc4,bc5,bc6,bc7,setPs,AV.owns,AV.datF,AV.frz,AV.cpy,ifV,isEqB,nilV,nilX,AV.isNilS,AV.isNoRows,wk,dclo,datOf,binIs,addF,AV.isPtr,idxV,AV.isSl,AV.isSlice,AV.rows,ps,pv,extV,extS,AV.outs,AV.outF,packD,AV.dl,fieldV,fieldS,AV.cells?,AV.upr,AV.menc,AV.one,D.one,Value.oneCell',tagOf,AV.isApp,strV,strS,bolV,bolS,slcV,AV.isSlD,asrtS,AV.dcells,D.cells?,stcV,stcS,leafOk,eqDs,eqD,packA,D.val?,↓reduceIte,reduceCtorEq,Nat.reduceAdd,Nat.reduceSub,Nat.reduceMul,List.reduceReplicate,Nat.reduceLeDiff,Nat.reduceLT,Nat.reduceBEq,Nat.reduceEqDiff,Int.reduceNeg,Int.reduceEq,Int.reduceLE,Int.reduceLT,tfb,n_seq,ctz6,O6_23,x6_11,x6_11_m1,x6_13,x6_17,x6_22,x6_24,x6_24_m1,x6_24_m2,x6_24_m3,x6_25,x6_25_m1,eq_self, w0, n0]
  intro k hk
  by_cases hlt : k < s.calls.length
  · have hlt' : (k : Int) < s.calls.length := by omega
    have hlz : ¬ (s.calls.length : Int) = 0 := by omega
    have n1k := n1 k
    have nlk := nl k
    have wlk := wl k
    obtain ⟨m0', hm0⟩ : ∃ m : Nat, m = (k + t) % s.calls.length := ⟨_, rfl⟩
    have hm0l : m0' < s.calls.length := by rw [hm0]; exact Nat.mod_lt _ (by omega)
    have hm1 : ((k : Int) + (t : Int)) % (s.calls.length : Int) = m0' := by rw [hm0, Int.natCast_emod]; rfl
    have hwr : IntKind.i64.wrap ((k : Int) + (t : Int)) = (k : Int) + t := wrap_ok (by omega) (by omega)
    obtain ⟨m, hm⟩ : ∃ m : Nat, m = kk s.calls.length t back k := ⟨_, rfl⟩
    have hml : m < s.calls.length := by rw [hm]; exact kk_lt hlt
    have hml' : (m : Int) < s.calls.length := by omega
    have hmm : back = true → (s.calls.length : Int) - 1 - (m0' : Int) = m := fun hb => by
      rw [hm, hm0]; unfold kk; rw [if_pos hb]; omega
    have hmn : back = false → m0' = m := fun hb => by
      rw [hm, hm0]; unfold kk; rw [if_neg (by rw [hb]; decide)]
    have hW1 : conOk r (one s) = true → W (k + 1) = W k ++ [V.1.getD m default] := fun hc => by
      rw [hW]; simp only; rw [if_pos hc, if_pos hc, ordN_succ]
      rw [if_pos hc] at hVl
      rw [hVl, ← hm]
    have hW2 : ¬ conOk r (one s) = true → W (k + 1) = W k := fun hc => by
      rw [hW]; simp only; rw [if_neg hc, if_neg hc]
    rw [← hm] at n1k
    have hmk := g3 (s.calls.getD m default) (by rw [at_lt hml]; exact List.getElem_mem _)
    by_cases hc : conOk r (one s) = true
    · have hW1 := hW1 hc
      rw [if_pos hc] at hVl
      have hVm : (m : Int) < V.1.length := by omega
      cases hb : back
      · obtain rfl := hmn hb
        simp (maxSteps := 4000000) +contextual (disch := first | omega | exact qdb_ok (by kernel_rfl) | exact okb_ok (by kernel_rfl)) only [bw1,bw2,bw3,bw4,bw5,bw6,bw7,bc0,bc1,bc2,bc3,bc4,bc5,bc6,bc7,setPs,AV.owns,AV.datF,AV.frz,AV.cpy,ifV,isEqB,nilV,nilX,AV.isNilS,AV.isNoRows,wk,dclo,datOf,binIs,addF,AV.isPtr,idxV,AV.isSl,AV.isSlice,AV.rows,ps,pv,extV,extS,AV.outs,AV.outF,packD,AV.dl,fieldV,fieldS,AV.cells?,AV.upr,AV.menc,AV.one,D.one,Value.oneCell',tagOf,AV.isApp,strV,strS,bolV,bolS,slcV,AV.isSlD,asrtS,AV.dcells,D.cells?,stcV,stcS,leafOk,eqDs,eqD,packA,D.val?,↓reduceIte,reduceCtorEq,Nat.reduceAdd,Nat.reduceSub,Nat.reduceMul,List.reduceReplicate,Nat.reduceLeDiff,Nat.reduceLT,Nat.reduceBEq,Nat.reduceEqDiff,Int.reduceNeg,Int.reduceEq,Int.reduceLE,Int.reduceLT,tfb,n_seq,ctz6,O6_23,x6_11,x6_11_m1,x6_13,x6_17,x6_22,x6_24,x6_24_m1,x6_24_m2,x6_24_m3,x6_25,x6_25_m1,eq_self, hlt', hwr, hlz, hm1, hml', hb, hVm, nlk, List.length_map]
        refine ⟨by omega, ⟨by omega, by omega⟩, by omega, by omega, by omega, by omega, by omega, ⟨by omega, by omega⟩, ?_, ?_⟩
        · rw [hW1, List.map_append]; rfl
        · rw [n1k, List.map_append]; rfl
      · have hmm := hmm hb
        simp (maxSteps := 4000000) +contextual (disch := first | omega | exact qdb_ok (by kernel_rfl) | exact okb_ok (by kernel_rfl)) only [bw1,bw2,bw3,bw4,bw5,bw6,bw7,bc0,bc1,bc2,bc3,bc4,bc5,bc6,bc7,setPs,AV.owns,AV.datF,AV.frz,AV.cpy,ifV,isEqB,nilV,nilX,AV.isNilS,AV.isNoRows,wk,dclo,datOf,binIs,addF,AV.isPtr,idxV,AV.isSl,AV.isSlice,AV.rows,ps,pv,extV,extS,AV.outs,AV.outF,packD,AV.dl,fieldV,fieldS,AV.cells?,AV.upr,AV.menc,AV.one,D.one,Value.oneCell',tagOf,AV.isApp,strV,strS,bolV,bolS,slcV,AV.isSlD,asrtS,AV.dcells,D.cells?,stcV,stcS,leafOk,eqDs,eqD,packA,D.val?,↓reduceIte,reduceCtorEq,Nat.reduceAdd,Nat.reduceSub,Nat.reduceMul,List.reduceReplicate,Nat.reduceLeDiff,Nat.reduceLT,Nat.reduceBEq,Nat.reduceEqDiff,Int.reduceNeg,Int.reduceEq,Int.reduceLE,Int.reduceLT,tfb,n_seq,ctz6,O6_23,x6_11,x6_11_m1,x6_13,x6_17,x6_22,x6_24,x6_24_m1,x6_24_m2,x6_24_m3,x6_25,x6_25_m1,eq_self, hlt', hwr, hlz, hm1, hml', hb, hmm, hVm, nlk, List.length_map]
        refine ⟨by omega, ⟨by omega, by omega⟩, by omega, by omega, by omega, by omega, by omega, ⟨by omega, by omega⟩, ?_, ?_⟩
        · rw [hW1, List.map_append]; rfl
        · rw [n1k, List.map_append]; rfl
    · have hW2 := hW2 hc
      rw [if_neg hc] at hVl
      have hVm : ¬ (m : Int) < V.1.length := by omega
      have hVm0 : ¬ (m : Int) < 0 := by omega
      cases hb : back
      · obtain rfl := hmn hb
        simp (maxSteps := 4000000) +contextual (disch := first | omega | exact qdb_ok (by kernel_rfl) | exact okb_ok (by kernel_rfl)) only [bw1,bw2,bw3,bw4,bw5,bw6,bw7,bc0,bc1,bc2,bc3,bc4,bc5,bc6,bc7,setPs,AV.owns,AV.datF,AV.frz,AV.cpy,ifV,isEqB,nilV,nilX,AV.isNilS,AV.isNoRows,wk,dclo,datOf,binIs,addF,AV.isPtr,idxV,AV.isSl,AV.isSlice,AV.rows,ps,pv,extV,extS,AV.outs,AV.outF,packD,AV.dl,fieldV,fieldS,AV.cells?,AV.upr,AV.menc,AV.one,D.one,Value.oneCell',tagOf,AV.isApp,strV,strS,bolV,bolS,slcV,AV.isSlD,asrtS,AV.dcells,D.cells?,stcV,stcS,leafOk,eqDs,eqD,packA,D.val?,↓reduceIte,reduceCtorEq,Nat.reduceAdd,Nat.reduceSub,Nat.reduceMul,List.reduceReplicate,Nat.reduceLeDiff,Nat.reduceLT,Nat.reduceBEq,Nat.reduceEqDiff,Int.reduceNeg,Int.reduceEq,Int.reduceLE,Int.reduceLT,tfb,n_seq,ctz6,O6_23,x6_11,x6_11_m1,x6_13,x6_17,x6_22,x6_24,x6_24_m1,x6_24_m2,x6_24_m3,x6_25,x6_25_m1,eq_self, hlt', hwr, hlz, hm1, hml', hb, hVl, hVm, hVm0, hW2, nlk, List.length_map]
        refine ⟨by omega, ⟨by omega, by omega⟩, by omega, by omega, ⟨by omega, by omega⟩, ?_⟩
        rw [n1k, List.map_append]; rfl
      · have hmm := hmm hb
        simp (maxSteps := 4000000) +contextual (disch := first | omega | exact qdb_ok (by kernel_rfl) | exact okb_ok (by kernel_rfl)) only [bw1,bw2,bw3,bw4,bw5,bw6,bw7,bc0,bc1,bc2,bc3,bc4,bc5,bc6,bc7,setPs,AV.owns,AV.datF,AV.frz,AV.cpy,ifV,isEqB,nilV,nilX,AV.isNilS,AV.isNoRows,wk,dclo,datOf,binIs,addF,AV.isPtr,idxV,AV.isSl,AV.isSlice,AV.rows,ps,pv,extV,extS,AV.outs,AV.outF,packD,AV.dl,fieldV,fieldS,AV.cells?,AV.upr,AV.menc,AV.one,D.one,Value.oneCell',tagOf,AV.isApp,strV,strS,bolV,bolS,slcV,AV.isSlD,asrtS,AV.dcells,D.cells?,stcV,stcS,leafOk,eqDs,eqD,packA,D.val?,↓reduceIte,reduceCtorEq,Nat.reduceAdd,Nat.reduceSub,Nat.reduceMul,List.reduceReplicate,Nat.reduceLeDiff,Nat.reduceLT,Nat.reduceBEq,Nat.reduceEqDiff,Int.reduceNeg,Int.reduceEq,Int.reduceLE,Int.reduceLT,tfb,n_seq,ctz6,O6_23,x6_11,x6_11_m1,x6_13,x6_17,x6_22,x6_24,x6_24_m1,x6_24_m2,x6_24_m3,x6_25,x6_25_m1,eq_self, hlt', hwr, hlz, hm1, hml', hb, hmm, hVl, hVm, hVm0, hW2, nlk, List.length_map]
        refine ⟨by omega, ⟨by omega, by omega⟩, by omega, by omega, ⟨by omega, by omega⟩, ?_⟩
        rw [n1k, List.map_append]; rfl
  have hlt' : ¬ (k : Int) < s.calls.length := by omega
  obtain rfl : k = s.calls.length := by omega
  simp (maxSteps := 4000000) +contextual (disch := first | omega | exact qdb_ok (by kernel_rfl) | exact okb_ok (by kernel_rfl)) only [bw1,bw2,bw3,bw4,bw5,bw6,bw7,bc0,bc1,bc2,bc3,bc4,bc5,bc6,bc7,setPs,AV.owns,AV.datF,AV.frz,AV.cpy,ifV,isEqB,nilV,nilX,AV.isNilS,AV.isNoRows,wk,dclo,datOf,binIs,addF,AV.isPtr,idxV,AV.isSl,AV.isSlice,AV.rows,ps,pv,extV,extS,AV.outs,AV.outF,packD,AV.dl,fieldV,fieldS,AV.cells?,AV.upr,AV.menc,AV.one,D.one,Value.oneCell',tagOf,AV.isApp,strV,strS,bolV,bolS,slcV,AV.isSlD,asrtS,AV.dcells,D.cells?,stcV,stcS,leafOk,eqDs,eqD,packA,D.val?,↓reduceIte,reduceCtorEq,Nat.reduceAdd,Nat.reduceSub,Nat.reduceMul,List.reduceReplicate,Nat.reduceLeDiff,Nat.reduceLT,Nat.reduceBEq,Nat.reduceEqDiff,Int.reduceNeg,Int.reduceEq,Int.reduceLE,Int.reduceLT,tfb,n_seq,ctz6,O6_23,x6_11,x6_11_m1,x6_13,x6_17,x6_22,x6_24,x6_24_m1,x6_24_m2,x6_24_m3,x6_25,x6_25_m1,eq_self, hlt', Int.lt_irrefl]
  refine seedS 16 1 126 22 1 _ (by decide) (by decide) rfl rfl (by simp [AV.mens, AV.men]) (by simp [Sto.mens, AV.mens, AV.men]) rfl ?_
  refine loop_u (O := O6) (tb := 0) Ct6_ok hmix (by kernel_rfl) (σ := Nat) (fun k => [(104, .i k)]) (fun k => [(16, [.own 88 37 6 ((N s.calls.length).map Cal.c), .own 126 22 1 ((M k).map pc), .d (.i s.over)])]) (fun k => k ≤ s.parts.length) (fun k => s.parts.length - k) (fun k => k + 1) 0 (by omega) ?_ ?_
  · simp (maxSteps := 4000000) +contextual (disch := first | omega | exact qdb_ok (by kernel_rfl) | exact okb_ok (by kernel_rfl)) only [bw1,bw2,bw3,bw4,bw5,bw6,bw7,bc0,bc1,bc2,bc3,bc4,bc5,bc6,bc7,setPs,AV.owns,AV.datF,AV.frz,AV.cpy,ifV,isEqB,nilV,nilX,AV.isNilS,AV.isNoRows,wk,dclo,datOf,binIs,addF,AV.isPtr,idxV,AV.isSl,AV.isSlice,AV.rows,ps,pv,extV,extS,AV.outs,AV.outF,packD,AV.dl,fieldV,fieldS,AV.cells?,AV.upr,AV.menc,AV.one,D.one,Value.oneCell',tagOf,AV.isApp,strV,strS,bolV,bolS,slcV,AV.isSlD,asrtS,AV.dcells,D.cells?,stcV,stcS,leafOk,eqDs,eqD,packA,D.val?,↓reduceIte,reduceCtorEq,Nat.reduceAdd,Nat.reduceSub,Nat.reduceMul,List.reduceReplicate,Nat.reduceLeDiff,Nat.reduceLT,Nat.reduceBEq,Nat.reduceEqDiff,Int.reduceNeg,Int.reduceEq,Int.reduceLE,Int.reduceLT,tfb,n_seq,ctz6,O6_23,x6_11,x6_11_m1,x6_13,x6_17,x6_22,x6_24,x6_24_m1,x6_24_m2,x6_24_m3,x6_25,x6_25_m1,eq_self, m0]
  intro k hk
  by_cases hlt : k < s.parts.length
  · have hlt' : (k : Int) < s.parts.length := by omega
    have hlz : ¬ (s.parts.length : Int) = 0 := by omega
    have m1k := m1 k
    have mlk := ml k
    obtain ⟨m, hm⟩ : ∃ m : Nat, m = (k + t) % s.parts.length := ⟨_, rfl⟩
    have hml : m < s.parts.length := by rw [hm]; exact Nat.mod_lt _ (by omega)
    have hml' : (m : Int) < s.parts.length := by omega
    have hm1 : ((k : Int) + (t : Int)) % (s.parts.length : Int) = m := by rw [hm, Int.natCast_emod]; rfl
    have hwr : IntKind.i64.wrap ((k : Int) + (t : Int)) = (k : Int) + t := wrap_ok (by omega) (by omega)
    rw [← hm] at m1k
    have hmk := g4 (s.parts.getD m default) (by rw [at_lt hml]; exact List.getElem_mem _)
    simp (maxSteps := 4000000) +contextual (disch := first | omega | exact qdb_ok (by kernel_rfl) | exact okb_ok (by kernel_rfl)) only [bw1,bw2,bw3,bw4,bw5,bw6,bw7,bc0,bc1,bc2,bc3,bc4,bc5,bc6,bc7,setPs,AV.owns,AV.datF,AV.frz,AV.cpy,ifV,isEqB,nilV,nilX,AV.isNilS,AV.isNoRows,wk,dclo,datOf,binIs,addF,AV.isPtr,idxV,AV.isSl,AV.isSlice,AV.rows,ps,pv,extV,extS,AV.outs,AV.outF,packD,AV.dl,fieldV,fieldS,AV.cells?,AV.upr,AV.menc,AV.one,D.one,Value.oneCell',tagOf,AV.isApp,strV,strS,bolV,bolS,slcV,AV.isSlD,asrtS,AV.dcells,D.cells?,stcV,stcS,leafOk,eqDs,eqD,packA,D.val?,↓reduceIte,reduceCtorEq,Nat.reduceAdd,Nat.reduceSub,Nat.reduceMul,List.reduceReplicate,Nat.reduceLeDiff,Nat.reduceLT,Nat.reduceBEq,Nat.reduceEqDiff,Int.reduceNeg,Int.reduceEq,Int.reduceLE,Int.reduceLT,tfb,n_seq,ctz6,O6_23,x6_11,x6_11_m1,x6_13,x6_17,x6_22,x6_24,x6_24_m1,x6_24_m2,x6_24_m3,x6_25,x6_25_m1,eq_self, hlt', hwr, hlz, hm1, hml', mlk, List.length_map]
    refine ⟨by omega, ⟨by omega, by omega⟩, by omega, by omega, ⟨by omega, by omega⟩, ?_⟩
    rw [m1k, List.map_append]; rfl
  have hlt' : ¬ (k : Int) < s.parts.length := by omega
  obtain rfl : k = s.parts.length := by omega
  simp (maxSteps := 4000000) +contextual (disch := first | omega | exact qdb_ok (by kernel_rfl) | exact okb_ok (by kernel_rfl)) only [bw1,bw2,bw3,bw4,bw5,bw6,bw7,bc0,bc1,bc2,bc3,bc4,bc5,bc6,bc7,setPs,AV.owns,AV.datF,AV.frz,AV.cpy,ifV,isEqB,nilV,nilX,AV.isNilS,AV.isNoRows,wk,dclo,datOf,binIs,addF,AV.isPtr,idxV,AV.isSl,AV.isSlice,AV.rows,ps,pv,extV,extS,AV.outs,AV.outF,packD,AV.dl,fieldV,fieldS,AV.cells?,AV.upr,AV.menc,AV.one,D.one,Value.oneCell',tagOf,AV.isApp,strV,strS,bolV,bolS,slcV,AV.isSlD,asrtS,AV.dcells,D.cells?,stcV,stcS,leafOk,eqDs,eqD,packA,D.val?,↓reduceIte,reduceCtorEq,Nat.reduceAdd,Nat.reduceSub,Nat.reduceMul,List.reduceReplicate,Nat.reduceLeDiff,Nat.reduceLT,Nat.reduceBEq,Nat.reduceEqDiff,Int.reduceNeg,Int.reduceEq,Int.reduceLE,Int.reduceLT,tfb,n_seq,ctz6,O6_23,x6_11,x6_11_m1,x6_13,x6_17,x6_22,x6_24,x6_24_m1,x6_24_m2,x6_24_m3,x6_25,x6_25_m1,eq_self, hlt', Int.lt_irrefl]
  refine n_frz 88 37 6 (by decide) rfl ?_
  refine n_frz 126 22 1 (by decide) rfl ?_
  refine n_w Ct6_ok hmix (by kernel_rfl) ?_
  have hS : (ordS s t j back).c = [.sl 6 ((N s.calls.length).map Cal.c), .sl 1 ((M s.parts.length).map pc), .i s.over] := by rw [hN, hM]; rfl
  have hx17 : ∀ {KK : AV → List AV → Sto → Prop} {QQ : Kt} {ii : At KK} {jj : At QQ} {ee : List AV} {ss : Sto}, xC Ct6 17 [.d (.agg [.sl 1 (r.bases.map ic), .i r.factor, .i r.most]), .d (.agg [.sl 6 ((N s.calls.length).map Cal.c), .sl 1 ((M s.parts.length).map pc), .i s.over])] KK QQ ii jj ee ss = KK (.d (.tup [.agg P.1.c, .i P.2])) ee ss := by
    intro KK QQ ii jj ee ss
    have := x6_17 (r := r) (s := ordS s t j back) (KK := KK) (QQ := QQ) (ii := ii) (jj := jj) (ee := ee) (ss := ss)
    rw [hS, os_prog, ← hP] at this
    exact this.trans (propext ⟨fun h => h.2, fun h => ⟨os_i64 h0, h⟩⟩)
  have hx22 : ∀ {KK : AV → List AV → Sto → Prop} {QQ : Kt} {ii : At KK} {jj : At QQ} {ee : List AV} {ss : Sto}, xC Ct6 22 [.d (.agg [.sl 1 (r.bases.map ic), .i r.factor, .i r.most]), .d (.agg [.sl 6 ((N s.calls.length).map Cal.c), .sl 1 ((M s.parts.length).map pc), .i s.over])] KK QQ ii jj ee ss = KK (.d (.tup [.sl 1 ((W s.calls.length).map ic), .i P.2])) ee ss := by
    intro KK QQ ii jj ee ss
    have := x6_22 (r := r) (s := ordS s t j back) (KK := KK) (QQ := QQ) (ii := ii) (jj := jj) (ee := ee) (ss := ss)
    have e : (W s.calls.length, P.2) = valsG r (ordS s t j back) := by rw [os_vals, ← hV, hVe, hW]
    rw [hS, ← e] at this
    exact this.trans (propext ⟨fun h => h.2, fun h => ⟨os_i64 h0, h⟩⟩)
  have hvb : ∀ k, k ≤ V.1.length → -16000000000 ≤ csum V.1 k ∧ csum V.1 k ≤ 16000000000 := fun k hk => by
    by_cases hc : conOk r (one s) = true
    · have e : V.1 = valsR r s s.calls.length := by rw [hV]; unfold valsG; rw [if_pos hc]
      rw [if_pos hc] at hVl
      rw [e, csum_vals _ (by omega)]
      exact (prog_b (con_valid hc (s := s) (by simp [one]))).1 k (by omega)
    · rw [if_neg hc] at hVl
      obtain rfl : k = 0 := by omega
      exact ⟨by simp [csum], by simp [csum]⟩
  have s0 : csum V.1 0 = 0 := rfl
  have s1 : ∀ k, csum V.1 (k + 1) = csum V.1 k + V.1.getD k default := fun k => rfl
  have hwl := wl s.calls.length
  simp (maxSteps := 4000000) +contextual (disch := first | omega | exact qdb_ok (by kernel_rfl) | exact okb_ok (by kernel_rfl)) only [bw1,bw2,bw3,bw4,bw5,bw6,bw7,bc0,bc1,bc2,bc3,bc4,bc5,bc6,bc7,setPs,AV.owns,AV.datF,AV.frz,AV.cpy,ifV,isEqB,nilV,nilX,AV.isNilS,AV.isNoRows,wk,dclo,datOf,binIs,addF,AV.isPtr,idxV,AV.isSl,AV.isSlice,AV.rows,ps,pv,extV,extS,AV.outs,AV.outF,packD,AV.dl,fieldV,fieldS,AV.cells?,AV.upr,AV.menc,AV.one,D.one,Value.oneCell',tagOf,AV.isApp,strV,strS,bolV,bolS,slcV,AV.isSlD,asrtS,AV.dcells,D.cells?,stcV,stcS,leafOk,eqDs,eqD,packA,D.val?,↓reduceIte,reduceCtorEq,Nat.reduceAdd,Nat.reduceSub,Nat.reduceMul,List.reduceReplicate,Nat.reduceLeDiff,Nat.reduceLT,Nat.reduceBEq,Nat.reduceEqDiff,Int.reduceNeg,Int.reduceEq,Int.reduceLE,Int.reduceLT,tfb,n_seq,ctz6,O6_23,x6_11,x6_11_m1,x6_13,x6_17,x6_22,x6_24,x6_24_m1,x6_24_m2,x6_24_m3,x6_25,x6_25_m1,hx17, hx22, hVe, bne_self_eq_false]
  refine ⟨by omega, rfl, ?_⟩
  refine loop_s (O := O6) (tb := 0) Ct6_ok hmix (by kernel_rfl) (σ := Nat) (fun k => [(26, .i (csum V.1 k)), (28, .any), (166, .i k)]) (fun k => k ≤ V.1.length) (fun k => V.1.length - k) (fun k => k + 1) 0 (by omega) ?_ ?_
  · simp (maxSteps := 4000000) +contextual (disch := first | omega | exact qdb_ok (by kernel_rfl) | exact okb_ok (by kernel_rfl)) only [bw1,bw2,bw3,bw4,bw5,bw6,bw7,bc0,bc1,bc2,bc3,bc4,bc5,bc6,bc7,setPs,AV.owns,AV.datF,AV.frz,AV.cpy,ifV,isEqB,nilV,nilX,AV.isNilS,AV.isNoRows,wk,dclo,datOf,binIs,addF,AV.isPtr,idxV,AV.isSl,AV.isSlice,AV.rows,ps,pv,extV,extS,AV.outs,AV.outF,packD,AV.dl,fieldV,fieldS,AV.cells?,AV.upr,AV.menc,AV.one,D.one,Value.oneCell',tagOf,AV.isApp,strV,strS,bolV,bolS,slcV,AV.isSlD,asrtS,AV.dcells,D.cells?,stcV,stcS,leafOk,eqDs,eqD,packA,D.val?,↓reduceIte,reduceCtorEq,Nat.reduceAdd,Nat.reduceSub,Nat.reduceMul,List.reduceReplicate,Nat.reduceLeDiff,Nat.reduceLT,Nat.reduceBEq,Nat.reduceEqDiff,Int.reduceNeg,Int.reduceEq,Int.reduceLE,Int.reduceLT,tfb,n_seq,ctz6,O6_23,x6_11,x6_11_m1,x6_13,x6_17,x6_22,x6_24,x6_24_m1,x6_24_m2,x6_24_m3,x6_25,x6_25_m1,eq_self, s0]
  intro k hk
  have hvk := hvb k hk
  have hVln : V.1.length ≤ s.calls.length := by rw [hVl]; split <;> omega
  by_cases hlt : k < V.1.length
  · have hlt' : (k : Int) < V.1.length := by omega
    have s1k := s1 k
    have hvk1 := hvb (k + 1) hlt
    have hwr : IntKind.i64.wrap (csum V.1 k + V.1.getD k default) = csum V.1 k + V.1.getD k default := wrap_ok (by omega) (by omega)
    simp (maxSteps := 4000000) +contextual (disch := first | omega | exact qdb_ok (by kernel_rfl) | exact okb_ok (by kernel_rfl)) only [bw1,bw2,bw3,bw4,bw5,bw6,bw7,bc0,bc1,bc2,bc3,bc4,bc5,bc6,bc7,setPs,AV.owns,AV.datF,AV.frz,AV.cpy,ifV,isEqB,nilV,nilX,AV.isNilS,AV.isNoRows,wk,dclo,datOf,binIs,addF,AV.isPtr,idxV,AV.isSl,AV.isSlice,AV.rows,ps,pv,extV,extS,AV.outs,AV.outF,packD,AV.dl,fieldV,fieldS,AV.cells?,AV.upr,AV.menc,AV.one,D.one,Value.oneCell',tagOf,AV.isApp,strV,strS,bolV,bolS,slcV,AV.isSlD,asrtS,AV.dcells,D.cells?,stcV,stcS,leafOk,eqDs,eqD,packA,D.val?,↓reduceIte,reduceCtorEq,Nat.reduceAdd,Nat.reduceSub,Nat.reduceMul,List.reduceReplicate,Nat.reduceLeDiff,Nat.reduceLT,Nat.reduceBEq,Nat.reduceEqDiff,Int.reduceNeg,Int.reduceEq,Int.reduceLE,Int.reduceLT,tfb,n_seq,ctz6,O6_23,x6_11,x6_11_m1,x6_13,x6_17,x6_22,x6_24,x6_24_m1,x6_24_m2,x6_24_m3,x6_25,x6_25_m1,eq_self, hlt', hwr, s1k]
    and_intros <;> first | omega | rfl
  have hlt' : ¬ (k : Int) < V.1.length := by omega
  obtain rfl : k = V.1.length := by omega
  by_cases hc : conOk r (one s) = true
  · rw [if_pos hc] at hVl
    have hv := con_valid hc (s := s) (by simp [one])
    have hV1 : V.1 = valsR r s s.calls.length := by rw [hV]; unfold valsG; rw [if_pos hc]
    have hP1 : P = (progR r s, 0) := by rw [hP]; unfold progG; rw [if_pos hc]
    have hel : csum V.1 s.calls.length = (progR r s).elements := by rw [hV1, csum_vals _ (Nat.le_refl _)]; rfl
    obtain ⟨b1, b2, b3⟩ := prog_b hv
    have b1 : -16000000000 ≤ (progR r s).elements ∧ (progR r s).elements ≤ 16000000000 := b1 _ (Nat.le_refl _)
    have ht : (progR r s).total = max 0 ((progR r s).elements + (progR r s).parts - (progR r s).off) := rfl
    simp (maxSteps := 4000000) +contextual (disch := first | omega | exact qdb_ok (by kernel_rfl) | exact okb_ok (by kernel_rfl)) only [bw1,bw2,bw3,bw4,bw5,bw6,bw7,bc0,bc1,bc2,bc3,bc4,bc5,bc6,bc7,setPs,AV.owns,AV.datF,AV.frz,AV.cpy,ifV,isEqB,nilV,nilX,AV.isNilS,AV.isNoRows,wk,dclo,datOf,binIs,addF,AV.isPtr,idxV,AV.isSl,AV.isSlice,AV.rows,ps,pv,extV,extS,AV.outs,AV.outF,packD,AV.dl,fieldV,fieldS,AV.cells?,AV.upr,AV.menc,AV.one,D.one,Value.oneCell',tagOf,AV.isApp,strV,strS,bolV,bolS,slcV,AV.isSlD,asrtS,AV.dcells,D.cells?,stcV,stcS,leafOk,eqDs,eqD,packA,D.val?,↓reduceIte,reduceCtorEq,Nat.reduceAdd,Nat.reduceSub,Nat.reduceMul,List.reduceReplicate,Nat.reduceLeDiff,Nat.reduceLT,Nat.reduceBEq,Nat.reduceEqDiff,Int.reduceNeg,Int.reduceEq,Int.reduceLE,Int.reduceLT,tfb,n_seq,ctz6,O6_23,x6_11,x6_11_m1,x6_13,x6_17,x6_22,x6_24,x6_24_m1,x6_24_m2,x6_24_m3,x6_25,x6_25_m1,eq_self, hlt', Int.lt_irrefl, hVl, hel, hP1, ht, bne_self_eq_false]
  · have hP1 : P.2 = 1 := by rw [hP]; unfold progG; rw [if_neg hc]
    simp (maxSteps := 4000000) +contextual (disch := first | omega | exact qdb_ok (by kernel_rfl) | exact okb_ok (by kernel_rfl)) only [bw1,bw2,bw3,bw4,bw5,bw6,bw7,bc0,bc1,bc2,bc3,bc4,bc5,bc6,bc7,setPs,AV.owns,AV.datF,AV.frz,AV.cpy,ifV,isEqB,nilV,nilX,AV.isNilS,AV.isNoRows,wk,dclo,datOf,binIs,addF,AV.isPtr,idxV,AV.isSl,AV.isSlice,AV.rows,ps,pv,extV,extS,AV.outs,AV.outF,packD,AV.dl,fieldV,fieldS,AV.cells?,AV.upr,AV.menc,AV.one,D.one,Value.oneCell',tagOf,AV.isApp,strV,strS,bolV,bolS,slcV,AV.isSlD,asrtS,AV.dcells,D.cells?,stcV,stcS,leafOk,eqDs,eqD,packA,D.val?,↓reduceIte,reduceCtorEq,Nat.reduceAdd,Nat.reduceSub,Nat.reduceMul,List.reduceReplicate,Nat.reduceLeDiff,Nat.reduceLT,Nat.reduceBEq,Nat.reduceEqDiff,Int.reduceNeg,Int.reduceEq,Int.reduceLE,Int.reduceLT,tfb,n_seq,ctz6,O6_23,x6_11,x6_11_m1,x6_13,x6_17,x6_22,x6_24,x6_24_m1,x6_24_m2,x6_24_m3,x6_25,x6_25_m1,eq_self, hlt', Int.lt_irrefl, hP1]
    rw [if_neg (by decide)]; trivial
theorem pf6i (r : Rul) (s : Ska) (turn judges : Int) (back : Bool) (h : (∀ x ∈ s.calls, i64 x.place) ∧ (0 ≤ turn ∧ turn ≤ 255) ∧ 0 ≤ judges ∧ judges ≤ 255) : PF Try.prog 6 [r.d, .agg s.c, .v (.int .u8 turn), .v (.int .u8 judges), .b back] (fun zz => zz = .ret (.b true)) := by
  obtain ⟨h0, ⟨a1, a2⟩, a3, a4⟩ := h
  obtain ⟨t, rfl⟩ := Int.eq_ofNat_of_zero_le a1
  obtain ⟨j, rfl⟩ := Int.eq_ofNat_of_zero_le a3
  exact pf6 r s t j back ⟨h0, by omega, by omega⟩
end Go.Proofs.Ytapglfcaghlpfaa
