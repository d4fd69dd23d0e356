/- A part of the proof that the last text ends: what functions of the program do, told by plain data. -/
import Derived.Test.YtapglfcaghlpfaaSL
set_option linter.unusedVariables false
set_option linter.unusedSimpArgs false
namespace Go.Proofs.Ytapglfcaghlpfaa
open Go Go.E Go.Maps
set_option maxRecDepth 100000
set_option maxHeartbeats 16000000
/-! ### Program and Values of the document -/
def one (s : Ska) : List Ska := [s]
theorem one_rows {s : Ska} : [s.c] = List.map Ska.c (one s) := rfl
theorem one_len {s : Ska} : (one s).length = 1 := rfl
theorem okN_all {r : Rul} {n : Int} {l : List Cal} : ∀ k i, okN r n l k i = true → ∀ j, i ≤ j → j < i + k → callOk r (l.getD j default) n = true
  | 0, i, _, j, h1, h2 => by omega
  | k + 1, i, h, j, h1, h2 => by
    unfold okN at h
    split at h
    · cases h
    · split at h
      · rename_i h3
        rcases Nat.lt_or_ge i j with h4 | h4
        · exact okN_all k (i + 1) h j (by omega) (by omega)
        · rw [show j = i by omega]; exact h3
      · cases h
theorem allB_el {l : List Int} {lo hi : Int} (h : allB l lo hi = true) : ∀ x ∈ l, lo ≤ x ∧ x ≤ hi := fun x hx => by
  unfold allB at h
  rw [List.all_eq_true] at h
  exact inB_iff.1 (h x hx)
theorem valid_of {r : Rul} {s : Ska} (h : conOk r (one s) = true) : ∃ n, Valid r s n := by
  have hj : jud (one s) = if 0 < s.calls.length then (((s.calls.getD 0 default).marks.length : Int), true) else if 0 < s.parts.length then ((s.parts.getD 0 default).length, true) else (0, false) := rfl
  unfold conOk at h
  simp only [Bool.and_eq_true] at h
  obtain ⟨⟨h1, h2⟩, h3⟩ := h
  unfold Rul.ok at h1
  simp only [Bool.and_eq_true, inB_iff] at h1
  obtain ⟨⟨⟨b1, b2⟩, b3⟩, b4⟩ := h1
  have h3 : skaOk r s (jud (one s)).1 = true := by
    unfold one at h3 ⊢
    simpa using h3
  have hn : (0 < s.calls.length ∨ 0 < s.parts.length) → 1 ≤ (jud (one s)).1 ∧ (jud (one s)).1 ≤ 9 := fun hh => by
    have h4 : (jud (one s)).2 = true := by
      rw [hj]
      split
      · rfl
      · split
        · rfl
        · omega
    rw [h4] at h2
    exact inB_iff.1 (by simpa using h2)
  have hn0 : 0 ≤ (jud (one s)).1 ∧ (jud (one s)).1 ≤ 9 := by
    by_cases hh : 0 < s.calls.length ∨ 0 < s.parts.length
    · have := hn hh; omega
    · rw [hj, if_neg (by omega), if_neg (by omega)]; simp
  generalize (jud (one s)).1 = n at h3 hn hn0
  unfold skaOk at h3
  simp only [Bool.and_eq_true, decide_eq_true_eq, inB_iff] at h3
  obtain ⟨⟨⟨⟨c1, c2⟩, c3⟩, c4⟩, c5⟩ := h3
  refine ⟨n, by omega, allB_el b2, b3, b4, hn0, c1, c2, c3, fun x hx => ?_, fun p hp => ?_⟩
  · obtain ⟨j, hj, rfl⟩ := List.getElem_of_mem hx
    have := okN_all _ _ c4 j (by omega) (by omega)
    rw [at_lt hj] at this
    unfold callOk marksOk at this
    simp only [Bool.and_eq_true, inB_iff, decide_eq_true_eq] at this
    obtain ⟨d1, d2, d3, d4, d5⟩ := this
    have := hn (.inl (by omega))
    exact ⟨d1, by omega, d3, ⟨d4, by omega⟩, allB_el d5⟩
  · unfold partsOk at c5
    rw [List.all_eq_true] at c5
    have := c5 p hp
    unfold marksOk at this
    simp only [Bool.and_eq_true, decide_eq_true_eq] at this
    have h6 : 0 < s.parts.length := List.length_pos_of_mem hp
    have := hn (.inr h6)
    rename_i d
    exact ⟨⟨d.1, by omega⟩, allB_el d.2⟩
def progG (r : Rul) (s : Ska) : Sco × Int := if conOk r (one s) = true then (progR r s, 0) else (⟨0, 0, 0, 0⟩, 1)
def O21 : Nat → Sch := fun id => .done
theorem ho21 : Try.f21.body.map (okO O21) = some true := by kernel_rfl
def Cf21 : Nat → List AV → (AV → List AV → Sto → Prop) → Kt → List AV → Sto → Prop := fun f args K Q e s => match f with
  | 12 => ent12 args K e s
  | 39 => ent39 args K e s
  | _ => False
def Ct21 : CT := { f := Cf21, y := noYld, z := fun d => false }
theorem ctz21 {d : Nat} : CT.z Ct21 d = (false) := id rfl
theorem Ct21_ok : Ct21.ok Try.prog := ok_of_f (fun f args K Q e s h => by
  have h : Cf21 f args K Q e s := h
  unfold Cf21 at h; split at h
  · exact ent12_ok h
  · exact ent39_ok h
  · exact h.elim) (fun _ _ _ _ _ _ _ _ _ h => h)
theorem x21_12 {r : Rul} {l : List Ska} {KK : AV → List AV → Sto → Prop} {QQ : Kt} {ii : At KK} {jj : At QQ} {ee : List AV} {ss : Sto} : xC Ct21 12 [.d (r.d), .d (.sl 3 (l.map Ska.c))] KK QQ ii jj ee ss = ((l.length ≤ 1000) ∧ KK (.d (.b (conOk r l))) ee ss) := eq12
theorem x21_12_m1 {r : Rul} {l : List Ska} {g1 el1 : Nat} {KK : AV → List AV → Sto → Prop} {QQ : Kt} {ii : At KK} {jj : At QQ} {ee : List AV} {ss : Sto} : xC Ct21 12 [.d (r.d), .own g1 el1 3 (l.map Ska.c)] KK QQ ii jj ee ss = ((l.length ≤ 1000) ∧ (.b (conOk r l) : D).flat = true ∧ KK (.d (.b (conOk r l))) ee ss) := eqo12
theorem x21_39 {r : Rul} {s : Ska} {KK : AV → List AV → Sto → Prop} {QQ : Kt} {ii : At KK} {jj : At QQ} {ee : List AV} {ss : Sto} : xC Ct21 39 [.d (r.d), .d (.agg s.c)] KK QQ ii jj ee ss = ((∃ n, Valid r s n) ∧ KK (.d (.agg (progR r s).c)) ee ss) := eq39
theorem c21 : callable Try.prog 21 = true := by kernel_rfl
theorem pf21 (r : Rul) (s : Ska) : PF Try.prog 21 [r.d, .agg s.c] (fun zz => zz = .ret (.tup [.agg (progG r s).1.c, .i (progG r s).2])) := by
  by_cases c : conOk r (one s) = true
  · have hw : progG r s = (progR r s, 0) := by unfold progG; rw [if_pos c]
    have hv := valid_of c
    rw [hw]
    refine PF_nil (PF_start (O := O21) Ct21_ok hmix ho21 Try.func21 c21 rfl Try.ntmps21 Try.results21 ?_)
    simp (maxSteps := 4000000) +contextual (disch := first | omega | exact qdb_ok (by kernel_rfl) | exact okb_ok (by kernel_rfl)) only [bw1,bw2,bw3,bw4,bw5,bw6,bw7,bc0,bc1,bc2,bc3,bc4,bc5,bc6,bc7,setPs,AV.owns,AV.datF,AV.frz,AV.cpy,ifV,isEqB,nilV,nilX,AV.isNilS,AV.isNoRows,wk,dclo,datOf,binIs,addF,AV.isPtr,idxV,AV.isSl,AV.isSlice,AV.rows,ps,pv,extV,extS,AV.outs,AV.outF,packD,AV.dl,fieldV,fieldS,AV.cells?,AV.upr,AV.menc,AV.one,D.one,Value.oneCell',tagOf,AV.isApp,strV,strS,bolV,bolS,slcV,AV.isSlD,asrtS,AV.dcells,D.cells?,stcV,stcS,leafOk,eqDs,eqD,packA,D.val?,↓reduceIte,reduceCtorEq,Nat.reduceAdd,Nat.reduceSub,Nat.reduceMul,List.reduceReplicate,Nat.reduceLeDiff,Nat.reduceLT,Nat.reduceBEq,Nat.reduceEqDiff,Int.reduceNeg,Int.reduceEq,Int.reduceLE,Int.reduceLT,tfb,ctz21,x21_12,x21_12_m1,x21_39,one_rows, one_len, c, hv]
    try (and_intros <;> rfl)
  · have hw : progG r s = (⟨0, 0, 0, 0⟩, 1) := by unfold progG; rw [if_neg c]
    rw [hw]
    refine PF_nil (PF_start (O := O21) Ct21_ok hmix ho21 Try.func21 c21 rfl Try.ntmps21 Try.results21 ?_)
    simp (maxSteps := 4000000) +contextual (disch := first | omega | exact qdb_ok (by kernel_rfl) | exact okb_ok (by kernel_rfl)) only [bw1,bw2,bw3,bw4,bw5,bw6,bw7,bc0,bc1,bc2,bc3,bc4,bc5,bc6,bc7,setPs,AV.owns,AV.datF,AV.frz,AV.cpy,ifV,isEqB,nilV,nilX,AV.isNilS,AV.isNoRows,wk,dclo,datOf,binIs,addF,AV.isPtr,idxV,AV.isSl,AV.isSlice,AV.rows,ps,pv,extV,extS,AV.outs,AV.outF,packD,AV.dl,fieldV,fieldS,AV.cells?,AV.upr,AV.menc,AV.one,D.one,Value.oneCell',tagOf,AV.isApp,strV,strS,bolV,bolS,slcV,AV.isSlD,asrtS,AV.dcells,D.cells?,stcV,stcS,leafOk,eqDs,eqD,packA,D.val?,↓reduceIte,reduceCtorEq,Nat.reduceAdd,Nat.reduceSub,Nat.reduceMul,List.reduceReplicate,Nat.reduceLeDiff,Nat.reduceLT,Nat.reduceBEq,Nat.reduceEqDiff,Int.reduceNeg,Int.reduceEq,Int.reduceLE,Int.reduceLT,tfb,ctz21,x21_12,x21_12_m1,x21_39,one_rows, one_len, c]
    rfl
def valsR (r : Rul) (s : Ska) (k : Nat) : List Int := (List.range k).map (valR r s)
theorem valsR_succ {r : Rul} {s : Ska} {k : Nat} : valsR r s (k + 1) = valsR r s k ++ [valR r s k] := by unfold valsR; simp [List.range_succ]
theorem valsR_len {r : Rul} {s : Ska} {k : Nat} : (valsR r s k).length = k := by unfold valsR; simp
def valsG (r : Rul) (s : Ska) : List Int × Int := if conOk r (one s) = true then (valsR r s s.calls.length, 0) else ([], 1)
def ent21 (args : List AV) (K : AV → List AV → Sto → Prop) (e : List AV) (s : Sto) : Prop := ent (α := (Rul) × (Ska)) (fun aa => [aa.1.d, .agg aa.2.c]) (fun aa => True) (fun aa => .tup [.agg (progG aa.1 aa.2).1.c, .i (progG aa.1 aa.2).2]) args K e s
theorem ent21_ok {args : List AV} {K : AV → List AV → Sto → Prop} {Q : Kt} {e : List AV} {s : Sto} (h : ent21 args K e s) : pcall Try.prog 21 args K Q e s := ent_ok (fun aa h => pf21 aa.1 aa.2) h
theorem eq21 {r : Rul} {s : Ska} {KK : AV → List AV → Sto → Prop} {ee : List AV} {ss : Sto} : ent21 [.d (r.d), .d (.agg s.c)] KK ee ss = (KK (.d (.tup [.agg (progG r s).1.c, .i (progG r s).2])) ee ss) := by
  unfold ent21; rw [ent_iff (r, s) (by intro b h; simpa [Prod.ext_iff, and_assoc, Int.ofNat_inj, ints_inj, cals_inj, pcs_inj, skas_inj, scos_inj, ska_inj, rul_inj, sco_inj, cal_inj] using h) rfl]; simp
def O23 : Nat → Sch := fun id => .done
theorem ho23 : Try.f23.body.map (okO O23) = some true := by kernel_rfl
def Cf23 : Nat → List AV → (AV → List AV → Sto → Prop) → Kt → List AV → Sto → Prop := fun f args K Q e s => match f with
  | 12 => ent12 args K e s
  | 41 => ent41 args K e s
  | _ => False
def Ct23 : CT := { f := Cf23, y := noYld, z := fun d => false }
theorem ctz23 {d : Nat} : CT.z Ct23 d = (false) := id rfl
theorem Ct23_ok : Ct23.ok Try.prog := ok_of_f (fun f args K Q e s h => by
  have h : Cf23 f args K Q e s := h
  unfold Cf23 at h; split at h
  · exact ent12_ok h
  · exact ent41_ok h
  · exact h.elim) (fun _ _ _ _ _ _ _ _ _ h => h)
theorem x23_12 {r : Rul} {l : List Ska} {KK : AV → List AV → Sto → Prop} {QQ : Kt} {ii : At KK} {jj : At QQ} {ee : List AV} {ss : Sto} : xC Ct23 12 [.d (r.d), .d (.sl 3 (l.map Ska.c))] KK QQ ii jj ee ss = ((l.length ≤ 1000) ∧ KK (.d (.b (conOk r l))) ee ss) := eq12
theorem x23_12_m1 {r : Rul} {l : List Ska} {g1 el1 : Nat} {KK : AV → List AV → Sto → Prop} {QQ : Kt} {ii : At KK} {jj : At QQ} {ee : List AV} {ss : Sto} : xC Ct23 12 [.d (r.d), .own g1 el1 3 (l.map Ska.c)] KK QQ ii jj ee ss = ((l.length ≤ 1000) ∧ (.b (conOk r l) : D).flat = true ∧ KK (.d (.b (conOk r l))) ee ss) := eqo12
theorem x23_41 {r : Rul} {s : Ska} {i : Nat} {KK : AV → List AV → Sto → Prop} {QQ : Kt} {ii : At KK} {jj : At QQ} {ee : List AV} {ss : Sto} : xC Ct23 41 [.d (r.d), .d (.agg s.c), .d (.i (i : Int))] KK QQ ii jj ee ss = (((∃ n, Valid r s n) ∧ i < s.calls.length) ∧ KK (.d (.i (valR r s i))) ee ss) := eq41
theorem c23 : callable Try.prog 23 = true := by kernel_rfl
theorem pf23 (r : Rul) (s : Ska) : PF Try.prog 23 [r.d, .agg s.c] (fun zz => zz = .ret (.tup [.sl 1 ((valsG r s).1.map ic), .i (valsG r s).2])) := by
  by_cases c : conOk r (one s) = true
  case neg =>
    have hw : valsG r s = ([], 1) := by unfold valsG; rw [if_neg c]
    rw [hw]
    refine PF_nil (PF_start (O := O23) Ct23_ok hmix ho23 Try.func23 c23 rfl Try.ntmps23 Try.results23 ?_)
    simp (maxSteps := 4000000) +contextual (disch := first | omega | exact qdb_ok (by kernel_rfl) | exact okb_ok (by kernel_rfl)) only [bw1,bw2,bw3,bw4,bw5,bw6,bw7,bc0,bc1,bc2,bc3,bc4,bc5,bc6,bc7,setPs,AV.owns,AV.datF,AV.frz,AV.cpy,ifV,isEqB,nilV,nilX,AV.isNilS,AV.isNoRows,wk,dclo,datOf,binIs,addF,AV.isPtr,idxV,AV.isSl,AV.isSlice,AV.rows,ps,pv,extV,extS,AV.outs,AV.outF,packD,AV.dl,fieldV,fieldS,AV.cells?,AV.upr,AV.menc,AV.one,D.one,Value.oneCell',tagOf,AV.isApp,strV,strS,bolV,bolS,slcV,AV.isSlD,asrtS,AV.dcells,D.cells?,stcV,stcS,leafOk,eqDs,eqD,packA,D.val?,↓reduceIte,reduceCtorEq,Nat.reduceAdd,Nat.reduceSub,Nat.reduceMul,List.reduceReplicate,Nat.reduceLeDiff,Nat.reduceLT,Nat.reduceBEq,Nat.reduceEqDiff,Int.reduceNeg,Int.reduceEq,Int.reduceLE,Int.reduceLT,tfb,ctz23,x23_12,x23_12_m1,x23_41,one_rows, one_len, c]
    rfl
  have hw : valsG r s = (valsR r s s.calls.length, 0) := by unfold valsG; rw [if_pos c]
  obtain ⟨n, hv⟩ := valid_of c
  have hex : ∃ n, Valid r s n := ⟨n, hv⟩
  have hcl := hv.calls
  have v0 : valsR r s 0 = [] := rfl
  have v1 : ∀ k, valsR r s (k + 1) = valsR r s k ++ [valR r s k] := fun k => valsR_succ
  have vl : ∀ k, (valsR r s k).length = k := fun k => valsR_len
  rw [hw]
  generalize valsR r s = V at v0 v1 vl ⊢
  refine PF_nil (PF_start (O := O23) Ct23_ok hmix ho23 Try.func23 c23 rfl Try.ntmps23 Try.results23 ?_)
  simp (maxSteps := 4000000) +contextual (disch := first | omega | exact qdb_ok (by kernel_rfl) | exact okb_ok (by kernel_rfl)) only [bw1,bw2,bw3,bw4,bw5,bw6,bw7,bc0,bc1,bc2,bc3,bc4,bc5,bc6,bc7,setPs,AV.owns,AV.datF,AV.frz,AV.cpy,ifV,isEqB,nilV,nilX,AV.isNilS,AV.isNoRows,wk,dclo,datOf,binIs,addF,AV.isPtr,idxV,AV.isSl,AV.isSlice,AV.rows,ps,pv,extV,extS,AV.outs,AV.outF,packD,AV.dl,fieldV,fieldS,AV.cells?,AV.upr,AV.menc,AV.one,D.one,Value.oneCell',tagOf,AV.isApp,strV,strS,bolV,bolS,slcV,AV.isSlD,asrtS,AV.dcells,D.cells?,stcV,stcS,leafOk,eqDs,eqD,packA,D.val?,↓reduceIte,reduceCtorEq,Nat.reduceAdd,Nat.reduceSub,Nat.reduceMul,List.reduceReplicate,Nat.reduceLeDiff,Nat.reduceLT,Nat.reduceBEq,Nat.reduceEqDiff,Int.reduceNeg,Int.reduceEq,Int.reduceLE,Int.reduceLT,tfb,ctz23,x23_12,x23_12_m1,x23_41,one_rows, one_len, c]
  refine ⟨rfl, ?_⟩
  refine seed (m1 := mk _) (m2 := mk _) 6 27 3 1 (by decide) rfl rfl (by simp [Sto.mens, AV.mens, AV.men]) rfl ?_
  refine loop_s (O := O23) (tb := 0) Ct23_ok hmix (by kernel_rfl) (σ := Nat) (fun k => [(6, .own 27 3 1 ((V k).map ic)), (7, .i k)]) (fun k => k ≤ s.calls.length) (fun k => s.calls.length - k) (fun k => k + 1) 0 (by omega) ?_ ?_
  · simp (maxSteps := 4000000) +contextual (disch := first | omega | exact qdb_ok (by kernel_rfl) | exact okb_ok (by kernel_rfl)) only [bw1,bw2,bw3,bw4,bw5,bw6,bw7,bc0,bc1,bc2,bc3,bc4,bc5,bc6,bc7,setPs,AV.owns,AV.datF,AV.frz,AV.cpy,ifV,isEqB,nilV,nilX,AV.isNilS,AV.isNoRows,wk,dclo,datOf,binIs,addF,AV.isPtr,idxV,AV.isSl,AV.isSlice,AV.rows,ps,pv,extV,extS,AV.outs,AV.outF,packD,AV.dl,fieldV,fieldS,AV.cells?,AV.upr,AV.menc,AV.one,D.one,Value.oneCell',tagOf,AV.isApp,strV,strS,bolV,bolS,slcV,AV.isSlD,asrtS,AV.dcells,D.cells?,stcV,stcS,leafOk,eqDs,eqD,packA,D.val?,↓reduceIte,reduceCtorEq,Nat.reduceAdd,Nat.reduceSub,Nat.reduceMul,List.reduceReplicate,Nat.reduceLeDiff,Nat.reduceLT,Nat.reduceBEq,Nat.reduceEqDiff,Int.reduceNeg,Int.reduceEq,Int.reduceLE,Int.reduceLT,tfb,ctz23,x23_12,x23_12_m1,x23_41,eq_self, v0]
  intro k hk
  by_cases hlt : k < s.calls.length
  · have hlt' : (k : Int) < s.calls.length := by omega
    have v1k := v1 k
    have vlk := vl k
    simp (maxSteps := 4000000) +contextual (disch := first | omega | exact qdb_ok (by kernel_rfl) | exact okb_ok (by kernel_rfl)) only [bw1,bw2,bw3,bw4,bw5,bw6,bw7,bc0,bc1,bc2,bc3,bc4,bc5,bc6,bc7,setPs,AV.owns,AV.datF,AV.frz,AV.cpy,ifV,isEqB,nilV,nilX,AV.isNilS,AV.isNoRows,wk,dclo,datOf,binIs,addF,AV.isPtr,idxV,AV.isSl,AV.isSlice,AV.rows,ps,pv,extV,extS,AV.outs,AV.outF,packD,AV.dl,fieldV,fieldS,AV.cells?,AV.upr,AV.menc,AV.one,D.one,Value.oneCell',tagOf,AV.isApp,strV,strS,bolV,bolS,slcV,AV.isSlD,asrtS,AV.dcells,D.cells?,stcV,stcS,leafOk,eqDs,eqD,packA,D.val?,↓reduceIte,reduceCtorEq,Nat.reduceAdd,Nat.reduceSub,Nat.reduceMul,List.reduceReplicate,Nat.reduceLeDiff,Nat.reduceLT,Nat.reduceBEq,Nat.reduceEqDiff,Int.reduceNeg,Int.reduceEq,Int.reduceLE,Int.reduceLT,tfb,ctz23,x23_12,x23_12_m1,x23_41,eq_self, hlt', hex, v1k]
    and_intros <;> first | omega | (rw [List.map_append]; rfl)
  · have hlt' : ¬ (k : Int) < s.calls.length := by omega
    obtain rfl : k = s.calls.length := by omega
    simp (maxSteps := 4000000) +contextual (disch := first | omega | exact qdb_ok (by kernel_rfl) | exact okb_ok (by kernel_rfl)) only [bw1,bw2,bw3,bw4,bw5,bw6,bw7,bc0,bc1,bc2,bc3,bc4,bc5,bc6,bc7,setPs,AV.owns,AV.datF,AV.frz,AV.cpy,ifV,isEqB,nilV,nilX,AV.isNilS,AV.isNoRows,wk,dclo,datOf,binIs,addF,AV.isPtr,idxV,AV.isSl,AV.isSlice,AV.rows,ps,pv,extV,extS,AV.outs,AV.outF,packD,AV.dl,fieldV,fieldS,AV.cells?,AV.upr,AV.menc,AV.one,D.one,Value.oneCell',tagOf,AV.isApp,strV,strS,bolV,bolS,slcV,AV.isSlD,asrtS,AV.dcells,D.cells?,stcV,stcS,leafOk,eqDs,eqD,packA,D.val?,↓reduceIte,reduceCtorEq,Nat.reduceAdd,Nat.reduceSub,Nat.reduceMul,List.reduceReplicate,Nat.reduceLeDiff,Nat.reduceLT,Nat.reduceBEq,Nat.reduceEqDiff,Int.reduceNeg,Int.reduceEq,Int.reduceLE,Int.reduceLT,tfb,ctz23,x23_12,x23_12_m1,x23_41,eq_self, hlt', Int.lt_irrefl]
    try rfl
def ent23 (args : List AV) (K : AV → List AV → Sto → Prop) (e : List AV) (s : Sto) : Prop := ent (α := (Rul) × (Ska)) (fun aa => [aa.1.d, .agg aa.2.c]) (fun aa => True) (fun aa => .tup [.sl 1 ((valsG aa.1 aa.2).1.map ic), .i (valsG aa.1 aa.2).2]) args K e s
theorem ent23_ok {args : List AV} {K : AV → List AV → Sto → Prop} {Q : Kt} {e : List AV} {s : Sto} (h : ent23 args K e s) : pcall Try.prog 23 args K Q e s := ent_ok (fun aa h => pf23 aa.1 aa.2) h
theorem eq23 {r : Rul} {s : Ska} {KK : AV → List AV → Sto → Prop} {ee : List AV} {ss : Sto} : ent23 [.d (r.d), .d (.agg s.c)] KK ee ss = (KK (.d (.tup [.sl 1 ((valsG r s).1.map ic), .i (valsG r s).2])) ee ss) := by
  unfold ent23; rw [ent_iff (r, s) (by intro b h; simpa [Prod.ext_iff, and_assoc, Int.ofNat_inj, ints_inj, cals_inj, pcs_inj, skas_inj, scos_inj, ska_inj, rul_inj, sco_inj, cal_inj] using h) rfl]; simp
end Go.Proofs.Ytapglfcaghlpfaa
