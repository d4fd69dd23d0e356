/- A part of the proof that the last text ends: what functions of the program do, told by plain data. -/
import Derived.Test.YtofbbkacihnjdaaDoorHKh
set_option linter.unusedVariables false
set_option linter.unusedSimpArgs false
namespace Go.Proofs.YtofbbkacihnjdaaDoor.M4
open Go Go.E Go.Maps
set_option maxRecDepth 100000
set_option maxHeartbeats 4000000
def sp48 (args : List AV) (K : AV → List AV → Sto → Prop) (e : List AV) (s : Sto) : Prop :=
  ∃ n c : Nat, (n ≤ 5 ∧ c ≤ 5) ∧ args = [.d (.i 0), .d (.i (n : Int)), .d (.i (c : Int)), nlS, nlS] ∧ (s.kill 48999).get 48999 = none ∧ (AV.stays [48999] [] (e.map (AV.kill 48999)) ∧ othF [48999] (s.kill 48999)) ∧ K (oH (seR n c 0 [])) (e.map (AV.kill 48999)) (s.kill 48999)
theorem nil3 {a b c d : AV} : ∀ L w vs, AReps L w [a, b, c, nlS, d] vs → AReps L w [a, b, c, .d (.sl 1 []), d] vs := fun _ _ _ ⟨u, ut, e, h1, u2, ut2, e2, h2, u3, ut3, e3, h3, u4, ut4, e4, h4, h5⟩ => ⟨u, ut, e, h1, u2, ut2, e2, h2, u3, ut3, e3, h3, u4, ut4, e4, nil_sl h4, h5⟩
theorem sp48_ok {args : List AV} {K : AV → List AV → Sto → Prop} {Q : Kt} {e : List AV} {s : Sto} (h : sp48 args K e s) : pcall Tryd.prog 48 args K Q e s := by
  obtain ⟨n, c, ⟨hn, hc⟩, rfl, h3, h4, h5⟩ := h
  refine pcall_weak nil3 ?_
  refine pcall_seed (a1 := [.d (.i 0), .d (.i (n : Int)), .d (.i (c : Int)), .d (.sl 1 [])]) (a2 := []) (g := 48999) (el := 26) (sz := 1) (by decide) rfl rfl ?_
  have hD : Do48 n c 0 [] [] := do48 hn c 0 [] [] (by
    have : 6 ^ c ≤ 6 ^ 5 := Nat.pow_le_pow_right (by decide) hc
    have h2 : (6 : Nat) ^ 5 ≤ 6 ^ 13 := by decide
    simp only [List.length_nil]; omega) (by simpa using hc) (Nat.zero_le _)
  exact pcall_eat0 (args := [.d (.i 0), .d (.i (n : Int)), .d (.i (c : Int)), .d (.sl 1 []), .own 48999 26 1 []]) 48999 h3 { tags := fun g hg => by simp only [List.mem_singleton] at hg; omega, sub := fun g c h => by simp [Sto.get] at h, args := rfl, eo := rfl, av := fun x hx => by (cases hx), slots := h4.1, others := fun g c hc _ => (othF_get h4.2 hc).2 } hD rfl h5
theorem call48t {C : CT} {args e : List AV} {s : Sto} {K : AV → List AV → Sto → Prop} {Q : Kt} {i : At K} {j : At Q} (hC : ∀ {args K Q e s} {i : At K} {j : At Q}, xC C 48 args K Q i j e s = sp48 args K e s) (n c : Nat) (hn : n ≤ 5 ∧ c ≤ 5) (h1 : args = [.d (.i 0), .d (.i (n : Int)), .d (.i (c : Int)), nlS, nlS]) (h3 : (s.kill 48999).get 48999 = none)
    (h4 : AV.stays [48999] [] (e.map (AV.kill 48999)) ∧ othF [48999] (s.kill 48999)) (h5 : K (oH (seR n c 0 [])) (e.map (AV.kill 48999)) (s.kill 48999)) : xC C 48 args K Q i j e s := by
  rw [hC]; exact ⟨n, c, hn, h1, h3, h4, h5⟩
def alT (G m : Nat) : List (List Int) := (List.range' m (G - m)).flatMap fun n => seR G (n + 1) 0 []
theorem alT_zero {G : Nat} : alT G 0 = alS G := by unfold alT alS; rw [List.range_eq_range']; rfl
theorem alT_step {G m : Nat} (h : m < G) : alT G m = seR G (m + 1) 0 [] ++ alT G (m + 1) := by
  unfold alT
  rw [show G - m = (G - (m + 1)) + 1 by omega, List.range'_succ, List.flatMap_cons]
theorem alT_end {G m : Nat} (h : G ≤ m) : alT G m = [] := by unfold alT; rw [show G - m = 0 by omega]; rfl
theorem se_in {G m : Nat} (hG : G ≤ 5) (h : m < G) {l : List Int} (hl : l ∈ seR G (m + 1) 0 []) : l.length ≤ 5 ∧ ∀ g ∈ l, 0 ≤ g ∧ g < (G : Int) := by
  have hm : l ∈ alS G := List.mem_flatMap.2 ⟨m, List.mem_range.2 h, hl⟩
  obtain ⟨x, h1, h2⟩ := List.any_eq_true.1 (al_lw G (by omega) l hm)
  have h1 := List.mem_range.1 h1
  have h2 := of_decide_eq_true h2
  have hX : 2 ^ G ≤ 2 ^ 5 := Nat.pow_le_pow_right (by decide) hG
  have := (lw_len x (by omega)).1
  rw [h2] at this
  refine ⟨this, fun g hg => ?_⟩
  rw [← h2] at hg
  exact lw_in G (by omega) x h1 g hg
def fdQ (t : Tt) (p : List Int) (l : List (List Int)) : List Int := (l.find? (lkQ t p)).getD []
theorem fd_yes {t : Tt} {p l : List Int} {r : List (List Int)} (h : lkQ t p l = true) : fdQ t p (l :: r) = l := by unfold fdQ; rw [List.find?_cons_of_pos h]; rfl
theorem fd_no {t : Tt} {p l : List Int} {r : List (List Int)} (h : lkQ t p l = false) : fdQ t p (l :: r) = fdQ t p r := by unfold fdQ; rw [List.find?_cons_of_neg (by rw [h]; decide)]
def O19 : Nat → Sch := fun id => if id = 22 then .one 0 (.one 1 (.one 2 (.one 3 (.one 4 (.one 5 (.one 6 (.one 7 (.one 8 (.one 9 (.one 10 (.one 11 (.done)))))))))))) else .done
theorem O19_22 : O19 22 = .one 0 (.one 1 (.one 2 (.one 3 (.one 4 (.one 5 (.one 6 (.one 7 (.one 8 (.one 9 (.one 10 (.one 11 (.done)))))))))))) := rfl
theorem ho19 : Tryd.f19.body.map (okO O19) = some true := by kernel_rfl
def Cf19 : Nat → List AV → (AV → List AV → Sto → Prop) → Kt → List AV → Sto → Prop := fun f args K Q e s => match f with
  | 21 => ent21 args K e s
  | 40 => sp40 args K e s
  | 47 => ent47 args K e s
  | 48 => sp48 args K e s
  | 49 => ent49 args K e s
  | _ => False
def Ct19 : CT := { f := Cf19, y := noYld, z := fun d => false }
theorem Ct19_ok : Ct19.ok Tryd.prog := ok_of_f (fun f args K Q e s h => by
  have h : Cf19 f args K Q e s := h
  unfold Cf19 at h; split at h
  · exact ent21_ok h
  · exact sp40_ok h
  · exact ent47_ok h
  · exact sp48_ok h
  · exact ent49_ok h
  · exact h.elim) (fun _ _ _ _ _ _ _ _ _ h => h)
theorem x19_21 {t : Tt} {KK : AV → List AV → Sto → Prop} {QQ : Kt} {ii : At KK} {jj : At QQ} {ee : List AV} {ss : Sto} : xC Ct19 21 [.d (.agg t.c)] KK QQ ii jj ee ss = ((t.hours.length ≤ 1000 ∧ t.groups.length ≤ 1000) ∧ KK (.d (.b (ttOk t))) ee ss) := eq21
theorem x19_47 {n : Int} {lo : Int} {hi : Int} {KK : AV → List AV → Sto → Prop} {QQ : Kt} {ii : At KK} {jj : At QQ} {ee : List AV} {ss : Sto} : xC Ct19 47 [.d (.i n), .d (.i lo), .d (.i hi)] KK QQ ii jj ee ss = (KK (.d (.b (inB n lo hi))) ee ss) := eq47
theorem x19_49 {t : Tt} {q : List Int} {p : List Int} {l : List Int} {KK : AV → List AV → Sto → Prop} {QQ : Kt} {ii : At KK} {jj : At QQ} {ee : List AV} {ss : Sto} : xC Ct19 49 [.d (.agg t.c), .d (.sl 1 (q.map ic)), .d (.sl 1 (p.map ic)), .d (.sl 1 (l.map ic))] KK QQ ii jj ee ss = (((t.groups.length ≤ 1000 ∧ q.length ≤ 1000 ∧ l.length ≤ 1000) ∧ (p.length : Int) = t.groups.length ∧ foP t q ∧ ∀ i, i < l.length → 0 ≤ l.getD i default ∧ l.getD i default < t.groups.length) ∧ KK (.d (.b (enQ q p l))) ee ss) := eq49
theorem c19 : callable Tryd.prog 19 = true := by kernel_rfl
theorem pf19 (t : Tt) (p : List Int) (h : (t.hours.length ≤ 1000 ∧ t.groups.length ≤ 1000) ∧ p.length ≤ 1000) : PF Tryd.prog 19 [.agg t.c, .sl 1 (p.map ic)] (fun zz => zz = .ret (.tup [.sl 1 ((hiQ t p).1.map ic), .i (hiQ t p).2])) := by
  obtain ⟨hsz, hpl⟩ := h
  by_cases ht : ttOk t = true
  case neg =>
    have hW : hiQ t p = ([], 1) := by unfold hiQ; rw [if_neg ht]
    rw [hW]
    refine PF_nil (PF_start (O := O19) Ct19_ok hmix ho19 Tryd.func19 c19 rfl Tryd.ntmps19 Tryd.results19 ?_)
    simp (maxSteps := 4000000) +contextual (disch := first | omega | exact qdb_ok (by kernel_rfl) | exact okb_ok (by kernel_rfl)) only [bw1,bw2,bw3,bw5,bw6,bc1,bc2,bc3,bc4,bc5,bc6,AV.outs,AV.outF,packD,AV.dl,AV.cells?,↓reduceIte,reduceCtorEq,Nat.reduceAdd,Nat.reduceSub,List.reduceReplicate,Nat.reduceLeDiff,Nat.reduceLT,tfb,x19_21,hsz, ht]
    try rfl
  have hbig := tt_hours ht
  by_cases c2 : (p.length : Int) = t.groups.length
  case neg =>
    have c2b : ((p.length : Int) != (t.groups.length : Int)) = true := by simpa using c2
    have hW : hiQ t p = ([], 2) := by unfold hiQ; rw [if_pos ht, if_neg (fun h => c2 h.1)]
    rw [hW]
    refine PF_nil (PF_start (O := O19) Ct19_ok hmix ho19 Tryd.func19 c19 rfl Tryd.ntmps19 Tryd.results19 ?_)
    simp (maxSteps := 4000000) +contextual (disch := first | omega | exact qdb_ok (by kernel_rfl) | exact okb_ok (by kernel_rfl)) only [bw1,bw2,bw3,bw4,bw5,bw6,bc1,bc2,bc3,bc4,bc5,bc6,binIs,addF,AV.isPtr,AV.isSlice,AV.rows,AV.outs,AV.outF,packD,AV.dl,AV.cells?,↓reduceIte,reduceCtorEq,Nat.reduceAdd,Nat.reduceSub,List.reduceReplicate,Nat.reduceLeDiff,Nat.reduceLT,tfb,x19_21,hsz, ht, c2b]
    try rfl
  have c2b : ((p.length : Int) != (t.groups.length : Int)) = false := by simpa using c2
  obtain ⟨W, hWd⟩ : ∃ W, hiQ t p = W := ⟨_, rfl⟩
  rw [hWd]
  refine PF_nil (PF_start (O := O19) Ct19_ok hmix ho19 Tryd.func19 c19 rfl Tryd.ntmps19 Tryd.results19 ?_)
  simp (maxSteps := 4000000) +contextual (disch := first | omega | exact qdb_ok (by kernel_rfl) | exact okb_ok (by kernel_rfl)) only [bw1,bw2,bw4,bw5,bw6,bc1,bc2,bc3,bc4,bc5,bc6,binIs,addF,AV.isPtr,AV.isSlice,AV.rows,AV.dl,AV.cells?,↓reduceIte,reduceCtorEq,Nat.reduceAdd,Nat.reduceSub,List.reduceReplicate,Nat.reduceLeDiff,Nat.reduceLT,tfb,x19_21,hsz, ht, c2b]
  refine loop_xu (O := O19) (tb := 0) Ct19_ok hmix (by kernel_rfl) (σ := Nat) (fun i => [(6, .i i)]) (fun _ => []) (fun i => i ≤ p.length ∧ ∀ j, j < i → inB (p.getD j default) 0 12 = true) (fun i => p.length - i) 0 ⟨Nat.zero_le _, fun j hj => by omega⟩ ?_ ?_
  · simp (maxSteps := 4000000) +contextual (disch := first | omega | exact qdb_ok (by kernel_rfl) | exact okb_ok (by kernel_rfl)) only [bw4,bw5,bw6,bc0,bc3,bc5,bc6,AV.isNilS,AV.isNoRows,wk,↓reduceIte,reduceCtorEq,eq_self]
  intro i hi0
  have hi := hi0.1
  have hin := hi0.2
  have hii : (0 : Int) ≤ i := by omega
  by_cases hlt : i < p.length
  · have hlt' : (i : Int) < p.length := by omega
    have hrp : (p.map ic).getD i [] = ic (p.getD i default) := Go.E.row_at hlt
    by_cases d1 : inB (p.getD i default) 0 12 = true
    · simp (maxSteps := 4000000) +contextual (disch := first | omega | exact qdb_ok (by kernel_rfl) | exact okb_ok (by kernel_rfl)) only [bw1,bw2,bw4,bw5,bw6,bw7,bc0,bc1,bc2,bc3,bc4,bc5,bc6,AV.isNilS,AV.isNoRows,wk,binIs,idxV,AV.isSl,AV.isSlice,AV.rows,ps,pv,↓reduceIte,reduceCtorEq,Nat.reduceLeDiff,tfb,x19_47,eq_self, hlt', hii, hrp, d1]
      exact ⟨i + 1, ⟨⟨by omega, fun j hj => by rcases Nat.lt_succ_iff_lt_or_eq.1 hj with h | h; exact hin j h; rw [h]; exact d1⟩, by omega⟩, rfl⟩
    · have d1b : inB (p.getD i default) 0 12 = false := by simpa using d1
      have hW2 : W = ([], 2) := by
        rw [← hWd]; unfold hiQ
        rw [if_pos ht, if_neg (fun h => d1 (all_get.1 h.2 i hlt))]
      simp (maxSteps := 4000000) +contextual (disch := first | omega | exact qdb_ok (by kernel_rfl) | exact okb_ok (by kernel_rfl)) only [bw1,bw2,bw3,bw4,bw5,bw6,bw7,bc0,bc1,bc2,bc3,bc4,bc5,bc6,binIs,idxV,AV.isSl,AV.isSlice,AV.rows,ps,pv,AV.outs,AV.outF,packD,↓reduceIte,Nat.reduceLeDiff,tfb,x19_47,eq_self, hlt', hii, hrp, d1b, hW2]
      try rfl
  have hlt' : ¬ (i : Int) < p.length := by omega
  have hall : (p.all fun x => inB x 0 12) = true := all_get.2 fun j hj => hin j (by omega)
  obtain ⟨V, hV⟩ : ∃ V, fdQ t p (alT t.groups.length 0) = V := ⟨_, rfl⟩
  have hWV : W = (V, 0) := by
    rw [← hWd, ← hV, alT_zero]; unfold hiQ fdQ
    rw [if_pos ht, if_pos ⟨c2, hall⟩]
  rw [hWV]
  have hgo : ∀ q ∈ plR t t.hours.length [], goP t q := fun q hq => mem_all.1 hq
  have hlen : (plR t t.hours.length []).length ≤ 6 ^ 12 := Nat.le_trans (plR_len hbig.2.1 _ _) (Nat.pow_le_pow_right (by decide) hbig.1)
  have h612 : (6 : Nat) ^ 12 = 2176782336 := by decide
  have hlk : ∀ l, lkQ t p l = !((plR t t.hours.length []).any fun q => enQ q p l) := fun _ => rfl
  simp (maxSteps := 4000000) +contextual (disch := first | omega | exact qdb_ok (by kernel_rfl) | exact okb_ok (by kernel_rfl)) only [bw1,bw2,bw4,bw5,bw6,bw7,bc0,bc1,bc2,bc3,bc4,bc5,bc6,binIs,AV.isSlice,AV.rows,AV.dl,↓reduceIte,reduceCtorEq,Nat.reduceAdd,Nat.reduceLeDiff,tfb,eq_self, hlt']
  refine call40t (C := Ct19) (i := mk _) (j := mk _) rfl t ht rfl rfl ⟨by simp [AV.stays, AV.stay, AV.kill, AV.men, AV.mens], by simp [othF, Sto.kill, AV.stays, AV.stay, AV.kill, AV.men, AV.mens]⟩ ?_
  obtain ⟨L, hL⟩ : ∃ L, plR t t.hours.length [] = L := ⟨_, rfl⟩
  rw [hL] at hgo hlen hlk
  rw [hL]
  simp (maxSteps := 4000000) +contextual (disch := first | omega | exact qdb_ok (by kernel_rfl) | exact okb_ok (by kernel_rfl)) only [bw1,bw2,bw5,bw6,bc3,bc4,↓reduceIte,reduceCtorEq,Nat.reduceBEq,Nat.reduceEqDiff,Sto.kill]
  refine loop_xu (O := O19) (tb := 0) Ct19_ok hmix (by kernel_rfl) (σ := Nat) (fun n => [(8, .i n), (9, .any), (10, .any), (11, .any), (12, .any)]) (fun _ => []) (fun n => (1 ≤ n ∧ n ≤ t.groups.length + 1) ∧ fdQ t p (alT t.groups.length (n - 1)) = V) (fun n => t.groups.length + 1 - n) 1 ⟨⟨Nat.le_refl _, by omega⟩, hV⟩ ?_ ?_
  · simp (maxSteps := 4000000) +contextual (disch := first | omega | exact qdb_ok (by kernel_rfl) | exact okb_ok (by kernel_rfl)) only [bw4,bw5,bw6,bc0,bc3,bc5,bc6,AV.isNilS,AV.isNoRows,wk,↓reduceIte,reduceCtorEq,eq_self]
    try rfl
  intro n hn0
  have hn1 := hn0.1.1
  have hn2 := hn0.1.2
  have hnV := hn0.2
  by_cases hnl : n ≤ t.groups.length
  case neg =>
    have hnl' : ¬ (n : Int) ≤ t.groups.length := by omega
    rw [alT_end (by omega)] at hnV
    have hVn : V = [] := hnV.symm
    simp (maxSteps := 4000000) +contextual (disch := first | omega | exact qdb_ok (by kernel_rfl) | exact okb_ok (by kernel_rfl)) only [bw1,bw2,bw3,bw4,bw5,bw6,bw7,bc0,bc1,bc2,bc3,bc4,bc5,bc6,binIs,addF,AV.isPtr,AV.isSlice,AV.rows,AV.outs,AV.outF,packD,↓reduceIte,reduceCtorEq,Nat.reduceAdd,Nat.reduceLeDiff,tfb,eq_self, hnl', hVn]
    try rfl
  have hnl' : (n : Int) ≤ t.groups.length := by omega
  simp (maxSteps := 4000000) +contextual (disch := first | omega | exact qdb_ok (by kernel_rfl) | exact okb_ok (by kernel_rfl)) only [bw1,bw2,bw4,bw5,bw6,bw7,bc0,bc1,bc2,bc3,bc4,bc5,bc6,binIs,addF,AV.isPtr,AV.isSlice,AV.rows,↓reduceIte,reduceCtorEq,Nat.reduceAdd,Nat.reduceLeDiff,tfb,eq_self, hnl']
  refine call48t (C := Ct19) (i := mk _) (j := mk _) rfl t.groups.length n ⟨hbig.2.1, by omega⟩ rfl rfl ⟨by simp [AV.stays, AV.stay, AV.kill, AV.men, AV.mens], by simp [othF, Sto.kill, AV.stays, AV.stay, AV.kill, AV.men, AV.mens]⟩ ?_
  obtain ⟨S, hS⟩ : ∃ S, seR t.groups.length n 0 [] = S := ⟨_, rfl⟩
  have hSi : ∀ l ∈ S, l.length ≤ 5 ∧ ∀ g ∈ l, 0 ≤ g ∧ g < (t.groups.length : Int) := fun l hl => se_in (m := n - 1) hbig.2.1 (by omega) (by rw [show n - 1 + 1 = n by omega, hS]; exact hl)
  have hSl : S.length ≤ 6 ^ 5 := by rw [← hS]; exact Nat.le_trans (seR_len hbig.2.1 _ _ _) (Nat.pow_le_pow_right (by decide) (by omega))
  have h65 : (6 : Nat) ^ 5 = 7776 := by decide
  rw [alT_step (by omega), show n - 1 + 1 = n by omega, hS] at hnV
  rw [hS]
  simp (maxSteps := 4000000) +contextual (disch := first | omega | exact qdb_ok (by kernel_rfl) | exact okb_ok (by kernel_rfl)) only [bw1,bw2,bw5,bw6,bc3,bc4,↓reduceIte,reduceCtorEq,Nat.reduceBEq,Nat.reduceEqDiff,Sto.kill]
  refine loop_xu (O := O19) (tb := 0) Ct19_ok hmix (by kernel_rfl) (σ := Nat) (fun m => [(10, .i m), (11, .any), (12, .any)]) (fun _ => []) (fun m => m ≤ S.length ∧ fdQ t p (S.drop m ++ alT t.groups.length n) = V) (fun m => S.length - m) 0 ⟨Nat.zero_le _, hnV⟩ ?_ ?_
  · simp (maxSteps := 4000000) +contextual (disch := first | omega | exact qdb_ok (by kernel_rfl) | exact okb_ok (by kernel_rfl)) only [bw4,bw5,bw6,bc0,bc3,bc5,bc6,AV.isNilS,AV.isNoRows,wk,↓reduceIte,reduceCtorEq,eq_self]
  intro m hm0
  have hm := hm0.1
  have hmV := hm0.2
  have hmm : (0 : Int) ≤ m := by omega
  by_cases hms : m < S.length
  case neg =>
    have hms' : ¬ (m : Int) < S.length := by omega
    rw [List.drop_eq_nil_of_le (by omega), List.nil_append] at hmV
    have hnw : ((n : Int) + 1) = ((n + 1 : Nat) : Int) := by omega
    simp (maxSteps := 4000000) +contextual (disch := first | omega | exact qdb_ok (by kernel_rfl) | exact okb_ok (by kernel_rfl)) only [bw1,bw2,bw4,bw5,bw6,bw7,bc0,bc1,bc3,bc4,bc5,bc6,AV.isNilS,AV.isNoRows,wk,binIs,AV.isSlice,AV.rows,↓reduceIte,reduceCtorEq,tfb,eq_self, hms']
    exact ⟨n + 1, ⟨⟨⟨by omega, by omega⟩, by rw [show n + 1 - 1 = n by omega]; exact hmV⟩, by omega⟩, rfl⟩
  have hms' : (m : Int) < S.length := by omega
  obtain ⟨l, hl⟩ : ∃ l, S.getD m default = l := ⟨_, rfl⟩
  have hlm : l ∈ S := by rw [← hl, at_lt hms]; exact List.getElem_mem _
  have hls := hSi l hlm
  have hrl : (S.map plc).getD m [] = plc l := by rw [Go.E.row_at hms, hl]
  have hdr : S.drop m = l :: S.drop (m + 1) := by rw [← hl, at_lt hms, ← List.drop_eq_getElem_cons hms]
  rw [hdr, List.cons_append] at hmV
  simp (maxSteps := 4000000) +contextual (disch := first | omega | exact qdb_ok (by kernel_rfl) | exact okb_ok (by kernel_rfl)) only [bw1,bw2,bw4,bw5,bw6,bw7,bc0,bc1,bc4,bc5,bc6,binIs,AV.isSlice,AV.rows,↓reduceIte,tfb,eq_self, hms']
  refine loop_xu (O := O19) (tb := 0) Ct19_ok hmix (by kernel_rfl) (σ := Nat × Bool) (fun x => [(11, .b x.2), (12, .i x.1)]) (fun _ => []) (fun x => x.1 ≤ L.length ∧ (x.2 = true → lkQ t p l = false) ∧ (x.2 = false → ∀ j, j < x.1 → enQ (L.getD j default) p l = false)) (fun x => L.length - x.1) (0, false) ⟨Nat.zero_le _, (fun h => by cases h), (fun _ j hj => by omega)⟩ ?_ ?_
  · simp (maxSteps := 4000000) +contextual (disch := first | omega | exact qdb_ok (by kernel_rfl) | exact okb_ok (by kernel_rfl)) only [bw4,bw5,bw6,bc0,bc3,bc5,bc6,AV.isNilS,AV.isNoRows,wk,↓reduceIte,reduceCtorEq,eq_self]
    try first | rfl | exact ⟨rfl, rfl⟩
  rintro ⟨k, v⟩ hx
  dsimp only at hx ⊢
  have hk := hx.1
  have hkt := hx.2.1
  have hkf := hx.2.2
  have hkk : (0 : Int) ≤ k := by omega
  by_cases hv : v = true
  · have hlf := hkt hv
    rw [fd_no hlf] at hmV
    by_cases hlt : k < L.length
    · have hlt' : (k : Int) < L.length := by omega
      simp (maxSteps := 4000000) +contextual (disch := first | omega | exact qdb_ok (by kernel_rfl) | exact okb_ok (by kernel_rfl)) only [bw1,bw2,bw3,bw4,bw5,bw6,bw7,bc0,bc1,bc2,bc3,bc4,bc5,bc6,AV.isNilS,AV.isNoRows,wk,binIs,AV.isSlice,AV.rows,↓reduceIte,reduceCtorEq,tfb,eq_self, hlt', hv]
      exact ⟨m + 1, ⟨⟨by omega, hmV⟩, by omega⟩, rfl⟩
    · have hlt' : ¬ (k : Int) < L.length := by omega
      simp (maxSteps := 4000000) +contextual (disch := first | omega | exact qdb_ok (by kernel_rfl) | exact okb_ok (by kernel_rfl)) only [bw1,bw2,bw3,bw4,bw5,bw6,bw7,bc0,bc1,bc2,bc3,bc4,bc5,bc6,AV.isNilS,AV.isNoRows,wk,binIs,AV.isSlice,AV.rows,↓reduceIte,reduceCtorEq,tfb,eq_self, hlt', hv]
      exact ⟨m + 1, ⟨⟨by omega, hmV⟩, by omega⟩, rfl⟩
  have hv' : v = false := by simpa using hv
  have hkf' := hkf hv'
  by_cases hlt : k < L.length
  · have hlt' : (k : Int) < L.length := by omega
    obtain ⟨q, hq⟩ : ∃ q, L.getD k default = q := ⟨_, rfl⟩
    have hqm : q ∈ L := by rw [← hq, at_lt hlt]; exact List.getElem_mem _
    have hqg := hgo q hqm
    have hrq : (L.map plc).getD k [] = plc q := by rw [Go.E.row_at hlt, hq]
    have hp49 : (t.groups.length ≤ 1000 ∧ q.length ≤ 1000 ∧ l.length ≤ 1000) ∧ (p.length : Int) = t.groups.length ∧ foP t q ∧ ∀ i, i < l.length → 0 ≤ l.getD i default ∧ l.getD i default < t.groups.length := ⟨⟨by omega, plan_len hqg ht, by omega⟩, c2, (pl_fo hqg.1).1, fun i hi => hls.2 _ (by rw [at_lt hi]; exact List.getElem_mem _)⟩
    by_cases he : enQ q p l = true
    · simp (maxSteps := 4000000) +contextual (disch := first | omega | exact qdb_ok (by kernel_rfl) | exact okb_ok (by kernel_rfl)) only [bw1,bw2,bw3,bw4,bw5,bw6,bw7,bc0,bc1,bc2,bc3,bc4,bc5,bc6,AV.isNilS,AV.isNoRows,wk,binIs,idxV,AV.isSl,AV.isSlice,AV.rows,ps,pv,AV.dl,↓reduceIte,reduceCtorEq,Nat.reduceAdd,Nat.reduceLeDiff,tfb,O19_22,x19_49,eq_self, hlt', hv', hkk, hmm, hms', hrq, hrl, hp49, he]
      have hlf : lkQ t p l = false := by rw [hlk, List.any_eq_true.2 ⟨q, hqm, he⟩]; rfl
      exact ⟨fun _ _ => trivial, (k + 1, true), ⟨⟨by dsimp only; omega, (fun _ => hlf), (fun h => by cases h)⟩, by dsimp only; omega⟩, rfl, rfl⟩
    · have he' : enQ q p l = false := by simpa using he
      simp (maxSteps := 4000000) +contextual (disch := first | omega | exact qdb_ok (by kernel_rfl) | exact okb_ok (by kernel_rfl)) only [bw1,bw2,bw3,bw4,bw5,bw6,bw7,bc0,bc1,bc2,bc3,bc4,bc5,bc6,AV.isNilS,AV.isNoRows,wk,binIs,idxV,AV.isSl,AV.isSlice,AV.rows,ps,pv,AV.dl,↓reduceIte,reduceCtorEq,Nat.reduceAdd,Nat.reduceLeDiff,tfb,O19_22,x19_49,eq_self, hlt', hv', hkk, hmm, hms', hrq, hrl, hp49, he']
      have hnx : ∀ j, j < k + 1 → enQ (L.getD j default) p l = false := fun j hj => by
        rcases Nat.lt_succ_iff_lt_or_eq.1 hj with h | h
        · exact hkf' j h
        · rw [h, hq]; exact he'
      exact ⟨fun _ _ => trivial, (k + 1, false), ⟨⟨by dsimp only; omega, (fun h => by cases h), (fun _ => hnx)⟩, by dsimp only; omega⟩, rfl, rfl⟩
  have hlt' : ¬ (k : Int) < L.length := by omega
  have hlt : lkQ t p l = true := by
    rw [hlk, Bool.not_eq_true', Bool.eq_false_iff]
    intro h
    obtain ⟨q, hq, he⟩ := List.any_eq_true.1 h
    obtain ⟨j, hj, e⟩ := List.getElem_of_mem hq
    have := hkf' j (by omega)
    rw [at_lt hj, e, he] at this
    cases this
  rw [fd_yes hlt] at hmV
  have hfl := ics_flat V
  simp (maxSteps := 4000000) +contextual (disch := first | omega | exact qdb_ok (by kernel_rfl) | exact okb_ok (by kernel_rfl)) only [bw1,bw2,bw3,bw4,bw5,bw6,bw7,bc0,bc1,bc2,bc3,bc4,bc5,bc6,binIs,idxV,AV.isSl,AV.isSlice,AV.rows,ps,pv,AV.outs,AV.outF,packD,↓reduceIte,Nat.reduceLeDiff,tfb,eq_self, hlt', hv', hmm, hms', hrl, hmV]
  try rfl
def ent19 (args : List AV) (K : AV → List AV → Sto → Prop) (e : List AV) (s : Sto) : Prop := ent (α := (Tt) × (List Int)) (fun aa => [.agg aa.1.c, .sl 1 (aa.2.map ic)]) (fun aa => (aa.1.hours.length ≤ 1000 ∧ aa.1.groups.length ≤ 1000) ∧ aa.2.length ≤ 1000) (fun aa => .tup [.sl 1 ((hiQ aa.1 aa.2).1.map ic), .i (hiQ aa.1 aa.2).2]) args K e s
theorem ent19_ok {args : List AV} {K : AV → List AV → Sto → Prop} {Q : Kt} {e : List AV} {s : Sto} (h : ent19 args K e s) : pcall Tryd.prog 19 args K Q e s := ent_ok (fun aa h => pf19 aa.1 aa.2 h) h
theorem eq19 {t : Tt} {p : List Int} {KK : AV → List AV → Sto → Prop} {ee : List AV} {ss : Sto} : ent19 [.d (.agg t.c), .d (.sl 1 (p.map ic))] KK ee ss = (((t.hours.length ≤ 1000 ∧ t.groups.length ≤ 1000) ∧ p.length ≤ 1000) ∧ KK (.d (.tup [.sl 1 ((hiQ t p).1.map ic), .i (hiQ t p).2])) ee ss) := by
  unfold ent19; rw [ent_iff (t, p) (by intro b h; simpa [Prod.ext_iff, and_assoc, Int.ofNat_inj, ints_inj, hrs_inj, grs_inj, hr_inj, gr_inj, tt_inj, bcs_inj, cn_inj, sd_inj, Int.ofNat_inj, ints_inj, hrs_inj, grs_inj, hr_inj, gr_inj, tt_inj, Int.ofNat_inj, ints_inj, hrs_inj, grs_inj, hr_inj, gr_inj, tt_inj, Int.ofNat_inj, ints_inj, hrs_inj, grs_inj, hr_inj, gr_inj, tt_inj, bcs_inj, cn_inj, sd_inj, Int.ofNat_inj, ints_inj, hrs_inj, grs_inj, hr_inj, gr_inj, tt_inj] using h) rfl]; simp
end Go.Proofs.YtofbbkacihnjdaaDoor.M4
