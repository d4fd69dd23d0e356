/- A part of the proof that the last text ends: what functions of the program do, told by plain data. -/
import Derived.Test.YtapglfcaghlpfaaGreatZSN
import Derived.Test.YtapglfcaghlpfaaGreatEc
set_option linter.unusedVariables false
set_option linter.unusedSimpArgs false
namespace Go.Proofs.YtapglfcaghlpfaaGreat
open Go Go.E Go.Maps
set_option maxRecDepth 100000
set_option maxHeartbeats 16000000
theorem insR_lt {S : List Int} {x : Int} {j : Nat} (h : x < S.getD j default) : insR S x (j + 1) = insR S x j := if_pos h
theorem isortN_succ {l : List Int} {k : Nat} : isortN l (k + 1) = insR (isortN l k) (l.getD k default) k := rfl
theorem swap_rows {R : List Int} {j : Nat} {v x : Int} (h : j + 1 < R.length) : ((R.map ic).set (j + 1) [.v (.int .i64 v)]).set j ((((R.map ic).set (j + 1) [.v (.int .i64 v)]).getD j []).set 0 (.v (.int .i64 x))) = ((R.set (j + 1) v).set j x).map ic := by
  rw [List.map_set, List.map_set]
  congr 1
  have h2 : j < R.length := by omega
  simp [List.getD, List.getElem?_set, h2]
theorem sort_one {v : List Int} (h : 1 ≤ v.length) : isortN v 1 ++ v.drop 1 = v := by
  rcases v with _ | ⟨a, v⟩
  · simp at h
  · rfl
theorem sort_all {v : List Int} : isortN v v.length ++ v.drop v.length = isort v := by rw [List.drop_length, List.append_nil]; rfl
def O64 : Nat → Sch := fun id => if id = 4 then .one 0 (.one 1 (.one 2 (.one 3 (.one 4 (.one 5 (.one 6 (.one 7 (.one 8 (.one 9 (.one 10 (.one 11 (.one 12 (.one 13 (.one 14 (.done))))))))))))))) else if id = 6 then .one 0 (.one 1 (.one 2 (.one 3 (.one 4 (.one 5 (.one 6 (.one 7 (.one 8 (.one 9 (.one 10 (.one 11 (.one 12 (.one 13 (.one 14 (.one 15 (.one 16 (.one 17 (.done)))))))))))))))))) else .done
theorem O64_4 : O64 4 = .one 0 (.one 1 (.one 2 (.one 3 (.one 4 (.one 5 (.one 6 (.one 7 (.one 8 (.one 9 (.one 10 (.one 11 (.one 12 (.one 13 (.one 14 (.done))))))))))))))) := rfl
theorem O64_6 : O64 6 = .one 0 (.one 1 (.one 2 (.one 3 (.one 4 (.one 5 (.one 6 (.one 7 (.one 8 (.one 9 (.one 10 (.one 11 (.one 12 (.one 13 (.one 14 (.one 15 (.one 16 (.one 17 (.done)))))))))))))))))) := rfl
theorem ho64 : Tryz.f64.body.map (okO O64) = some true := by kernel_rfl
def Cf64 : Nat → List AV → (AV → List AV → Sto → Prop) → Kt → List AV → Sto → Prop := fun f args K Q e s => match f with
  | 70 => ent70 args K e s
  | _ => False
def Ct64 : CT := { f := Cf64, y := noYld, z := fun d => false }
theorem Ct64_ok : Ct64.ok Tryz.prog := ok_of_f (fun f args K Q e s h => by
  have h : Cf64 f args K Q e s := h
  unfold Cf64 at h; split at h
  · exact ent70_ok h
  · exact h.elim) (fun _ _ _ _ _ _ _ _ _ h => h)
theorem x64_70 {a : Int} {b : Int} {KK : AV → List AV → Sto → Prop} {QQ : Kt} {ii : At KK} {jj : At QQ} {ee : List AV} {ss : Sto} : xC Ct64 70 [.d (.i a), .d (.i b)] KK QQ ii jj ee ss = (KK (.d (.b (decide (a < b)))) ee ss) := eq70
theorem c64 : callable Tryz.prog 64 = true := by kernel_rfl
theorem pf64 (l : List Int) (h : l.length ≤ 1000) : PFu Tryz.prog 64 3 1 (l.map ic) [.i 0, .i (l.length : Int)] (fun r x => r = .d (.tup []) ∧ x = ((isort l).map ic)) := by
  refine PFu_start (O := O64) Ct64_ok hmix ho64 Tryz.func64 c64 rfl Tryz.ntmps64 Tryz.results64 ?_
  simp (maxSteps := 4000000) +contextual (disch := first | omega | exact qdb_ok (by kernel_rfl) | exact okb_ok (by kernel_rfl)) only [bw1,bw2,bw5,bw6,bw7,bc1,bc4,bc5,binIs,↓reduceIte,Nat.reduceAdd,Nat.reduceSub,List.reduceReplicate,tfb,gU]
  by_cases l1 : 1 ≤ l.length
  case neg =>
    obtain rfl : l = [] := by cases l; rfl; simp at l1
    refine loop_r (O := O64) (tb := 0) Ct64_ok hmix (by kernel_rfl) (σ := Unit) gU (fun i => (([] : List Int)).map ic) (fun i => []) (fun _ => True) (fun _ => 0) (fun _ => ()) () trivial ?_ ?_
    · simp (maxSteps := 4000000) +contextual (disch := first | omega | exact qdb_ok (by kernel_rfl) | exact okb_ok (by kernel_rfl)) only [bw4,bw5,bc0,bc3,bc4,bc5,bc6,AV.isNilS,AV.isNoRows,wk,↓reduceIte,reduceCtorEq,gU,bu0]
    intro _ _
    have h01 : ¬ ((0 : Int) + 1 < 0) := by omega
    simp (maxSteps := 4000000) +contextual (disch := first | omega | exact qdb_ok (by kernel_rfl) | exact okb_ok (by kernel_rfl)) only [bw1,bw2,bw3,bw4,bw5,bw6,bw7,bc0,bc1,bc2,bc3,bc4,bc5,bc6,binIs,AV.dl,packA,↓reduceIte,tfb,gU,bu0,eq_self, h01]
    rfl
  have hel : l.length = l.length := rfl
  have hal : l.take l.length = l := List.take_length
  refine loop_r (O := O64) (tb := 64000) Ct64_ok hmix (by kernel_rfl) (σ := Nat) 999999999 (fun i => (isortN (l) i ++ (l).drop i).map ic) (fun i => [(0, .own 999999999 3 1 ((isortN (l) i ++ (l).drop i).map ic)), (6, .i i)]) (fun i => 1 ≤ i ∧ i ≤ l.length) (fun i => l.length - i) (fun i => i + 1) 1 ?_ ?_ ?_
  · exact ⟨Nat.le_refl _, l1⟩
  · have hs1 := sort_one (v := l) (by rw [hel]; exact l1)
    simp (maxSteps := 4000000) +contextual (disch := first | omega | exact qdb_ok (by kernel_rfl) | exact okb_ok (by kernel_rfl)) only [bw4,bw5,bw6,bc0,bc3,bc4,bc5,bc6,AV.isNilS,AV.isNoRows,wk,↓reduceIte,reduceCtorEq,bu0,hs1]
  rintro i ⟨hi1, hi2⟩
  by_cases hlt : i < l.length
  · have hlt' : (i : Int) < l.length := by omega
    have hS' : ∃ S, isortN (l) i = S := ⟨_, rfl⟩
    obtain ⟨S, hS⟩ := hS'
    have hx' : ∃ x, (l).getD i default = x := ⟨_, rfl⟩
    obtain ⟨x, hx⟩ := hx'
    have hT' : ∃ T, (l).drop (i + 1) = T := ⟨_, rfl⟩
    obtain ⟨T, hT⟩ := hT'
    have hSl : S.length = i := by rw [← hS, isortN_len]
    have hTl : S.length + 1 + T.length = l.length := by
      have : T.length = (l).length - (i + 1) := by rw [← hT, List.length_drop]
      clear hx hS hT hal
      omega
    have hle : i < (l).length := Nat.lt_of_lt_of_eq hlt hel.symm
    have hd0 : S ++ (l).drop i = dat S x T i := by
      rw [dat_top hSl, ← hT, ← hx, at_lt hle, List.drop_eq_getElem_cons hle]
    have hnx : isortN (l) (i + 1) ++ (l).drop (i + 1) = insR S x i ++ T := by rw [hT, isortN_succ, hS, hx]
    simp (maxSteps := 4000000) +contextual (disch := first | omega | exact qdb_ok (by kernel_rfl) | exact okb_ok (by kernel_rfl)) only [bw1,bw2,bw5,bw6,bw7,bc0,bc1,bc4,bc5,bc6,binIs,↓reduceIte,tfb,bu0,eq_self, hlt', hS, hd0]
    refine loop_r (O := O64) (tb := 64000) Ct64_ok hmix (by kernel_rfl) (σ := Nat) 999999999 (fun j => (dat S x T j).map ic) (fun j => [(0, .own 999999999 3 1 ((dat S x T j).map ic)), (7, .i j)]) (fun j => j ≤ i ∧ insR S x j = insR S x i) (fun j => j) (fun j => j - 1) i ⟨Nat.le_refl _, rfl⟩ ?_ ?_
    · simp (maxSteps := 4000000) +contextual (disch := first | omega | exact qdb_ok (by kernel_rfl) | exact okb_ok (by kernel_rfl)) only [bw5,bw6,bc0,bc3,bc4,bc5,bc6,AV.isNilS,AV.isNoRows,wk,↓reduceIte,reduceCtorEq,bu0]
    rintro j ⟨hj1, hj2⟩
    have hdl : (dat S x T j).length = l.length := by rw [dat_len (by omega), hTl]
    have hda := dat_at (S := S) (T := T) (x := x) (j := j) (by omega)
    rcases j with _ | j
    · have hdd : dat S x T 0 = insR S x i ++ T := by rw [insR_dat (.inl rfl), hj2]
      simp (maxSteps := 4000000) +contextual (disch := first | omega | exact qdb_ok (by kernel_rfl) | exact okb_ok (by kernel_rfl)) only [bw1,bw2,bw3,bw4,bw5,bw6,bw7,bc0,bc1,bc3,bc4,bc5,bc6,AV.isNilS,AV.isNoRows,wk,binIs,↓reduceIte,reduceCtorEq,Nat.reduceSub,Nat.reduceLeDiff,tfb,bu0,O64_4,eq_self, hdd, hnx, Int.lt_irrefl]
      and_intros <;> omega
    · have hdp := dat_prev (S := S) (T := T) (x := x) (j := j) (by omega)
      have hg1 : (0 : Int) < j + 1 := by omega
      have hg2 : (j : Int) + 1 - 1 = j := by omega
      have hg3 : ((j : Int) + 1).toNat = j + 1 := by omega
      have hg4 : j + 1 < (dat S x T (j + 1)).length := by omega
      have hg5 : j < (dat S x T (j + 1)).length := by omega
      by_cases hx2 : x < S.getD j default
      · have hsw := dat_swap (S := S) (T := T) (x := x) (j := j) (by omega)
        have hin : insR S x j = insR S x i := by rw [← hj2, insR_lt hx2]
        have hr := swap_rows (R := dat S x T (j + 1)) (j := j) (v := S.getD j default) (x := x) hg4
        rw [hsw] at hr
        simp (maxSteps := 4000000) +contextual (disch := first | omega | exact qdb_ok (by kernel_rfl) | exact okb_ok (by kernel_rfl)) only [bw1,bw2,bw3,bw4,bw5,bw6,bw7,bc0,bc1,bc2,bc3,bc4,bc5,bc6,AV.isNilS,AV.isNoRows,wk,binIs,idxV,AV.isSl,AV.rows,ps,pv,AV.upr,AV.menc,D.one,Value.oneCell',AV.dcells,D.cells?,↓reduceIte,reduceCtorEq,Nat.reduceAdd,Nat.reduceLeDiff,tfb,bu0,O64_4,O64_6,x64_70,eq_self, hda, hdp, hg1, hg2, hg3, hx2, hdl, hr, Nat.add_sub_cancel, List.length_set]
        and_intros <;> first | omega | assumption
      · have hdd : dat S x T (j + 1) = insR S x i ++ T := by rw [insR_dat (.inr (by simpa using hx2)), hj2]
        simp (maxSteps := 4000000) +contextual (disch := first | omega | exact qdb_ok (by kernel_rfl) | exact okb_ok (by kernel_rfl)) only [bw1,bw2,bw3,bw4,bw5,bw6,bw7,bc0,bc1,bc2,bc3,bc4,bc5,bc6,AV.isNilS,AV.isNoRows,wk,binIs,idxV,AV.isSl,AV.rows,ps,pv,↓reduceIte,reduceCtorEq,Nat.reduceLeDiff,tfb,bu0,O64_4,x64_70,eq_self, hda, hdp, hg1, hg2, hg3, hx2, hdl]
        rw [hdd, hnx]
        and_intros <;> first | omega | rfl
  have hlt' : ¬ (i : Int) < l.length := by omega
  have hie : i = l.length := by omega
  have hsa := sort_all (v := l)
  have hil : (isort l).length = l.length := isort_len
  simp (maxSteps := 4000000) +contextual (disch := first | omega | exact qdb_ok (by kernel_rfl) | exact okb_ok (by kernel_rfl)) only [bw1,bw2,bw3,bw5,bw6,bw7,bc0,bc1,bc2,bc3,bc4,bc5,bc6,binIs,AV.dl,packA,↓reduceIte,tfb,bu0,eq_self, Int.lt_irrefl, hie, hsa]
def ent64 (args : List AV) (K : AV → List AV → Sto → Prop) (e : List AV) (s : Sto) : Prop := entU (α := (List Int)) 3 1 (fun aa => (aa.map ic)) (fun aa => [.i 0, .i (aa.length : Int)]) (fun aa => aa.length ≤ 1000) (fun aa r x => r = .d (.tup []) ∧ x = ((isort aa).map ic)) args K e s
theorem ent64_ok {args : List AV} {K : AV → List AV → Sto → Prop} {Q : Kt} {e : List AV} {s : Sto} (h : ent64 args K e s) : pcall Tryz.prog 64 args K Q e s := entU_ok (fun aa h => pf64 aa h) (fun aa r x h => ⟨_, h.1⟩) h
theorem eq64 {l : List Int} {gg : Nat} {KK : AV → List AV → Sto → Prop} {ee : List AV} {ss : Sto} : ent64 [.own gg 3 1 (l.map ic), .d (.i 0), .d (.i (l.length : Int))] KK ee ss = ((l.length ≤ 1000) ∧ upOk gg 3 1 (l.map ic) ee ss ∧ KK (.d (.tup [])) (ee.map (AV.ups gg ((isort l).map ic))) (ss.ups gg ((isort l).map ic))) := by
  unfold ent64
  exact Eq.trans (entU_iff (g := gg) l (by intro b h1 h2; first | (simpa [Prod.ext_iff, and_assoc, Int.ofNat_inj, ints_inj, cals_inj, pcs_inj, skas_inj, scos_inj, ska_inj, rul_inj, sco_inj, cal_inj] using And.intro h1 h2) | (simp [Prod.ext_iff, and_assoc, Int.ofNat_inj, ints_inj, cals_inj, pcs_inj, skas_inj, scos_inj, ska_inj, rul_inj, sco_inj, cal_inj] at h1 h2 ⊢; simp_all)) rfl) (propext ⟨fun ⟨h1, h2, h3⟩ => ⟨h1, h2, h3 _ _ ⟨rfl, rfl⟩⟩, fun ⟨h1, h2, h3⟩ => ⟨h1, h2, fun r x ⟨e1, e2⟩ => by subst e1; subst e2; exact h3⟩⟩)
theorem u64_in' {x : Int} (h : 0 ≤ x ∧ x ≤ 1000) : IntKind.u64.wrap x = x := by simp [IntKind.wrap, IntKind.signed, IntKind.bits]; omega
def O39 : Nat → Sch := fun id => if id = 17 then .one 0 (.one 1 (.one 2 (.one 3 (.one 4 (.one 5 (.one 6 (.one 7 (.one 8 (.one 9 (.one 10 (.one 11 (.one 12 (.one 13 (.one 14 (.done))))))))))))))) else .done
theorem ho39 : Tryz.f39.body.map (okO O39) = some true := by kernel_rfl
def Cf39 : Nat → List AV → (AV → List AV → Sto → Prop) → Kt → List AV → Sto → Prop := fun f args K Q e s => match f with
  | 64 => ent64 args K e s
  | _ => False
def Ct39 : CT := { f := Cf39, y := noYld, z := fun d => false }
theorem Ct39_ok : Ct39.ok Tryz.prog := ok_of_f (fun f args K Q e s h => by
  have h : Cf39 f args K Q e s := h
  unfold Cf39 at h; split at h
  · exact ent64_ok h
  · exact h.elim) (fun _ _ _ _ _ _ _ _ _ h => h)
theorem x39_64 {l : List Int} {gg : Nat} {KK : AV → List AV → Sto → Prop} {QQ : Kt} {ii : At KK} {jj : At QQ} {ee : List AV} {ss : Sto} : xC Ct39 64 [.own gg 3 1 (l.map ic), .d (.i 0), .d (.i (l.length : Int))] KK QQ ii jj ee ss = ((l.length ≤ 1000) ∧ upOk gg 3 1 (l.map ic) ee ss ∧ KK (.d (.tup [])) (ee.map (AV.ups gg ((isort l).map ic))) (ss.ups gg ((isort l).map ic))) := eq64
theorem c39 : callable Tryz.prog 39 = true := by kernel_rfl
def O29 : Nat → Sch := fun id => .done
theorem ho29 : Tryz.f29.body.map (okO O29) = some true := by kernel_rfl
def Cf29 : Nat → List AV → (AV → List AV → Sto → Prop) → Kt → List AV → Sto → Prop := fun f args K Q e s => match f with
  | 39 => inlE Tryz.prog Ct39 O39 39000 39 args K Q e s
  | 40 => ent40 args K e s
  | _ => False
def Ct29 : CT := { f := Cf29, y := noYld, z := fun d => false }
theorem Ct29_ok : Ct29.ok Tryz.prog := ok_of_f (fun f args K Q e s h => by
  have h : Cf29 f args K Q e s := h
  unfold Cf29 at h; split at h
  · exact inlE_ok Ct39_ok hmix ho39 h
  · exact ent40_ok h
  · exact h.elim) (fun _ _ _ _ _ _ _ _ _ h => h)
theorem x29_40 {n : Int} {KK : AV → List AV → Sto → Prop} {QQ : Kt} {ii : At KK} {jj : At QQ} {ee : List AV} {ss : Sto} : xC Ct29 40 [.d (.v (.int .u64 n))] KK QQ ii jj ee ss = ((0 ≤ n ∧ n ≤ 16) ∧ KK (.d (.i (lenN n))) ee ss) := eq40
theorem z29_39 : type_of% (@xinl Tryz.prog Ct29 Ct39 O39 39000 39 _ _ _ _ rfl c39 Tryz.func39 rfl Tryz.ntmps39 Tryz.results39) := @xinl Tryz.prog Ct29 Ct39 O39 39000 39 _ _ _ _ rfl c39 Tryz.func39 rfl Tryz.ntmps39 Tryz.results39
theorem c29 : callable Tryz.prog 29 = true := by kernel_rfl
theorem pf29 (l : List Int) (h : l.length ≤ 12) : PFu Tryz.prog 29 3 1 (l.map ic) [] (fun r x => r = .d (.tup []) ∧ x = ((isort l).map ic)) := by
  have h64 : IntKind.u64.wrap (l.length : Int) = l.length := u64_in' (by omega)
  have hl0 : (0 : Int) ≤ l.length := by omega
  have hl12 : (l.length : Int) ≤ 12 := by omega
  have hl16 : (l.length : Int) ≤ 16 := by omega
  refine PFu_start (O := O29) Ct29_ok hmix ho29 Tryz.func29 c29 rfl Tryz.ntmps29 Tryz.results29 ?_
  simp (maxSteps := 4000000) +contextual (disch := first | omega | exact qdb_ok (by kernel_rfl) | exact okb_ok (by kernel_rfl)) only [bw1,bw2,bw4,bw5,bw6,bc2,bc3,bc4,bc5,AV.isSlice,AV.rows,↓reduceIte,Nat.reduceAdd,Nat.reduceSub,List.reduceReplicate,tfb,gU,x29_40,z29_39,h64, hl0, hl16]
  refine loop_s (O := O39) (tb := 39000) Ct39_ok hmix (by kernel_rfl) (σ := Unit) (fun _ => []) (fun _ => True) (fun _ => 0) (fun _ => ()) () trivial ?_ ?_
  · simp (maxSteps := 4000000) +contextual (disch := first | omega | exact qdb_ok (by kernel_rfl) | exact okb_ok (by kernel_rfl)) only [bc0,bc5,bc6,AV.isNilS,AV.isNoRows,wk,reduceCtorEq]
  intro _ _
  simp (maxSteps := 4000000) +contextual (disch := first | omega | exact qdb_ok (by kernel_rfl) | exact okb_ok (by kernel_rfl)) only [bw1,bw2,bw3,bw5,bw6,bw7,bc0,bc1,bc2,bc3,bc4,bc5,bc6,binIs,AV.dl,packA,↓reduceIte,reduceCtorEq,Nat.reduceAdd,Nat.reduceLT,tfb,upOk,bu0,x39_64,eq_self, hl12, Int.sub_zero]
  and_intros <;> first | omega | rfl
def ent29 (args : List AV) (K : AV → List AV → Sto → Prop) (e : List AV) (s : Sto) : Prop := entU (α := (List Int)) 3 1 (fun aa => (aa.map ic)) (fun aa => []) (fun aa => aa.length ≤ 12) (fun aa r x => r = .d (.tup []) ∧ x = ((isort aa).map ic)) args K e s
theorem ent29_ok {args : List AV} {K : AV → List AV → Sto → Prop} {Q : Kt} {e : List AV} {s : Sto} (h : ent29 args K e s) : pcall Tryz.prog 29 args K Q e s := entU_ok (fun aa h => pf29 aa h) (fun aa r x h => ⟨_, h.1⟩) h
theorem eq29 {l : List Int} {gg : Nat} {KK : AV → List AV → Sto → Prop} {ee : List AV} {ss : Sto} : ent29 [.own gg 3 1 (l.map ic)] KK ee ss = ((l.length ≤ 12) ∧ upOk gg 3 1 (l.map ic) ee ss ∧ KK (.d (.tup [])) (ee.map (AV.ups gg ((isort l).map ic))) (ss.ups gg ((isort l).map ic))) := by
  unfold ent29
  exact Eq.trans (entU_iff (g := gg) l (by intro b h1 h2; first | (simpa [Prod.ext_iff, and_assoc, Int.ofNat_inj, ints_inj, cals_inj, pcs_inj, skas_inj, scos_inj, ska_inj, rul_inj, sco_inj, cal_inj] using And.intro h1 h2) | (simp [Prod.ext_iff, and_assoc, Int.ofNat_inj, ints_inj, cals_inj, pcs_inj, skas_inj, scos_inj, ska_inj, rul_inj, sco_inj, cal_inj] at h1 h2 ⊢; simp_all)) rfl) (propext ⟨fun ⟨h1, h2, h3⟩ => ⟨h1, h2, h3 _ _ ⟨rfl, rfl⟩⟩, fun ⟨h1, h2, h3⟩ => ⟨h1, h2, fun r x ⟨e1, e2⟩ => by subst e1; subst e2; exact h3⟩⟩)
def O81 : Nat → Sch := fun id => .done
theorem ho81 : Tryz.f81.body.map (okO O81) = some true := by kernel_rfl
def Cf81 : Nat → List AV → (AV → List AV → Sto → Prop) → Kt → List AV → Sto → Prop := fun f args K Q e s => match f with
  | 29 => ent29 args K e s
  | _ => False
def Ct81 : CT := { f := Cf81, y := noYld, z := fun d => false }
theorem Ct81_ok : Ct81.ok Tryz.prog := ok_of_f (fun f args K Q e s h => by
  have h : Cf81 f args K Q e s := h
  unfold Cf81 at h; split at h
  · exact ent29_ok h
  · exact h.elim) (fun _ _ _ _ _ _ _ _ _ h => h)
theorem x81_29 {l : List Int} {gg : Nat} {KK : AV → List AV → Sto → Prop} {QQ : Kt} {ii : At KK} {jj : At QQ} {ee : List AV} {ss : Sto} : xC Ct81 29 [.own gg 3 1 (l.map ic)] KK QQ ii jj ee ss = ((l.length ≤ 12) ∧ upOk gg 3 1 (l.map ic) ee ss ∧ KK (.d (.tup [])) (ee.map (AV.ups gg ((isort l).map ic))) (ss.ups gg ((isort l).map ic))) := eq29
theorem c81 : callable Tryz.prog 81 = true := by kernel_rfl
theorem pf81 (l : List Int) (h : l.length ≤ 12) : PFu Tryz.prog 81 3 1 (l.map ic) [] (fun r x => r = .d (.tup []) ∧ x = ((isort l).map ic)) := by
  refine PFu_start (O := O81) Ct81_ok hmix ho81 Tryz.func81 c81 rfl Tryz.ntmps81 Tryz.results81 ?_
  simp (maxSteps := 4000000) +contextual (disch := first | omega | exact qdb_ok (by kernel_rfl) | exact okb_ok (by kernel_rfl)) only [bw1,bw2,bw3,bw5,bw6,bc1,bc2,bc3,bc4,bc5,bc6,AV.dl,packA,↓reduceIte,reduceCtorEq,Nat.reduceSub,List.reduceReplicate,Nat.reduceLT,upOk,gU,bu0,x81_29]
  try (and_intros <;> first | omega | rfl)
def entz81 (args : List AV) (K : AV → List AV → Sto → Prop) (e : List AV) (s : Sto) : Prop := entUF (α := (List Int)) 3 1 (fun aa => (aa.map ic)) (fun aa => []) (fun aa => aa.length ≤ 12) (fun aa r x => r = .d (.tup []) ∧ x = ((isort aa).map ic)) args K e s
theorem entz81_ok {args : List AV} {K : AV → List AV → Sto → Prop} {Q : Kt} {e : List AV} {s : Sto} (h : entz81 args K e s) : pcall Tryz.prog 81 args K Q e s := entUF_ok (fun aa h => pf81 aa h) (fun aa r x h => ⟨_, h.1⟩) h
theorem eqz81 {l : List Int} {gg : Nat} {KK : AV → List AV → Sto → Prop} {ee : List AV} {ss : Sto} : entz81 [.own gg 3 1 (l.map ic)] KK ee ss = ((l.length ≤ 12) ∧ upOk gg 3 1 (l.map ic) ee ss ∧ KK (.d (.tup [])) ((ee.map (AV.ups gg ((isort l).map ic))).map (AV.frz gg 3 1)) ((ss.ups gg ((isort l).map ic)).frz gg 3 1)) := by
  unfold entz81
  exact Eq.trans (entUF_iff (g := gg) l (by intro b h1 h2; first | (simpa [Prod.ext_iff, and_assoc, Int.ofNat_inj, ints_inj, cals_inj, pcs_inj, skas_inj, scos_inj, ska_inj, rul_inj, sco_inj, cal_inj] using And.intro h1 h2) | (simp [Prod.ext_iff, and_assoc, Int.ofNat_inj, ints_inj, cals_inj, pcs_inj, skas_inj, scos_inj, ska_inj, rul_inj, sco_inj, cal_inj] at h1 h2 ⊢; simp_all)) rfl) (propext ⟨fun ⟨h1, h2, h3⟩ => ⟨h1, h2, h3 _ _ ⟨rfl, rfl⟩⟩, fun ⟨h1, h2, h3⟩ => ⟨h1, h2, fun r x ⟨e1, e2⟩ => by subst e1; subst e2; exact h3⟩⟩)
def ctd (l : List Int) : List Int := if (l.length : Int) < 5 then l else ((isort l).take (l.length - 1)).drop 1
def O44 : Nat → Sch := fun id => .done
theorem ho44 : Tryz.f44.body.map (okO O44) = some true := by kernel_rfl
def Cf44 : Nat → List AV → (AV → List AV → Sto → Prop) → Kt → List AV → Sto → Prop := fun f args K Q e s => match f with
  | 81 => entz81 args K e s
  | _ => False
def Ct44 : CT := { f := Cf44, y := noYld, z := fun d => false }
theorem Ct44_ok : Ct44.ok Tryz.prog := ok_of_f (fun f args K Q e s h => by
  have h : Cf44 f args K Q e s := h
  unfold Cf44 at h; split at h
  · exact entz81_ok h
  · exact h.elim) (fun _ _ _ _ _ _ _ _ _ h => h)
theorem x44_81 {l : List Int} {gg : Nat} {KK : AV → List AV → Sto → Prop} {QQ : Kt} {ii : At KK} {jj : At QQ} {ee : List AV} {ss : Sto} : xC Ct44 81 [.own gg 3 1 (l.map ic)] KK QQ ii jj ee ss = ((l.length ≤ 12) ∧ upOk gg 3 1 (l.map ic) ee ss ∧ KK (.d (.tup [])) ((ee.map (AV.ups gg ((isort l).map ic))).map (AV.frz gg 3 1)) ((ss.ups gg ((isort l).map ic)).frz gg 3 1)) := eqz81
theorem c44 : callable Tryz.prog 44 = true := by kernel_rfl
theorem pf44 (l : List Int) (h : 1 ≤ l.length ∧ l.length ≤ 12) : PF Tryz.prog 44 [.sl 1 (l.map ic)] (fun zz => zz = .ret (.sl 1 ((ctd l).map ic))) := by
  obtain ⟨l1, l2⟩ := h
  have hrep : List.replicate l.length [D.v (Value.int .i64 0)] = (List.replicate l.length (0 : Int)).map ic := by rw [List.map_replicate]
  have hcp : List.map ic l ++ List.drop l.length (List.map ic (List.replicate l.length 0)) = List.map ic l := by rw [List.drop_of_length_le (by simp), List.append_nil]
  by_cases c : (l.length : Int) < 5
  · have hw : ctd l = l := by unfold ctd; rw [if_pos c]
    rw [hw]
    refine PF_nil (PF_start (O := O44) Ct44_ok hmix ho44 Tryz.func44 c44 rfl Tryz.ntmps44 Tryz.results44 ?_)
    simp (maxSteps := 4000000) +contextual (disch := first | omega | exact qdb_ok (by kernel_rfl) | exact okb_ok (by kernel_rfl)) only [bw1,bw2,bw3,bw4,bw5,bw6,bw7,bc0,bc1,bc2,bc3,bc4,bc5,bc6,AV.cpy,binIs,AV.isSl,AV.isSlice,AV.rows,AV.outs,AV.outF,packD,AV.menc,D.one,Value.oneCell',↓reduceIte,reduceCtorEq,Nat.reduceAdd,Nat.reduceSub,List.reduceReplicate,tfb,c, hrep, List.length_replicate, hcp]
    and_intros <;> first | omega | rfl
  have hw : ctd l = ((isort l).take (l.length - 1)).drop 1 := by unfold ctd; rw [if_neg c]
  rw [hw]
  have hil : (isort l).length = l.length := isort_len
  refine PF_nil (PF_start (O := O44) Ct44_ok hmix ho44 Tryz.func44 c44 rfl Tryz.ntmps44 Tryz.results44 ?_)
  simp (maxSteps := 4000000) +contextual (disch := first | omega | exact qdb_ok (by kernel_rfl) | exact okb_ok (by kernel_rfl)) only [bw1,bw2,bw3,bw4,bw5,bw6,bw7,bc0,bc1,bc2,bc3,bc4,bc5,bc6,AV.frz,AV.cpy,binIs,AV.isSl,AV.isSlice,AV.rows,ps,pv,AV.outs,AV.outF,packD,AV.menc,D.one,Value.oneCell',slcV,AV.isSlD,↓reduceIte,reduceCtorEq,Nat.reduceAdd,Nat.reduceSub,List.reduceReplicate,Nat.reduceLT,Int.reduceLE,tfb,upOk,bu0,x44_81,c, hrep, List.length_replicate, hcp, hil]
  refine ⟨by omega, by omega, by omega, by omega, by omega, by omega, ?_⟩
  rw [List.map_drop, List.map_take, show ((l.length : Int) - 1).toNat = l.length - 1 by omega]
  rfl
def ent44 (args : List AV) (K : AV → List AV → Sto → Prop) (e : List AV) (s : Sto) : Prop := ent (α := (List Int)) (fun aa => [.sl 1 (aa.map ic)]) (fun aa => 1 ≤ aa.length ∧ aa.length ≤ 12) (fun aa => .sl 1 ((ctd aa).map ic)) args K e s
theorem ent44_ok {args : List AV} {K : AV → List AV → Sto → Prop} {Q : Kt} {e : List AV} {s : Sto} (h : ent44 args K e s) : pcall Tryz.prog 44 args K Q e s := ent_ok (fun aa h => pf44 aa h) h
theorem eq44 {l : List Int} {KK : AV → List AV → Sto → Prop} {ee : List AV} {ss : Sto} : ent44 [.d (.sl 1 (l.map ic))] KK ee ss = ((1 ≤ l.length ∧ l.length ≤ 12) ∧ KK (.d (.sl 1 ((ctd l).map ic))) ee ss) := by
  unfold ent44; rw [ent_iff l (by intro b h; simpa [Prod.ext_iff, and_assoc, Int.ofNat_inj, ints_inj, cals_inj, pcs_inj, skas_inj, scos_inj, ska_inj, rul_inj, sco_inj, cal_inj] using h) rfl]; simp
end Go.Proofs.YtapglfcaghlpfaaGreat
