/- A part of the proof that the last text ends: what functions of the program do, told by plain data. -/
import Derived.Test.YtofbbkacihnjdaaDoorHD
set_option linter.unusedVariables false
set_option linter.unusedSimpArgs false
namespace Go.Proofs.YtofbbkacihnjdaaDoor
open Go Go.E Go.Maps
set_option maxRecDepth 100000
set_option maxHeartbeats 16000000
theorem swap_rows2 {R : List Int} {j : Nat} {v x : Int} (h : j + 1 < R.length) : ((R.map ic).set (j + 1) [.v (.int .i64 v)]).set j [.v (.int .i64 x)] = ((R.set (j + 1) v).set j x).map ic := by
  rw [List.map_set, List.map_set]
def O26 : Nat → Sch := fun id => if id = 6 then .one 0 (.one 1 (.one 2 (.one 3 (.one 4 (.one 5 (.one 6 (.one 7 (.one 8 (.one 9 (.one 10 (.one 11 (.one 12 (.one 13 (.done)))))))))))))) else if id = 8 then .one 0 (.one 1 (.one 2 (.one 3 (.one 4 (.one 5 (.one 6 (.one 7 (.one 8 (.one 9 (.one 10 (.one 11 (.one 12 (.one 13 (.one 14 (.one 15 (.one 16 (.one 17 (.done)))))))))))))))))) else .done
theorem O26_6 : O26 6 = .one 0 (.one 1 (.one 2 (.one 3 (.one 4 (.one 5 (.one 6 (.one 7 (.one 8 (.one 9 (.one 10 (.one 11 (.one 12 (.one 13 (.done)))))))))))))) := rfl
theorem O26_8 : O26 8 = .one 0 (.one 1 (.one 2 (.one 3 (.one 4 (.one 5 (.one 6 (.one 7 (.one 8 (.one 9 (.one 10 (.one 11 (.one 12 (.one 13 (.one 14 (.one 15 (.one 16 (.one 17 (.done)))))))))))))))))) := rfl
theorem ho26 : Tryd.f26.body.map (okO O26) = some true := by kernel_rfl
def Cf26 : Nat → List AV → (AV → List AV → Sto → Prop) → Kt → List AV → Sto → Prop := fun f args K Q e s => match f with
  | _ => False
def Ct26 : CT := { f := Cf26, y := noYld, z := fun d => false }
theorem ctz26 {d : Nat} : CT.z Ct26 d = (false) := id rfl
theorem Ct26_ok : Ct26.ok Tryd.prog := ok_of_f (fun f args K Q e s h => by
  have h : Cf26 f args K Q e s := h
  unfold Cf26 at h; split at h
  · exact h.elim) (fun _ _ _ _ _ _ _ _ _ h => h)
theorem c26 : callable Tryd.prog 26 = true := by kernel_rfl
theorem pf26 (l : List Int) (h : l.length ≤ 1000) : PFn Tryd.prog 26 [.sl 1 (l.map ic)] (fun zz => zz = .ret (.sl 1 ((isort l).map ic))) := by
  by_cases l1 : 1 ≤ l.length
  case neg =>
    obtain rfl : l = [] := by cases l; rfl; simp at l1
    have hz : ([] : List Int).map ic = [] := rfl
    refine PFn_nil (PFn_start (O := O26) Ct26_ok hmix ho26 Tryd.func26 c26 rfl Tryd.ntmps26 Tryd.results26 ?_)
    simp (maxSteps := 4000000) +contextual (disch := first | omega | exact qdb_ok (by kernel_rfl) | exact okb_ok (by kernel_rfl)) only [bw1,bw2,bw5,bw6,bc3,bc4,bc5,bc6,AV.isSl,AV.rows,D.one,Value.oneCell',tagOf,AV.isApp,↓reduceIte,reduceCtorEq,Nat.reduceAdd,Nat.reduceSub,Nat.reduceMul,List.reduceReplicate,Nat.reduceLeDiff,tfb,ctz26]
    refine loop_xu (O := O26) (tb := 0) Ct26_ok hmix (by kernel_rfl) (σ := Unit) (fun _ => []) (fun _ => []) (fun _ => True) (fun _ => 0) () trivial ?_ ?_
    · simp (maxSteps := 4000000) +contextual (disch := first | omega | exact qdb_ok (by kernel_rfl) | exact okb_ok (by kernel_rfl)) only [bw5,bc0,bc3,bc5,bc6,AV.isNilS,AV.isNoRows,wk,↓reduceIte,reduceCtorEq,eq_self]
    intro _ _
    have h01 : ¬ ((1 : Int) < 0) := by omega
    have hf0 : rowsFlat ([] : List (List D)) = true := rfl
    simp (maxSteps := 4000000) +contextual (disch := first | omega | exact qdb_ok (by kernel_rfl) | exact okb_ok (by kernel_rfl)) only [bw1,bw2,bw3,bw4,bw5,bw6,bw7,bc0,bc1,bc2,bc3,bc4,bc5,bc6,binIs,AV.isSlice,AV.rows,packD,↓reduceIte,reduceCtorEq,tfb,n_retr,AV.outN,eq_self, h01, hf0]
    try rfl
  have hel : l.length = l.length := rfl
  refine PFn_nil (PFn_start (O := O26) Ct26_ok hmix ho26 Tryd.func26 c26 rfl Tryd.ntmps26 Tryd.results26 ?_)
  simp (maxSteps := 4000000) +contextual (disch := first | omega | exact qdb_ok (by kernel_rfl) | exact okb_ok (by kernel_rfl)) only [bw1,bw2,bw4,bw5,bw6,bc3,bc4,bc5,bc6,AV.isSl,AV.rows,D.one,Value.oneCell',tagOf,AV.isApp,↓reduceIte,reduceCtorEq,Nat.reduceAdd,Nat.reduceSub,Nat.reduceMul,List.reduceReplicate,Nat.reduceLeDiff,tfb,ctz26]
  refine ⟨by omega, by omega, ?_⟩
  refine loop_xu (O := O26) (tb := 0) Ct26_ok hmix (by kernel_rfl) (σ := Nat) (fun i => [(3, .own 7 3 1 ((isortN l i ++ l.drop i).map ic)), (4, .i i), (5, .any), (8, .any), (6, .any)]) (fun _ => []) (fun i => 1 ≤ i ∧ i ≤ l.length) (fun i => l.length - i) 1 ⟨Nat.le_refl _, l1⟩ ?_ ?_
  · have hs1 := sort_one (v := l) l1
    simp (maxSteps := 4000000) +contextual (disch := first | omega | exact qdb_ok (by kernel_rfl) | exact okb_ok (by kernel_rfl)) only [bw4,bw5,bw6,bc0,bc3,bc5,bc6,AV.isNilS,AV.isNoRows,wk,↓reduceIte,reduceCtorEq,eq_self, hs1]
    try rfl
  rintro i ⟨hi1, hi2⟩
  by_cases hlt : i < l.length
  · have hlt' : (i : Int) < l.length := by omega
    have hS' : ∃ S, isortN l i = S := ⟨_, rfl⟩
    obtain ⟨S, hS⟩ := hS'
    have hx' : ∃ x, l.getD i default = x := ⟨_, rfl⟩
    obtain ⟨x, hx⟩ := hx'
    have hT' : ∃ T, l.drop (i + 1) = T := ⟨_, rfl⟩
    obtain ⟨T, hT⟩ := hT'
    have hSl : S.length = i := by rw [← hS, isortN_len]
    have hTl : S.length + 1 + T.length = l.length := by
      have : T.length = l.length - (i + 1) := by rw [← hT, List.length_drop]
      omega
    have hd0 : S ++ l.drop i = dat S x T i := by
      rw [dat_top hSl, ← hT, ← hx, at_lt hlt, List.drop_eq_getElem_cons hlt]
    have hnx : isortN l (i + 1) ++ l.drop (i + 1) = insR S x i ++ T := by rw [hT, isortN_succ, hS, hx]
    have hd0l : (dat S x T i).length = l.length := by rw [dat_len (by omega), hTl]
    simp (maxSteps := 4000000) +contextual (disch := first | omega | exact qdb_ok (by kernel_rfl) | exact okb_ok (by kernel_rfl)) only [bw1,bw2,bw4,bw5,bw6,bw7,bc0,bc1,bc4,bc5,bc6,binIs,AV.isSlice,AV.rows,↓reduceIte,tfb,eq_self, hlt', hS, hd0, hd0l]
    refine loop_xu (O := O26) (tb := 0) Ct26_ok hmix (by kernel_rfl) (σ := Nat) (fun j => [(3, .own 7 3 1 ((dat S x T j).map ic)), (5, .i j), (10, .any)]) (fun _ => []) (fun j => j ≤ i ∧ insR S x j = insR S x i) (fun j => j) i ⟨Nat.le_refl _, rfl⟩ ?_ ?_
    · simp (maxSteps := 4000000) +contextual (disch := first | omega | exact qdb_ok (by kernel_rfl) | exact okb_ok (by kernel_rfl)) only [bw5,bw6,bc0,bc3,bc5,bc6,AV.isNilS,AV.isNoRows,wk,↓reduceIte,reduceCtorEq,eq_self]
      try rfl
    rintro j ⟨hj1, hj2⟩
    have hdl : (dat S x T j).length = l.length := by rw [dat_len (by omega), hTl]
    have hda := dat_at (S := S) (T := T) (x := x) (j := j) (by omega)
    rcases j with _ | j
    · have hdd : dat S x T 0 = insR S x i ++ T := by rw [insR_dat (.inl rfl), hj2]
      simp (maxSteps := 4000000) +contextual (disch := first | omega | exact qdb_ok (by kernel_rfl) | exact okb_ok (by kernel_rfl)) only [bw1,bw2,bw3,bw4,bw5,bw6,bw7,bc0,bc1,bc3,bc4,bc5,bc6,AV.isNilS,AV.isNoRows,wk,binIs,↓reduceIte,reduceCtorEq,tfb,qd_Rn,O26_6,eq_self, hdd, ← hnx, Int.lt_irrefl]
      exact ⟨i + 1, ⟨⟨by omega, by omega⟩, by omega⟩, rfl, rfl⟩
    · have hdp := dat_prev (S := S) (T := T) (x := x) (j := j) (by omega)
      have hg1 : (0 : Int) < (j : Int) + 1 := by omega
      have hg2 : (j : Int) + 1 - 1 = j := by omega
      have hg3 : ((j : Int) + 1).toNat = j + 1 := by omega
      have hg6 : (0 : Int) ≤ (j : Int) + 1 := by omega
      have hg7 : (j : Int) + 1 < l.length := by omega
      have hg8 : (0 : Int) ≤ (j : Int) := by omega
      have hg9 : (j : Int) < l.length := by omega
      have hra : ((dat S x T (j + 1)).map ic).getD (j + 1) [] = ic x := by rw [Go.E.row_at (by omega), hda]
      have hrb : ((dat S x T (j + 1)).map ic).getD j [] = ic (S.getD j default) := by rw [Go.E.row_at (by omega), hdp]
      by_cases hx2 : x < S.getD j default
      · have hsw := dat_swap (S := S) (T := T) (x := x) (j := j) (by omega)
        have hin : insR S x j = insR S x i := by rw [← hj2, insR_lt hx2]
        have hr := swap_rows (R := dat S x T (j + 1)) (j := j) (v := S.getD j default) (x := x) (by omega)
        have hr2 := swap_rows2 (R := dat S x T (j + 1)) (j := j) (v := S.getD j default) (x := x) (by omega)
        rw [hsw] at hr hr2
        simp (maxSteps := 4000000) +contextual (disch := first | omega | exact qdb_ok (by kernel_rfl) | exact okb_ok (by kernel_rfl)) only [bw1,bw2,bw3,bw4,bw5,bw6,bw7,bc0,bc1,bc2,bc3,bc4,bc5,bc6,AV.isNilS,AV.isNoRows,wk,binIs,idxV,AV.isSl,AV.rows,ps,pv,AV.upr,AV.menc,D.one,Value.oneCell',AV.dcells,D.cells?,↓reduceIte,reduceCtorEq,Nat.reduceAdd,Nat.reduceLeDiff,tfb,qd_Rn,O26_6,O26_8,eq_self, hra, hrb, hg1, hg2, hg3, hg6, hg7, hg8, hg9, hx2, hdl, hr, List.length_set]
        refine ⟨j, ⟨⟨by omega, hin⟩, by omega⟩, ?_⟩
        first | exact ⟨rfl, hr⟩ | exact ⟨rfl, hr2⟩ | exact ⟨hr, rfl⟩ | exact ⟨hr2, rfl⟩ | exact ⟨rfl, rfl⟩
      · have hdd : dat S x T (j + 1) = insR S x i ++ T := by rw [insR_dat (.inr (by simpa using hx2)), hj2]
        simp (maxSteps := 4000000) +contextual (disch := first | omega | exact qdb_ok (by kernel_rfl) | exact okb_ok (by kernel_rfl)) only [bw1,bw2,bw3,bw4,bw5,bw6,bw7,bc0,bc1,bc2,bc3,bc4,bc5,bc6,AV.isNilS,AV.isNoRows,wk,binIs,idxV,AV.isSl,AV.rows,ps,pv,↓reduceIte,reduceCtorEq,Nat.reduceLeDiff,tfb,qd_Rn,O26_6,eq_self, hra, hrb, hg1, hg2, hg3, hg6, hg7, hg8, hg9, hx2, hdl]
        refine ⟨i + 1, ⟨⟨by omega, by omega⟩, by omega⟩, ?_, rfl⟩
        rw [hdd, hnx]
  obtain rfl : i = l.length := by omega
  have hsa := sort_all (v := l)
  have hil : (isort l).length = l.length := isort_len
  have hfl := ics_flat (isort l)
  simp (maxSteps := 4000000) +contextual (disch := first | omega | exact qdb_ok (by kernel_rfl) | exact okb_ok (by kernel_rfl)) only [bw1,bw2,bw3,bw4,bw5,bw6,bw7,bc0,bc1,bc2,bc3,bc4,bc5,bc6,binIs,AV.isSlice,AV.rows,packD,↓reduceIte,reduceCtorEq,tfb,n_retr,AV.outN,eq_self, Int.lt_irrefl, hsa, hil, hfl]
def cmpN (x y : List Int) : Nat → Nat → Int
  | 0, _ => 0
  | k + 1, i => if y.getD i default < x.getD i default then 1 else if x.getD i default < y.getD i default then -1 else cmpN x y k (i + 1)
def cmpL (x y : List Int) : Int := cmpN x y x.length 0
def ent26 (args : List AV) (K : AV → List AV → Sto → Prop) (e : List AV) (s : Sto) : Prop := entn (α := (List Int)) (fun aa => [.sl 1 (aa.map ic)]) (fun aa => aa.length ≤ 1000) (fun aa => .sl 1 ((isort aa).map ic)) args K e s
theorem ent26_ok {args : List AV} {K : AV → List AV → Sto → Prop} {Q : Kt} {e : List AV} {s : Sto} (h : ent26 args K e s) : pcall Tryd.prog 26 args K Q e s := entn_ok (fun aa h => pf26 aa h) h
theorem eq26 {l : List Int} {KK : AV → List AV → Sto → Prop} {ee : List AV} {ss : Sto} : ent26 [.d (.sl 1 (l.map ic))] KK ee ss = ((l.length ≤ 1000) ∧ KK (.d (.sl 1 ((isort l).map ic))) ee ss) := by
  unfold ent26; rw [entn_iff l (by intro b h; simpa [Prod.ext_iff, and_assoc, Int.ofNat_inj, ints_inj, hrs_inj, grs_inj, hr_inj, gr_inj, tt_inj] using h) rfl] <;> simp
def O36 : Nat → Sch := fun id => if id = 5 then .one 0 (.one 1 (.one 2 (.one 3 (.one 4 (.one 5 (.one 6 (.one 7 (.one 8 (.done))))))))) else if id = 7 then .one 0 (.one 1 (.one 2 (.one 3 (.one 4 (.one 5 (.one 6 (.one 7 (.one 8 (.done))))))))) else .done
theorem O36_5 : O36 5 = .one 0 (.one 1 (.one 2 (.one 3 (.one 4 (.one 5 (.one 6 (.one 7 (.one 8 (.done))))))))) := rfl
theorem O36_7 : O36 7 = .one 0 (.one 1 (.one 2 (.one 3 (.one 4 (.one 5 (.one 6 (.one 7 (.one 8 (.done))))))))) := rfl
theorem ho36 : Tryd.f36.body.map (okO O36) = some true := by kernel_rfl
def Cf36 : Nat → List AV → (AV → List AV → Sto → Prop) → Kt → List AV → Sto → Prop := fun f args K Q e s => match f with
  | 26 => ent26 args K e s
  | _ => False
def Ct36 : CT := { f := Cf36, y := noYld, z := fun d => false }
theorem Ct36_ok : Ct36.ok Tryd.prog := ok_of_f (fun f args K Q e s h => by
  have h : Cf36 f args K Q e s := h
  unfold Cf36 at h; split at h
  · exact ent26_ok h
  · exact h.elim) (fun _ _ _ _ _ _ _ _ _ h => h)
theorem x36_26 {l : List Int} {KK : AV → List AV → Sto → Prop} {QQ : Kt} {ii : At KK} {jj : At QQ} {ee : List AV} {ss : Sto} : xC Ct36 26 [.d (.sl 1 (l.map ic))] KK QQ ii jj ee ss = ((l.length ≤ 1000) ∧ KK (.d (.sl 1 ((isort l).map ic))) ee ss) := eq26
theorem c36 : callable Tryd.prog 36 = true := by kernel_rfl
theorem pf36 (a b : List Int) (h : a.length ≤ 1000 ∧ b.length = a.length) : PF Tryd.prog 36 [.sl 1 (a.map ic), .sl 1 (b.map ic)] (fun zz => zz = .ret (.i (cmpL (isort a) (isort b)))) := by
  obtain ⟨ha, hb⟩ := h
  have hb1 : b.length ≤ 1000 := by omega
  have hla : (isort a).length = a.length := isort_len
  have hlb : (isort b).length = a.length := by rw [isort_len, hb]
  obtain ⟨W, hW⟩ : ∃ W, W = cmpL (isort a) (isort b) := ⟨_, rfl⟩
  rw [← hW]
  unfold cmpL at hW
  rw [hla] at hW
  obtain ⟨x, hx⟩ : ∃ x, isort a = x := ⟨_, rfl⟩
  obtain ⟨y, hy⟩ : ∃ y, isort b = y := ⟨_, rfl⟩
  rw [hx] at hla hW
  rw [hy] at hlb hW
  refine PF_nil (PF_start (O := O36) Ct36_ok hmix ho36 Tryd.func36 c36 rfl Tryd.ntmps36 Tryd.results36 ?_)
  simp (maxSteps := 4000000) +contextual (disch := first | omega | exact qdb_ok (by kernel_rfl) | exact okb_ok (by kernel_rfl)) only [bw1,bw2,bw5,bw6,bc4,bc5,Nat.reduceAdd,Nat.reduceSub,List.reduceReplicate,Int.reduceNeg,x36_26,ha, hb1, hx, hy]
  refine loop_xu (O := O36) (tb := 0) Ct36_ok hmix (by kernel_rfl) (σ := Nat) (fun k => [(7, .i k)]) (fun _ => []) (fun k => k ≤ a.length ∧ cmpN x y (a.length - k) k = W) (fun k => a.length - k) 0 ⟨Nat.zero_le _, hW.symm⟩ ?_ ?_
  · simp (maxSteps := 4000000) +contextual (disch := first | omega | exact qdb_ok (by kernel_rfl) | exact okb_ok (by kernel_rfl)) only [bw4,bw5,bw6,bc0,bc3,bc5,bc6,AV.isNilS,AV.isNoRows,wk,↓reduceIte,reduceCtorEq,eq_self]
    try rfl
  rintro k ⟨hk, hw⟩
  by_cases hlt : k < a.length
  · have hlt' : (k : Int) < x.length := by omega
    have hlt2 : (k : Int) < y.length := by omega
    have hk0 : (0 : Int) ≤ k := by omega
    rw [show a.length - k = (a.length - (k + 1)) + 1 by omega, cmpN] at hw
    by_cases d1 : y.getD k default < x.getD k default
    · rw [if_pos d1] at hw
      simp (maxSteps := 4000000) +contextual (disch := first | omega | exact qdb_ok (by kernel_rfl) | exact okb_ok (by kernel_rfl)) only [bw1,bw2,bw3,bw4,bw5,bw6,bw7,bc0,bc1,bc2,bc3,bc4,bc5,bc6,binIs,idxV,AV.isSl,AV.isSlice,AV.rows,ps,pv,AV.outs,AV.outF,packD,↓reduceIte,Nat.reduceLeDiff,Int.reduceNeg,tfb,O36_5,eq_self, hlt', hlt2, hk0, d1, ← hw]
      try (and_intros <;> first | omega | rfl)
    rw [if_neg d1] at hw
    by_cases d2 : x.getD k default < y.getD k default
    · rw [if_pos d2] at hw
      simp (maxSteps := 4000000) +contextual (disch := first | omega | exact qdb_ok (by kernel_rfl) | exact okb_ok (by kernel_rfl)) only [bw1,bw2,bw3,bw4,bw5,bw6,bw7,bc0,bc1,bc2,bc3,bc4,bc5,bc6,binIs,idxV,AV.isSl,AV.isSlice,AV.rows,ps,pv,AV.outs,AV.outF,packD,↓reduceIte,Nat.reduceLeDiff,Int.reduceNeg,tfb,O36_5,O36_7,eq_self, hlt', hlt2, hk0, d1, d2, ← hw]
      try (and_intros <;> first | omega | rfl)
    rw [if_neg d2] at hw
    simp (maxSteps := 4000000) +contextual (disch := first | omega | exact qdb_ok (by kernel_rfl) | exact okb_ok (by kernel_rfl)) only [bw1,bw2,bw3,bw4,bw5,bw6,bw7,bc0,bc1,bc2,bc3,bc4,bc5,bc6,AV.isNilS,AV.isNoRows,wk,binIs,idxV,AV.isSl,AV.isSlice,AV.rows,ps,pv,↓reduceIte,reduceCtorEq,Nat.reduceLeDiff,Int.reduceNeg,tfb,O36_5,O36_7,eq_self, hlt', hlt2, hk0, d1, d2]
    repeat (refine And.intro (by omega) ?_)
    exact ⟨k + 1, ⟨⟨by omega, hw⟩, by omega⟩, rfl⟩
  obtain rfl : k = a.length := by omega
  rw [Nat.sub_self, cmpN] at hw
  simp (maxSteps := 4000000) +contextual (disch := first | omega | exact qdb_ok (by kernel_rfl) | exact okb_ok (by kernel_rfl)) only [bw1,bw2,bw3,bw4,bw5,bw6,bw7,bc0,bc1,bc2,bc3,bc4,bc5,bc6,binIs,AV.isSlice,AV.rows,AV.outs,AV.outF,packD,↓reduceIte,Int.reduceNeg,tfb,eq_self, hla, Int.lt_irrefl, ← hw]
  try rfl
def ent36 (args : List AV) (K : AV → List AV → Sto → Prop) (e : List AV) (s : Sto) : Prop := ent (α := (List Int) × (List Int)) (fun aa => [.sl 1 (aa.1.map ic), .sl 1 (aa.2.map ic)]) (fun aa => aa.1.length ≤ 1000 ∧ aa.2.length = aa.1.length) (fun aa => .i (cmpL (isort aa.1) (isort aa.2))) args K e s
theorem ent36_ok {args : List AV} {K : AV → List AV → Sto → Prop} {Q : Kt} {e : List AV} {s : Sto} (h : ent36 args K e s) : pcall Tryd.prog 36 args K Q e s := ent_ok (fun aa h => pf36 aa.1 aa.2 h) h
theorem eq36 {a : List Int} {b : List Int} {KK : AV → List AV → Sto → Prop} {ee : List AV} {ss : Sto} : ent36 [.d (.sl 1 (a.map ic)), .d (.sl 1 (b.map ic))] KK ee ss = ((a.length ≤ 1000 ∧ b.length = a.length) ∧ KK (.d (.i (cmpL (isort a) (isort b)))) ee ss) := by
  unfold ent36; rw [ent_iff (a, b) (by intro b h; simpa [Prod.ext_iff, and_assoc, Int.ofNat_inj, ints_inj, hrs_inj, grs_inj, hr_inj, gr_inj, tt_inj] using h) rfl]; simp
def O46 : Nat → Sch := fun id => .done
theorem ho46 : Tryd.f46.body.map (okO O46) = some true := by kernel_rfl
def Cf46 : Nat → List AV → (AV → List AV → Sto → Prop) → Kt → List AV → Sto → Prop := fun f args K Q e s => match f with
  | 67 => ent67 args K e s
  | _ => False
def Ct46 : CT := { f := Cf46, y := noYld, z := fun d => false }
theorem Ct46_ok : Ct46.ok Tryd.prog := ok_of_f (fun f args K Q e s h => by
  have h : Cf46 f args K Q e s := h
  unfold Cf46 at h; split at h
  · exact ent67_ok h
  · exact h.elim) (fun _ _ _ _ _ _ _ _ _ h => h)
theorem x46_67 {a : Int} {b : Int} {KK : AV → List AV → Sto → Prop} {QQ : Kt} {ii : At KK} {jj : At QQ} {ee : List AV} {ss : Sto} : xC Ct46 67 [.d (.i a), .d (.i b)] KK QQ ii jj ee ss = (KK (.d (.i (cmpI a b))) ee ss) := eq67
theorem c46 : callable Tryd.prog 46 = true := by kernel_rfl
theorem pf46 (x y : List Int) (h : x.length ≤ 1000 ∧ y.length = x.length) : PF Tryd.prog 46 [.sl 1 (x.map ic), .sl 1 (y.map ic)] (fun zz => zz = .ret (.i (cmpL x y))) := by
  obtain ⟨hla, hlb⟩ := h
  obtain ⟨W, hW⟩ : ∃ W, W = cmpL x y := ⟨_, rfl⟩
  rw [← hW]
  unfold cmpL at hW
  refine PF_nil (PF_start (O := O46) Ct46_ok hmix ho46 Tryd.func46 c46 rfl Tryd.ntmps46 Tryd.results46 ?_)
  simp (maxSteps := 4000000) +contextual (disch := first | omega | exact qdb_ok (by kernel_rfl) | exact okb_ok (by kernel_rfl)) only [bw1,bw2,bw4,bw5,bw6,bc4,bc5,AV.isSlice,AV.rows,↓reduceIte,Nat.reduceAdd,Nat.reduceSub,List.reduceReplicate,Int.reduceNeg,tfb]
  refine loop_xu (O := O46) (tb := 0) Ct46_ok hmix (by kernel_rfl) (σ := Nat) (fun k => [(11, .i k), (5, .any), (6, .any), (7, .any), (8, .any)]) (fun _ => []) (fun k => k ≤ x.length ∧ cmpN x y (x.length - k) k = W) (fun k => x.length - k) 0 ⟨Nat.zero_le _, hW.symm⟩ ?_ ?_
  · simp (maxSteps := 4000000) +contextual (disch := first | omega | exact qdb_ok (by kernel_rfl) | exact okb_ok (by kernel_rfl)) only [bw4,bw5,bw6,bc0,bc3,bc5,bc6,AV.isNilS,AV.isNoRows,wk,↓reduceIte,reduceCtorEq,eq_self]
    try rfl
  rintro k ⟨hk, hw⟩
  by_cases hlt : k < x.length
  · have hlt' : (k : Int) < x.length := by omega
    have hlt2 : (k : Int) < y.length := by omega
    have hlt3 : ¬ (y.length : Int) ≤ k := by omega
    have hk0 : (0 : Int) ≤ k := by omega
    rw [show x.length - k = (x.length - (k + 1)) + 1 by omega, cmpN] at hw
    by_cases d1 : y.getD k default < x.getD k default
    · have hc : cmpI (x.getD k default) (y.getD k default) = 1 := by unfold cmpI; rw [if_neg (by omega), if_pos d1]
      have hne : ((1 : Int) != 0) = true := rfl
      rw [if_pos d1] at hw
      simp (maxSteps := 4000000) +contextual (disch := first | omega | exact qdb_ok (by kernel_rfl) | exact okb_ok (by kernel_rfl)) only [bw1,bw2,bw3,bw4,bw5,bw6,bw7,bc0,bc1,bc2,bc3,bc4,bc5,bc6,binIs,idxV,AV.isSl,AV.isSlice,AV.rows,ps,pv,AV.outs,AV.outF,packD,↓reduceIte,Nat.reduceLeDiff,Int.reduceNeg,tfb,x46_67,eq_self, hlt', hlt2, hlt3, hk0, hc, hne, ← hw]
      try (and_intros <;> first | omega | rfl)
    rw [if_neg d1] at hw
    by_cases d2 : x.getD k default < y.getD k default
    · have hc : cmpI (x.getD k default) (y.getD k default) = -1 := by unfold cmpI; rw [if_pos d2]
      have hne : ((-1 : Int) != 0) = true := rfl
      rw [if_pos d2] at hw
      simp (maxSteps := 4000000) +contextual (disch := first | omega | exact qdb_ok (by kernel_rfl) | exact okb_ok (by kernel_rfl)) only [bw1,bw2,bw3,bw4,bw5,bw6,bw7,bc0,bc1,bc2,bc3,bc4,bc5,bc6,binIs,idxV,AV.isSl,AV.isSlice,AV.rows,ps,pv,AV.outs,AV.outF,packD,↓reduceIte,Nat.reduceLeDiff,Int.reduceNeg,tfb,x46_67,eq_self, hlt', hlt2, hlt3, hk0, hc, hne, ← hw]
      try (and_intros <;> first | omega | rfl)
    rw [if_neg d2] at hw
    have hc : cmpI (x.getD k default) (y.getD k default) = 0 := by unfold cmpI; rw [if_neg d2, if_neg d1]
    have hne : ((0 : Int) != 0) = false := rfl
    simp (maxSteps := 4000000) +contextual (disch := first | omega | exact qdb_ok (by kernel_rfl) | exact okb_ok (by kernel_rfl)) only [bw1,bw2,bw4,bw5,bw6,bw7,bc0,bc1,bc2,bc3,bc4,bc5,bc6,AV.isNilS,AV.isNoRows,wk,binIs,idxV,AV.isSl,AV.isSlice,AV.rows,ps,pv,↓reduceIte,reduceCtorEq,Nat.reduceLeDiff,Int.reduceNeg,tfb,x46_67,eq_self, hlt', hlt2, hlt3, hk0, hc, hne]
    repeat (refine And.intro (by omega) ?_)
    exact ⟨k + 1, ⟨⟨by omega, hw⟩, by omega⟩, rfl⟩
  obtain rfl : k = x.length := by omega
  rw [Nat.sub_self, cmpN] at hw
  have hyx : ¬ (x.length : Int) < y.length := by omega
  simp (maxSteps := 4000000) +contextual (disch := first | omega | exact qdb_ok (by kernel_rfl) | exact okb_ok (by kernel_rfl)) only [bw1,bw2,bw3,bw4,bw5,bw6,bw7,bc0,bc1,bc2,bc3,bc4,bc5,bc6,binIs,AV.isSlice,AV.rows,AV.outs,AV.outF,packD,↓reduceIte,Int.reduceNeg,tfb,eq_self, Int.lt_irrefl, hyx, ← hw]
  try rfl
def ent46 (args : List AV) (K : AV → List AV → Sto → Prop) (e : List AV) (s : Sto) : Prop := ent (α := (List Int) × (List Int)) (fun aa => [.sl 1 (aa.1.map ic), .sl 1 (aa.2.map ic)]) (fun aa => aa.1.length ≤ 1000 ∧ aa.2.length = aa.1.length) (fun aa => .i (cmpL aa.1 aa.2)) args K e s
theorem ent46_ok {args : List AV} {K : AV → List AV → Sto → Prop} {Q : Kt} {e : List AV} {s : Sto} (h : ent46 args K e s) : pcall Tryd.prog 46 args K Q e s := ent_ok (fun aa h => pf46 aa.1 aa.2 h) h
theorem eq46 {x : List Int} {y : List Int} {KK : AV → List AV → Sto → Prop} {ee : List AV} {ss : Sto} : ent46 [.d (.sl 1 (x.map ic)), .d (.sl 1 (y.map ic))] KK ee ss = ((x.length ≤ 1000 ∧ y.length = x.length) ∧ KK (.d (.i (cmpL x y))) ee ss) := by
  unfold ent46; rw [ent_iff (x, y) (by intro b h; simpa [Prod.ext_iff, and_assoc, Int.ofNat_inj, ints_inj, hrs_inj, grs_inj, hr_inj, gr_inj, tt_inj] using h) rfl]; simp
end Go.Proofs.YtofbbkacihnjdaaDoor
