/- A part of the proof that the last text ends: what functions of the program do, told by plain data. -/
import Derived.Test.YtofbbkacihnjdaaDoorHC
import Derived.Test.YtofbbkacihnjdaaDoorEc
set_option linter.unusedVariables false
set_option linter.unusedSimpArgs false
namespace Go.Proofs.YtofbbkacihnjdaaDoor
open Go Go.E Go.Maps
set_option maxRecDepth 100000
set_option maxHeartbeats 16000000
def insR (S : List Int) (x : Int) : Nat → List Int
  | 0 => x :: S
  | j + 1 => if x < S.getD j default then insR S x j else S.take (j + 1) ++ x :: S.drop (j + 1)
def isortN (l : List Int) : Nat → List Int
  | 0 => []
  | k + 1 => insR (isortN l k) (l.getD k default) k
def isort (l : List Int) : List Int := isortN l l.length
theorem insR_perm {S : List Int} {x : Int} : ∀ j, (insR S x j).Perm (x :: S)
  | 0 => .refl _
  | j + 1 => by
    unfold insR
    split
    · exact insR_perm j
    · exact List.perm_middle.trans (by rw [List.take_append_drop])
theorem insR_len {S : List Int} {x : Int} {j : Nat} : (insR S x j).length = S.length + 1 := by rw [(insR_perm j).length_eq]; rfl
theorem isortN_len {l : List Int} : ∀ k, (isortN l k).length = k
  | 0 => rfl
  | k + 1 => by unfold isortN; rw [insR_len, isortN_len k]
theorem isort_len {l : List Int} : (isort l).length = l.length := isortN_len _
def dat (S : List Int) (x : Int) (T : List Int) (j : Nat) : List Int := S.take j ++ x :: (S.drop j ++ T)
theorem dat_len {S T : List Int} {x : Int} {j : Nat} (h : j ≤ S.length) : (dat S x T j).length = S.length + 1 + T.length := by simp [dat]; omega
theorem dat_at {S T : List Int} {x : Int} {j : Nat} (h : j ≤ S.length) : (dat S x T j).getD j default = x := by
  have : (S.take j).length = j := by rw [List.length_take]; omega
  simp [dat, List.getD, List.getElem?_append, this]
theorem dat_prev {S T : List Int} {x : Int} {j : Nat} (h : j + 1 ≤ S.length) : (dat S x T (j + 1)).getD j default = S.getD j default := by
  have : (S.take (j + 1)).length = j + 1 := by rw [List.length_take]; omega
  rw [at_lt (show j < S.length by omega)]
  simp [dat, List.getD, List.getElem?_append, this, List.getElem?_take, List.getElem?_eq_getElem (show j < S.length by omega)]
theorem dat_swap {S T : List Int} {x : Int} {j : Nat} (h : j + 1 ≤ S.length) : ((dat S x T (j + 1)).set (j + 1) (S.getD j default)).set j x = dat S x T j := by
  have h1 : (S.take (j + 1)).length = j + 1 := by rw [List.length_take]; omega
  have h2 : (S.take j).length = j := by rw [List.length_take]; omega
  unfold dat
  rw [List.set_append_right _ _ (by omega), h1, Nat.sub_self, List.set_cons_zero, List.take_succ_eq_append_getElem (by omega), at_lt (by omega), List.append_assoc, List.set_append_right _ _ (by omega), h2, Nat.sub_self]
  rw [List.drop_eq_getElem_cons (show j < S.length by omega)]
  rfl
theorem dat_top {S T : List Int} {x : Int} {i : Nat} (h : S.length = i) : dat S x T i = S ++ x :: T := by
  subst h; simp [dat]
theorem insR_dat {S T : List Int} {x : Int} {j : Nat} (h : j = 0 ∨ ¬ x < S.getD (j - 1) default) : dat S x T j = insR S x j ++ T := by
  rcases j with _ | j
  · simp [dat, insR]
  · unfold insR
    rw [if_neg (by simpa using h)]
    simp [dat]
def O73 : Nat → Sch := fun id => .done
theorem ho73 : Tryd.f73.body.map (okO O73) = some true := by kernel_rfl
def Cf73 : Nat → List AV → (AV → List AV → Sto → Prop) → Kt → List AV → Sto → Prop := fun f args K Q e s => match f with
  | _ => False
def Ct73 : CT := { f := Cf73, y := noYld, z := fun d => false }
theorem Ct73_ok : Ct73.ok Tryd.prog := ok_of_f (fun f args K Q e s h => by
  have h : Cf73 f args K Q e s := h
  unfold Cf73 at h; split at h
  · exact h.elim) (fun _ _ _ _ _ _ _ _ _ h => h)
theorem c73 : callable Tryd.prog 73 = true := by kernel_rfl
theorem pf73 (a : Int) : PF Tryd.prog 73 [.i a] (fun zz => zz = .ret (.b false)) := by
  refine PF_nil (PF_start (O := O73) Ct73_ok hmix ho73 Tryd.func73 c73 rfl Tryd.ntmps73 Tryd.results73 ?_)
  simp (maxSteps := 4000000) +contextual (disch := first | omega | exact qdb_ok (by kernel_rfl) | exact okb_ok (by kernel_rfl)) only [bw1,bw2,bw3,bw5,bw6,bc1,bc2,bc3,bc4,bc5,binIs,AV.outs,AV.outF,packD,↓reduceIte,Nat.reduceSub,List.reduceReplicate,tfb,bne_self_eq_false]
def ent73 (args : List AV) (K : AV → List AV → Sto → Prop) (e : List AV) (s : Sto) : Prop := ent (α := (Int)) (fun aa => [.i aa]) (fun aa => True) (fun aa => .b false) args K e s
theorem ent73_ok {args : List AV} {K : AV → List AV → Sto → Prop} {Q : Kt} {e : List AV} {s : Sto} (h : ent73 args K e s) : pcall Tryd.prog 73 args K Q e s := ent_ok (fun aa h => pf73 aa) h
theorem eq73 {a : Int} {KK : AV → List AV → Sto → Prop} {ee : List AV} {ss : Sto} : ent73 [.d (.i a)] KK ee ss = (KK (.d (.b false)) ee ss) := by
  unfold ent73; rw [ent_iff a (by intro b h; simpa [Prod.ext_iff, and_assoc, Int.ofNat_inj, ints_inj, hrs_inj, grs_inj, hr_inj, gr_inj, tt_inj] using h) rfl]; simp
def O82 : Nat → Sch := fun id => .done
theorem ho82 : Tryd.f82.body.map (okO O82) = some true := by kernel_rfl
def Cf82 : Nat → List AV → (AV → List AV → Sto → Prop) → Kt → List AV → Sto → Prop := fun f args K Q e s => match f with
  | 73 => ent73 args K e s
  | _ => False
def Ct82 : CT := { f := Cf82, y := noYld, z := fun d => false }
theorem Ct82_ok : Ct82.ok Tryd.prog := ok_of_f (fun f args K Q e s h => by
  have h : Cf82 f args K Q e s := h
  unfold Cf82 at h; split at h
  · exact ent73_ok h
  · exact h.elim) (fun _ _ _ _ _ _ _ _ _ h => h)
theorem x82_73 {a : Int} {KK : AV → List AV → Sto → Prop} {QQ : Kt} {ii : At KK} {jj : At QQ} {ee : List AV} {ss : Sto} : xC Ct82 73 [.d (.i a)] KK QQ ii jj ee ss = (KK (.d (.b false)) ee ss) := eq73
theorem c82 : callable Tryd.prog 82 = true := by kernel_rfl
theorem pf82 (a b : Int) : PF Tryd.prog 82 [.i a, .i b] (fun zz => zz = .ret (.b (decide (a < b)))) := by
  refine PF_nil (PF_start (O := O82) Ct82_ok hmix ho82 Tryd.func82 c82 rfl Tryd.ntmps82 Tryd.results82 ?_)
  simp (maxSteps := 4000000) +contextual (disch := first | omega | exact qdb_ok (by kernel_rfl) | exact okb_ok (by kernel_rfl)) only [bw1,bw2,bw3,bw5,bw6,bw7,bc0,bc1,bc2,bc3,bc4,bc5,binIs,AV.outs,AV.outF,packD,↓reduceIte,Nat.reduceAdd,Nat.reduceSub,List.reduceReplicate,tfb,x82_73]
def cmpI (a b : Int) : Int := if a < b then -1 else if b < a then 1 else 0
def ent82 (args : List AV) (K : AV → List AV → Sto → Prop) (e : List AV) (s : Sto) : Prop := ent (α := (Int) × (Int)) (fun aa => [.i aa.1, .i aa.2]) (fun aa => True) (fun aa => .b (decide (aa.1 < aa.2))) args K e s
theorem ent82_ok {args : List AV} {K : AV → List AV → Sto → Prop} {Q : Kt} {e : List AV} {s : Sto} (h : ent82 args K e s) : pcall Tryd.prog 82 args K Q e s := ent_ok (fun aa h => pf82 aa.1 aa.2) h
theorem eq82 {a : Int} {b : Int} {KK : AV → List AV → Sto → Prop} {ee : List AV} {ss : Sto} : ent82 [.d (.i a), .d (.i b)] KK ee ss = (KK (.d (.b (decide (a < b)))) ee ss) := by
  unfold ent82; rw [ent_iff (a, b) (by intro b h; simpa [Prod.ext_iff, and_assoc, Int.ofNat_inj, ints_inj, hrs_inj, grs_inj, hr_inj, gr_inj, tt_inj] using h) rfl]; simp
def O67 : Nat → Sch := fun id => .done
theorem ho67 : Tryd.f67.body.map (okO O67) = some true := by kernel_rfl
def Cf67 : Nat → List AV → (AV → List AV → Sto → Prop) → Kt → List AV → Sto → Prop := fun f args K Q e s => match f with
  | 73 => ent73 args K e s
  | _ => False
def Ct67 : CT := { f := Cf67, y := noYld, z := fun d => false }
theorem Ct67_ok : Ct67.ok Tryd.prog := ok_of_f (fun f args K Q e s h => by
  have h : Cf67 f args K Q e s := h
  unfold Cf67 at h; split at h
  · exact ent73_ok h
  · exact h.elim) (fun _ _ _ _ _ _ _ _ _ h => h)
theorem x67_73 {a : Int} {KK : AV → List AV → Sto → Prop} {QQ : Kt} {ii : At KK} {jj : At QQ} {ee : List AV} {ss : Sto} : xC Ct67 73 [.d (.i a)] KK QQ ii jj ee ss = (KK (.d (.b false)) ee ss) := eq73
theorem c67 : callable Tryd.prog 67 = true := by kernel_rfl
theorem pf67 (a b : Int) : PF Tryd.prog 67 [.i a, .i b] (fun zz => zz = .ret (.i (cmpI a b))) := by
  unfold cmpI
  by_cases c : a < b
  · refine PF_nil (PF_start (O := O67) Ct67_ok hmix ho67 Tryd.func67 c67 rfl Tryd.ntmps67 Tryd.results67 ?_)
    simp (maxSteps := 4000000) +contextual (disch := first | omega | exact qdb_ok (by kernel_rfl) | exact okb_ok (by kernel_rfl)) only [bw1,bw2,bw3,bw5,bw6,bw7,bc1,bc2,bc3,bc4,bc5,bc6,binIs,AV.outs,AV.outF,packD,↓reduceIte,Nat.reduceAdd,Nat.reduceSub,List.reduceReplicate,Int.reduceNeg,tfb,x67_73,c]
  · by_cases d : b < a
    · refine PF_nil (PF_start (O := O67) Ct67_ok hmix ho67 Tryd.func67 c67 rfl Tryd.ntmps67 Tryd.results67 ?_)
      simp (maxSteps := 4000000) +contextual (disch := first | omega | exact qdb_ok (by kernel_rfl) | exact okb_ok (by kernel_rfl)) only [bw1,bw2,bw3,bw5,bw6,bw7,bc1,bc2,bc3,bc4,bc5,bc6,binIs,AV.outs,AV.outF,packD,↓reduceIte,Nat.reduceAdd,Nat.reduceSub,List.reduceReplicate,Int.reduceNeg,tfb,x67_73,c, d]
    · refine PF_nil (PF_start (O := O67) Ct67_ok hmix ho67 Tryd.func67 c67 rfl Tryd.ntmps67 Tryd.results67 ?_)
      simp (maxSteps := 4000000) +contextual (disch := first | omega | exact qdb_ok (by kernel_rfl) | exact okb_ok (by kernel_rfl)) only [bw1,bw2,bw3,bw5,bw6,bw7,bc1,bc2,bc3,bc4,bc5,bc6,binIs,AV.outs,AV.outF,packD,↓reduceIte,Nat.reduceAdd,Nat.reduceSub,List.reduceReplicate,Int.reduceNeg,tfb,x67_73,c, d]
def lenN (n : Int) : Int := if n = 0 then 0 else if n = 1 then 1 else if n ≤ 3 then 2 else if n ≤ 7 then 3 else if n ≤ 15 then 4 else 5
def ent67 (args : List AV) (K : AV → List AV → Sto → Prop) (e : List AV) (s : Sto) : Prop := ent (α := (Int) × (Int)) (fun aa => [.i aa.1, .i aa.2]) (fun aa => True) (fun aa => .i (cmpI aa.1 aa.2)) args K e s
theorem ent67_ok {args : List AV} {K : AV → List AV → Sto → Prop} {Q : Kt} {e : List AV} {s : Sto} (h : ent67 args K e s) : pcall Tryd.prog 67 args K Q e s := ent_ok (fun aa h => pf67 aa.1 aa.2) h
theorem eq67 {a : Int} {b : Int} {KK : AV → List AV → Sto → Prop} {ee : List AV} {ss : Sto} : ent67 [.d (.i a), .d (.i b)] KK ee ss = (KK (.d (.i (cmpI a b))) ee ss) := by
  unfold ent67; rw [ent_iff (a, b) (by intro b h; simpa [Prod.ext_iff, and_assoc, Int.ofNat_inj, ints_inj, hrs_inj, grs_inj, hr_inj, gr_inj, tt_inj] using h) rfl]; simp
def O86 : Nat → Sch := fun id => .done
theorem ho86 : Tryd.f86.body.map (okO O86) = some true := by kernel_rfl
def Cf86 : Nat → List AV → (AV → List AV → Sto → Prop) → Kt → List AV → Sto → Prop := fun f args K Q e s => match f with
  | _ => False
def Ct86 : CT := { f := Cf86, y := noYld, z := fun d => false }
theorem Ct86_ok : Ct86.ok Tryd.prog := ok_of_f (fun f args K Q e s h => by
  have h : Cf86 f args K Q e s := h
  unfold Cf86 at h; split at h
  · exact h.elim) (fun _ _ _ _ _ _ _ _ _ h => h)
theorem c86 : callable Tryd.prog 86 = true := by kernel_rfl
theorem pf86 (n : Int) (h : 0 ≤ n ∧ n ≤ 16) : PF Tryd.prog 86 [.v (.int .u64 n)] (fun zz => zz = .ret (.i (lenN n))) := by
  obtain ⟨h1, h2⟩ := h
  refine PF_nil (PF_start (O := O86) Ct86_ok hmix ho86 Tryd.func86 c86 rfl Tryd.ntmps86 Tryd.results86 ?_)
  have g1 : ¬ 256 ≤ n := by omega
  have g2 : ¬ 65536 ≤ n := by omega
  have g3 : ¬ 4294967296 ≤ n := by omega
  simp (maxSteps := 4000000) +contextual (disch := first | omega | exact qdb_ok (by kernel_rfl) | exact okb_ok (by kernel_rfl)) only [bw1,bw2,bw3,bw5,bw6,bw7,bc1,bc2,bc3,bc4,bc5,bc6,bc7,binIs,ps,pv,AV.outs,AV.outF,packD,↓reduceIte,Nat.reduceSub,List.reduceReplicate,tfb,g1, g2, g3]
  rcases (show n = 0 ∨ n = 1 ∨ n = 2 ∨ n = 3 ∨ n = 4 ∨ n = 5 ∨ n = 6 ∨ n = 7 ∨ n = 8 ∨ n = 9 ∨ n = 10 ∨ n = 11 ∨ n = 12 ∨ n = 13 ∨ n = 14 ∨ n = 15 ∨ n = 16 by omega) with rfl | rfl | rfl | rfl | rfl | rfl | rfl | rfl | rfl | rfl | rfl | rfl | rfl | rfl | rfl | rfl | rfl <;> exact ⟨⟨trivial, of_decide_eq_true (by kernel_rfl), of_decide_eq_true (by kernel_rfl)⟩, by kernel_rfl⟩
def ent86 (args : List AV) (K : AV → List AV → Sto → Prop) (e : List AV) (s : Sto) : Prop := ent (α := (Int)) (fun aa => [.v (.int .u64 aa)]) (fun aa => 0 ≤ aa ∧ aa ≤ 16) (fun aa => .i (lenN aa)) args K e s
theorem ent86_ok {args : List AV} {K : AV → List AV → Sto → Prop} {Q : Kt} {e : List AV} {s : Sto} (h : ent86 args K e s) : pcall Tryd.prog 86 args K Q e s := ent_ok (fun aa h => pf86 aa h) h
theorem eq86 {n : Int} {KK : AV → List AV → Sto → Prop} {ee : List AV} {ss : Sto} : ent86 [.d (.v (.int .u64 n))] KK ee ss = ((0 ≤ n ∧ n ≤ 16) ∧ KK (.d (.i (lenN n))) ee ss) := by
  unfold ent86; rw [ent_iff n (by intro b h; simpa [Prod.ext_iff, and_assoc, Int.ofNat_inj, ints_inj, hrs_inj, grs_inj, hr_inj, gr_inj, tt_inj] using h) rfl]; simp
def O75 : Nat → Sch := fun id => .done
theorem ho75 : Tryd.f75.body.map (okO O75) = some true := by kernel_rfl
def Cf75 : Nat → List AV → (AV → List AV → Sto → Prop) → Kt → List AV → Sto → Prop := fun f args K Q e s => match f with
  | 86 => ent86 args K e s
  | _ => False
def Ct75 : CT := { f := Cf75, y := noYld, z := fun d => false }
theorem Ct75_ok : Ct75.ok Tryd.prog := ok_of_f (fun f args K Q e s h => by
  have h : Cf75 f args K Q e s := h
  unfold Cf75 at h; split at h
  · exact ent86_ok h
  · exact h.elim) (fun _ _ _ _ _ _ _ _ _ h => h)
theorem x75_86 {n : Int} {KK : AV → List AV → Sto → Prop} {QQ : Kt} {ii : At KK} {jj : At QQ} {ee : List AV} {ss : Sto} : xC Ct75 86 [.d (.v (.int .u64 n))] KK QQ ii jj ee ss = ((0 ≤ n ∧ n ≤ 16) ∧ KK (.d (.i (lenN n))) ee ss) := eq86
theorem c75 : callable Tryd.prog 75 = true := by kernel_rfl
theorem pf75 (n : Int) (h : 0 ≤ n ∧ n ≤ 16) : PF Tryd.prog 75 [.v (.int .u64 n)] (fun zz => zz = .ret (.i (lenN n))) := by
  refine PF_nil (PF_start (O := O75) Ct75_ok hmix ho75 Tryd.func75 c75 rfl Tryd.ntmps75 Tryd.results75 ?_)
  simp (maxSteps := 4000000) +contextual (disch := first | omega | exact qdb_ok (by kernel_rfl) | exact okb_ok (by kernel_rfl)) only [bw1,bw2,bw3,bw5,bw6,bc2,bc3,bc4,bc5,AV.outs,AV.outF,packD,↓reduceIte,Nat.reduceSub,List.reduceReplicate,x75_86]
  exact h
def ent75 (args : List AV) (K : AV → List AV → Sto → Prop) (e : List AV) (s : Sto) : Prop := ent (α := (Int)) (fun aa => [.v (.int .u64 aa)]) (fun aa => 0 ≤ aa ∧ aa ≤ 16) (fun aa => .i (lenN aa)) args K e s
theorem ent75_ok {args : List AV} {K : AV → List AV → Sto → Prop} {Q : Kt} {e : List AV} {s : Sto} (h : ent75 args K e s) : pcall Tryd.prog 75 args K Q e s := ent_ok (fun aa h => pf75 aa h) h
theorem eq75 {n : Int} {KK : AV → List AV → Sto → Prop} {ee : List AV} {ss : Sto} : ent75 [.d (.v (.int .u64 n))] KK ee ss = ((0 ≤ n ∧ n ≤ 16) ∧ KK (.d (.i (lenN n))) ee ss) := by
  unfold ent75; rw [ent_iff n (by intro b h; simpa [Prod.ext_iff, and_assoc, Int.ofNat_inj, ints_inj, hrs_inj, grs_inj, hr_inj, gr_inj, tt_inj] using h) rfl]; simp
theorem insR_lt {S : List Int} {x : Int} {j : Nat} (h : x < S.getD j default) : insR S x (j + 1) = insR S x j := if_pos h
theorem isortN_succ {l : List Int} {k : Nat} : isortN l (k + 1) = insR (isortN l k) (l.getD k default) k := rfl
theorem swap_rows {R : List Int} {j : Nat} {v x : Int} (h : j + 1 < R.length) : ((R.map ic).set (j + 1) [.v (.int .i64 v)]).set j ((((R.map ic).set (j + 1) [.v (.int .i64 v)]).getD j []).set 0 (.v (.int .i64 x))) = ((R.set (j + 1) v).set j x).map ic := by
  rw [List.map_set, List.map_set]
  congr 1
  have h2 : j < R.length := by omega
  simp [List.getD, List.getElem?_set, h2]
theorem sort_one {v : List Int} (h : 1 ≤ v.length) : isortN v 1 ++ v.drop 1 = v := by
  rcases v with _ | ⟨a, v⟩
  · simp at h
  · rfl
theorem sort_all {v : List Int} : isortN v v.length ++ v.drop v.length = isort v := by rw [List.drop_length, List.append_nil]; rfl
def O76 : Nat → Sch := fun id => if id = 4 then .one 0 (.one 1 (.one 2 (.one 3 (.one 4 (.one 5 (.one 6 (.one 7 (.one 8 (.one 9 (.one 10 (.one 11 (.one 12 (.one 13 (.one 14 (.done))))))))))))))) else if id = 6 then .one 0 (.one 1 (.one 2 (.one 3 (.one 4 (.one 5 (.one 6 (.one 7 (.one 8 (.one 9 (.one 10 (.one 11 (.one 12 (.one 13 (.one 14 (.one 15 (.one 16 (.one 17 (.done)))))))))))))))))) else .done
theorem O76_4 : O76 4 = .one 0 (.one 1 (.one 2 (.one 3 (.one 4 (.one 5 (.one 6 (.one 7 (.one 8 (.one 9 (.one 10 (.one 11 (.one 12 (.one 13 (.one 14 (.done))))))))))))))) := rfl
theorem O76_6 : O76 6 = .one 0 (.one 1 (.one 2 (.one 3 (.one 4 (.one 5 (.one 6 (.one 7 (.one 8 (.one 9 (.one 10 (.one 11 (.one 12 (.one 13 (.one 14 (.one 15 (.one 16 (.one 17 (.done)))))))))))))))))) := rfl
theorem ho76 : Tryd.f76.body.map (okO O76) = some true := by kernel_rfl
def Cf76 : Nat → List AV → (AV → List AV → Sto → Prop) → Kt → List AV → Sto → Prop := fun f args K Q e s => match f with
  | 82 => ent82 args K e s
  | _ => False
def Ct76 : CT := { f := Cf76, y := noYld, z := fun d => false }
theorem Ct76_ok : Ct76.ok Tryd.prog := ok_of_f (fun f args K Q e s h => by
  have h : Cf76 f args K Q e s := h
  unfold Cf76 at h; split at h
  · exact ent82_ok h
  · exact h.elim) (fun _ _ _ _ _ _ _ _ _ h => h)
theorem x76_82 {a : Int} {b : Int} {KK : AV → List AV → Sto → Prop} {QQ : Kt} {ii : At KK} {jj : At QQ} {ee : List AV} {ss : Sto} : xC Ct76 82 [.d (.i a), .d (.i b)] KK QQ ii jj ee ss = (KK (.d (.b (decide (a < b)))) ee ss) := eq82
theorem c76 : callable Tryd.prog 76 = true := by kernel_rfl
theorem pf76 (l : List Int) (h : l.length ≤ 1000) : PFu Tryd.prog 76 3 1 (l.map ic) [.i 0, .i (l.length : Int)] (fun r x => r = .d (.tup []) ∧ x = ((isort l).map ic)) := by
  refine PFu_start (O := O76) Ct76_ok hmix ho76 Tryd.func76 c76 rfl Tryd.ntmps76 Tryd.results76 ?_
  simp (maxSteps := 4000000) +contextual (disch := first | omega | exact qdb_ok (by kernel_rfl) | exact okb_ok (by kernel_rfl)) only [bw1,bw2,bw5,bw6,bw7,bc1,bc4,bc5,binIs,↓reduceIte,Nat.reduceAdd,Nat.reduceSub,List.reduceReplicate,tfb,gU]
  by_cases l1 : 1 ≤ l.length
  case neg =>
    obtain rfl : l = [] := by cases l; rfl; simp at l1
    refine loop_r (O := O76) (tb := 0) Ct76_ok hmix (by kernel_rfl) (σ := Unit) gU (fun i => (([] : List Int)).map ic) (fun i => []) (fun _ => True) (fun _ => 0) (fun _ => ()) () trivial ?_ ?_
    · simp (maxSteps := 4000000) +contextual (disch := first | omega | exact qdb_ok (by kernel_rfl) | exact okb_ok (by kernel_rfl)) only [bw4,bw5,bc0,bc3,bc4,bc5,bc6,AV.isNilS,AV.isNoRows,wk,↓reduceIte,reduceCtorEq,gU,bu0]
    intro _ _
    have h01 : ¬ ((0 : Int) + 1 < 0) := by omega
    simp (maxSteps := 4000000) +contextual (disch := first | omega | exact qdb_ok (by kernel_rfl) | exact okb_ok (by kernel_rfl)) only [bw1,bw2,bw3,bw4,bw5,bw6,bw7,bc0,bc1,bc2,bc3,bc4,bc5,bc6,binIs,AV.dl,packA,↓reduceIte,tfb,gU,bu0,eq_self, h01]
    rfl
  have hel : l.length = l.length := rfl
  have hal : l.take l.length = l := List.take_length
  refine loop_r (O := O76) (tb := 76000) Ct76_ok hmix (by kernel_rfl) (σ := Nat) 999999999 (fun i => (isortN (l) i ++ (l).drop i).map ic) (fun i => [(0, .own 999999999 3 1 ((isortN (l) i ++ (l).drop i).map ic)), (6, .i i)]) (fun i => 1 ≤ i ∧ i ≤ l.length) (fun i => l.length - i) (fun i => i + 1) 1 ?_ ?_ ?_
  · exact ⟨Nat.le_refl _, l1⟩
  · have hs1 := sort_one (v := l) (by rw [hel]; exact l1)
    simp (maxSteps := 4000000) +contextual (disch := first | omega | exact qdb_ok (by kernel_rfl) | exact okb_ok (by kernel_rfl)) only [bw4,bw5,bw6,bc0,bc3,bc4,bc5,bc6,AV.isNilS,AV.isNoRows,wk,↓reduceIte,reduceCtorEq,bu0,hs1]
  rintro i ⟨hi1, hi2⟩
  by_cases hlt : i < l.length
  · have hlt' : (i : Int) < l.length := by omega
    have hS' : ∃ S, isortN (l) i = S := ⟨_, rfl⟩
    obtain ⟨S, hS⟩ := hS'
    have hx' : ∃ x, (l).getD i default = x := ⟨_, rfl⟩
    obtain ⟨x, hx⟩ := hx'
    have hT' : ∃ T, (l).drop (i + 1) = T := ⟨_, rfl⟩
    obtain ⟨T, hT⟩ := hT'
    have hSl : S.length = i := by rw [← hS, isortN_len]
    have hTl : S.length + 1 + T.length = l.length := by
      have : T.length = (l).length - (i + 1) := by rw [← hT, List.length_drop]
      clear hx hS hT hal
      omega
    have hle : i < (l).length := Nat.lt_of_lt_of_eq hlt hel.symm
    have hd0 : S ++ (l).drop i = dat S x T i := by
      rw [dat_top hSl, ← hT, ← hx, at_lt hle, List.drop_eq_getElem_cons hle]
    have hnx : isortN (l) (i + 1) ++ (l).drop (i + 1) = insR S x i ++ T := by rw [hT, isortN_succ, hS, hx]
    simp (maxSteps := 4000000) +contextual (disch := first | omega | exact qdb_ok (by kernel_rfl) | exact okb_ok (by kernel_rfl)) only [bw1,bw2,bw5,bw6,bw7,bc0,bc1,bc4,bc5,bc6,binIs,↓reduceIte,tfb,bu0,eq_self, hlt', hS, hd0]
    refine loop_r (O := O76) (tb := 76000) Ct76_ok hmix (by kernel_rfl) (σ := Nat) 999999999 (fun j => (dat S x T j).map ic) (fun j => [(0, .own 999999999 3 1 ((dat S x T j).map ic)), (7, .i j)]) (fun j => j ≤ i ∧ insR S x j = insR S x i) (fun j => j) (fun j => j - 1) i ⟨Nat.le_refl _, rfl⟩ ?_ ?_
    · simp (maxSteps := 4000000) +contextual (disch := first | omega | exact qdb_ok (by kernel_rfl) | exact okb_ok (by kernel_rfl)) only [bw5,bw6,bc0,bc3,bc4,bc5,bc6,AV.isNilS,AV.isNoRows,wk,↓reduceIte,reduceCtorEq,bu0]
    rintro j ⟨hj1, hj2⟩
    have hdl : (dat S x T j).length = l.length := by rw [dat_len (by omega), hTl]
    have hda := dat_at (S := S) (T := T) (x := x) (j := j) (by omega)
    rcases j with _ | j
    · have hdd : dat S x T 0 = insR S x i ++ T := by rw [insR_dat (.inl rfl), hj2]
      simp (maxSteps := 4000000) +contextual (disch := first | omega | exact qdb_ok (by kernel_rfl) | exact okb_ok (by kernel_rfl)) only [bw1,bw2,bw3,bw4,bw5,bw6,bw7,bc0,bc1,bc3,bc4,bc5,bc6,AV.isNilS,AV.isNoRows,wk,binIs,↓reduceIte,reduceCtorEq,Nat.reduceSub,Nat.reduceLeDiff,tfb,bu0,O76_4,eq_self, hdd, hnx, Int.lt_irrefl]
      and_intros <;> omega
    · have hdp := dat_prev (S := S) (T := T) (x := x) (j := j) (by omega)
      have hg1 : (0 : Int) < j + 1 := by omega
      have hg2 : (j : Int) + 1 - 1 = j := by omega
      have hg3 : ((j : Int) + 1).toNat = j + 1 := by omega
      have hg4 : j + 1 < (dat S x T (j + 1)).length := by omega
      have hg5 : j < (dat S x T (j + 1)).length := by omega
      by_cases hx2 : x < S.getD j default
      · have hsw := dat_swap (S := S) (T := T) (x := x) (j := j) (by omega)
        have hin : insR S x j = insR S x i := by rw [← hj2, insR_lt hx2]
        have hr := swap_rows (R := dat S x T (j + 1)) (j := j) (v := S.getD j default) (x := x) hg4
        rw [hsw] at hr
        simp (maxSteps := 4000000) +contextual (disch := first | omega | exact qdb_ok (by kernel_rfl) | exact okb_ok (by kernel_rfl)) only [bw1,bw2,bw3,bw4,bw5,bw6,bw7,bc0,bc1,bc2,bc3,bc4,bc5,bc6,AV.isNilS,AV.isNoRows,wk,binIs,idxV,AV.isSl,AV.rows,ps,pv,AV.upr,AV.menc,D.one,Value.oneCell',AV.dcells,D.cells?,↓reduceIte,reduceCtorEq,Nat.reduceAdd,Nat.reduceLeDiff,tfb,bu0,O76_4,O76_6,x76_82,eq_self, hda, hdp, hg1, hg2, hg3, hx2, hdl, hr, Nat.add_sub_cancel, List.length_set]
        and_intros <;> first | omega | assumption
      · have hdd : dat S x T (j + 1) = insR S x i ++ T := by rw [insR_dat (.inr (by simpa using hx2)), hj2]
        simp (maxSteps := 4000000) +contextual (disch := first | omega | exact qdb_ok (by kernel_rfl) | exact okb_ok (by kernel_rfl)) only [bw1,bw2,bw3,bw4,bw5,bw6,bw7,bc0,bc1,bc2,bc3,bc4,bc5,bc6,AV.isNilS,AV.isNoRows,wk,binIs,idxV,AV.isSl,AV.rows,ps,pv,↓reduceIte,reduceCtorEq,Nat.reduceLeDiff,tfb,bu0,O76_4,x76_82,eq_self, hda, hdp, hg1, hg2, hg3, hx2, hdl]
        rw [hdd, hnx]
        and_intros <;> first | omega | rfl
  have hlt' : ¬ (i : Int) < l.length := by omega
  have hie : i = l.length := by omega
  have hsa := sort_all (v := l)
  have hil : (isort l).length = l.length := isort_len
  simp (maxSteps := 4000000) +contextual (disch := first | omega | exact qdb_ok (by kernel_rfl) | exact okb_ok (by kernel_rfl)) only [bw1,bw2,bw3,bw5,bw6,bw7,bc0,bc1,bc2,bc3,bc4,bc5,bc6,binIs,AV.dl,packA,↓reduceIte,tfb,bu0,eq_self, Int.lt_irrefl, hie, hsa]
def ent76 (args : List AV) (K : AV → List AV → Sto → Prop) (e : List AV) (s : Sto) : Prop := entU (α := (List Int)) 3 1 (fun aa => (aa.map ic)) (fun aa => [.i 0, .i (aa.length : Int)]) (fun aa => aa.length ≤ 1000) (fun aa r x => r = .d (.tup []) ∧ x = ((isort aa).map ic)) args K e s
theorem ent76_ok {args : List AV} {K : AV → List AV → Sto → Prop} {Q : Kt} {e : List AV} {s : Sto} (h : ent76 args K e s) : pcall Tryd.prog 76 args K Q e s := entU_ok (fun aa h => pf76 aa h) (fun aa r x h => ⟨_, h.1⟩) h
theorem eq76 {l : List Int} {gg : Nat} {KK : AV → List AV → Sto → Prop} {ee : List AV} {ss : Sto} : ent76 [.own gg 3 1 (l.map ic), .d (.i 0), .d (.i (l.length : Int))] KK ee ss = ((l.length ≤ 1000) ∧ upOk gg 3 1 (l.map ic) ee ss ∧ KK (.d (.tup [])) (ee.map (AV.ups gg ((isort l).map ic))) (ss.ups gg ((isort l).map ic))) := by
  unfold ent76
  exact Eq.trans (entU_iff (g := gg) l (by intro b h1 h2; first | (simpa [Prod.ext_iff, and_assoc, Int.ofNat_inj, ints_inj, hrs_inj, grs_inj, hr_inj, gr_inj, tt_inj] using And.intro h1 h2) | (simp [Prod.ext_iff, and_assoc, Int.ofNat_inj, ints_inj, hrs_inj, grs_inj, hr_inj, gr_inj, tt_inj] at h1 h2 ⊢; simp_all)) rfl) (propext ⟨fun ⟨h1, h2, h3⟩ => ⟨h1, h2, h3 _ _ ⟨rfl, rfl⟩⟩, fun ⟨h1, h2, h3⟩ => ⟨h1, h2, fun r x ⟨e1, e2⟩ => by subst e1; subst e2; exact h3⟩⟩)
theorem u64_in' {x : Int} (h : 0 ≤ x ∧ x ≤ 1000) : IntKind.u64.wrap x = x := by simp [IntKind.wrap, IntKind.signed, IntKind.bits]; omega
def O74 : Nat → Sch := fun id => if id = 17 then .one 0 (.one 1 (.one 2 (.one 3 (.one 4 (.one 5 (.one 6 (.one 7 (.one 8 (.one 9 (.one 10 (.one 11 (.one 12 (.one 13 (.one 14 (.done))))))))))))))) else .done
theorem ho74 : Tryd.f74.body.map (okO O74) = some true := by kernel_rfl
def Cf74 : Nat → List AV → (AV → List AV → Sto → Prop) → Kt → List AV → Sto → Prop := fun f args K Q e s => match f with
  | 76 => ent76 args K e s
  | _ => False
def Ct74 : CT := { f := Cf74, y := noYld, z := fun d => false }
theorem Ct74_ok : Ct74.ok Tryd.prog := ok_of_f (fun f args K Q e s h => by
  have h : Cf74 f args K Q e s := h
  unfold Cf74 at h; split at h
  · exact ent76_ok h
  · exact h.elim) (fun _ _ _ _ _ _ _ _ _ h => h)
theorem x74_76 {l : List Int} {gg : Nat} {KK : AV → List AV → Sto → Prop} {QQ : Kt} {ii : At KK} {jj : At QQ} {ee : List AV} {ss : Sto} : xC Ct74 76 [.own gg 3 1 (l.map ic), .d (.i 0), .d (.i (l.length : Int))] KK QQ ii jj ee ss = ((l.length ≤ 1000) ∧ upOk gg 3 1 (l.map ic) ee ss ∧ KK (.d (.tup [])) (ee.map (AV.ups gg ((isort l).map ic))) (ss.ups gg ((isort l).map ic))) := eq76
theorem c74 : callable Tryd.prog 74 = true := by kernel_rfl
def O69 : Nat → Sch := fun id => .done
theorem ho69 : Tryd.f69.body.map (okO O69) = some true := by kernel_rfl
def Cf69 : Nat → List AV → (AV → List AV → Sto → Prop) → Kt → List AV → Sto → Prop := fun f args K Q e s => match f with
  | 74 => inlE Tryd.prog Ct74 O74 74000 74 args K Q e s
  | 75 => ent75 args K e s
  | _ => False
def Ct69 : CT := { f := Cf69, y := noYld, z := fun d => false }
theorem Ct69_ok : Ct69.ok Tryd.prog := ok_of_f (fun f args K Q e s h => by
  have h : Cf69 f args K Q e s := h
  unfold Cf69 at h; split at h
  · exact inlE_ok Ct74_ok hmix ho74 h
  · exact ent75_ok h
  · exact h.elim) (fun _ _ _ _ _ _ _ _ _ h => h)
theorem x69_75 {n : Int} {KK : AV → List AV → Sto → Prop} {QQ : Kt} {ii : At KK} {jj : At QQ} {ee : List AV} {ss : Sto} : xC Ct69 75 [.d (.v (.int .u64 n))] KK QQ ii jj ee ss = ((0 ≤ n ∧ n ≤ 16) ∧ KK (.d (.i (lenN n))) ee ss) := eq75
theorem z69_74 : type_of% (@xinl Tryd.prog Ct69 Ct74 O74 74000 74 _ _ _ _ rfl c74 Tryd.func74 rfl Tryd.ntmps74 Tryd.results74) := @xinl Tryd.prog Ct69 Ct74 O74 74000 74 _ _ _ _ rfl c74 Tryd.func74 rfl Tryd.ntmps74 Tryd.results74
theorem c69 : callable Tryd.prog 69 = true := by kernel_rfl
theorem pf69 (l : List Int) (h : l.length ≤ 12) : PFu Tryd.prog 69 3 1 (l.map ic) [] (fun r x => r = .d (.tup []) ∧ x = ((isort l).map ic)) := by
  have h64 : IntKind.u64.wrap (l.length : Int) = l.length := u64_in' (by omega)
  have hl0 : (0 : Int) ≤ l.length := by omega
  have hl12 : (l.length : Int) ≤ 12 := by omega
  have hl16 : (l.length : Int) ≤ 16 := by omega
  refine PFu_start (O := O69) Ct69_ok hmix ho69 Tryd.func69 c69 rfl Tryd.ntmps69 Tryd.results69 ?_
  simp (maxSteps := 4000000) +contextual (disch := first | omega | exact qdb_ok (by kernel_rfl) | exact okb_ok (by kernel_rfl)) only [bw1,bw2,bw4,bw5,bw6,bc2,bc3,bc4,bc5,AV.isSlice,AV.rows,↓reduceIte,Nat.reduceAdd,Nat.reduceSub,List.reduceReplicate,tfb,gU,x69_75,z69_74,h64, hl0, hl16]
  refine loop_s (O := O74) (tb := 74000) Ct74_ok hmix (by kernel_rfl) (σ := Unit) (fun _ => []) (fun _ => True) (fun _ => 0) (fun _ => ()) () trivial ?_ ?_
  · simp (maxSteps := 4000000) +contextual (disch := first | omega | exact qdb_ok (by kernel_rfl) | exact okb_ok (by kernel_rfl)) only [bc0,bc5,bc6,AV.isNilS,AV.isNoRows,wk,reduceCtorEq]
  intro _ _
  simp (maxSteps := 4000000) +contextual (disch := first | omega | exact qdb_ok (by kernel_rfl) | exact okb_ok (by kernel_rfl)) only [bw1,bw2,bw3,bw5,bw6,bw7,bc0,bc1,bc2,bc3,bc4,bc5,bc6,binIs,AV.dl,packA,↓reduceIte,reduceCtorEq,Nat.reduceAdd,Nat.reduceLT,tfb,upOk,bu0,x74_76,eq_self, hl12, Int.sub_zero]
  and_intros <;> first | omega | rfl
def ent69 (args : List AV) (K : AV → List AV → Sto → Prop) (e : List AV) (s : Sto) : Prop := entU (α := (List Int)) 3 1 (fun aa => (aa.map ic)) (fun aa => []) (fun aa => aa.length ≤ 12) (fun aa r x => r = .d (.tup []) ∧ x = ((isort aa).map ic)) args K e s
theorem ent69_ok {args : List AV} {K : AV → List AV → Sto → Prop} {Q : Kt} {e : List AV} {s : Sto} (h : ent69 args K e s) : pcall Tryd.prog 69 args K Q e s := entU_ok (fun aa h => pf69 aa h) (fun aa r x h => ⟨_, h.1⟩) h
theorem eq69 {l : List Int} {gg : Nat} {KK : AV → List AV → Sto → Prop} {ee : List AV} {ss : Sto} : ent69 [.own gg 3 1 (l.map ic)] KK ee ss = ((l.length ≤ 12) ∧ upOk gg 3 1 (l.map ic) ee ss ∧ KK (.d (.tup [])) (ee.map (AV.ups gg ((isort l).map ic))) (ss.ups gg ((isort l).map ic))) := by
  unfold ent69
  exact Eq.trans (entU_iff (g := gg) l (by intro b h1 h2; first | (simpa [Prod.ext_iff, and_assoc, Int.ofNat_inj, ints_inj, hrs_inj, grs_inj, hr_inj, gr_inj, tt_inj] using And.intro h1 h2) | (simp [Prod.ext_iff, and_assoc, Int.ofNat_inj, ints_inj, hrs_inj, grs_inj, hr_inj, gr_inj, tt_inj] at h1 h2 ⊢; simp_all)) rfl) (propext ⟨fun ⟨h1, h2, h3⟩ => ⟨h1, h2, h3 _ _ ⟨rfl, rfl⟩⟩, fun ⟨h1, h2, h3⟩ => ⟨h1, h2, fun r x ⟨e1, e2⟩ => by subst e1; subst e2; exact h3⟩⟩)
end Go.Proofs.YtofbbkacihnjdaaDoor
