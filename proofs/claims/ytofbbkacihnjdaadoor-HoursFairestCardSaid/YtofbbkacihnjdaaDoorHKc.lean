/- A part of the proof that the last text ends: what functions of the program do, told by plain data. -/
import Derived.Test.YtofbbkacihnjdaaDoorHKb
set_option linter.unusedVariables false
set_option linter.unusedSimpArgs false
namespace Go.Proofs.YtofbbkacihnjdaaDoor
open Go Go.E Go.Maps
set_option maxRecDepth 100000
set_option maxHeartbeats 4000000
def O40 : Nat → Sch := fun id => .done
theorem ho40 : Tryd.f40.body.map (okO O40) = some true := by kernel_rfl
def Cf40 : Nat → List AV → (AV → List AV → Sto → Prop) → Kt → List AV → Sto → Prop := fun f args K Q e s => match f with
  | 33 => ent33 args K e s
  | 40 => sp40 args K e s
  | _ => False
def Ct40 : CT := { f := Cf40, y := noYld, z := fun d => false }
theorem ctz40 {d : Nat} : CT.z Ct40 d = (false) := id rfl
theorem Ct40_ok : Ct40.ok Tryd.prog := ok_of_f (fun f args K Q e s h => by
  have h : Cf40 f args K Q e s := h
  unfold Cf40 at h; split at h
  · exact ent33_ok h
  · exact sp40_ok h
  · exact h.elim) (fun _ _ _ _ _ _ _ _ _ h => h)
theorem x40_33_m1 {t : Tt} {p : List Int} {i : Nat} {g1 el1 : Nat} {KK : AV → List AV → Sto → Prop} {QQ : Kt} {ii : At KK} {jj : At QQ} {ee : List AV} {ss : Sto} : xC Ct40 33 [.d (.agg t.c), .own g1 el1 1 (p.map ic), .d (.i (i : Int))] KK QQ ii jj ee ss = ((ttOk t = true ∧ i < t.hours.length ∧ i < p.length ∧ p.length ≤ 1000 ∧ foP t p) ∧ (.i (erR t p i) : D).flat = true ∧ KK (.d (.i (erR t p i))) ee ss) := eqo33
theorem c40 : callable Tryd.prog 40 = true := by kernel_rfl
theorem do40_0 {t : Tt} (ht : ttOk t = true) {b : List Int} {L : List (List Int)} (hL : L.length + 6 ^ 0 ≤ 6 ^ 13) (hb : b.length = t.hours.length) : Do40 t 0 b L := by
  have hbig := tt_hours ht
  have hbl : (b.length : Int) = (t.hours.length : Int) := by omega
  refine pcall_start (C := Ct40) (O := O40) (tb := 40000) Ct40_ok hmix ho40 Tryd.func40 c40 rfl Tryd.ntmps40 Tryd.results40 ?_
  simp (maxSteps := 4000000) +contextual (disch := first | omega | exact qdb_ok (by kernel_rfl) | exact okb_ok (by kernel_rfl)) only [bw1,bw2,bw3,bw4,bw5,bw6,bc1,bc2,bc3,bc4,bc5,bc6,binIs,addF,AV.isPtr,AV.isSl,AV.isSlice,AV.rows,AV.cells?,D.one,Value.oneCell',tagOf,AV.isApp,AV.dcells,D.cells?,packA,↓reduceIte,reduceCtorEq,Nat.reduceAdd,Nat.reduceSub,Nat.reduceMul,List.reduceReplicate,Nat.reduceLeDiff,Nat.reduceLT,Nat.reduceBEq,Nat.reduceEqDiff,Int.reduceNeg,tfb,ctz40,hbl]
  have hn : (6 : Nat) ^ 13 = 13060694016 := by decide
  have h0 : (6 : Nat) ^ 0 = 1 := rfl
  refine ⟨by omega, by omega, ?_⟩
  rw [List.map_append]; rfl
theorem do40_s {t : Tt} (ht : ttOk t = true) {k : Nat} {b : List Int} (ih : ∀ (b : List Int) (L : List (List Int)), L.length + 6 ^ k ≤ 6 ^ 13 → b.length + k = t.hours.length → foP t b → Do40 t k b L) {L : List (List Int)} (hL : L.length + 6 ^ (k + 1) ≤ 6 ^ 13) (hb : b.length + (k + 1) = t.hours.length) (hf : foP t b) : Do40 t (k + 1) b L := by
  have hbig := tt_hours ht
  have hbl : ¬ (b.length : Int) = (t.hours.length : Int) := by omega
  refine pcall_start (C := Ct40) (O := O40) (tb := 40000) Ct40_ok hmix ho40 Tryd.func40 c40 rfl Tryd.ntmps40 Tryd.results40 ?_
  simp (maxSteps := 4000000) +contextual (disch := first | omega | exact qdb_ok (by kernel_rfl) | exact okb_ok (by kernel_rfl)) only [bw1,bw2,bw4,bw5,bw6,bc1,bc2,bc3,bc4,bc5,bc6,binIs,addF,AV.isPtr,AV.isSlice,AV.rows,AV.cells?,↓reduceIte,reduceCtorEq,Nat.reduceAdd,Nat.reduceSub,List.reduceReplicate,Nat.reduceLeDiff,Nat.reduceLT,Nat.reduceBEq,Int.reduceNeg,tfb,hbl]
  refine loop_xu (O := O40) (tb := 40000) Ct40_ok hmix (by kernel_rfl) (σ := Nat) (fun i => [(2, oG (L ++ plN t k b i)), (7, .i i), (8, .any), (9, .any)]) (fun _ => []) (fun i => i ≤ t.groups.length + 1) (fun i => t.groups.length + 1 - i) 0 (Nat.zero_le _) ?_ ?_
  · have hp0 : plN t k b 0 = [] := rfl
    simp (maxSteps := 4000000) +contextual (disch := first | omega | exact qdb_ok (by kernel_rfl) | exact okb_ok (by kernel_rfl)) only [bw4,bw5,bw6,bc0,bc3,bc4,bc5,bc6,AV.isNilS,AV.isNoRows,wk,↓reduceIte,reduceCtorEq,eq_self, hp0]
  intro i hi
  have hii : (0 : Int) ≤ i := by omega
  by_cases hlt : i ≤ t.groups.length
  case neg =>
    have hlt' : ¬ (i : Int) ≤ t.groups.length := by omega
    have hin : i = t.groups.length + 1 := by omega
    have hpr : plN t k b i = plR t (k + 1) b := by rw [hin]; rfl
    simp (maxSteps := 4000000) +contextual (disch := first | omega | exact qdb_ok (by kernel_rfl) | exact okb_ok (by kernel_rfl)) only [bw1,bw2,bw3,bw4,bw5,bw6,bw7,bc0,bc1,bc2,bc3,bc4,bc5,bc6,binIs,addF,AV.isPtr,AV.isSlice,AV.rows,packA,↓reduceIte,reduceCtorEq,Nat.reduceAdd,Nat.reduceLeDiff,Nat.reduceEqDiff,Int.reduceNeg,tfb,eq_self, hlt', hpr]
  have hlt' : (i : Int) ≤ t.groups.length := by omega
  have hrow : b.map ic ++ [[D.i (chG t i)]] = (b ++ [chG t i]).map ic := by rw [List.map_append]; rfl
  have hch : -1 ≤ chG t i ∧ chG t i < t.groups.length := by unfold chG; split <;> omega
  have hbl2 : (b ++ [chG t i]).length = b.length + 1 := by simp
  have hf2 : foP t (b ++ [chG t i]) := fun j hj => by
    rw [hbl2] at hj
    rcases Nat.lt_succ_iff_lt_or_eq.1 hj with h | h
    · have := hf j h
      rw [show (b ++ [chG t i]).getD j default = b.getD j default by simp [List.getD, List.getElem?_append, h]]
      exact this
    · rw [h, show (b ++ [chG t i]).getD b.length default = chG t i by simp [List.getD]]
      exact hch
  have hp33 : ttOk t = true ∧ b.length < t.hours.length ∧ b.length < (b ++ [chG t i]).length ∧ (b ++ [chG t i]).length ≤ 1000 ∧ foP t (b ++ [chG t i]) := ⟨ht, by omega, by omega, by omega, hf2⟩
  have hdo0 : Do40 t k (b ++ [chG t i]) (L ++ plN t k b i) := by
    refine ih _ _ ?_ (by omega) hf2
    have h1 := plN_len hbig.2.1 (k := k) (b := b) (m := i)
    have h2 : i * 6 ^ k ≤ 5 * 6 ^ k := Nat.mul_le_mul_right _ (by omega)
    rw [Nat.pow_succ] at hL
    rw [List.length_append]
    omega
  by_cases hg : i = t.groups.length
  · have hgb : ((i : Int) == (t.groups.length : Int)) = true := by rw [beq_iff_eq]; omega
    have hchv : chG t i = -1 := by unfold chG; rw [if_pos hg]
    rw [hchv] at hrow
    by_cases he : erR t (b ++ [chG t i]) b.length = 0
    · have hyes := plN_yes (k := k) he
      have hdo := hdo0
      have heb : (erR t (b ++ [chG t i]) b.length == 0) = true := by simpa using he
      rw [hchv] at heb hp33
      simp (maxSteps := 4000000) +contextual (disch := first | omega | exact qdb_ok (by kernel_rfl) | exact okb_ok (by kernel_rfl)) only [bw1,bw2,bw4,bw5,bw6,bw7,bc0,bc1,bc2,bc3,bc4,bc5,bc6,binIs,addF,AV.isPtr,AV.isSl,AV.isSlice,AV.rows,AV.dl,D.one,Value.oneCell',tagOf,AV.isApp,AV.dcells,D.cells?,↓reduceIte,reduceCtorEq,Nat.reduceAdd,Nat.reduceMul,List.reduceReplicate,Nat.reduceLeDiff,Nat.reduceLT,Nat.reduceBEq,Nat.reduceEqDiff,Int.reduceNeg,tfb,D.flat,ctz40,x40_33_m1,eq_self, hlt', hgb, hrow, heb, hp33]
      rw [hchv] at hdo hyes
      refine ⟨by omega, by omega, by omega, by omega, call40x (C := Ct40) (i := mk _) (j := mk _) rfl t k (b ++ [-1]) (L ++ plN t k b i) hdo rfl rfl rfl ⟨by simp [AV.stays, AV.stay, AV.frz, AV.kill, AV.men, AV.mens], by simp [othF, Sto.frz, AV.stays, AV.stay, AV.frz, AV.men, AV.mens]⟩ ?_⟩
      simp (maxSteps := 4000000) +contextual (disch := first | omega | exact qdb_ok (by kernel_rfl) | exact okb_ok (by kernel_rfl)) only [bw1,bw2,bw5,bw6,bw7,bc0,bc1,bc3,bc4,bc5,bc6,AV.frz,AV.isNilS,AV.isNoRows,wk,binIs,↓reduceIte,reduceCtorEq,Nat.reduceBEq,Nat.reduceEqDiff,Int.reduceNeg,tfb,eq_self, Sto.frz, AV.frz]
      exact ⟨i + 1, ⟨by omega, by omega⟩, by rw [hyes, List.append_assoc], rfl⟩
    · have heb : (erR t (b ++ [chG t i]) b.length == 0) = false := by simpa using he
      rw [hchv] at heb hp33
      have hno := plN_no (k := k) he
      simp (maxSteps := 4000000) +contextual (disch := first | omega | exact qdb_ok (by kernel_rfl) | exact okb_ok (by kernel_rfl)) only [bw1,bw2,bw4,bw5,bw6,bw7,bc0,bc1,bc2,bc3,bc4,bc5,bc6,AV.isNilS,AV.isNoRows,wk,binIs,addF,AV.isPtr,AV.isSl,AV.isSlice,AV.rows,AV.dl,D.one,Value.oneCell',tagOf,AV.isApp,AV.dcells,D.cells?,↓reduceIte,reduceCtorEq,Nat.reduceAdd,Nat.reduceMul,List.reduceReplicate,Nat.reduceLeDiff,Nat.reduceLT,Nat.reduceBEq,Nat.reduceEqDiff,Int.reduceNeg,tfb,D.flat,ctz40,x40_33_m1,eq_self, hlt', hgb, hrow, heb, hp33]
      exact ⟨by omega, by omega, by omega, by omega, i + 1, ⟨by omega, by omega⟩, by rw [hno], rfl⟩
  · have hgb : ((i : Int) == (t.groups.length : Int)) = false := by rw [beq_eq_false_iff_ne]; omega
    have hchv : chG t i = (i : Int) := by unfold chG; rw [if_neg hg]
    rw [hchv] at hrow
    by_cases he : erR t (b ++ [chG t i]) b.length = 0
    · have hyes := plN_yes (k := k) he
      have hdo := hdo0
      have heb : (erR t (b ++ [chG t i]) b.length == 0) = true := by simpa using he
      rw [hchv] at heb hp33
      simp (maxSteps := 4000000) +contextual (disch := first | omega | exact qdb_ok (by kernel_rfl) | exact okb_ok (by kernel_rfl)) only [bw1,bw2,bw4,bw5,bw6,bw7,bc0,bc1,bc2,bc3,bc4,bc5,bc6,binIs,addF,AV.isPtr,AV.isSl,AV.isSlice,AV.rows,AV.dl,D.one,Value.oneCell',tagOf,AV.isApp,AV.dcells,D.cells?,↓reduceIte,reduceCtorEq,Nat.reduceAdd,Nat.reduceMul,List.reduceReplicate,Nat.reduceLeDiff,Nat.reduceLT,Nat.reduceBEq,Nat.reduceEqDiff,Int.reduceNeg,tfb,D.flat,ctz40,x40_33_m1,eq_self, hlt', hgb, hrow, heb, hp33]
      rw [hchv] at hdo hyes
      refine ⟨by omega, by omega, by omega, by omega, call40x (C := Ct40) (i := mk _) (j := mk _) rfl t k (b ++ [(i : Int)]) (L ++ plN t k b i) hdo rfl rfl rfl ⟨by simp [AV.stays, AV.stay, AV.frz, AV.kill, AV.men, AV.mens], by simp [othF, Sto.frz, AV.stays, AV.stay, AV.frz, AV.men, AV.mens]⟩ ?_⟩
      simp (maxSteps := 4000000) +contextual (disch := first | omega | exact qdb_ok (by kernel_rfl) | exact okb_ok (by kernel_rfl)) only [bw1,bw2,bw5,bw6,bw7,bc0,bc1,bc3,bc4,bc5,bc6,AV.frz,AV.isNilS,AV.isNoRows,wk,binIs,↓reduceIte,reduceCtorEq,Nat.reduceBEq,Nat.reduceEqDiff,tfb,eq_self, Sto.frz, AV.frz]
      exact ⟨i + 1, ⟨by omega, by omega⟩, by rw [hyes, List.append_assoc], rfl⟩
    · have hno := plN_no (k := k) he
      have heb : (erR t (b ++ [chG t i]) b.length == 0) = false := by simpa using he
      rw [hchv] at heb hp33
      simp (maxSteps := 4000000) +contextual (disch := first | omega | exact qdb_ok (by kernel_rfl) | exact okb_ok (by kernel_rfl)) only [bw1,bw2,bw4,bw5,bw6,bw7,bc0,bc1,bc2,bc3,bc4,bc5,bc6,AV.isNilS,AV.isNoRows,wk,binIs,addF,AV.isPtr,AV.isSl,AV.isSlice,AV.rows,AV.dl,D.one,Value.oneCell',tagOf,AV.isApp,AV.dcells,D.cells?,↓reduceIte,reduceCtorEq,Nat.reduceAdd,Nat.reduceMul,List.reduceReplicate,Nat.reduceLeDiff,Nat.reduceLT,Nat.reduceBEq,Nat.reduceEqDiff,Int.reduceNeg,tfb,D.flat,ctz40,x40_33_m1,eq_self, hlt', hgb, hrow, heb, hp33]
      exact ⟨by omega, by omega, by omega, by omega, i + 1, ⟨by omega, by omega⟩, by rw [hno], rfl⟩
theorem do40 {t : Tt} (ht : ttOk t = true) : ∀ (k : Nat) (b : List Int) (L : List (List Int)), L.length + 6 ^ k ≤ 6 ^ 13 → b.length + k = t.hours.length → foP t b → Do40 t k b L
  | 0, _, _, hL, hb, _ => do40_0 ht hL hb
  | k + 1, _, _, hL, hb, hf => do40_s ht (do40 ht k) hL hb hf
end Go.Proofs.YtofbbkacihnjdaaDoor
