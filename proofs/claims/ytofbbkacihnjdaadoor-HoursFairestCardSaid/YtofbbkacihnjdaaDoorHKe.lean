/- A part of the proof that the last text ends: what functions of the program do, told by plain data. -/
import Derived.Test.YtofbbkacihnjdaaDoorHKd
set_option linter.unusedVariables false
set_option linter.unusedSimpArgs false
namespace Go.Proofs.YtofbbkacihnjdaaDoor
open Go Go.E Go.Maps
set_option maxRecDepth 100000
set_option maxHeartbeats 4000000
def O48 : Nat → Sch := fun id => .done
theorem ho48 : Tryd.f48.body.map (okO O48) = some true := by kernel_rfl
def Cf48 : Nat → List AV → (AV → List AV → Sto → Prop) → Kt → List AV → Sto → Prop := fun f args K Q e s => match f with
  | 48 => sp48 args K e s
  | _ => False
def Ct48 : CT := { f := Cf48, y := noYld, z := fun d => false }
theorem ctz48 {d : Nat} : CT.z Ct48 d = (false) := id rfl
theorem Ct48_ok : Ct48.ok Tryd.prog := ok_of_f (fun f args K Q e s h => by
  have h : Cf48 f args K Q e s := h
  unfold Cf48 at h; split at h
  · exact sp48_ok h
  · exact h.elim) (fun _ _ _ _ _ _ _ _ _ h => h)
theorem c48 : callable Tryd.prog 48 = true := by kernel_rfl
theorem do48_0 {n f : Nat} {b : List Int} {L : List (List Int)} (hL : L.length + 6 ^ 0 ≤ 6 ^ 13) : Do48 n 0 f b L := by
  have hn : (6 : Nat) ^ 13 = 13060694016 := by decide
  have h0 : (6 : Nat) ^ 0 = 1 := rfl
  refine pcall_start (C := Ct48) (O := O48) (tb := 48000) Ct48_ok hmix ho48 Tryd.func48 c48 rfl Tryd.ntmps48 Tryd.results48 ?_
  simp (maxSteps := 4000000) +contextual (disch := first | omega | exact qdb_ok (by kernel_rfl) | exact okb_ok (by kernel_rfl)) only [bw1,bw2,bw3,bw4,bw5,bw6,bc1,bc2,bc3,bc4,bc5,bc6,binIs,AV.isSl,AV.rows,D.one,Value.oneCell',tagOf,AV.isApp,AV.dcells,D.cells?,packA,↓reduceIte,reduceCtorEq,Nat.reduceAdd,Nat.reduceSub,Nat.reduceMul,List.reduceReplicate,Nat.reduceLeDiff,Nat.reduceLT,Nat.reduceBEq,tfb,ctz48]
  refine ⟨by omega, by omega, ?_⟩
  rw [List.map_append]; rfl
theorem do48_s {n : Nat} (h5 : n ≤ 5) {c : Nat} (ih : ∀ (f : Nat) (b : List Int) (L : List (List Int)), L.length + 6 ^ c ≤ 6 ^ 13 → b.length + c ≤ 5 → f ≤ n → Do48 n c f b L) {f : Nat} {b : List Int} {L : List (List Int)} (hL : L.length + 6 ^ (c + 1) ≤ 6 ^ 13) (hb : b.length + (c + 1) ≤ 5) (hf : f ≤ n) {C : Nat} (hC : C = c + 1) : Do48 n C f b L := by
  have hc0 : ¬ (C : Int) = 0 := by omega
  have hc1 : (C : Int) - 1 = (c : Int) := by omega
  have hc2 : (C : Int) ≤ 5 := by omega
  refine pcall_start (C := Ct48) (O := O48) (tb := 48000) Ct48_ok hmix ho48 Tryd.func48 c48 rfl Tryd.ntmps48 Tryd.results48 ?_
  simp (maxSteps := 4000000) +contextual (disch := first | omega | exact qdb_ok (by kernel_rfl) | exact okb_ok (by kernel_rfl)) only [bw1,bw2,bw5,bw6,bc1,bc3,bc4,bc5,bc6,binIs,↓reduceIte,Nat.reduceAdd,Nat.reduceSub,List.reduceReplicate,tfb,hc0]
  refine loop_xu (O := O48) (tb := 48000) Ct48_ok hmix (by kernel_rfl) (σ := Nat) (fun j => [(4, oH (L ++ seN n c f b j)), (11, .i ((f + j : Nat) : Int))]) (fun _ => []) (fun j => f + j ≤ n) (fun j => n - j) 0 (by omega) ?_ ?_
  · have hp0 : seN n c f b 0 = [] := rfl
    have hf0 : f + 0 = f := rfl
    simp (maxSteps := 4000000) +contextual (disch := first | omega | exact qdb_ok (by kernel_rfl) | exact okb_ok (by kernel_rfl)) only [bw5,bw6,bc0,bc3,bc4,bc5,bc6,AV.isNilS,AV.isNoRows,wk,↓reduceIte,reduceCtorEq,eq_self, hp0, hf0]
  intro j hj
  obtain ⟨i, hi⟩ : ∃ i, f + j = i := ⟨_, rfl⟩
  have hii : (0 : Int) ≤ i := by omega
  by_cases hlt : i < n
  case neg =>
    have hlt' : ¬ (i : Int) < n := by omega
    have hpr : seN n c f b j = seR n C f b := by
      rw [hC]
      show seN n c f b j = seN n c f b (n - f)
      rw [show j = n - f by omega]
    simp (maxSteps := 4000000) +contextual (disch := first | omega | exact qdb_ok (by kernel_rfl) | exact okb_ok (by kernel_rfl)) only [bw1,bw2,bw3,bw5,bw6,bw7,bc0,bc1,bc2,bc3,bc4,bc5,bc6,binIs,packA,↓reduceIte,reduceCtorEq,tfb,eq_self, hi, hlt', hpr]
  have hlt' : (i : Int) < n := by omega
  have hrow : b.map ic ++ [[D.i (i : Int)]] = (b ++ [(i : Int)]).map ic := by rw [List.map_append]; rfl
  have hup := seN_up (n := n) (c := c) (f := f) (m := j) (b := b)
  rw [hi] at hup
  have hdo : Do48 n c (i + 1) (b ++ [(i : Int)]) (L ++ seN n c f b j) := by
    refine ih _ _ _ ?_ (by rw [List.length_append]; simp; omega) (by omega)
    have h1 := seN_len h5 (c := c) (f := f) (b := b) (m := j)
    have h2 : j * 6 ^ c ≤ 5 * 6 ^ c := Nat.mul_le_mul_right _ (by omega)
    rw [Nat.pow_succ] at hL
    rw [List.length_append]
    omega
  simp (maxSteps := 4000000) +contextual (disch := first | omega | exact qdb_ok (by kernel_rfl) | exact okb_ok (by kernel_rfl)) only [bw1,bw2,bw4,bw5,bw6,bw7,bc0,bc1,bc3,bc4,bc5,bc6,binIs,AV.isSl,AV.rows,D.one,Value.oneCell',tagOf,AV.isApp,AV.dcells,D.cells?,↓reduceIte,reduceCtorEq,Nat.reduceAdd,Nat.reduceMul,List.reduceReplicate,Nat.reduceLeDiff,Nat.reduceLT,Nat.reduceBEq,tfb,ctz48,eq_self, hi, hlt', hrow, hc1]
  refine ⟨by omega, by omega, by omega, by omega, call48x (C := Ct48) (i := mk _) (j := mk _) rfl n c (i + 1) (b ++ [(i : Int)]) (L ++ seN n c f b j) hdo rfl rfl rfl ⟨by simp [AV.stays, AV.stay, AV.frz, AV.kill, AV.men, AV.mens], by simp [othF, Sto.frz, AV.stays, AV.stay, AV.frz, AV.men, AV.mens]⟩ ?_⟩
  simp (maxSteps := 4000000) +contextual (disch := first | omega | exact qdb_ok (by kernel_rfl) | exact okb_ok (by kernel_rfl)) only [bw1,bw2,bw5,bw6,bw7,bc0,bc1,bc3,bc4,bc5,bc6,AV.frz,AV.isNilS,AV.isNoRows,wk,binIs,↓reduceIte,reduceCtorEq,Nat.reduceBEq,Nat.reduceEqDiff,tfb,eq_self, Sto.frz, AV.frz]
  exact ⟨j + 1, ⟨by omega, by omega⟩, by rw [hup, List.append_assoc], by rw [show f + (j + 1) = i + 1 by omega]; rfl⟩
theorem do48 {n : Nat} (h5 : n ≤ 5) : ∀ (c f : Nat) (b : List Int) (L : List (List Int)), L.length + 6 ^ c ≤ 6 ^ 13 → b.length + c ≤ 5 → f ≤ n → Do48 n c f b L
  | 0, _, _, _, hL, _, _ => do48_0 hL
  | c + 1, _, _, _, hL, hb, hf => do48_s h5 (do48 h5 c) hL hb hf rfl
end Go.Proofs.YtofbbkacihnjdaaDoor
