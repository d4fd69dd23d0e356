/- A part of the proof that the last text ends: what functions of the program do, told by plain data. -/
import Derived.Test.YtapglfcaghlpfaaGreatZSI
set_option linter.unusedVariables false
set_option linter.unusedSimpArgs false
namespace Go.Proofs.YtapglfcaghlpfaaGreat
open Go Go.E Go.Maps
set_option maxRecDepth 100000
set_option maxHeartbeats 16000000
structure Valid (r : Rul) (s : Ska) (n : Int) : Prop where
  bases : 1 ≤ r.bases.length ∧ r.bases.length ≤ 64
  base : ∀ x ∈ r.bases, 0 ≤ x ∧ x ≤ 2000
  factor : 0 ≤ r.factor ∧ r.factor ≤ 1000
  most : 1 ≤ r.most ∧ r.most ≤ 16
  jn : 0 ≤ n ∧ n ≤ 9
  calls : s.calls.length ≤ 16
  parts : s.parts.length ≤ 5
  over : 0 ≤ s.over ∧ s.over ≤ 600
  call : ∀ x ∈ s.calls, (0 ≤ x.place ∧ x.place ≤ 99) ∧ (0 ≤ x.elem ∧ x.elem < r.bases.length) ∧ (0 ≤ x.under ∧ x.under ≤ 2) ∧ ((x.marks.length : Int) = n ∧ 1 ≤ x.marks.length) ∧ ∀ y ∈ x.marks, -5 ≤ y ∧ y ≤ 5
  part : ∀ p ∈ s.parts, ((p.length : Int) = n ∧ 1 ≤ p.length) ∧ ∀ y ∈ p, 0 ≤ y ∧ y ≤ 40
theorem Valid.cat {r : Rul} {s : Ska} {n : Int} (h : Valid r s n) {i : Nat} (hi : i < s.calls.length) : (0 ≤ (s.calls.getD i default).place ∧ (s.calls.getD i default).place ≤ 99) ∧ (0 ≤ (s.calls.getD i default).elem ∧ (s.calls.getD i default).elem < r.bases.length) ∧ (0 ≤ (s.calls.getD i default).under ∧ (s.calls.getD i default).under ≤ 2) ∧ (((s.calls.getD i default).marks.length : Int) = n ∧ 1 ≤ (s.calls.getD i default).marks.length) ∧ ∀ y ∈ (s.calls.getD i default).marks, -5 ≤ y ∧ y ≤ 5 := h.call _ (by rw [at_lt hi]; exact List.getElem_mem _)
def cntE (l : List Cal) (c : Cal) : Nat → Int
  | 0 => 0
  | k + 1 => cntE l c k + if (l.getD k default).elem = c.elem ∧ (l.getD k default).place < c.place then 1 else 0
theorem cntE_b {l : List Cal} {c : Cal} : ∀ k, 0 ≤ cntE l c k ∧ cntE l c k ≤ k
  | 0 => by simp [cntE]
  | k + 1 => by have := cntE_b (l := l) (c := c) k; unfold cntE; split <;> omega
def countsB (r : Rul) (s : Ska) (i : Nat) : Bool := decide (cntE s.calls (s.calls.getD i default) s.calls.length < r.most)
def O85 : Nat → Sch := fun id => if id = 5 then .one 0 (.one 1 (.one 2 (.one 3 (.one 4 (.one 5 (.one 6 (.one 7 (.one 8 (.one 9 (.one 10 (.one 11 (.one 12 (.one 13 (.one 14 (.one 15 (.one 16 (.one 17 (.one 18 (.one 19 (.one 20 (.one 21 (.one 22 (.one 23 (.one 24 (.one 25 (.one 26 (.one 27 (.done)))))))))))))))))))))))))))) else .done
theorem O85_5 : O85 5 = .one 0 (.one 1 (.one 2 (.one 3 (.one 4 (.one 5 (.one 6 (.one 7 (.one 8 (.one 9 (.one 10 (.one 11 (.one 12 (.one 13 (.one 14 (.one 15 (.one 16 (.one 17 (.one 18 (.one 19 (.one 20 (.one 21 (.one 22 (.one 23 (.one 24 (.one 25 (.one 26 (.one 27 (.done)))))))))))))))))))))))))))) := rfl
theorem ho85 : Tryz.f85.body.map (okO O85) = some true := by kernel_rfl
def Cf85 : Nat → List AV → (AV → List AV → Sto → Prop) → Kt → List AV → Sto → Prop := fun f args K Q e s => match f with
  | _ => False
def Ct85 : CT := { f := Cf85, y := noYld, z := fun d => false }
theorem Ct85_ok : Ct85.ok Tryz.prog := ok_of_f (fun f args K Q e s h => by
  have h : Cf85 f args K Q e s := h
  unfold Cf85 at h; split at h
  · exact h.elim) (fun _ _ _ _ _ _ _ _ _ h => h)
theorem c85 : callable Tryz.prog 85 = true := by kernel_rfl
theorem pf85 (r : Rul) (s : Ska) (i : Nat) (h : i < s.calls.length ∧ s.calls.length ≤ 1000) : PF Tryz.prog 85 [r.d, .agg s.c, .i (i : Int)] (fun zz => zz = .ret (.b (countsB r s i))) := by
  obtain ⟨h1, h2⟩ := h
  have h1' : (i : Int) < s.calls.length := by omega
  have hb := fun k => cntE_b (l := s.calls) (c := s.calls.getD i default) k
  have hst : ∀ k, cntE s.calls (s.calls.getD i default) (k + 1) = cntE s.calls (s.calls.getD i default) k + if (s.calls.getD k default).elem = (s.calls.getD i default).elem ∧ (s.calls.getD k default).place < (s.calls.getD i default).place then 1 else 0 := fun k => rfl
  have h0 : cntE s.calls (s.calls.getD i default) 0 = 0 := rfl
  unfold countsB
  generalize cntE s.calls (s.calls.getD i default) = B at hb hst h0 ⊢
  refine PF_nil (PF_start (O := O85) Ct85_ok hmix ho85 Tryz.func85 c85 rfl Tryz.ntmps85 Tryz.results85 ?_)
  simp (maxSteps := 4000000) +contextual (disch := first | omega | exact qdb_ok (by kernel_rfl) | exact okb_ok (by kernel_rfl)) only [bw1,bw2,bw5,bw6,bc3,bc4,bc5,bc6,AV.cells?,↓reduceIte,reduceCtorEq,Nat.reduceAdd,Nat.reduceSub,List.reduceReplicate,Nat.reduceLT,Nat.reduceBEq,Nat.reduceEqDiff]
  refine loop_s (O := O85) (tb := 0) Ct85_ok hmix (by kernel_rfl) (σ := Nat) (fun k => [(7, .i (B k)), (8, .i k)]) (fun k => k ≤ s.calls.length) (fun k => s.calls.length - k) (fun k => k + 1) 0 (by omega) ?_ ?_
  · simp (maxSteps := 4000000) +contextual (disch := first | omega | exact qdb_ok (by kernel_rfl) | exact okb_ok (by kernel_rfl)) only [bw4,bw6,bc0,bc5,bc6,AV.isNilS,AV.isNoRows,wk,reduceCtorEq,h0]
  intro k hk
  have hbk := hb k
  by_cases hlt : k < s.calls.length
  · have hlt' : (k : Int) < s.calls.length := by omega
    have hsk := hst k
    by_cases c1 : (s.calls.getD k default).elem = (s.calls.getD i default).elem
    · by_cases c2 : (s.calls.getD k default).place < (s.calls.getD i default).place
      · rw [if_pos ⟨c1, c2⟩] at hsk
        simp (maxSteps := 4000000) +contextual (disch := first | omega | exact qdb_ok (by kernel_rfl) | exact okb_ok (by kernel_rfl)) only [bw1,bw2,bw3,bw4,bw5,bw6,bw7,bc0,bc1,bc2,bc3,bc4,bc5,bc6,AV.isNilS,AV.isNoRows,wk,binIs,addF,AV.isPtr,idxV,AV.isSl,AV.isSlice,AV.rows,ps,pv,↓reduceIte,reduceCtorEq,Nat.reduceAdd,Nat.reduceLeDiff,Nat.reduceEqDiff,tfb,O85_5,eq_self, hlt', h1', c1, c2, hsk]
        and_intros <;> first | omega | rfl
      · rw [if_neg (fun h => c2 h.2), Int.add_zero] at hsk
        simp (maxSteps := 4000000) +contextual (disch := first | omega | exact qdb_ok (by kernel_rfl) | exact okb_ok (by kernel_rfl)) only [bw1,bw2,bw3,bw4,bw5,bw6,bw7,bc0,bc1,bc2,bc3,bc4,bc5,bc6,AV.isNilS,AV.isNoRows,wk,binIs,addF,AV.isPtr,idxV,AV.isSl,AV.isSlice,AV.rows,ps,pv,↓reduceIte,reduceCtorEq,Nat.reduceAdd,Nat.reduceLeDiff,Nat.reduceEqDiff,tfb,O85_5,eq_self, hlt', h1', c1, c2, hsk]
        and_intros <;> first | omega | rfl
    · rw [if_neg (fun h => c1 h.1), Int.add_zero] at hsk
      simp (maxSteps := 4000000) +contextual (disch := first | omega | exact qdb_ok (by kernel_rfl) | exact okb_ok (by kernel_rfl)) only [bw1,bw2,bw3,bw4,bw5,bw6,bw7,bc0,bc1,bc2,bc3,bc4,bc5,bc6,AV.isNilS,AV.isNoRows,wk,binIs,addF,AV.isPtr,idxV,AV.isSl,AV.isSlice,AV.rows,ps,pv,↓reduceIte,reduceCtorEq,Nat.reduceAdd,Nat.reduceLeDiff,Nat.reduceEqDiff,tfb,O85_5,eq_self, hlt', h1', c1, hsk]
      and_intros <;> first | omega | rfl
  · have hlt' : ¬ (k : Int) < s.calls.length := by omega
    obtain rfl : k = s.calls.length := by omega
    simp (maxSteps := 4000000) +contextual (disch := first | omega | exact qdb_ok (by kernel_rfl) | exact okb_ok (by kernel_rfl)) only [bw1,bw2,bw3,bw4,bw5,bw6,bw7,bc0,bc1,bc2,bc3,bc4,bc5,bc6,binIs,addF,AV.isPtr,AV.isSlice,AV.rows,AV.outs,AV.outF,packD,↓reduceIte,reduceCtorEq,Nat.reduceAdd,Nat.reduceLeDiff,Nat.reduceEqDiff,tfb,eq_self, hlt']
theorem Mks.of {l : List Int} (h1 : 1 ≤ l.length) (h2 : (l.length : Int) ≤ 9) (h3 : ∀ y ∈ l, -40 ≤ y ∧ y ≤ 40) : Mks l := ⟨by omega, fun x hx => by have := h3 x hx; omega⟩
theorem cnts_b {l : List Int} (h1 : 1 ≤ l.length) (h2 : (l.length : Int) ≤ 9) (h3 : ∀ y ∈ l, -40 ≤ y ∧ y ≤ 40) : (-11000 ≤ (cnts l).1 ∧ (cnts l).1 ≤ 11000) ∧ 1 ≤ (cnts l).2 ∧ (cnts l).2 ≤ 9 := by
  have := c_b (Mks.of h1 h2 h3) l.length (Nat.le_refl _)
  unfold cnts
  split
  · simp only; omega
  · simp only; omega
def valR (r : Rul) (s : Ska) (i : Nat) : Int :=
  if countsB r s i = true then rnd (r.bases.getD (s.calls.getD i default).elem.toNat default * (10 - 2 * (s.calls.getD i default).under) * (if (s.calls.getD i default).late = true then 11 else 10)) 100 + rnd ((cnts (s.calls.getD i default).marks).1 * (r.bases.getD (s.calls.getD i default).elem.toNat default * (10 - 2 * (s.calls.getD i default).under))) (100 * (cnts (s.calls.getD i default).marks).2) else 0
theorem mul_b {a b A B : Int} (h1 : 0 ≤ a) (h2 : a ≤ A) (h3 : 0 ≤ b) (h4 : b ≤ B) : 0 ≤ a * b ∧ a * b ≤ A * B := ⟨Int.mul_nonneg h1 h3, Int.mul_le_mul h2 h4 h3 (by omega)⟩
theorem mul_c {a b A B : Int} (h0 : 0 ≤ A) (h1 : -A ≤ a) (h2 : a ≤ A) (h3 : 0 ≤ b) (h4 : b ≤ B) : -(A * B) ≤ a * b ∧ a * b ≤ A * B := by
  have k1 := Int.mul_le_mul_of_nonneg_right h2 h3
  have k2 := Int.mul_le_mul_of_nonneg_right h1 h3
  have k3 := Int.mul_le_mul_of_nonneg_left h4 h0
  rw [Int.neg_mul] at k2
  omega
theorem rnd_b {a b A : Int} (h1 : -A ≤ a) (h2 : a ≤ A) (hb : 1 ≤ b) : -(2 * A + b) ≤ rnd a b ∧ rnd a b ≤ 2 * A + b := by
  unfold rnd
  split
  · have k1 : 0 ≤ (2 * -a + b) / (2 * b) := Int.ediv_nonneg (by omega) (by omega)
    have k2 : (2 * -a + b) / (2 * b) ≤ 2 * -a + b := Int.ediv_le_self _ (by omega)
    generalize (2 * -a + b) / (2 * b) = q at k1 k2 ⊢
    omega
  · have k1 : 0 ≤ (2 * a + b) / (2 * b) := Int.ediv_nonneg (by omega) (by omega)
    have k2 : (2 * a + b) / (2 * b) ≤ 2 * a + b := Int.ediv_le_self _ (by omega)
    generalize (2 * a + b) / (2 * b) = q at k1 k2 ⊢
    omega
def ent85 (args : List AV) (K : AV → List AV → Sto → Prop) (e : List AV) (s : Sto) : Prop := ent (α := (Rul) × (Ska) × (Nat)) (fun aa => [aa.1.d, .agg aa.2.1.c, .i (aa.2.2 : Int)]) (fun aa => aa.2.2 < aa.2.1.calls.length ∧ aa.2.1.calls.length ≤ 1000) (fun aa => .b (countsB aa.1 aa.2.1 aa.2.2)) args K e s
theorem ent85_ok {args : List AV} {K : AV → List AV → Sto → Prop} {Q : Kt} {e : List AV} {s : Sto} (h : ent85 args K e s) : pcall Tryz.prog 85 args K Q e s := ent_ok (fun aa h => pf85 aa.1 aa.2.1 aa.2.2 h) h
theorem eq85 {r : Rul} {s : Ska} {i : Nat} {KK : AV → List AV → Sto → Prop} {ee : List AV} {ss : Sto} : ent85 [.d (r.d), .d (.agg s.c), .d (.i (i : Int))] KK ee ss = ((i < s.calls.length ∧ s.calls.length ≤ 1000) ∧ KK (.d (.b (countsB r s i))) ee ss) := by
  unfold ent85; rw [ent_iff (r, s, i) (by intro b h; simpa [Prod.ext_iff, and_assoc, Int.ofNat_inj, ints_inj, cals_inj, pcs_inj, skas_inj, scos_inj, ska_inj, rul_inj, sco_inj, cal_inj] using h) rfl]; simp
def O59 : Nat → Sch := fun id => if id = 4 then .one 0 (.one 1 (.one 2 (.one 3 (.one 4 (.one 5 (.one 6 (.one 7 (.one 8 (.one 9 (.one 10 (.one 11 (.done)))))))))))) else .done
theorem O59_4 : O59 4 = .one 0 (.one 1 (.one 2 (.one 3 (.one 4 (.one 5 (.one 6 (.one 7 (.one 8 (.one 9 (.one 10 (.one 11 (.done)))))))))))) := rfl
theorem ho59 : Tryz.f59.body.map (okO O59) = some true := by kernel_rfl
def Cf59 : Nat → List AV → (AV → List AV → Sto → Prop) → Kt → List AV → Sto → Prop := fun f args K Q e s => match f with
  | 60 => ent60 args K e s
  | 61 => ent61 args K e s
  | 85 => ent85 args K e s
  | _ => False
def Ct59 : CT := { f := Cf59, y := noYld, z := fun d => false }
theorem Ct59_ok : Ct59.ok Tryz.prog := ok_of_f (fun f args K Q e s h => by
  have h : Cf59 f args K Q e s := h
  unfold Cf59 at h; split at h
  · exact ent60_ok h
  · exact ent61_ok h
  · exact ent85_ok h
  · exact h.elim) (fun _ _ _ _ _ _ _ _ _ h => h)
theorem x59_60 {l : List Int} {KK : AV → List AV → Sto → Prop} {QQ : Kt} {ii : At KK} {jj : At QQ} {ee : List AV} {ss : Sto} : xC Ct59 60 [.d (.sl 1 (l.map ic))] KK QQ ii jj ee ss = ((Mks l) ∧ KK (.d (.tup [.i (cnts l).1, .i (cnts l).2])) ee ss) := eq60
theorem x59_61 {a : Int} {b : Int} {KK : AV → List AV → Sto → Prop} {QQ : Kt} {ii : At KK} {jj : At QQ} {ee : List AV} {ss : Sto} : xC Ct59 61 [.d (.i a), .d (.i b)] KK QQ ii jj ee ss = (((-1000000000 ≤ a ∧ a ≤ 1000000000) ∧ 1 ≤ b ∧ b ≤ 1000000000) ∧ KK (.d (.i (rnd a b))) ee ss) := eq61
theorem x59_85 {r : Rul} {s : Ska} {i : Nat} {KK : AV → List AV → Sto → Prop} {QQ : Kt} {ii : At KK} {jj : At QQ} {ee : List AV} {ss : Sto} : xC Ct59 85 [.d (r.d), .d (.agg s.c), .d (.i (i : Int))] KK QQ ii jj ee ss = ((i < s.calls.length ∧ s.calls.length ≤ 1000) ∧ KK (.d (.b (countsB r s i))) ee ss) := eq85
theorem c59 : callable Tryz.prog 59 = true := by kernel_rfl
theorem pf59 (r : Rul) (s : Ska) (i : Nat) (h : (∃ n, Valid r s n) ∧ i < s.calls.length) : PF Tryz.prog 59 [r.d, .agg s.c, .i (i : Int)] (fun zz => zz = .ret (.i (valR r s i))) := by
  obtain ⟨⟨n, hv⟩, hi⟩ := h
  have hi' : (i : Int) < s.calls.length := by omega
  have hcl := hv.calls
  obtain ⟨q1, ⟨q2, q3⟩, ⟨q4, q5⟩, ⟨q6, q7⟩, q8⟩ := hv.cat hi
  have hjn := hv.jn
  have hmk : Mks (s.calls.getD i default).marks := Mks.of q7 (by omega) fun y hy => by have := q8 y hy; omega
  have hcb := cnts_b q7 (by omega) fun y hy => by have := q8 y hy; omega
  have hbs : 0 ≤ r.bases.getD (s.calls.getD i default).elem.toNat default ∧ r.bases.getD (s.calls.getD i default).elem.toNat default ≤ 2000 := by
    rw [at_lt (by omega)]; exact hv.base _ (List.getElem_mem _)
  unfold valR
  generalize hJ : s.calls.getD i default = x at *
  generalize hB : r.bases.getD x.elem.toNat default = B at *
  generalize hC : cnts x.marks = C at *
  have p1 := mul_b hbs.1 hbs.2 (show 0 ≤ 10 - 2 * x.under by omega) (show 10 - 2 * x.under ≤ 10 by omega)
  generalize hP : B * (10 - 2 * x.under) = p at *
  have p2 := mul_c (a := C.1) (A := 11000) (by omega) hcb.1.1 hcb.1.2 p1.1 p1.2
  generalize hQ : C.1 * p = q at *
  by_cases c1 : countsB r s i = true
  case neg =>
    rw [if_neg c1]
    refine PF_nil (PF_start (O := O59) Ct59_ok hmix ho59 Tryz.func59 c59 rfl Tryz.ntmps59 Tryz.results59 ?_)
    simp (maxSteps := 4000000) +contextual (disch := first | omega | exact qdb_ok (by kernel_rfl) | exact okb_ok (by kernel_rfl)) only [bw1,bw2,bw3,bw4,bw5,bw6,bc1,bc2,bc3,bc4,bc5,bc6,addF,AV.isPtr,idxV,AV.isSl,AV.rows,ps,pv,AV.outs,AV.outF,packD,AV.dl,AV.cells?,AV.menc,AV.one,D.one,Value.oneCell',↓reduceIte,reduceCtorEq,Nat.reduceAdd,Nat.reduceSub,List.reduceReplicate,Nat.reduceLeDiff,Nat.reduceLT,Nat.reduceBEq,Nat.reduceEqDiff,tfb,x59_85,hi', hJ, c1]
    and_intros <;> first | omega | rfl
  rw [if_pos c1]
  refine PF_nil (PF_start (O := O59) Ct59_ok hmix ho59 Tryz.func59 c59 rfl Tryz.ntmps59 Tryz.results59 ?_)
  by_cases c2 : x.late = true
  · rw [if_pos c2]
    have k1 := rnd_b (a := p * 11) (b := 100) (A := 220000) (by omega) (by omega) (by omega)
    have k2 := rnd_b (a := q) (b := 100 * C.2) (A := 220000000) (by omega) (by omega) (by omega)
    simp (maxSteps := 4000000) +contextual (disch := first | omega | exact qdb_ok (by kernel_rfl) | exact okb_ok (by kernel_rfl)) only [bw1,bw2,bw3,bw4,bw5,bw6,bw7,bc1,bc2,bc3,bc4,bc5,bc6,binIs,addF,AV.isPtr,idxV,AV.isSl,AV.rows,ps,pv,extV,extS,AV.outs,AV.outF,packD,AV.dl,AV.cells?,AV.menc,AV.one,D.one,Value.oneCell',↓reduceIte,reduceCtorEq,Nat.reduceAdd,Nat.reduceSub,List.reduceReplicate,Nat.reduceLeDiff,Nat.reduceLT,Nat.reduceBEq,Nat.reduceEqDiff,Int.reduceNeg,Int.reduceLE,tfb,O59_4,x59_60,x59_61,x59_85,hi', hJ, c1, hB, hP, hC, hQ, c2, q3]
    and_intros <;> first | omega | exact hmk | exact wrap_ok (by omega) (by omega)
  · rw [if_neg c2]
    have c2 := Bool.eq_false_iff.2 c2
    have k1 := rnd_b (a := p * 10) (b := 100) (A := 220000) (by omega) (by omega) (by omega)
    have k2 := rnd_b (a := q) (b := 100 * C.2) (A := 220000000) (by omega) (by omega) (by omega)
    simp (maxSteps := 4000000) +contextual (disch := first | omega | exact qdb_ok (by kernel_rfl) | exact okb_ok (by kernel_rfl)) only [bw1,bw2,bw3,bw4,bw5,bw6,bw7,bc1,bc2,bc3,bc4,bc5,bc6,binIs,addF,AV.isPtr,idxV,AV.isSl,AV.rows,ps,pv,extV,extS,AV.outs,AV.outF,packD,AV.dl,AV.cells?,AV.menc,AV.one,D.one,Value.oneCell',↓reduceIte,reduceCtorEq,Nat.reduceAdd,Nat.reduceSub,List.reduceReplicate,Nat.reduceLeDiff,Nat.reduceLT,Nat.reduceBEq,Nat.reduceEqDiff,Int.reduceNeg,Int.reduceLE,tfb,O59_4,x59_60,x59_61,x59_85,hi', hJ, c1, hB, hP, hC, hQ, c2, q3]
    and_intros <;> first | omega | exact hmk | exact wrap_ok (by omega) (by omega)
def ent59 (args : List AV) (K : AV → List AV → Sto → Prop) (e : List AV) (s : Sto) : Prop := ent (α := (Rul) × (Ska) × (Nat)) (fun aa => [aa.1.d, .agg aa.2.1.c, .i (aa.2.2 : Int)]) (fun aa => (∃ n, Valid aa.1 aa.2.1 n) ∧ aa.2.2 < aa.2.1.calls.length) (fun aa => .i (valR aa.1 aa.2.1 aa.2.2)) args K e s
theorem ent59_ok {args : List AV} {K : AV → List AV → Sto → Prop} {Q : Kt} {e : List AV} {s : Sto} (h : ent59 args K e s) : pcall Tryz.prog 59 args K Q e s := ent_ok (fun aa h => pf59 aa.1 aa.2.1 aa.2.2 h) h
theorem eq59 {r : Rul} {s : Ska} {i : Nat} {KK : AV → List AV → Sto → Prop} {ee : List AV} {ss : Sto} : ent59 [.d (r.d), .d (.agg s.c), .d (.i (i : Int))] KK ee ss = (((∃ n, Valid r s n) ∧ i < s.calls.length) ∧ KK (.d (.i (valR r s i))) ee ss) := by
  unfold ent59; rw [ent_iff (r, s, i) (by intro b h; simpa [Prod.ext_iff, and_assoc, Int.ofNat_inj, ints_inj, cals_inj, pcs_inj, skas_inj, scos_inj, ska_inj, rul_inj, sco_inj, cal_inj] using h) rfl]; simp
end Go.Proofs.YtapglfcaghlpfaaGreat
