/- A part of the proof that the last text ends: what functions of the program do, told by plain data. -/
import Derived.Test.YtofbbkacihnjdaaTIo
set_option linter.unusedVariables false
set_option linter.unusedSimpArgs false
namespace Go.Proofs.Ytofbbkacihnjdaa.Ic
open Go Go.E Go.Maps
set_option maxRecDepth 100000
set_option maxHeartbeats 16000000
abbrev dayE (worn planed : Pn) (w : Int) : List Ev := [⟨2, worn⟩, ⟨1, planed⟩, ⟨0, ⟨w, w⟩⟩]
def repE (d : List Ev) : Nat → List Ev
  | 0 => []
  | k + 1 => repE d k ++ d
theorem repE_len {d : List Ev} : ∀ k, (repE d k).length = d.length * k
  | 0 => rfl
  | k + 1 => by rw [repE, List.length_append, repE_len k, Nat.mul_succ]
def kpB (r : List Zo) (worn planed : Pn) (p : Nat) (least most w : Int) : Bool :=
  if (kpR r (dayE worn planed w) p least most).2.2 = 4 then
    (let q := pyR (repE (dayE worn planed w) p) (r0 r)
     if (endS q).z.any (outB least most) = true then false else decide (q.2.2 = 0) && decide (q.2.1 = (repE (dayE worn planed w) p).length) && decide ((endS q).fz = ⟨(p : Int) * r.length * w, (p : Int) * r.length * w⟩))
  else false
structure KpOk (r : List Zo) (worn planed : Pn) (p : Nat) (least most w : Int) : Prop where
  rk : rkOk r = true
  wo : worn.ok = true
  pl : planed.ok = true
  p1 : 1 ≤ p
  p2 : p ≤ 14
  b : (inB most 0 20000 && inB least 0 most) = true
  w1 : 0 ≤ w
  w2 : w ≤ 20000
theorem KpOk.ev {r : List Zo} {worn planed : Pn} {p : Nat} {least most w : Int} (h : KpOk r worn planed p least most w) : ∀ x ∈ dayE worn planed w, x.ok := by
  intro x hx
  simp only [List.mem_cons, List.not_mem_nil, or_false] at hx
  rcases hx with rfl | rfl | rfl
  · exact ⟨by simp, h.wo⟩
  · exact ⟨by simp, h.pl⟩
  · exact ⟨by simp, by have := h.w1; have := h.w2; simp [Pn.ok]; omega⟩
theorem KpOk.evs {r : List Zo} {worn planed : Pn} {p : Nat} {least most w : Int} (h : KpOk r worn planed p least most w) : ∀ k, ∀ x ∈ repE (dayE worn planed w) k, x.ok
  | 0, x, hx => by simp [repE] at hx
  | k + 1, x, hx => by
    rw [repE, List.mem_append] at hx
    rcases hx with hx | hx
    · exact h.evs k x hx
    · exact h.ev x hx
def sp11 (args : List AV) (K : AV → List AV → Sto → Prop) (e : List AV) (s : Sto) : Prop :=
  ∃ (r : List Zo) (worn planed : Pn) (p : Nat) (least most w : Int), KpOk r worn planed p least most w ∧ s.get 38 = none ∧ AV.pures (args.map (AV.frzD 38 40 5)) = some [.sl 4 (r.map Zo.c), .sl 5 ((dayE worn planed w).map (Ev.c r.length)), .i (p : Int), .i least, .i most] ∧
    K (.d (.tup [.i (kpR r (dayE worn planed w) p least most).1, .i (kpR r (dayE worn planed w) p least most).2.1, .i (kpR r (dayE worn planed w) p least most).2.2])) (e.map (AV.frz 38 40 5)) (s.frz 38 40 5)
theorem sp11_ok {args : List AV} {K : AV → List AV → Sto → Prop} {Q : Kt} {e : List AV} {s : Sto} (h : sp11 args K e s) : pcall Try.prog 11 args K Q e s := by
  obtain ⟨r, worn, planed, p, least, most, w, hk, h1, h2, h3⟩ := h
  refine pcall_frzD 40 5 (by decide) h1 (pcall_pure h2 (pcall_d (pf11 ⟨hk.rk, ⟨⟨hk.p1, ?_⟩, hk.b⟩, by simp, hk.ev, ?_⟩) (fun d hd => by cases hd; exact h3) (fun c hc => by cases hc)))
  · have := hk.p2; omega
  · have := hk.p2
    show 480000 * 3 * p ≤ _
    omega
def sp12 (args : List AV) (K : AV → List AV → Sto → Prop) (e : List AV) (s : Sto) : Prop :=
  ∃ (r : List Zo) (worn planed : Pn) (p : Nat) (least most w : Int), KpOk r worn planed p least most w ∧ s.get 54 = none ∧ AV.pures (args.map (AV.frzD 54 40 5)) = some [.sl 4 (r.map Zo.c), .sl 5 ((repE (dayE worn planed w) p).map (Ev.c r.length))] ∧
    K (.d (.tup [.sl 4 ((endS (pyR (repE (dayE worn planed w) p) (r0 r))).z.map Zo.c), .agg (sumC (endS (pyR (repE (dayE worn planed w) p) (r0 r)))), .i ((pyR (repE (dayE worn planed w) p) (r0 r)).2.1 : Int), .i (pyR (repE (dayE worn planed w) p) (r0 r)).2.2])) (e.map (AV.frz 54 40 5)) (s.frz 54 40 5)
theorem sp12_ok {args : List AV} {K : AV → List AV → Sto → Prop} {Q : Kt} {e : List AV} {s : Sto} (h : sp12 args K e s) : pcall Try.prog 12 args K Q e s := by
  obtain ⟨r, worn, planed, p, least, most, w, hk, h1, h2, h3⟩ := h
  refine pcall_frzD 40 5 (by decide) h1 (pcall_pure h2 (pcall_d (pf12 ⟨hk.rk, ?_, hk.evs p⟩) (fun d hd => by cases hd; exact h3) (fun c hc => by cases hc)))
  have := hk.p2
  rw [repE_len]
  show 3 * p ≤ _
  omega
theorem call11x {C : CT} {args e : List AV} {s : Sto} {K : AV → List AV → Sto → Prop} {Q : Kt} {i : At K} {j : At Q} (hC : ∀ {args K Q e s} {i : At K} {j : At Q}, xC C 11 args K Q i j e s = sp11 args K e s) {r : List Zo} {worn planed : Pn} {p : Nat} {least most w : Int} (hk : KpOk r worn planed p least most w) (h1 : s.get 38 = none) (h2 : AV.pures (args.map (AV.frzD 38 40 5)) = some [.sl 4 (r.map Zo.c), .sl 5 ((dayE worn planed w).map (Ev.c r.length)), .i (p : Int), .i least, .i most])
    (h3 : K (.d (.tup [.i (kpR r (dayE worn planed w) p least most).1, .i (kpR r (dayE worn planed w) p least most).2.1, .i (kpR r (dayE worn planed w) p least most).2.2])) (e.map (AV.frz 38 40 5)) (s.frz 38 40 5)) : xC C 11 args K Q i j e s := by
  rw [hC]; exact ⟨r, worn, planed, p, least, most, w, hk, h1, h2, h3⟩
theorem call12x {C : CT} {args e : List AV} {s : Sto} {K : AV → List AV → Sto → Prop} {Q : Kt} {i : At K} {j : At Q} (hC : ∀ {args K Q e s} {i : At K} {j : At Q}, xC C 12 args K Q i j e s = sp12 args K e s) {r : List Zo} {worn planed : Pn} {p : Nat} {least most w : Int} (hk : KpOk r worn planed p least most w) (h1 : s.get 54 = none) (h2 : AV.pures (args.map (AV.frzD 54 40 5)) = some [.sl 4 (r.map Zo.c), .sl 5 ((repE (dayE worn planed w) p).map (Ev.c r.length))])
    (h3 : K (.d (.tup [.sl 4 ((endS (pyR (repE (dayE worn planed w) p) (r0 r))).z.map Zo.c), .agg (sumC (endS (pyR (repE (dayE worn planed w) p) (r0 r)))), .i ((pyR (repE (dayE worn planed w) p) (r0 r)).2.1 : Int), .i (pyR (repE (dayE worn planed w) p) (r0 r)).2.2])) (e.map (AV.frz 54 40 5)) (s.frz 54 40 5)) : xC C 12 args K Q i j e s := by
  rw [hC]; exact ⟨r, worn, planed, p, least, most, w, hk, h1, h2, h3⟩
theorem fin_eq {Y : Rs × Nat × Int} {n : Nat} {a : Int} : (if Y.2.2 = 0 then if (Y.2.1 : Int) = (n : Int) then ((endS Y).fz.lo == a && (endS Y).fz.hi == a) = (decide (Y.2.2 = 0) && decide (Y.2.1 = n) && decide ((endS Y).fz = ⟨a, a⟩)) else false = (decide (Y.2.2 = 0) && decide (Y.2.1 = n) && decide ((endS Y).fz = ⟨a, a⟩)) else false = (decide (Y.2.2 = 0) && decide (Y.2.1 = n) && decide ((endS Y).fz = ⟨a, a⟩))) := by
  by_cases d1 : Y.2.2 = 0
  · rw [if_pos d1, decide_eq_true d1]
    by_cases d2 : Y.2.1 = n
    · rw [if_pos (by omega), decide_eq_true d2, Bool.eq_iff_iff]
      simp [← pn_inj]
    · rw [if_neg (by omega), decide_eq_false d2]; rfl
  · rw [if_neg d1, decide_eq_false d1]; rfl
def O10 : Nat → Sch := fun id => .done
theorem ho10 : Try.f10.body.map (okO O10) = some true := by kernel_rfl
def Cf10 : Nat → List AV → (AV → List AV → Sto → Prop) → Kt → List AV → Sto → Prop := fun f args K Q e s => match f with
  | 11 => sp11 args K e s
  | 12 => sp12 args K e s
  | _ => False
def Ct10 : CT := { f := Cf10, y := noYld, z := fun d => false }
theorem ctz10 {d : Nat} : CT.z Ct10 d = (false) := id rfl
theorem Ct10_ok : Ct10.ok Try.prog := ok_of_f (fun f args K Q e s h => by
  have h : Cf10 f args K Q e s := h
  unfold Cf10 at h; split at h
  · exact sp11_ok h
  · exact sp12_ok h
  · exact h.elim) (fun _ _ _ _ _ _ _ _ _ h => h)
theorem c10 : callable Try.prog 10 = true := by kernel_rfl
theorem pf10 (w : Int) (r : List Zo) (worn planed : Pn) (p : Nat) (least most : Int) (h : KpOk r worn planed p least most w) : PF Try.prog 10 [.i w, .ptr [.sl 4 (r.map Zo.c)] 0, .ptr worn.c 0, .ptr planed.c 0, .ptr [.i (p : Int)] 0, .ptr [.i least] 0, .ptr [.i most] 0] (fun zz => zz = .ret (.b (kpB r worn planed p least most w))) := by
  have hrk := rk_in h.rk
  obtain ⟨W, hW⟩ : ∃ W, kpB r worn planed p least most w = W := ⟨_, rfl⟩
  rw [hW]
  obtain ⟨X, hX⟩ : ∃ X, kpR r (dayE worn planed w) p least most = X := ⟨_, rfl⟩
  obtain ⟨Y, hY⟩ : ∃ Y, pyR (repE (dayE worn planed w) p) (r0 r) = Y := ⟨_, rfl⟩
  have hday : ((dayE worn planed w).map (Ev.c r.length)) = [[.i 2, .i 0, .i ((r.length : Int) - 1), .i worn.lo, .i worn.hi], [.i 1, .i 0, .i ((r.length : Int) - 1), .i planed.lo, .i planed.hi], [.i 0, .i 0, .i ((r.length : Int) - 1), .i w, .i w]] := rfl
  have hp1 := h.p1
  have hp2 := h.p2
  have hrl : (r.length : Int) ≤ 24 := by omega
  have hw1 := h.w1
  have hw2 := h.w2
  have hel : ((endS Y).z.length : Int) ≤ 24 := by
    have h1 := (py_ok (h.evs p) hrk.1.2 (rfl : (r0 r).z.length = r.length) hrk.2).2
    rw [hY] at h1
    unfold endS
    split
    · omega
    · simp
  refine PF_nil (PF_start (O := O10) Ct10_ok hmix ho10 Try.func10 c10 rfl Try.ntmps10 Try.results10 ?_)
  simp (maxSteps := 4000000) +contextual (disch := first | exact lit_lt rfl | omega | exact qdb_ok (by kernel_rfl) | exact okb_ok (by kernel_rfl)) only [bw1,bw2,bw4,bw5,bw6,bw7,bc1,bc2,bc3,bc4,bc5,bc6,binIs,AV.isSlice,AV.rows,ps,pv,AV.dl,AV.cells?,D.one,Value.oneCell',AV.dcells,D.cells?,↓reduceIte,reduceCtorEq,Nat.reduceAdd,Nat.reduceSub,Nat.reduceMul,List.reduceReplicate,Nat.reduceLeDiff,Nat.reduceLT,tfb,ctz10]
  refine call11x (C := Ct10) (i := mk _) (j := mk _) rfl h rfl rfl ?_
  simp (maxSteps := 4000000) +contextual (disch := first | exact lit_lt rfl | omega | exact qdb_ok (by kernel_rfl) | exact okb_ok (by kernel_rfl)) only [bw1,bw2,bw5,bw6,bc2,bc3,bc4,bc5,AV.frz,extV,extS,↓reduceIte,Nat.reduceAdd,Nat.reduceLeDiff,Nat.reduceLT,tfb,eq_self, Sto.frz, AV.frz, hX]
  refine seed (m1 := mk _) (m2 := mk _) 13 54 40 5 (by decide) rfl (by simp [AV.mens, AV.men]) (by simp [Sto.mens, AV.mens, AV.men]) rfl ?_
  simp (maxSteps := 4000000) +contextual (disch := first | exact lit_lt rfl | omega | exact qdb_ok (by kernel_rfl) | exact okb_ok (by kernel_rfl)) only [bw6]
  refine loop_xu (O := O10) (tb := 0) Ct10_ok hmix (by kernel_rfl) (σ := Nat) (fun k => [(49, .i k), (13, .own 54 40 5 ((repE (dayE worn planed w) k).map (Ev.c r.length)))]) (fun _ => []) (fun k => k ≤ p) (fun k => p - k) 0 (Nat.zero_le _) ?_ ?_
  · simp (maxSteps := 4000000) +contextual (disch := first | exact lit_lt rfl | omega | exact qdb_ok (by kernel_rfl) | exact okb_ok (by kernel_rfl)) only [bw4,bw5,bw6,bc0,bc3,bc4,bc5,bc6,AV.isNilS,AV.isNoRows,wk,↓reduceIte,reduceCtorEq,eq_self, repE]
  intro k hk
  by_cases hlt : k < p
  · have hlt' : (k : Int) < p := by omega
    have hrep : (repE (dayE worn planed w) k).map (Ev.c r.length) ++ [[.i 2, .i 0, .i ((r.length : Int) - 1), .i worn.lo, .i worn.hi], [.i 1, .i 0, .i ((r.length : Int) - 1), .i planed.lo, .i planed.hi], [.i 0, .i 0, .i ((r.length : Int) - 1), .i w, .i w]] = (repE (dayE worn planed w) (k + 1)).map (Ev.c r.length) := by rw [repE, List.map_append, hday]
    have hlen := repE_len (d := dayE worn planed w) k
    simp (maxSteps := 4000000) +contextual (disch := first | exact lit_lt rfl | omega | exact qdb_ok (by kernel_rfl) | exact okb_ok (by kernel_rfl)) only [bw1,bw2,bw4,bw5,bw6,bw7,bc0,bc1,bc3,bc4,bc5,bc6,AV.isNilS,AV.isNoRows,wk,binIs,AV.isSl,AV.rows,tagOf,AV.isApp,↓reduceIte,reduceCtorEq,Nat.reduceAdd,Nat.reduceLeDiff,tfb,ctz10,eq_self, hlt', hrep]
    have hl3 : (repE (dayE worn planed w) k).length = 3 * k := hlen
    exact ⟨by omega, by omega, k + 1, ⟨by omega, by omega⟩, rfl, rfl⟩
  have hlt' : ¬ (k : Int) < p := by omega
  obtain rfl : k = p := by omega
  simp (maxSteps := 4000000) +contextual (disch := first | exact lit_lt rfl | omega | exact qdb_ok (by kernel_rfl) | exact okb_ok (by kernel_rfl)) only [bw1,bw2,bw5,bw6,bw7,bc0,bc1,bc2,bc4,bc5,bc6,binIs,↓reduceIte,Nat.reduceLeDiff,tfb,eq_self, hlt']
  by_cases c4 : X.2.2 = 4
  case neg =>
    have hWf : W = false := by rw [← hW]; unfold kpB; rw [hX, if_neg c4]
    refine call12x (C := Ct10) (i := mk _) (j := mk _) rfl h rfl rfl ?_
    simp (maxSteps := 4000000) +contextual (disch := first | exact lit_lt rfl | omega | exact qdb_ok (by kernel_rfl) | exact okb_ok (by kernel_rfl)) only [bw1,bw2,bw3,bw5,bw6,bc1,bc2,bc3,bc4,bc5,bc6,AV.frz,binIs,extV,extS,AV.outs,AV.outF,packD,AV.cells?,AV.menc,AV.one,D.one,Value.oneCell',↓reduceIte,reduceCtorEq,Nat.reduceAdd,Nat.reduceLeDiff,Nat.reduceLT,tfb,eq_self, Sto.frz, AV.frz, hY, c4, hWf]
  have hWv : (if (endS Y).z.any (outB least most) = true then false else decide (Y.2.2 = 0) && decide (Y.2.1 = (repE (dayE worn planed w) k).length) && decide ((endS Y).fz = ⟨(k : Int) * r.length * w, (k : Int) * r.length * w⟩)) = W := by
    rw [← hW]; unfold kpB; rw [hX, if_pos c4, hY]
  refine call12x (C := Ct10) (i := mk _) (j := mk _) rfl h rfl rfl ?_
  simp (maxSteps := 4000000) +contextual (disch := first | exact lit_lt rfl | omega | exact qdb_ok (by kernel_rfl) | exact okb_ok (by kernel_rfl)) only [bw1,bw2,bw4,bw5,bw6,bc1,bc2,bc3,bc4,bc5,bc6,AV.frz,binIs,AV.isSlice,AV.rows,extV,extS,AV.cells?,AV.menc,AV.one,D.one,Value.oneCell',↓reduceIte,reduceCtorEq,Nat.reduceAdd,Nat.reduceLeDiff,Nat.reduceLT,tfb,eq_self, Sto.frz, AV.frz, hY, c4]
  refine loop_xu (O := O10) (tb := 0) Ct10_ok hmix (by kernel_rfl) (σ := Nat) (fun j => [(67, .i j), (19, .any)]) (fun _ => []) (fun j => j ≤ (endS Y).z.length ∧ ∀ q, q < j → outB least most ((endS Y).z.getD q default) = false) (fun j => (endS Y).z.length - j) 0 ⟨Nat.zero_le _, fun q hq => by omega⟩ ?_ ?_
  · simp (maxSteps := 4000000) +contextual (disch := first | exact lit_lt rfl | omega | exact qdb_ok (by kernel_rfl) | exact okb_ok (by kernel_rfl)) only [bw4,bw5,bw6,bc0,bc3,bc5,bc6,AV.isNilS,AV.isNoRows,wk,↓reduceIte,reduceCtorEq,eq_self]
  intro j ⟨hj, hq⟩
  by_cases hjt : j < (endS Y).z.length
  case neg =>
    have hjt' : ¬ (j : Int) < (endS Y).z.length := by omega
    have hany : (endS Y).z.any (outB least most) = false := by
      rw [List.any_eq_false]
      intro x hx
      obtain ⟨q, hq1, rfl⟩ := List.getElem_of_mem hx
      have := hq q (by omega)
      rw [at_lt hq1] at this
      rw [this]; decide
    rw [hany, if_neg (by decide)] at hWv
    have hm1 : 0 ≤ (k : Int) * r.length ∧ (k : Int) * r.length ≤ 336 := by
      refine ⟨Int.mul_nonneg (by omega) (by omega), ?_⟩
      calc (k : Int) * r.length ≤ 14 * r.length := Int.mul_le_mul_of_nonneg_right (by omega) (by omega)
        _ ≤ 336 := by omega
    have hm2 : 0 ≤ (k : Int) * r.length * w ∧ (k : Int) * r.length * w ≤ 6720000 := by
      refine ⟨Int.mul_nonneg hm1.1 hw1, ?_⟩
      calc (k : Int) * r.length * w ≤ 336 * w := Int.mul_le_mul_of_nonneg_right hm1.2 hw1
        _ ≤ 6720000 := by omega
    simp (maxSteps := 4000000) +contextual (disch := first | exact lit_lt rfl | omega | exact qdb_ok (by kernel_rfl) | exact okb_ok (by kernel_rfl)) only [bw1,bw2,bw3,bw4,bw5,bw6,bw7,bc0,bc1,bc2,bc3,bc4,bc5,bc6,bc7,binIs,addF,AV.isPtr,AV.isSlice,AV.rows,ps,pv,AV.outs,AV.outF,packD,AV.dl,AV.cells?,Value.oneCell',stcV,stcS,leafOk,eqDs,eqD,↓reduceIte,reduceCtorEq,Nat.reduceAdd,Nat.reduceLeDiff,tfb,eq_self, hjt']
    rw [← hWv]
    exact fin_eq
  have hjt' : (j : Int) < (endS Y).z.length := by omega
  have hj0 : (0 : Int) ≤ j := by omega
  have hzr : ((endS Y).z.map Zo.c).getD j [] = Zo.c ((endS Y).z.getD j default) := Go.E.row_at hjt
  have hmem : outB least most ((endS Y).z.getD j default) = true → W = false := fun ho => by
    rw [← hWv, if_pos (List.any_eq_true.2 ⟨_, List.getElem_mem hjt, by rw [← at_lt hjt]; exact ho⟩)]
  by_cases c1 : ((endS Y).z.getD j default).ice.lo < least
  · have hWf := hmem (by unfold outB; rw [decide_eq_true c1]; rfl)
    simp (maxSteps := 4000000) +contextual (disch := first | exact lit_lt rfl | omega | exact qdb_ok (by kernel_rfl) | exact okb_ok (by kernel_rfl)) only [bw1,bw2,bw3,bw4,bw5,bw6,bw7,bc0,bc1,bc2,bc3,bc4,bc5,bc6,binIs,addF,AV.isPtr,idxV,AV.isSl,AV.rows,ps,pv,AV.outs,AV.outF,packD,AV.cells?,AV.menc,AV.one,D.one,Value.oneCell',↓reduceIte,reduceCtorEq,Nat.reduceAdd,Nat.reduceLeDiff,Nat.reduceLT,Nat.reduceBEq,Nat.reduceEqDiff,tfb,eq_self, hjt', hzr, c1, hj0, hWf]
  by_cases c2 : most < ((endS Y).z.getD j default).ice.hi
  · have hWf := hmem (by unfold outB; rw [decide_eq_true c2, Bool.or_true])
    simp (maxSteps := 4000000) +contextual (disch := first | exact lit_lt rfl | omega | exact qdb_ok (by kernel_rfl) | exact okb_ok (by kernel_rfl)) only [bw1,bw2,bw3,bw4,bw5,bw6,bw7,bc0,bc1,bc2,bc3,bc4,bc5,bc6,binIs,addF,AV.isPtr,idxV,AV.isSl,AV.rows,ps,pv,AV.outs,AV.outF,packD,AV.cells?,AV.menc,AV.one,D.one,Value.oneCell',↓reduceIte,reduceCtorEq,Nat.reduceAdd,Nat.reduceLeDiff,Nat.reduceLT,Nat.reduceBEq,Nat.reduceEqDiff,tfb,eq_self, hjt', hzr, c1, c2, hj0, hWf]
  have ho : outB least most ((endS Y).z.getD j default) = false := by unfold outB; rw [decide_eq_false c1, decide_eq_false c2]; rfl
  simp (maxSteps := 4000000) +contextual (disch := first | exact lit_lt rfl | omega | exact qdb_ok (by kernel_rfl) | exact okb_ok (by kernel_rfl)) only [bw1,bw2,bw3,bw4,bw5,bw6,bw7,bc0,bc1,bc2,bc3,bc4,bc5,bc6,AV.isNilS,AV.isNoRows,wk,binIs,addF,AV.isPtr,idxV,AV.isSl,AV.rows,ps,pv,AV.cells?,AV.menc,AV.one,D.one,Value.oneCell',↓reduceIte,reduceCtorEq,Nat.reduceAdd,Nat.reduceLeDiff,Nat.reduceLT,Nat.reduceBEq,Nat.reduceEqDiff,tfb,eq_self, hjt', hzr, c1, c2, hj0]
  exact ⟨j + 1, ⟨⟨by omega, fun q hq' => by rcases Nat.lt_succ_iff_lt_or_eq.1 hq' with h | h; exact hq q h; rw [h]; exact ho⟩, by omega⟩, rfl⟩
def ent10 (o : Option (List D)) (K : AV → List AV → Sto → Prop) (i : At K) (e : List AV) (s : Sto) : Prop := entS (α := (Int) × (List Zo) × (Pn) × (Pn) × (Nat) × (Int) × (Int)) (fun aa => [.i aa.1, .ptr [.sl 4 (aa.2.1.map Zo.c)] 0, .ptr aa.2.2.1.c 0, .ptr aa.2.2.2.1.c 0, .ptr [.i (aa.2.2.2.2.1 : Int)] 0, .ptr [.i aa.2.2.2.2.2.1] 0, .ptr [.i aa.2.2.2.2.2.2] 0]) (fun aa => KpOk aa.2.1 aa.2.2.1 aa.2.2.2.1 aa.2.2.2.2.1 aa.2.2.2.2.2.1 aa.2.2.2.2.2.2 aa.1) (fun aa => .b (kpB aa.2.1 aa.2.2.1 aa.2.2.2.1 aa.2.2.2.2.1 aa.2.2.2.2.2.1 aa.2.2.2.2.2.2 aa.1)) o K i e s
theorem ent10_ok {args : List AV} {K : AV → List AV → Sto → Prop} {Q : Kt} {e : List AV} {s : Sto} (h : ent10 (AV.outs s args) K (mk _) e s) : pcall Try.prog 10 args K Q e s := entS_ok (fun aa h => pf10 aa.1 aa.2.1 aa.2.2.1 aa.2.2.2.1 aa.2.2.2.2.1 aa.2.2.2.2.2.1 aa.2.2.2.2.2.2 h) h
theorem eq10 {w : Int} {r : List Zo} {worn : Pn} {planed : Pn} {p : Nat} {least : Int} {most : Int} {KK : AV → List AV → Sto → Prop} {ii : At KK} {ee : List AV} {ss : Sto} : ent10 (some [.i w, .ptr [.sl 4 (r.map Zo.c)] 0, .ptr worn.c 0, .ptr planed.c 0, .ptr [.i (p : Int)] 0, .ptr [.i least] 0, .ptr [.i most] 0]) KK ii ee ss = ((KpOk r worn planed p least most w) ∧ (.b (kpB r worn planed p least most w) : D).flat = true ∧ KK (.d (.b (kpB r worn planed p least most w))) ee ss) := by
  unfold ent10; rw [entS_iff (w, r, worn, planed, p, least, most) (by intro b h; simpa [Prod.ext_iff, and_assoc, Int.ofNat_inj, ints_inj, hrs_inj, grs_inj, hr_inj, gr_inj, tt_inj, bcs_inj, cn_inj, sd_inj, pn_inj, zos_inj, zo_inj2, zo_inj] using h)] <;> simp
end Go.Proofs.Ytofbbkacihnjdaa.Ic
