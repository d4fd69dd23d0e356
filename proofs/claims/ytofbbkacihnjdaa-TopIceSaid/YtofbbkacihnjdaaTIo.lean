/- A part of the proof that the last text ends: what functions of the program do, told by plain data. -/
import Derived.Test.YtofbbkacihnjdaaTIn
set_option linter.unusedVariables false
set_option linter.unusedSimpArgs false
namespace Go.Proofs.Ytofbbkacihnjdaa.Ic
open Go Go.E Go.Maps
set_option maxRecDepth 100000
set_option maxHeartbeats 16000000
def endS (p : Rs × Nat × Int) : Rs := if p.2.2 = 0 then p.1 else ⟨[], ⟨0, 0⟩, ⟨0, 0⟩, ⟨0, 0⟩⟩
abbrev sumC (s : Rs) : List D := [.i s.fz.lo, .i s.fz.hi, .i s.pl.lo, .i s.pl.hi, .i s.wo.lo, .i s.wo.hi]
theorem plN_n {l : List Ev} : ∀ k i (s : Rs), i + k = l.length → (plN' l k i s).2.2 = 0 → (plN' l k i s).2.1 = l.length
  | 0, i, s, hi, _ => by simpa [plN'] using hi
  | k + 1, i, s, hi, h => by
    rw [plN'] at h ⊢
    by_cases c : (evN (l.getD i default) s.z.length 0 s).2 = true
    · rw [if_pos c] at h ⊢; exact plN_n k (i + 1) _ (by omega) h
    · rw [if_neg c] at h; cases h
theorem py_n {l : List Ev} {s : Rs} (h : (pyR l s).2.2 = 0) : (pyR l s).2.1 = l.length := plN_n l.length 0 s (by omega) h
def O12 : Nat → Sch := fun id => if id = 2 then .alt (.one 0 (.one 1 (.one 2 (.one 3 (.one 4 (.done)))))) (.one 1 (.one 0 (.one 2 (.one 3 (.one 4 (.done)))))) else if id = 4 then .alt (.one 0 (.one 1 (.one 2 (.one 3 (.one 4 (.done)))))) (.one 1 (.one 0 (.one 2 (.one 3 (.one 4 (.done)))))) else if id = 8 then .one 1 (.one 2 (.alt (.one 0 (.one 3 (.one 4 (.one 5 (.one 6 (.done)))))) (.one 3 (.one 0 (.one 4 (.one 5 (.one 6 (.done)))))))) else if id = 11 then .one 1 (.one 2 (.one 3 (.one 4 (.one 5 (.one 6 (.one 7 (.one 8 (.one 9 (.alt (.one 0 (.one 10 (.one 11 (.one 12 (.done))))) (.one 10 (.one 0 (.one 11 (.one 12 (.done)))))))))))))) else if id = 12 then .one 0 (.one 1 (.one 2 (.one 3 (.one 5 (.one 6 (.one 7 (.one 9 (.one 10 (.one 11 (.one 14 (.one 15 (.alt (.one 4 (.alt (.one 8 (.alt (.one 12 (.one 13 (.one 16 (.one 17 (.one 18 (.one 19 (.done))))))) (.one 16 (.one 12 (.one 13 (.one 17 (.one 18 (.one 19 (.done))))))))) (.alt (.one 12 (.alt (.one 8 (.one 13 (.one 16 (.one 17 (.one 18 (.one 19 (.done))))))) (.one 16 (.one 8 (.one 13 (.one 17 (.one 18 (.one 19 (.done))))))))) (.one 16 (.one 8 (.one 12 (.one 13 (.one 17 (.one 18 (.one 19 (.done))))))))))) (.alt (.one 8 (.alt (.one 4 (.alt (.one 12 (.one 13 (.one 16 (.one 17 (.one 18 (.one 19 (.done))))))) (.one 16 (.one 12 (.one 13 (.one 17 (.one 18 (.one 19 (.done))))))))) (.alt (.one 12 (.alt (.one 4 (.one 13 (.one 16 (.one 17 (.one 18 (.one 19 (.done))))))) (.one 16 (.one 4 (.one 13 (.one 17 (.one 18 (.one 19 (.done))))))))) (.one 16 (.one 4 (.one 12 (.one 13 (.one 17 (.one 18 (.one 19 (.done))))))))))) (.alt (.one 12 (.alt (.one 4 (.alt (.one 8 (.one 13 (.one 16 (.one 17 (.one 18 (.one 19 (.done))))))) (.one 16 (.one 8 (.one 13 (.one 17 (.one 18 (.one 19 (.done))))))))) (.alt (.one 8 (.alt (.one 4 (.one 13 (.one 16 (.one 17 (.one 18 (.one 19 (.done))))))) (.one 16 (.one 4 (.one 13 (.one 17 (.one 18 (.one 19 (.done))))))))) (.one 16 (.one 4 (.one 8 (.one 13 (.one 17 (.one 18 (.one 19 (.done))))))))))) (.one 16 (.one 4 (.one 8 (.one 12 (.one 13 (.one 17 (.one 18 (.one 19 (.done))))))))))))))))))))))) else .done
theorem O12_8 : O12 8 = .one 1 (.one 2 (.alt (.one 0 (.one 3 (.one 4 (.one 5 (.one 6 (.done)))))) (.one 3 (.one 0 (.one 4 (.one 5 (.one 6 (.done)))))))) := rfl
theorem O12_11 : O12 11 = .one 1 (.one 2 (.one 3 (.one 4 (.one 5 (.one 6 (.one 7 (.one 8 (.one 9 (.alt (.one 0 (.one 10 (.one 11 (.one 12 (.done))))) (.one 10 (.one 0 (.one 11 (.one 12 (.done)))))))))))))) := rfl
theorem O12_12 : O12 12 = .one 0 (.one 1 (.one 2 (.one 3 (.one 5 (.one 6 (.one 7 (.one 9 (.one 10 (.one 11 (.one 14 (.one 15 (.alt (.one 4 (.alt (.one 8 (.alt (.one 12 (.one 13 (.one 16 (.one 17 (.one 18 (.one 19 (.done))))))) (.one 16 (.one 12 (.one 13 (.one 17 (.one 18 (.one 19 (.done))))))))) (.alt (.one 12 (.alt (.one 8 (.one 13 (.one 16 (.one 17 (.one 18 (.one 19 (.done))))))) (.one 16 (.one 8 (.one 13 (.one 17 (.one 18 (.one 19 (.done))))))))) (.one 16 (.one 8 (.one 12 (.one 13 (.one 17 (.one 18 (.one 19 (.done))))))))))) (.alt (.one 8 (.alt (.one 4 (.alt (.one 12 (.one 13 (.one 16 (.one 17 (.one 18 (.one 19 (.done))))))) (.one 16 (.one 12 (.one 13 (.one 17 (.one 18 (.one 19 (.done))))))))) (.alt (.one 12 (.alt (.one 4 (.one 13 (.one 16 (.one 17 (.one 18 (.one 19 (.done))))))) (.one 16 (.one 4 (.one 13 (.one 17 (.one 18 (.one 19 (.done))))))))) (.one 16 (.one 4 (.one 12 (.one 13 (.one 17 (.one 18 (.one 19 (.done))))))))))) (.alt (.one 12 (.alt (.one 4 (.alt (.one 8 (.one 13 (.one 16 (.one 17 (.one 18 (.one 19 (.done))))))) (.one 16 (.one 8 (.one 13 (.one 17 (.one 18 (.one 19 (.done))))))))) (.alt (.one 8 (.alt (.one 4 (.one 13 (.one 16 (.one 17 (.one 18 (.one 19 (.done))))))) (.one 16 (.one 4 (.one 13 (.one 17 (.one 18 (.one 19 (.done))))))))) (.one 16 (.one 4 (.one 8 (.one 13 (.one 17 (.one 18 (.one 19 (.done))))))))))) (.one 16 (.one 4 (.one 8 (.one 12 (.one 13 (.one 17 (.one 18 (.one 19 (.done))))))))))))))))))))))) := rfl
theorem ho12 : Try.f12.body.map (okO O12) = some true := by kernel_rfl
def Cf12o : Nat → List AV → (AV → List AV → Sto → Prop) → Kt → List AV → Sto → Prop := fun f args K Q e s => match f with
  | 19 => ent19 args K e s
  | 21 => ent21 args K e s
  | 22 => ent22 args K e s
  | 32 => inlE Try.prog Ct32 O32 32000 32 args K Q e s
  | 33 => sp33 args K e s
  | 36 => inlE Try.prog Ct36 O36 36000 36 args K Q e s
  | _ => False
def Ct12o : CT := { f := Cf12o, y := noYld, z := fun d => false }
theorem ctz12o {d : Nat} : CT.z Ct12o d = (false) := id rfl
theorem Ct12o_ok : Ct12o.ok Try.prog := ok_of_f (fun f args K Q e s h => by
  have h : Cf12o f args K Q e s := h
  unfold Cf12o at h; split at h
  · exact ent19_ok h
  · exact ent21_ok h
  · exact ent22_ok h
  · exact inlE_ok Ct32_ok hmix ho32 h
  · exact sp33_ok h
  · exact inlE_ok Ct36_ok hmix ho36 h
  · exact h.elim) (fun _ _ _ _ _ _ _ _ _ h => h)
def Yd12 : Nat → List Nat → Code → Code → List AV → (AV → List AV → Sto → Prop) → Kt → List AV → Sto → Prop := fun G ps asg bdy => if G / 1000 = 1000000 then yldEX Try.prog Ct12o O12 0 G ps asg bdy else fun _ _ _ _ _ => False
def Cy12_55 : CT := { f := Cf55, y := Yd12 }
theorem Cy12_55_ok : Cy12_55.ok Try.prog := ⟨Ct55_ok.f, fun g ps asg bdy args K Q e s h => by
  have h : Yd12 g ps asg bdy args K Q e s := h
  unfold Yd12 at h; split at h
  · exact yldEX_ok Ct12o_ok hmix h
  · exact h.elim⟩
def Cf12 : Nat → List AV → (AV → List AV → Sto → Prop) → Kt → List AV → Sto → Prop := fun f args K Q e s => match f with
  | 19 => ent19 args K e s
  | 21 => ent21 args K e s
  | 22 => ent22 args K e s
  | 32 => inlE Try.prog Ct32 O32 32000 32 args K Q e s
  | 33 => sp33 args K e s
  | 36 => inlE Try.prog Ct36 O36 36000 36 args K Q e s
  | 55 => inlE Try.prog Cy12_55 O55 55000 55 args K Q e s
  | _ => False
def Ct12 : CT := { f := Cf12, y := noYld, z := fun d => false }
theorem Ct12_ok : Ct12.ok Try.prog := ok_of_f (fun f args K Q e s h => by
  have h : Cf12 f args K Q e s := h
  unfold Cf12 at h; split at h
  · exact ent19_ok h
  · exact ent21_ok h
  · exact ent22_ok h
  · exact inlE_ok Ct32_ok hmix ho32 h
  · exact sp33_ok h
  · exact inlE_ok Ct36_ok hmix ho36 h
  · exact inlE_ok Cy12_55_ok hmix ho55 h
  · exact h.elim) (fun _ _ _ _ _ _ _ _ _ h => h)
theorem z12_55 : type_of% (@xinl Try.prog Ct12 Cy12_55 O55 55000 55 _ _ _ _ rfl c55 Try.func55 rfl Try.ntmps55 Try.results55) := @xinl Try.prog Ct12 Cy12_55 O55 55000 55 _ _ _ _ rfl c55 Try.func55 rfl Try.ntmps55 Try.results55
theorem yy12_55_40 : type_of% (fun ps asg bdy => @xyldX Try.prog Cy12_55 Ct12o O12 0 1000000040 Yd12 rfl ps asg bdy (if_pos (by omega))) := fun ps asg bdy => @xyldX Try.prog Cy12_55 Ct12o O12 0 1000000040 Yd12 rfl ps asg bdy (if_pos (by omega))
theorem x12_19 {r : List Zo} {KK : AV → List AV → Sto → Prop} {QQ : Kt} {ii : At KK} {jj : At QQ} {ee : List AV} {ss : Sto} : xC Ct12 19 [.d (.sl 4 (r.map Zo.c))] KK QQ ii jj ee ss = ((r.length ≤ 1000) ∧ KK (.d (.b (rkOk r))) ee ss) := eq19
theorem z12_32 : type_of% (@xinl Try.prog Ct12 Ct32 O32 32000 32 _ _ _ _ rfl c32 Try.func32 rfl Try.ntmps32 Try.results32) := @xinl Try.prog Ct12 Ct32 O32 32000 32 _ _ _ _ rfl c32 Try.func32 rfl Try.ntmps32 Try.results32
theorem z12_36 : type_of% (@xinl Try.prog Ct12 Ct36 O36 36000 36 _ _ _ _ rfl c36 Try.func36 rfl Try.ntmps36 Try.results36) := @xinl Try.prog Ct12 Ct36 O36 36000 36 _ _ _ _ rfl c36 Try.func36 rfl Try.ntmps36 Try.results36
theorem c12 : callable Try.prog 12 = true := by kernel_rfl
theorem pf12 {r : List Zo} {l : List Ev} (h : rkOk r = true ∧ l.length ≤ 256 ∧ ∀ x ∈ l, x.ok) : PF Try.prog 12 [.sl 4 (r.map Zo.c), .sl 5 (l.map (Ev.c r.length))] (fun zz => zz = .ret (.tup [.sl 4 ((endS (pyR l (r0 r))).z.map Zo.c), .agg (sumC (endS (pyR l (r0 r)))), .i ((pyR l (r0 r)).2.1 : Int), .i (pyR l (r0 r)).2.2])) := by
  obtain ⟨hrk, hlen, hev⟩ := h
  obtain ⟨h24, hok0⟩ := rk_in hrk
  have hr1000 : r.length ≤ 1000 := by omega
  have hdl : ¬ (256 : Int) < l.length := by omega
  have hsum : 0 + 480000 * (l.length : Int) ≤ 1000000000 := by omega
  refine PF_nil (PF_start (O := O12) Ct12_ok hmix ho12 Try.func12 c12 rfl Try.ntmps12 Try.results12 ?_)
  simp (maxSteps := 4000000) +contextual (disch := first | exact lit_lt rfl | omega | exact qdb_ok (by kernel_rfl) | exact okb_ok (by kernel_rfl)) only [bw1,bw2,bw4,bw5,bw6,bw7,bc1,bc2,bc3,bc4,bc5,bc6,binIs,AV.isSlice,AV.rows,↓reduceIte,reduceCtorEq,Nat.reduceAdd,Nat.reduceSub,List.reduceReplicate,Nat.reduceLT,Nat.reduceBEq,Nat.reduceEqDiff,tfb,x12_19,z12_32,hrk, hr1000, hdl]
  refine seedS (m1 := mk _) (m2 := mk _) 32004 0 32021 82 4 _ (by decide) (by decide) rfl rfl (by simp [AV.mens, AV.men]) (by simp [Sto.mens, AV.mens, AV.men]) rfl ?_
  refine loop_xu (O := O32) (tb := 32000) Ct32_ok hmix (by kernel_rfl) (σ := Nat) (fun k => [(8, .i k), (5, .any)]) (fun k => [(32004, (⟨r.take k, ⟨0, 0⟩, ⟨0, 0⟩, ⟨0, 0⟩⟩ : Rs).c)]) (fun k => k ≤ r.length) (fun k => r.length - k) 0 (Nat.zero_le _) ?_ ?_
  · simp (maxSteps := 4000000) +contextual (disch := first | exact lit_lt rfl | omega | exact qdb_ok (by kernel_rfl) | exact okb_ok (by kernel_rfl)) only [bw4,bw5,bw6,bc0,bc3,bc4,bc5,bc6,AV.isNilS,AV.isNoRows,wk,↓reduceIte,reduceCtorEq,Nat.reduceEqDiff,eq_self]
  intro k hk
  by_cases hlt : k < r.length
  · have hlt' : (k : Int) < r.length := by omega
    have hzr : (r.map Zo.c).getD k [] = Zo.c (r.getD k default) := Go.E.row_at hlt
    have htu := take_up hlt
    have htl : (r.take k).length = k := by rw [List.length_take]; omega
    simp (maxSteps := 4000000) +contextual (disch := first | exact lit_lt rfl | omega | exact qdb_ok (by kernel_rfl) | exact okb_ok (by kernel_rfl)) only [bw1,bw2,bw4,bw5,bw6,bw7,bc0,bc1,bc2,bc3,bc4,bc5,bc6,AV.isNilS,AV.isNoRows,wk,binIs,addF,AV.isPtr,idxV,AV.isSl,AV.rows,ps,pv,AV.dl,AV.cells?,AV.menc,AV.one,D.one,Value.oneCell',tagOf,AV.isApp,AV.dcells,D.cells?,↓reduceIte,reduceCtorEq,Nat.reduceAdd,Nat.reduceMul,List.reduceReplicate,Nat.reduceLeDiff,Nat.reduceLT,Nat.reduceBEq,Nat.reduceEqDiff,tfb,ctz32,eq_self, hlt', hzr, htu, htl]
    exact ⟨by omega, by omega, by omega, k + 1, ⟨by omega, by omega⟩, rfl, rfl⟩
  have hlt' : ¬ (k : Int) < r.length := by omega
  have hkr : k = r.length := by omega
  have htk : r.take k = r := by rw [hkr, List.take_length]
  simp (maxSteps := 4000000) +contextual (disch := first | exact lit_lt rfl | omega | exact qdb_ok (by kernel_rfl) | exact okb_ok (by kernel_rfl)) only [bw1,bw2,bw3,bw5,bw6,bw7,bc0,bc1,bc2,bc3,bc4,bc5,bc6,binIs,packA,↓reduceIte,reduceCtorEq,Nat.reduceAdd,Nat.reduceEqDiff,tfb,eq_self, hlt', htk]
  refine call33x (C := Ct12) (i := mk _) (j := mk _) rfl l (r0 r) r.length 0 rfl ⟨rfl, h24, hlen, hev, hok0, hsum⟩ ⟨rfl, by simp [AV.stays, AV.stay], by simp [AV.stays, AV.stay, othL]⟩ fun s' hs' => ?_
  by_cases he : (pyR l (r0 r)).2.2 = 0
  case neg =>
    have hes : endS (pyR l (r0 r)) = ⟨[], ⟨0, 0⟩, ⟨0, 0⟩, ⟨0, 0⟩⟩ := by unfold endS; rw [if_neg he]
    rw [hes]
    simp (maxSteps := 4000000) +contextual (disch := first | exact lit_lt rfl | omega | exact qdb_ok (by kernel_rfl) | exact okb_ok (by kernel_rfl)) only [bw1,bw2,bw3,bw5,bw6,bc1,bc2,bc3,bc4,bc5,bc6,binIs,extV,extS,AV.outs,AV.outF,packD,AV.dl,AV.cells?,AV.menc,AV.one,D.one,Value.oneCell',↓reduceIte,reduceCtorEq,Nat.reduceAdd,Nat.reduceLeDiff,Nat.reduceLT,Nat.reduceBEq,Nat.reduceEqDiff,tfb,O12_8,eq_self, he, mer, List.contains_cons, List.contains_nil]
  have hs1 := hs' he
  subst hs1
  obtain ⟨hpo, hpz⟩ := py_ok hev h24.2 (rfl : (r0 r).z.length = r.length) hok0
  have hpo := hpo he
  have hes : endS (pyR l (r0 r)) = (pyR l (r0 r)).1 := by unfold endS; rw [if_pos he]
  rw [hes]
  obtain ⟨p, hp⟩ : ∃ p, (pyR l (r0 r)).1 = p := ⟨_, rfl⟩
  rw [hp] at hpo hpz ⊢
  have hpz : p.z.length = r.length := hpz
  have hpl : (p.z.length : Int) = r.length := by omega
  simp (maxSteps := 4000000) +contextual (disch := first | exact lit_lt rfl | omega | exact qdb_ok (by kernel_rfl) | exact okb_ok (by kernel_rfl)) only [bw1,bw2,bw3,bw4,bw5,bw6,bw7,bc0,bc1,bc2,bc3,bc4,bc5,bc6,binIs,AV.isSlice,AV.rows,extV,extS,AV.dl,AV.cells?,Value.oneCell',packA,↓reduceIte,reduceCtorEq,Nat.reduceAdd,Nat.reduceSub,List.reduceReplicate,Nat.reduceLT,Nat.reduceBEq,Nat.reduceEqDiff,tfb,z12_36,eq_self, he, mer, List.contains_cons, List.contains_nil]
  refine seedSF (i1 := mk _) (i2 := mk _) (j := mk _) 5 0 53 49 4 [.d (.v (.slice none 0 0))] (by decide) (by decide) rfl rfl (by simp [AV.mens, AV.men]) (by simp [Sto.mens, AV.mens, AV.men]) rfl ?_
  simp (maxSteps := 4000000) +contextual (disch := first | exact lit_lt rfl | omega | exact qdb_ok (by kernel_rfl) | exact okb_ok (by kernel_rfl)) only [bw6,bc3,↓reduceIte,reduceCtorEq,eq_self]
  refine rng_cutZ (C := Ct12) Ct12_ok 1000000040 (σ := Unit) (fun _ => [(11, .any)]) (fun _ => [(5, [.own 53 49 4 (p.z.map Zo.c)])]) (fun _ => True) ?_ ?_
  · simp (maxSteps := 4000000) +contextual (disch := first | exact lit_lt rfl | omega | exact qdb_ok (by kernel_rfl) | exact okb_ok (by kernel_rfl)) only [bw1,bw2,bw3,bw5,bw6,bc0,bc2,bc3,bc4,bc5,bc6,↓reduceIte,reduceCtorEq,Nat.reduceAdd,Nat.reduceSub,List.reduceReplicate,Nat.reduceLeDiff,Nat.reduceLT,Nat.reduceBEq,Nat.reduceEqDiff,tfb,z12_55,eq_self]
    refine loop_xu (O := O55) (tb := 55000) Cy12_55_ok hmix (by kernel_rfl) (σ := Nat) (fun j => [(5, .i j)]) (fun j => [(5, [.own 53 49 4 ((p.z.take j).map Zo.c)])]) (fun j => j ≤ p.z.length) (fun j => p.z.length - j) 0 (Nat.zero_le _) ?_ ?_
    · simp (maxSteps := 4000000) +contextual (disch := first | exact lit_lt rfl | omega | exact qdb_ok (by kernel_rfl) | exact okb_ok (by kernel_rfl)) only [bw4,bw5,bw6,bc0,bc3,bc4,bc5,bc6,AV.isNilS,AV.isNoRows,wk,↓reduceIte,reduceCtorEq,Nat.reduceEqDiff,eq_self]
    intro j hj
    by_cases hjt : j < p.z.length
    case neg =>
      have hjt' : ¬ (j : Int) ≤ (r.length : Int) - 1 := by omega
      have htk : p.z.take j = p.z := by rw [show j = p.z.length by omega, List.take_length]
      simp (maxSteps := 4000000) +contextual (disch := first | exact lit_lt rfl | omega | exact qdb_ok (by kernel_rfl) | exact okb_ok (by kernel_rfl)) only [bw1,bw2,bw3,bw5,bw6,bw7,bc0,bc1,bc2,bc3,bc4,bc5,bc6,AV.isNilS,AV.isNoRows,wk,binIs,↓reduceIte,reduceCtorEq,Nat.reduceAdd,Nat.reduceLeDiff,Nat.reduceBEq,Nat.reduceEqDiff,tfb,eq_self, hjt', htk]
      exact ⟨(), trivial⟩
    have hjt' : (j : Int) ≤ (r.length : Int) - 1 := by omega
    have hzr : (p.z.map Zo.c).getD j [] = Zo.c (p.z.getD j default) := Go.E.row_at hjt
    have htu := take_up hjt
    have htl : (p.z.take j).length = j := by rw [List.length_take]; omega
    simp (maxSteps := 4000000) +contextual (disch := first | exact lit_lt rfl | omega | exact qdb_ok (by kernel_rfl) | exact okb_ok (by kernel_rfl)) only [bw1,bw2,bw3,bw4,bw5,bw6,bw7,bc0,bc1,bc2,bc3,bc4,bc5,bc6,setPs,AV.isNilS,AV.isNoRows,wk,binIs,addF,AV.isPtr,idxV,AV.isSl,AV.rows,ps,pv,AV.dl,AV.cells?,AV.menc,AV.one,D.one,Value.oneCell',tagOf,AV.isApp,AV.dcells,D.cells?,↓reduceIte,reduceCtorEq,Nat.reduceAdd,Nat.reduceMul,List.reduceReplicate,Nat.reduceLeDiff,Nat.reduceLT,Nat.reduceBEq,Nat.reduceEqDiff,tfb,rx_n,qd_RX,O12_11,ctz12o,yy12_55_40,eq_self, hjt', hzr, htu, htl]
    exact ⟨⟨by omega, by omega⟩, by omega, by omega, j + 1, ⟨by omega, by omega⟩, rfl, rfl⟩
  intro _ _
  simp (maxSteps := 4000000) +contextual (disch := first | exact lit_lt rfl | omega | exact qdb_ok (by kernel_rfl) | exact okb_ok (by kernel_rfl)) only [bw1,bw2,bw3,bw4,bw5,bw6,bc0,bc2,bc3,bc4,bc5,bc6,bc7,addF,AV.isPtr,AV.isSlice,AV.rows,ps,pv,AV.outs,AV.outF,packD,AV.dl,AV.cells?,AV.menc,AV.one,D.one,Value.oneCell',↓reduceIte,reduceCtorEq,Nat.reduceAdd,Nat.reduceLeDiff,Nat.reduceBEq,Nat.reduceEqDiff,tfb,O12_12,eq_self]
  exact ⟨by rw [py_n he], he.symm⟩
end Go.Proofs.Ytofbbkacihnjdaa.Ic
