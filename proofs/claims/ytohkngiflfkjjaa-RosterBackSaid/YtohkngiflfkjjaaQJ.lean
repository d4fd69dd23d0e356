/- A part of the proof that the last text ends: what functions of the program do, told by plain data. -/
import Derived.Test.YtohkngiflfkjjaaQI
import Derived.Test.YtohkngiflfkjjaaQC
set_option linter.unusedVariables false
set_option linter.unusedSimpArgs false
namespace Go.Proofs.Ytohkngiflfkjjaa
open Go Go.E Go.Maps
set_option maxRecDepth 100000
set_option maxHeartbeats 16000000
/-! ### RosterBack -/
theorem NilRs.app : ∀ {a a' b b' : List (List D)}, NilRs a a' → NilRs b b' → NilRs (a ++ b) (a' ++ b')
  | [], _, _, _, .refl _, k => k
  | x :: a, _, _, _, .refl _, k => .cons (.refl x) (NilRs.app (.refl a) k)
  | _, _, _, _, .cons h h', k => .cons h (NilRs.app h' k)
theorem PFn_arg {P : Program} {f : Nat} {ds ds' : List D} {R : Go.E.End → Prop} (h : NilDs ds ds') (k : PFn P f ds' R) : PFn P f ds R :=
  ⟨k.1, fun F w vs hd => k.2 F w vs (NilDs.reps h hd)⟩
theorem PF_arg {P : Program} {f : Nat} {ds ds' : List D} {R : Go.E.End → Prop} (h : NilDs ds ds') (k : PF P f ds' R) : PF P f ds R :=
  ⟨k.1, fun F w vs hd => k.2 F w vs (NilDs.reps h hd)⟩
def sp12 (args : List AV) (K : AV → List AV → Sto → Prop) (e : List AV) (s : Sto) : Prop :=
  entn (α := List (List D) × List Ev) (fun a => [.sl 5 a.1]) (fun a => NilRs a.1 (a.2.map Ev.c) ∧ ShsOk a.2) (fun a => .tup [.sl 5 ((playR a.2).1.map Mem.c), .i (playR a.2).2.1, .i (playR a.2).2.2]) args K e s
theorem sp12_ok {args : List AV} {K : AV → List AV → Sto → Prop} {Q : Kt} {e : List AV} {s : Sto} (h : sp12 args K e s) : pcall Try.prog 12 args K Q e s :=
  entn_ok (fun a h => PFn_arg (.cons (.sl h.1) (.refl _)) (pf12 a.2 h.2)) h
def sp17 (args : List AV) (K : AV → List AV → Sto → Prop) (e : List AV) (s : Sto) : Prop :=
  ent (α := List (List D) × List Ev × Int) (fun a => [.sl 5 a.1, .i a.2.2]) (fun a => NilRs a.1 (a.2.1.map Ev.c) ∧ ShsOk a.2.1 ∧ i64 a.2.2) (fun a => .tup [.i (backR a.2.1 a.2.2).1.1, .i (backR a.2.1 a.2.2).1.2, .i (backR a.2.1 a.2.2).2]) args K e s
theorem sp17_ok {args : List AV} {K : AV → List AV → Sto → Prop} {Q : Kt} {e : List AV} {s : Sto} (h : sp17 args K e s) : pcall Try.prog 17 args K Q e s :=
  ent_ok (fun a h => PF_arg (.cons (.sl h.1) (.refl _)) (pf17 a.2.1 a.2.2 h.2)) h
theorem back_err {l : List Ev} {p : Int} (h : (runR l).2.2 ≠ 0) : backR l p = ((0, 0), (runR l).2.2) := by unfold backR; rw [if_neg h]
theorem back_no {l : List Ev} {p : Int} (h : (runR l).2.2 = 0) (hm : mo (runR l).1 p = none) : backR l p = ((0, 0), 4) := by
  unfold backR; rw [if_pos h, if_pos (by rw [mo_nf hm]; omega)]
theorem back_is {l : List Ev} {p : Int} {m : Mem} (h : (runR l).2.2 = 0) (hm : mo (runR l).1 p = some m) : backR l p = (backM m, 0) := by
  obtain ⟨j, hj, h1, h2, _⟩ := mo_fnd hm
  unfold backR; rw [if_pos h, if_neg (by omega), h1, Int.toNat_natCast, h2]
theorem shs_app {l r : List Ev} (h : ShsOk l) (hr : r.length ≤ 50) (h0 : ∀ x ∈ r, x.sheet.length ≤ 100) (hl : l.length ≤ 1000 := by omega) : ShsOk (l ++ r) := by
  refine ⟨by rw [List.length_append]; omega, fun x hx => ?_⟩
  rcases List.mem_append.1 hx with hx | hx
  · exact h.2 x hx
  · have := h0 x hx; omega
def psN (p d : Int) (q : Nat) : List (List D) := (List.range q).map fun i : Nat => evN (d + (i : Int) + 1) 4 p 0
def msN (c d : Int) (q : Nat) : List (List D) := (List.range q).map fun i : Nat => evN (d + (i : Int) + 1) 6 0 c
theorem psN_succ {p d : Int} {q : Nat} : psN p d (q + 1) = psN p d q ++ [evN (d + (q : Int) + 1) 4 p 0] := by
  unfold psN; rw [List.range_succ, List.map_append]; rfl
theorem msN_succ {c d : Int} {q : Nat} : msN c d (q + 1) = msN c d q ++ [evN (d + (q : Int) + 1) 6 0 c] := by
  unfold msN; rw [List.range_succ, List.map_append]; rfl
theorem psN_len {p d : Int} {q : Nat} : (psN p d q).length = q := by simp [psN]
theorem msN_len {c d : Int} {q : Nat} : (msN c d q).length = q := by simp [msN]
theorem psN_deep {p d : Int} : ∀ {q : Nat}, NilRs (psN p d q) ((psE p d q).map Ev.c)
  | 0 => .refl _
  | q + 1 => by rw [psN_succ, psE_succ, List.map_append]; exact NilRs.app psN_deep (.cons evN_deep (.refl _))
theorem msN_deep {c d : Int} : ∀ {q : Nat}, NilRs (msN c d q) ((msE c d q).map Ev.c)
  | 0 => .refl _
  | q + 1 => by rw [msN_succ, msE_succ, List.map_append]; exact NilRs.app msN_deep (.cons evN_deep (.refl _))
theorem backM_1 {m : Mem} (z : m.stage = 0) : backM m = (m.ban, 0) := by unfold backM; rw [if_pos z]
theorem backM_2 {m : Mem} (z : ¬ m.stage = 0) : backM m = (m.ban, m.since + 6 - m.stage + 1) := by unfold backM; rw [if_neg z]
def O8 : Nat → Sch := fun id => .done
theorem ho8 : Try.f8.body.map (okO O8) = some true := by kernel_rfl
def Cf8 : Nat → List AV → (AV → List AV → Sto → Prop) → Kt → List AV → Sto → Prop := fun f args K Q e s => match f with
  | 12 => sp12 args K e s
  | 17 => sp17 args K e s
  | 18 => ent18 args K e s
  | 19 => ent19 args K e s
  | _ => False
def Ct8 : CT := { f := Cf8, y := noYld, z := fun d => false }
theorem ctz8 {d : Nat} : CT.z Ct8 d = (false) := id rfl
theorem Ct8_ok : Ct8.ok Try.prog := ok_of_f (fun f args K Q e s h => by
  have h : Cf8 f args K Q e s := h
  unfold Cf8 at h; split at h
  · exact sp12_ok h
  · exact sp17_ok h
  · exact ent18_ok h
  · exact ent19_ok h
  · exact h.elim) (fun _ _ _ _ _ _ _ _ _ h => h)
theorem x8_18 {l : List Ev} {m : Int} {KK : AV → List AV → Sto → Prop} {QQ : Kt} {ii : At KK} {jj : At QQ} {ee : List AV} {ss : Sto} : xC Ct8 18 [.d (.sl 5 (l.map Ev.c)), .d (.i m)] KK QQ ii jj ee ss = (KK (.d (.b (manyB l m))) ee ss) := eq18
theorem x8_18_m1 {l : List Ev} {m : Int} {g1 el1 : Nat} {KK : AV → List AV → Sto → Prop} {QQ : Kt} {ii : At KK} {jj : At QQ} {ee : List AV} {ss : Sto} : xC Ct8 18 [.own g1 el1 5 (l.map Ev.c), .d (.i m)] KK QQ ii jj ee ss = ((.b (manyB l m) : D).flat = true ∧ KK (.d (.b (manyB l m))) ee ss) := eqo18
theorem x8_19  {KK : AV → List AV → Sto → Prop} {QQ : Kt} {ii : At KK} {jj : At QQ} {ee : List AV} {ss : Sto} : xC Ct8 19 [] KK QQ ii jj ee ss = (KK (.d (.b true)) ee ss) := eq19
theorem c8 : callable Try.prog 8 = true := by kernel_rfl
theorem pf8 (l : List Ev) (p : Int) (h : i64 p) : PF Try.prog 8 [.sl 5 (l.map Ev.c), .i p] (fun zz => zz = .ret (.b true)) := by
  have hp64 := h
  by_cases c : manyB l 60 = true
  · refine PF_nil (PF_start (O := O8) Ct8_ok hmix ho8 Try.func8 c8 rfl Try.ntmps8 Try.results8 ?_)
    simp (maxSteps := 4000000) +contextual (disch := first | omega | exact qdb_ok (by kernel_rfl) | exact okb_ok (by kernel_rfl)) only [bw1,bw2,bw3,bw4,bw5,bw6,bw7,bc0,bc1,bc2,bc3,bc4,bc5,bc6,bc7,bb0,setPs,AV.owns,AV.datF,AV.frz,AV.cpy,ifV,isEqB,nilV,nilX,AV.isNilS,AV.isNoRows,wk,dclo,datOf,binIs,addF,AV.isPtr,idxV,AV.isSl,AV.isSlice,AV.rows,ps,pv,extV,extS,AV.outs,AV.outF,packD,AV.dl,fieldV,fieldS,AV.cells?,AV.upr,AV.menc,AV.one,D.one,Value.oneCell',tagOf,AV.isApp,strV,strS,bolV,bolS,slcV,AV.isSlD,asrtS,AV.dcells,D.cells?,stcV,stcS,leafOk,eqDs,eqD,packA,D.val?,↓reduceIte,reduceCtorEq,Nat.reduceAdd,Nat.reduceSub,Nat.reduceMul,List.reduceReplicate,Nat.reduceLeDiff,Nat.reduceLT,Nat.reduceBEq,Nat.reduceEqDiff,Int.reduceNeg,Int.reduceEq,Int.reduceLE,Int.reduceLT,tfb,ctz8,x8_18,x8_18_m1,x8_19,c]
  obtain ⟨hl, hl2, hsh, h60⟩ := many_no c
  have hx12 : ∀ {args : List AV} {KK : AV → List AV → Sto → Prop} {QQ : Kt} {ii : At KK} {jj : At QQ} {ee : List AV} {ss : Sto}, xC Ct8 12 args KK QQ ii jj ee ss = sp12 args KK ee ss := id rfl
  have hx17 : ∀ {args : List AV} {KK : AV → List AV → Sto → Prop} {QQ : Kt} {ii : At KK} {jj : At QQ} {ee : List AV} {ss : Sto}, xC Ct8 17 args KK QQ ii jj ee ss = sp17 args KK ee ss := id rfl
  by_cases he : (runR l).2.2 = 0
  case neg =>
    have hp := play_err he
    have hb := back_err (p := p) he
    have heb : ((runR l).2.2 != 0) = true := by simpa using he
    refine PF_nil (PF_start (O := O8) Ct8_ok hmix ho8 Try.func8 c8 rfl Try.ntmps8 Try.results8 ?_)
    simp (maxSteps := 4000000) +contextual (disch := first | omega | exact qdb_ok (by kernel_rfl) | exact okb_ok (by kernel_rfl)) only [bw1,bw2,bw3,bw4,bw5,bw6,bw7,bc0,bc1,bc2,bc3,bc4,bc5,bc6,bc7,bb0,setPs,AV.owns,AV.datF,AV.frz,AV.cpy,ifV,isEqB,nilV,nilX,AV.isNilS,AV.isNoRows,wk,dclo,datOf,binIs,addF,AV.isPtr,idxV,AV.isSl,AV.isSlice,AV.rows,ps,pv,extV,extS,AV.outs,AV.outF,packD,AV.dl,fieldV,fieldS,AV.cells?,AV.upr,AV.menc,AV.one,D.one,Value.oneCell',tagOf,AV.isApp,strV,strS,bolV,bolS,slcV,AV.isSlD,asrtS,AV.dcells,D.cells?,stcV,stcS,leafOk,eqDs,eqD,packA,D.val?,↓reduceIte,reduceCtorEq,Nat.reduceAdd,Nat.reduceSub,Nat.reduceMul,List.reduceReplicate,Nat.reduceLeDiff,Nat.reduceLT,Nat.reduceBEq,Nat.reduceEqDiff,Int.reduceNeg,Int.reduceEq,Int.reduceLE,Int.reduceLT,tfb,ctz8,x8_18,x8_18_m1,x8_19,c, hx17]
    refine ⟨(l.map Ev.c, l, p), rfl, ⟨.refl _, hl, hp64⟩, .inl rfl, ?_⟩
    simp (maxSteps := 4000000) +contextual (disch := first | omega | exact qdb_ok (by kernel_rfl) | exact okb_ok (by kernel_rfl)) only [bw1,bw2,bw3,bw4,bw5,bw6,bw7,bc0,bc1,bc2,bc3,bc4,bc5,bc6,bc7,bb0,setPs,AV.owns,AV.datF,AV.frz,AV.cpy,ifV,isEqB,nilV,nilX,AV.isNilS,AV.isNoRows,wk,dclo,datOf,binIs,addF,AV.isPtr,idxV,AV.isSl,AV.isSlice,AV.rows,ps,pv,extV,extS,AV.outs,AV.outF,packD,AV.dl,fieldV,fieldS,AV.cells?,AV.upr,AV.menc,AV.one,D.one,Value.oneCell',tagOf,AV.isApp,strV,strS,bolV,bolS,slcV,AV.isSlD,asrtS,AV.dcells,D.cells?,stcV,stcS,leafOk,eqDs,eqD,packA,D.val?,↓reduceIte,reduceCtorEq,Nat.reduceAdd,Nat.reduceSub,Nat.reduceMul,List.reduceReplicate,Nat.reduceLeDiff,Nat.reduceLT,Nat.reduceBEq,Nat.reduceEqDiff,Int.reduceNeg,Int.reduceEq,Int.reduceLE,Int.reduceLT,tfb,ctz8,x8_18,x8_18_m1,x8_19,hx12, hb]
    refine ⟨(l.map Ev.c, l), rfl, ⟨.refl _, hl⟩, ?_⟩
    simp (maxSteps := 4000000) +contextual (disch := first | omega | exact qdb_ok (by kernel_rfl) | exact okb_ok (by kernel_rfl)) only [bw1,bw2,bw3,bw4,bw5,bw6,bw7,bc0,bc1,bc2,bc3,bc4,bc5,bc6,bc7,bb0,setPs,AV.owns,AV.datF,AV.frz,AV.cpy,ifV,isEqB,nilV,nilX,AV.isNilS,AV.isNoRows,wk,dclo,datOf,binIs,addF,AV.isPtr,idxV,AV.isSl,AV.isSlice,AV.rows,ps,pv,extV,extS,AV.outs,AV.outF,packD,AV.dl,fieldV,fieldS,AV.cells?,AV.upr,AV.menc,AV.one,D.one,Value.oneCell',tagOf,AV.isApp,strV,strS,bolV,bolS,slcV,AV.isSlD,asrtS,AV.dcells,D.cells?,stcV,stcS,leafOk,eqDs,eqD,packA,D.val?,↓reduceIte,reduceCtorEq,Nat.reduceAdd,Nat.reduceSub,Nat.reduceMul,List.reduceReplicate,Nat.reduceLeDiff,Nat.reduceLT,Nat.reduceBEq,Nat.reduceEqDiff,Int.reduceNeg,Int.reduceEq,Int.reduceLE,Int.reduceLT,tfb,ctz8,x8_18,x8_18_m1,x8_19,hp, heb, eq_self]
  have hp := play_ok he
  have hG := good_of he
  cases hm : mo (runR l).1 p with
  | none =>
    have hb := back_no he hm
    refine PF_nil (PF_start (O := O8) Ct8_ok hmix ho8 Try.func8 c8 rfl Try.ntmps8 Try.results8 ?_)
    simp (maxSteps := 4000000) +contextual (disch := first | omega | exact qdb_ok (by kernel_rfl) | exact okb_ok (by kernel_rfl)) only [bw1,bw2,bw3,bw4,bw5,bw6,bw7,bc0,bc1,bc2,bc3,bc4,bc5,bc6,bc7,bb0,setPs,AV.owns,AV.datF,AV.frz,AV.cpy,ifV,isEqB,nilV,nilX,AV.isNilS,AV.isNoRows,wk,dclo,datOf,binIs,addF,AV.isPtr,idxV,AV.isSl,AV.isSlice,AV.rows,ps,pv,extV,extS,AV.outs,AV.outF,packD,AV.dl,fieldV,fieldS,AV.cells?,AV.upr,AV.menc,AV.one,D.one,Value.oneCell',tagOf,AV.isApp,strV,strS,bolV,bolS,slcV,AV.isSlD,asrtS,AV.dcells,D.cells?,stcV,stcS,leafOk,eqDs,eqD,packA,D.val?,↓reduceIte,reduceCtorEq,Nat.reduceAdd,Nat.reduceSub,Nat.reduceMul,List.reduceReplicate,Nat.reduceLeDiff,Nat.reduceLT,Nat.reduceBEq,Nat.reduceEqDiff,Int.reduceNeg,Int.reduceEq,Int.reduceLE,Int.reduceLT,tfb,ctz8,x8_18,x8_18_m1,x8_19,c, hx17]
    refine ⟨(l.map Ev.c, l, p), rfl, ⟨.refl _, hl, hp64⟩, .inl rfl, ?_⟩
    simp (maxSteps := 4000000) +contextual (disch := first | omega | exact qdb_ok (by kernel_rfl) | exact okb_ok (by kernel_rfl)) only [bw1,bw2,bw3,bw4,bw5,bw6,bw7,bc0,bc1,bc2,bc3,bc4,bc5,bc6,bc7,bb0,setPs,AV.owns,AV.datF,AV.frz,AV.cpy,ifV,isEqB,nilV,nilX,AV.isNilS,AV.isNoRows,wk,dclo,datOf,binIs,addF,AV.isPtr,idxV,AV.isSl,AV.isSlice,AV.rows,ps,pv,extV,extS,AV.outs,AV.outF,packD,AV.dl,fieldV,fieldS,AV.cells?,AV.upr,AV.menc,AV.one,D.one,Value.oneCell',tagOf,AV.isApp,strV,strS,bolV,bolS,slcV,AV.isSlD,asrtS,AV.dcells,D.cells?,stcV,stcS,leafOk,eqDs,eqD,packA,D.val?,↓reduceIte,reduceCtorEq,Nat.reduceAdd,Nat.reduceSub,Nat.reduceMul,List.reduceReplicate,Nat.reduceLeDiff,Nat.reduceLT,Nat.reduceBEq,Nat.reduceEqDiff,Int.reduceNeg,Int.reduceEq,Int.reduceLE,Int.reduceLT,tfb,ctz8,x8_18,x8_18_m1,x8_19,hx12, hb]
    refine ⟨(l.map Ev.c, l), rfl, ⟨.refl _, hl⟩, ?_⟩
    simp (maxSteps := 4000000) +contextual (disch := first | omega | exact qdb_ok (by kernel_rfl) | exact okb_ok (by kernel_rfl)) only [bw1,bw2,bw3,bw4,bw5,bw6,bw7,bc0,bc1,bc2,bc3,bc4,bc5,bc6,bc7,bb0,setPs,AV.owns,AV.datF,AV.frz,AV.cpy,ifV,isEqB,nilV,nilX,AV.isNilS,AV.isNoRows,wk,dclo,datOf,binIs,addF,AV.isPtr,idxV,AV.isSl,AV.isSlice,AV.rows,ps,pv,extV,extS,AV.outs,AV.outF,packD,AV.dl,fieldV,fieldS,AV.cells?,AV.upr,AV.menc,AV.one,D.one,Value.oneCell',tagOf,AV.isApp,strV,strS,bolV,bolS,slcV,AV.isSlD,asrtS,AV.dcells,D.cells?,stcV,stcS,leafOk,eqDs,eqD,packA,D.val?,↓reduceIte,reduceCtorEq,Nat.reduceAdd,Nat.reduceSub,Nat.reduceMul,List.reduceReplicate,Nat.reduceLeDiff,Nat.reduceLT,Nat.reduceBEq,Nat.reduceEqDiff,Int.reduceNeg,Int.reduceEq,Int.reduceLE,Int.reduceLT,tfb,ctz8,x8_18,x8_18_m1,x8_19,hp, eq_self, Int.reduceBNe, Int.reduceBEq]
  | some m =>
  have hb := back_is he hm
  have hle := hG.le
  have hl60 : l.length ≤ 60 := by omega
  obtain ⟨j0, hj0, _, hj1, hj2⟩ := mo_fnd hm
  have hmem : m ∈ (runR l).1.mem := by rw [← hj1, at_lt hj0]; exact List.getElem_mem _
  have hmo := (hG.inv hl.2).2.1 m hmem
  have hmr := hG.rng m hmem
  unfold MOk at hmo
  have hrl : (runR l).1.mem.length ≤ 256 := by have := (hG.inv hl.2).1.1; omega
  have hfp : ∀ k, k < (runR l).1.mem.length → (((runR l).1.mem.getD k default).person = p ↔ k = j0) := fun k hk => by
    constructor
    · intro h1
      have hnd := srt_nd hG.srt
      refine (List.getElem?_inj (l := (runR l).1.mem.map (·.person)) (by simpa using hk) hnd).1 ?_
      rw [at_lt hk] at h1
      rw [at_lt hj0] at hj1
      rw [List.getElem?_map, List.getElem?_map, List.getElem?_eq_getElem hk, List.getElem?_eq_getElem hj0, hj1]
      simp [h1, hj2]
    · rintro rfl; rw [hj1]; exact hj2
  obtain ⟨fb, hfb⟩ : ∃ fb : Nat → Bool, ∀ k, fb k = decide (j0 < k) := ⟨_, fun _ => rfl⟩
  obtain ⟨fc, hfc⟩ : ∃ fc : Nat → List AV, ∀ k, fc k = if j0 < k then m.c.map .d else [.d (.i 0), .d (.i 0), .d (.i 0), .d (.i 0), .d (.i 0)] := ⟨_, fun _ => rfl⟩
  have hg64 : m.ban = m.ban := rfl
  have hzz : (m.stage == 0) = decide (m.stage = 0) := rfl
  have hdd : ∃ dy : Int, backM m = (m.ban, dy) ∧ 0 ≤ dy ∧ ((dy == 0) = decide (m.stage = 0)) ∧ (m.stage ≠ 0 → dy = m.since + 6 - m.stage + 1) ∧ (m.stage = 0 → dy = 0) := by
    by_cases z : m.stage = 0
    · exact ⟨0, backM_1 z, Int.le_refl _, by simp [z], fun h => absurd z h, fun _ => rfl⟩
    · exact ⟨_, backM_2 z, by omega, by rw [decide_eq_false z]; exact beq_false_of_ne (by omega), fun _ => rfl, fun h => absurd h z⟩
  obtain ⟨dy, hdy, hd0, hdz, hdn, hds⟩ := hdd
  rw [hdy] at hb
  have hb0 : ¬ m.ban < 0 := by omega
  have hd0' : ¬ dy < 0 := by omega
  refine PF_nil (PF_start (O := O8) Ct8_ok hmix ho8 Try.func8 c8 rfl Try.ntmps8 Try.results8 ?_)
  simp (maxSteps := 4000000) +contextual (disch := first | omega | exact qdb_ok (by kernel_rfl) | exact okb_ok (by kernel_rfl)) only [bw1,bw2,bw3,bw4,bw5,bw6,bw7,bc0,bc1,bc2,bc3,bc4,bc5,bc6,bc7,bb0,setPs,AV.owns,AV.datF,AV.frz,AV.cpy,ifV,isEqB,nilV,nilX,AV.isNilS,AV.isNoRows,wk,dclo,datOf,binIs,addF,AV.isPtr,idxV,AV.isSl,AV.isSlice,AV.rows,ps,pv,extV,extS,AV.outs,AV.outF,packD,AV.dl,fieldV,fieldS,AV.cells?,AV.upr,AV.menc,AV.one,D.one,Value.oneCell',tagOf,AV.isApp,strV,strS,bolV,bolS,slcV,AV.isSlD,asrtS,AV.dcells,D.cells?,stcV,stcS,leafOk,eqDs,eqD,packA,D.val?,↓reduceIte,reduceCtorEq,Nat.reduceAdd,Nat.reduceSub,Nat.reduceMul,List.reduceReplicate,Nat.reduceLeDiff,Nat.reduceLT,Nat.reduceBEq,Nat.reduceEqDiff,Int.reduceNeg,Int.reduceEq,Int.reduceLE,Int.reduceLT,tfb,ctz8,x8_18,x8_18_m1,x8_19,c, hx17]
  refine ⟨(l.map Ev.c, l, p), rfl, ⟨.refl _, hl, hp64⟩, .inl rfl, ?_⟩
  simp (maxSteps := 4000000) +contextual (disch := first | omega | exact qdb_ok (by kernel_rfl) | exact okb_ok (by kernel_rfl)) only [bw1,bw2,bw3,bw4,bw5,bw6,bw7,bc0,bc1,bc2,bc3,bc4,bc5,bc6,bc7,bb0,setPs,AV.owns,AV.datF,AV.frz,AV.cpy,ifV,isEqB,nilV,nilX,AV.isNilS,AV.isNoRows,wk,dclo,datOf,binIs,addF,AV.isPtr,idxV,AV.isSl,AV.isSlice,AV.rows,ps,pv,extV,extS,AV.outs,AV.outF,packD,AV.dl,fieldV,fieldS,AV.cells?,AV.upr,AV.menc,AV.one,D.one,Value.oneCell',tagOf,AV.isApp,strV,strS,bolV,bolS,slcV,AV.isSlD,asrtS,AV.dcells,D.cells?,stcV,stcS,leafOk,eqDs,eqD,packA,D.val?,↓reduceIte,reduceCtorEq,Nat.reduceAdd,Nat.reduceSub,Nat.reduceMul,List.reduceReplicate,Nat.reduceLeDiff,Nat.reduceLT,Nat.reduceBEq,Nat.reduceEqDiff,Int.reduceNeg,Int.reduceEq,Int.reduceLE,Int.reduceLT,tfb,ctz8,x8_18,x8_18_m1,x8_19,hx12, hb]
  refine ⟨(l.map Ev.c, l), rfl, ⟨.refl _, hl⟩, ?_⟩
  simp (maxSteps := 4000000) +contextual (disch := first | omega | exact qdb_ok (by kernel_rfl) | exact okb_ok (by kernel_rfl)) only [bw1,bw2,bw3,bw4,bw5,bw6,bw7,bc0,bc1,bc2,bc3,bc4,bc5,bc6,bc7,bb0,setPs,AV.owns,AV.datF,AV.frz,AV.cpy,ifV,isEqB,nilV,nilX,AV.isNilS,AV.isNoRows,wk,dclo,datOf,binIs,addF,AV.isPtr,idxV,AV.isSl,AV.isSlice,AV.rows,ps,pv,extV,extS,AV.outs,AV.outF,packD,AV.dl,fieldV,fieldS,AV.cells?,AV.upr,AV.menc,AV.one,D.one,Value.oneCell',tagOf,AV.isApp,strV,strS,bolV,bolS,slcV,AV.isSlD,asrtS,AV.dcells,D.cells?,stcV,stcS,leafOk,eqDs,eqD,packA,D.val?,↓reduceIte,reduceCtorEq,Nat.reduceAdd,Nat.reduceSub,Nat.reduceMul,List.reduceReplicate,Nat.reduceLeDiff,Nat.reduceLT,Nat.reduceBEq,Nat.reduceEqDiff,Int.reduceNeg,Int.reduceEq,Int.reduceLE,Int.reduceLT,tfb,ctz8,x8_18,x8_18_m1,x8_19,hp, eq_self, Int.reduceBNe, Int.reduceBEq, hb0, hd0']
  generalize hMM : (runR l).1.mem = M at hfp hj0 hj1 hrl
  refine loop_u (O := O8) (tb := 0) Ct8_ok hmix (by kernel_rfl) (σ := Nat) (fun k => [(12, .b (fb k)), (13, .i k)]) (fun k => [(12, fc k)]) (fun k => k ≤ M.length) (fun k => M.length - k) (fun k => k + 1) 0 (Nat.zero_le _) ?_ ?_
  · have e1 := hfb 0
    have e2 := hfc 0
    rw [decide_eq_false (by omega)] at e1
    rw [if_neg (by omega)] at e2
    simp (maxSteps := 4000000) +contextual (disch := first | omega | exact qdb_ok (by kernel_rfl) | exact okb_ok (by kernel_rfl)) only [bw1,bw2,bw3,bw4,bw5,bw6,bw7,bc0,bc1,bc2,bc3,bc4,bc5,bc6,bc7,bb0,setPs,AV.owns,AV.datF,AV.frz,AV.cpy,ifV,isEqB,nilV,nilX,AV.isNilS,AV.isNoRows,wk,dclo,datOf,binIs,addF,AV.isPtr,idxV,AV.isSl,AV.isSlice,AV.rows,ps,pv,extV,extS,AV.outs,AV.outF,packD,AV.dl,fieldV,fieldS,AV.cells?,AV.upr,AV.menc,AV.one,D.one,Value.oneCell',tagOf,AV.isApp,strV,strS,bolV,bolS,slcV,AV.isSlD,asrtS,AV.dcells,D.cells?,stcV,stcS,leafOk,eqDs,eqD,packA,D.val?,↓reduceIte,reduceCtorEq,Nat.reduceAdd,Nat.reduceSub,Nat.reduceMul,List.reduceReplicate,Nat.reduceLeDiff,Nat.reduceLT,Nat.reduceBEq,Nat.reduceEqDiff,Int.reduceNeg,Int.reduceEq,Int.reduceLE,Int.reduceLT,tfb,ctz8,x8_18,x8_18_m1,x8_19,eq_self, e1, e2]
  intro k hk
  by_cases hlt : k < M.length
  · have hlt' : (k : Int) < M.length := by omega
    by_cases hkj : k = j0
    · have hpb : (m.person == p) = true := by simpa using hj2
      have hmk : M.getD k default = m := by rw [hkj]; exact hj1
      have e1 := hfb (k + 1)
      have e2 := hfc (k + 1)
      have e3 := hfc k
      rw [decide_eq_true (by omega)] at e1
      rw [if_pos (by omega)] at e2
      rw [if_neg (by omega)] at e3
      simp (maxSteps := 4000000) +contextual (disch := first | omega | exact qdb_ok (by kernel_rfl) | exact okb_ok (by kernel_rfl)) only [bw1,bw2,bw3,bw4,bw5,bw6,bw7,bc0,bc1,bc2,bc3,bc4,bc5,bc6,bc7,bb0,setPs,AV.owns,AV.datF,AV.frz,AV.cpy,ifV,isEqB,nilV,nilX,AV.isNilS,AV.isNoRows,wk,dclo,datOf,binIs,addF,AV.isPtr,idxV,AV.isSl,AV.isSlice,AV.rows,ps,pv,extV,extS,AV.outs,AV.outF,packD,AV.dl,fieldV,fieldS,AV.cells?,AV.upr,AV.menc,AV.one,D.one,Value.oneCell',tagOf,AV.isApp,strV,strS,bolV,bolS,slcV,AV.isSlD,asrtS,AV.dcells,D.cells?,stcV,stcS,leafOk,eqDs,eqD,packA,D.val?,↓reduceIte,reduceCtorEq,Nat.reduceAdd,Nat.reduceSub,Nat.reduceMul,List.reduceReplicate,Nat.reduceLeDiff,Nat.reduceLT,Nat.reduceBEq,Nat.reduceEqDiff,Int.reduceNeg,Int.reduceEq,Int.reduceLE,Int.reduceLT,tfb,ctz8,x8_18,x8_18_m1,x8_19,eq_self, hlt', hpb, e1, e2, e3, hmk]
      exact ⟨by omega, by omega, by omega⟩
    · have hpb : ((M.getD k default).person == p) = false := by
        have := fun h => hkj ((hfp k hlt).1 h)
        simpa using this
      have e1 : fb (k + 1) = fb k := by rw [hfb, hfb]; congr 1; exact propext (by omega)
      have e2 : fc (k + 1) = fc k := by
        rw [hfc, hfc]
        by_cases q : j0 < k
        · rw [if_pos q, if_pos (by omega)]
        · rw [if_neg q, if_neg (by omega)]
      simp (maxSteps := 4000000) +contextual (disch := first | omega | exact qdb_ok (by kernel_rfl) | exact okb_ok (by kernel_rfl)) only [bw1,bw2,bw3,bw4,bw5,bw6,bw7,bc0,bc1,bc2,bc3,bc4,bc5,bc6,bc7,bb0,setPs,AV.owns,AV.datF,AV.frz,AV.cpy,ifV,isEqB,nilV,nilX,AV.isNilS,AV.isNoRows,wk,dclo,datOf,binIs,addF,AV.isPtr,idxV,AV.isSl,AV.isSlice,AV.rows,ps,pv,extV,extS,AV.outs,AV.outF,packD,AV.dl,fieldV,fieldS,AV.cells?,AV.upr,AV.menc,AV.one,D.one,Value.oneCell',tagOf,AV.isApp,strV,strS,bolV,bolS,slcV,AV.isSlD,asrtS,AV.dcells,D.cells?,stcV,stcS,leafOk,eqDs,eqD,packA,D.val?,↓reduceIte,reduceCtorEq,Nat.reduceAdd,Nat.reduceSub,Nat.reduceMul,List.reduceReplicate,Nat.reduceLeDiff,Nat.reduceLT,Nat.reduceBEq,Nat.reduceEqDiff,Int.reduceNeg,Int.reduceEq,Int.reduceLE,Int.reduceLT,tfb,ctz8,x8_18,x8_18_m1,x8_19,eq_self, hlt', hpb, e1, e2]
      exact ⟨by omega, ⟨by omega, by omega⟩, wk_ents _⟩
  have hlt' : ¬ (k : Int) < M.length := by omega
  obtain rfl : k = M.length := by omega
  have e1 := hfb M.length
  have e2 := hfc M.length
  rw [decide_eq_true hj0] at e1
  rw [if_pos hj0] at e2
  have hbb : (m.ban != m.ban) = false := by simp
  have hsd : ((decide (m.stage = 0)) != (decide (m.stage = 0))) = false := by simp
  have hl0 : 0 < l.length := by
    refine Nat.pos_of_ne_zero fun h0 => ?_
    have := (hG.inv hl.2).1.1
    rw [hMM] at this
    omega
  have hl0' : (0 : Int) < l.length := by omega
  have hl1 : (l.length : Int) - 1 = ((l.length - 1 : Nat) : Int) := by omega
  have hlast : (l.getD (l.length - 1) default).day = lastD l := by unfold lastD; rw [if_pos hl0]
  have hld := hG.last0
  have hbb2 : m.ban ≤ 20 * (l.length : Int) := hmo.1.2
  by_cases q1 : 0 < dy
  case neg =>
    by_cases g1 : m.ban = 0
    · have g1b : (m.ban == 0) = true := by simpa using g1
      simp (maxSteps := 4000000) +contextual (disch := first | omega | exact qdb_ok (by kernel_rfl) | exact okb_ok (by kernel_rfl)) only [bw1,bw2,bw3,bw4,bw5,bw6,bw7,bc0,bc1,bc2,bc3,bc4,bc5,bc6,bc7,bb0,setPs,AV.owns,AV.datF,AV.frz,AV.cpy,ifV,isEqB,nilV,nilX,AV.isNilS,AV.isNoRows,wk,dclo,datOf,binIs,addF,AV.isPtr,idxV,AV.isSl,AV.isSlice,AV.rows,ps,pv,extV,extS,AV.outs,AV.outF,packD,AV.dl,fieldV,fieldS,AV.cells?,AV.upr,AV.menc,AV.one,D.one,Value.oneCell',tagOf,AV.isApp,strV,strS,bolV,bolS,slcV,AV.isSlD,asrtS,AV.dcells,D.cells?,stcV,stcS,leafOk,eqDs,eqD,packA,D.val?,↓reduceIte,reduceCtorEq,Nat.reduceAdd,Nat.reduceSub,Nat.reduceMul,List.reduceReplicate,Nat.reduceLeDiff,Nat.reduceLT,Nat.reduceBEq,Nat.reduceEqDiff,Int.reduceNeg,Int.reduceEq,Int.reduceLE,Int.reduceLT,tfb,ctz8,x8_18,x8_18_m1,x8_19,eq_self, g1b, Int.lt_irrefl, e1, e2, hbb, hdz, hzz, hsd, hl0', hl1, hlast, q1]
      all_goals omega
    have g1b : (m.ban == 0) = false := by simpa using g1
    by_cases g2 : 40 < m.ban
    · simp (maxSteps := 4000000) +contextual (disch := first | omega | exact qdb_ok (by kernel_rfl) | exact okb_ok (by kernel_rfl)) only [bw1,bw2,bw3,bw4,bw5,bw6,bw7,bc0,bc1,bc2,bc3,bc4,bc5,bc6,bc7,bb0,setPs,AV.owns,AV.datF,AV.frz,AV.cpy,ifV,isEqB,nilV,nilX,AV.isNilS,AV.isNoRows,wk,dclo,datOf,binIs,addF,AV.isPtr,idxV,AV.isSl,AV.isSlice,AV.rows,ps,pv,extV,extS,AV.outs,AV.outF,packD,AV.dl,fieldV,fieldS,AV.cells?,AV.upr,AV.menc,AV.one,D.one,Value.oneCell',tagOf,AV.isApp,strV,strS,bolV,bolS,slcV,AV.isSlD,asrtS,AV.dcells,D.cells?,stcV,stcS,leafOk,eqDs,eqD,packA,D.val?,↓reduceIte,reduceCtorEq,Nat.reduceAdd,Nat.reduceSub,Nat.reduceMul,List.reduceReplicate,Nat.reduceLeDiff,Nat.reduceLT,Nat.reduceBEq,Nat.reduceEqDiff,Int.reduceNeg,Int.reduceEq,Int.reduceLE,Int.reduceLT,tfb,ctz8,x8_18,x8_18_m1,x8_19,eq_self, g1b, g2, Int.lt_irrefl, e1, e2, hbb, hdz, hzz, hsd, hl0', hl1, hlast, q1]
      all_goals omega
    by_cases g3 : 16384 < lastD l + m.ban
    · simp (maxSteps := 4000000) +contextual (disch := first | omega | exact qdb_ok (by kernel_rfl) | exact okb_ok (by kernel_rfl)) only [bw1,bw2,bw3,bw4,bw5,bw6,bw7,bc0,bc1,bc2,bc3,bc4,bc5,bc6,bc7,bb0,setPs,AV.owns,AV.datF,AV.frz,AV.cpy,ifV,isEqB,nilV,nilX,AV.isNilS,AV.isNoRows,wk,dclo,datOf,binIs,addF,AV.isPtr,idxV,AV.isSl,AV.isSlice,AV.rows,ps,pv,extV,extS,AV.outs,AV.outF,packD,AV.dl,fieldV,fieldS,AV.cells?,AV.upr,AV.menc,AV.one,D.one,Value.oneCell',tagOf,AV.isApp,strV,strS,bolV,bolS,slcV,AV.isSlD,asrtS,AV.dcells,D.cells?,stcV,stcS,leafOk,eqDs,eqD,packA,D.val?,↓reduceIte,reduceCtorEq,Nat.reduceAdd,Nat.reduceSub,Nat.reduceMul,List.reduceReplicate,Nat.reduceLeDiff,Nat.reduceLT,Nat.reduceBEq,Nat.reduceEqDiff,Int.reduceNeg,Int.reduceEq,Int.reduceLE,Int.reduceLT,tfb,ctz8,x8_18,x8_18_m1,x8_19,eq_self, g1b, g2, g3, Int.lt_irrefl, e1, e2, hbb, hdz, hzz, hsd, hl0', hl1, hlast, q1]
      all_goals omega
    simp (maxSteps := 4000000) +contextual (disch := first | omega | exact qdb_ok (by kernel_rfl) | exact okb_ok (by kernel_rfl)) only [bw1,bw2,bw3,bw4,bw5,bw6,bw7,bc0,bc1,bc2,bc3,bc4,bc5,bc6,bc7,bb0,setPs,AV.owns,AV.datF,AV.frz,AV.cpy,ifV,isEqB,nilV,nilX,AV.isNilS,AV.isNoRows,wk,dclo,datOf,binIs,addF,AV.isPtr,idxV,AV.isSl,AV.isSlice,AV.rows,ps,pv,extV,extS,AV.outs,AV.outF,packD,AV.dl,fieldV,fieldS,AV.cells?,AV.upr,AV.menc,AV.one,D.one,Value.oneCell',tagOf,AV.isApp,strV,strS,bolV,bolS,slcV,AV.isSlD,asrtS,AV.dcells,D.cells?,stcV,stcS,leafOk,eqDs,eqD,packA,D.val?,↓reduceIte,reduceCtorEq,Nat.reduceAdd,Nat.reduceSub,Nat.reduceMul,List.reduceReplicate,Nat.reduceLeDiff,Nat.reduceLT,Nat.reduceBEq,Nat.reduceEqDiff,Int.reduceNeg,Int.reduceEq,Int.reduceLE,Int.reduceLT,tfb,ctz8,x8_18,x8_18_m1,x8_19,eq_self, g1b, g2, g3, Int.lt_irrefl, e1, e2, hbb, hdz, hzz, hsd, hl0', hl1, hlast, q1]
    refine ⟨⟨by omega, by omega⟩, by omega, by omega, ?_⟩
    have hmr2 := fun q h1 h2 h3 => match_run hG hm hmr.2 hmo.1.1 (by omega) q h1 h2 h3
    refine loop_u (O := O8) (tb := 0) Ct8_ok hmix (by kernel_rfl) (σ := Nat) (fun q => [(24, .own 203 30 5 (l.map Ev.c ++ msN m.club (lastD l) q)), (25, .i ((q : Int) + 1)), (204, .any)]) (fun _ => []) (fun q => (q : Int) ≤ m.ban) (fun q => m.ban.toNat - q) (fun q => q + 1) 0 (by omega) ?_ ?_
    · have hz : l.map Ev.c ++ msN m.club (lastD l) 0 = l.map Ev.c := List.append_nil _
      simp (maxSteps := 4000000) +contextual (disch := first | omega | exact qdb_ok (by kernel_rfl) | exact okb_ok (by kernel_rfl)) only [bw1,bw2,bw3,bw4,bw5,bw6,bw7,bc0,bc1,bc2,bc3,bc4,bc5,bc6,bc7,bb0,setPs,AV.owns,AV.datF,AV.frz,AV.cpy,ifV,isEqB,nilV,nilX,AV.isNilS,AV.isNoRows,wk,dclo,datOf,binIs,addF,AV.isPtr,idxV,AV.isSl,AV.isSlice,AV.rows,ps,pv,extV,extS,AV.outs,AV.outF,packD,AV.dl,fieldV,fieldS,AV.cells?,AV.upr,AV.menc,AV.one,D.one,Value.oneCell',tagOf,AV.isApp,strV,strS,bolV,bolS,slcV,AV.isSlD,asrtS,AV.dcells,D.cells?,stcV,stcS,leafOk,eqDs,eqD,packA,D.val?,↓reduceIte,reduceCtorEq,Nat.reduceAdd,Nat.reduceSub,Nat.reduceMul,List.reduceReplicate,Nat.reduceLeDiff,Nat.reduceLT,Nat.reduceBEq,Nat.reduceEqDiff,Int.reduceNeg,Int.reduceEq,Int.reduceLE,Int.reduceLT,tfb,ctz8,x8_18,x8_18_m1,x8_19,eq_self, hz]
      try rfl
    intro q hq
    obtain ⟨hGq, hmq, _⟩ := hmr2 q hq (by omega) (by omega)
    have hbq := back_is (p := p) hGq.ok hmq
    obtain ⟨dy2, hdy2⟩ : ∃ dy2, backM { m with ban := m.ban - (q : Int) } = (m.ban - (q : Int), dy2) := ⟨_, rfl⟩
    rw [hdy2] at hbq
    have hnil : NilRs (l.map Ev.c ++ msN m.club (lastD l) q) ((l ++ msE m.club (lastD l) q).map Ev.c) := by rw [List.map_append]; exact NilRs.app (.refl _) msN_deep
    have hshq : ShsOk (l ++ msE m.club (lastD l) q) := shs_app hl (by rw [msE_len]; omega) (by intro x hx; obtain ⟨i, _, rfl⟩ := List.mem_map.1 hx; exact Nat.zero_le _)
    have hrows : (l.map Ev.c ++ msN m.club (lastD l) q).length ≤ 200 := by rw [List.length_append, List.length_map, msN_len]; omega
    have hsucc := msN_succ (c := m.club) (d := lastD l) (q := q)
    by_cases hqb : (q : Int) < m.ban
    · have hqb' : (q : Int) + 1 ≤ m.ban := by omega
      have hne : ((m.ban - (q : Int)) != (m.ban - ((q : Int) + 1) + 1)) = false := by
        rw [show m.ban - ((q : Int) + 1) + 1 = m.ban - (q : Int) by omega]; simp
      simp (maxSteps := 4000000) +contextual (disch := first | omega | exact qdb_ok (by kernel_rfl) | exact okb_ok (by kernel_rfl)) only [bw1,bw2,bw3,bw4,bw5,bw6,bw7,bc0,bc1,bc2,bc3,bc4,bc5,bc6,bc7,bb0,setPs,AV.owns,AV.datF,AV.frz,AV.cpy,ifV,isEqB,nilV,nilX,AV.isNilS,AV.isNoRows,wk,dclo,datOf,binIs,addF,AV.isPtr,idxV,AV.isSl,AV.isSlice,AV.rows,ps,pv,extV,extS,AV.outs,AV.outF,packD,AV.dl,fieldV,fieldS,AV.cells?,AV.upr,AV.menc,AV.one,D.one,Value.oneCell',tagOf,AV.isApp,strV,strS,bolV,bolS,slcV,AV.isSlD,asrtS,AV.dcells,D.cells?,stcV,stcS,leafOk,eqDs,eqD,packA,D.val?,↓reduceIte,reduceCtorEq,Nat.reduceAdd,Nat.reduceSub,Nat.reduceMul,List.reduceReplicate,Nat.reduceLeDiff,Nat.reduceLT,Nat.reduceBEq,Nat.reduceEqDiff,Int.reduceNeg,Int.reduceEq,Int.reduceLE,Int.reduceLT,tfb,ctz8,x8_18,x8_18_m1,x8_19,eq_self, hqb', hx17]
      refine ⟨(_, l ++ msE m.club (lastD l) q, p), rfl, ⟨hnil, hshq, hp64⟩, .inr rfl, ?_⟩
      generalize hR : l.map Ev.c ++ msN m.club (lastD l) q = R at hrows
      have hR2 : l.map Ev.c ++ msN m.club (lastD l) (q + 1) = R ++ [evN (lastD l + (q : Int) + 1) 6 0 m.club] := by rw [hsucc, ← List.append_assoc, hR]
      have has : lastD l + ((q : Int) + 1) = lastD l + (q : Int) + 1 := by omega
      simp (maxSteps := 4000000) +contextual (disch := first | omega | exact qdb_ok (by kernel_rfl) | exact okb_ok (by kernel_rfl)) only [bw1,bw2,bw3,bw4,bw5,bw6,bw7,bc0,bc1,bc2,bc3,bc4,bc5,bc6,bc7,bb0,setPs,AV.owns,AV.datF,AV.frz,AV.cpy,ifV,isEqB,nilV,nilX,AV.isNilS,AV.isNoRows,wk,dclo,datOf,binIs,addF,AV.isPtr,idxV,AV.isSl,AV.isSlice,AV.rows,ps,pv,extV,extS,AV.outs,AV.outF,packD,AV.dl,fieldV,fieldS,AV.cells?,AV.upr,AV.menc,AV.one,D.one,Value.oneCell',tagOf,AV.isApp,strV,strS,bolV,bolS,slcV,AV.isSlD,asrtS,AV.dcells,D.cells?,stcV,stcS,leafOk,eqDs,eqD,packA,D.val?,↓reduceIte,reduceCtorEq,Nat.reduceAdd,Nat.reduceSub,Nat.reduceMul,List.reduceReplicate,Nat.reduceLeDiff,Nat.reduceLT,Nat.reduceBEq,Nat.reduceEqDiff,Int.reduceNeg,Int.reduceEq,Int.reduceLE,Int.reduceLT,tfb,ctz8,x8_18,x8_18_m1,x8_19,eq_self, hbq, hne, bne_self_eq_false, hR2, has, Int.reduceBNe]
      and_intros <;> first | omega | rfl | trivial
    · have hqb' : ¬ (q : Int) + 1 ≤ m.ban := by omega
      have hq0 : ((m.ban - (q : Int)) == 0) = true := by rw [show m.ban - (q : Int) = 0 by omega]; rfl
      simp (maxSteps := 4000000) +contextual (disch := first | omega | exact qdb_ok (by kernel_rfl) | exact okb_ok (by kernel_rfl)) only [bw1,bw2,bw3,bw4,bw5,bw6,bw7,bc0,bc1,bc2,bc3,bc4,bc5,bc6,bc7,bb0,setPs,AV.owns,AV.datF,AV.frz,AV.cpy,ifV,isEqB,nilV,nilX,AV.isNilS,AV.isNoRows,wk,dclo,datOf,binIs,addF,AV.isPtr,idxV,AV.isSl,AV.isSlice,AV.rows,ps,pv,extV,extS,AV.outs,AV.outF,packD,AV.dl,fieldV,fieldS,AV.cells?,AV.upr,AV.menc,AV.one,D.one,Value.oneCell',tagOf,AV.isApp,strV,strS,bolV,bolS,slcV,AV.isSlD,asrtS,AV.dcells,D.cells?,stcV,stcS,leafOk,eqDs,eqD,packA,D.val?,↓reduceIte,reduceCtorEq,Nat.reduceAdd,Nat.reduceSub,Nat.reduceMul,List.reduceReplicate,Nat.reduceLeDiff,Nat.reduceLT,Nat.reduceBEq,Nat.reduceEqDiff,Int.reduceNeg,Int.reduceEq,Int.reduceLE,Int.reduceLT,tfb,ctz8,x8_18,x8_18_m1,x8_19,eq_self, hqb', hx17]
      refine ⟨(_, l ++ msE m.club (lastD l) q, p), rfl, ⟨hnil, hshq, hp64⟩, .inr rfl, ?_⟩
      simp (maxSteps := 4000000) +contextual (disch := first | omega | exact qdb_ok (by kernel_rfl) | exact okb_ok (by kernel_rfl)) only [bw1,bw2,bw3,bw4,bw5,bw6,bw7,bc0,bc1,bc2,bc3,bc4,bc5,bc6,bc7,bb0,setPs,AV.owns,AV.datF,AV.frz,AV.cpy,ifV,isEqB,nilV,nilX,AV.isNilS,AV.isNoRows,wk,dclo,datOf,binIs,addF,AV.isPtr,idxV,AV.isSl,AV.isSlice,AV.rows,ps,pv,extV,extS,AV.outs,AV.outF,packD,AV.dl,fieldV,fieldS,AV.cells?,AV.upr,AV.menc,AV.one,D.one,Value.oneCell',tagOf,AV.isApp,strV,strS,bolV,bolS,slcV,AV.isSlD,asrtS,AV.dcells,D.cells?,stcV,stcS,leafOk,eqDs,eqD,packA,D.val?,↓reduceIte,reduceCtorEq,Nat.reduceAdd,Nat.reduceSub,Nat.reduceMul,List.reduceReplicate,Nat.reduceLeDiff,Nat.reduceLT,Nat.reduceBEq,Nat.reduceEqDiff,Int.reduceNeg,Int.reduceEq,Int.reduceLE,Int.reduceLT,tfb,ctz8,x8_18,x8_18_m1,x8_19,eq_self, hbq, hq0, Int.reduceBEq]
  have hz1 : m.stage ≠ 0 := fun h => by have := hds h; omega
  have hdyv := hdn hz1
  by_cases q2 : dy ≤ 16384
  case neg =>
    by_cases g1 : m.ban = 0
    · have g1b : (m.ban == 0) = true := by simpa using g1
      simp (maxSteps := 4000000) +contextual (disch := first | omega | exact qdb_ok (by kernel_rfl) | exact okb_ok (by kernel_rfl)) only [bw1,bw2,bw3,bw4,bw5,bw6,bw7,bc0,bc1,bc2,bc3,bc4,bc5,bc6,bc7,bb0,setPs,AV.owns,AV.datF,AV.frz,AV.cpy,ifV,isEqB,nilV,nilX,AV.isNilS,AV.isNoRows,wk,dclo,datOf,binIs,addF,AV.isPtr,idxV,AV.isSl,AV.isSlice,AV.rows,ps,pv,extV,extS,AV.outs,AV.outF,packD,AV.dl,fieldV,fieldS,AV.cells?,AV.upr,AV.menc,AV.one,D.one,Value.oneCell',tagOf,AV.isApp,strV,strS,bolV,bolS,slcV,AV.isSlD,asrtS,AV.dcells,D.cells?,stcV,stcS,leafOk,eqDs,eqD,packA,D.val?,↓reduceIte,reduceCtorEq,Nat.reduceAdd,Nat.reduceSub,Nat.reduceMul,List.reduceReplicate,Nat.reduceLeDiff,Nat.reduceLT,Nat.reduceBEq,Nat.reduceEqDiff,Int.reduceNeg,Int.reduceEq,Int.reduceLE,Int.reduceLT,tfb,ctz8,x8_18,x8_18_m1,x8_19,eq_self, g1b, Int.lt_irrefl, e1, e2, hbb, hdz, hzz, hsd, hl0', hl1, hlast, q1, q2]
      all_goals omega
    have g1b : (m.ban == 0) = false := by simpa using g1
    by_cases g2 : 40 < m.ban
    · simp (maxSteps := 4000000) +contextual (disch := first | omega | exact qdb_ok (by kernel_rfl) | exact okb_ok (by kernel_rfl)) only [bw1,bw2,bw3,bw4,bw5,bw6,bw7,bc0,bc1,bc2,bc3,bc4,bc5,bc6,bc7,bb0,setPs,AV.owns,AV.datF,AV.frz,AV.cpy,ifV,isEqB,nilV,nilX,AV.isNilS,AV.isNoRows,wk,dclo,datOf,binIs,addF,AV.isPtr,idxV,AV.isSl,AV.isSlice,AV.rows,ps,pv,extV,extS,AV.outs,AV.outF,packD,AV.dl,fieldV,fieldS,AV.cells?,AV.upr,AV.menc,AV.one,D.one,Value.oneCell',tagOf,AV.isApp,strV,strS,bolV,bolS,slcV,AV.isSlD,asrtS,AV.dcells,D.cells?,stcV,stcS,leafOk,eqDs,eqD,packA,D.val?,↓reduceIte,reduceCtorEq,Nat.reduceAdd,Nat.reduceSub,Nat.reduceMul,List.reduceReplicate,Nat.reduceLeDiff,Nat.reduceLT,Nat.reduceBEq,Nat.reduceEqDiff,Int.reduceNeg,Int.reduceEq,Int.reduceLE,Int.reduceLT,tfb,ctz8,x8_18,x8_18_m1,x8_19,eq_self, g1b, g2, Int.lt_irrefl, e1, e2, hbb, hdz, hzz, hsd, hl0', hl1, hlast, q1, q2]
      all_goals omega
    by_cases g3 : 16384 < lastD l + m.ban
    · simp (maxSteps := 4000000) +contextual (disch := first | omega | exact qdb_ok (by kernel_rfl) | exact okb_ok (by kernel_rfl)) only [bw1,bw2,bw3,bw4,bw5,bw6,bw7,bc0,bc1,bc2,bc3,bc4,bc5,bc6,bc7,bb0,setPs,AV.owns,AV.datF,AV.frz,AV.cpy,ifV,isEqB,nilV,nilX,AV.isNilS,AV.isNoRows,wk,dclo,datOf,binIs,addF,AV.isPtr,idxV,AV.isSl,AV.isSlice,AV.rows,ps,pv,extV,extS,AV.outs,AV.outF,packD,AV.dl,fieldV,fieldS,AV.cells?,AV.upr,AV.menc,AV.one,D.one,Value.oneCell',tagOf,AV.isApp,strV,strS,bolV,bolS,slcV,AV.isSlD,asrtS,AV.dcells,D.cells?,stcV,stcS,leafOk,eqDs,eqD,packA,D.val?,↓reduceIte,reduceCtorEq,Nat.reduceAdd,Nat.reduceSub,Nat.reduceMul,List.reduceReplicate,Nat.reduceLeDiff,Nat.reduceLT,Nat.reduceBEq,Nat.reduceEqDiff,Int.reduceNeg,Int.reduceEq,Int.reduceLE,Int.reduceLT,tfb,ctz8,x8_18,x8_18_m1,x8_19,eq_self, g1b, g2, g3, Int.lt_irrefl, e1, e2, hbb, hdz, hzz, hsd, hl0', hl1, hlast, q1, q2]
      all_goals omega
    simp (maxSteps := 4000000) +contextual (disch := first | omega | exact qdb_ok (by kernel_rfl) | exact okb_ok (by kernel_rfl)) only [bw1,bw2,bw3,bw4,bw5,bw6,bw7,bc0,bc1,bc2,bc3,bc4,bc5,bc6,bc7,bb0,setPs,AV.owns,AV.datF,AV.frz,AV.cpy,ifV,isEqB,nilV,nilX,AV.isNilS,AV.isNoRows,wk,dclo,datOf,binIs,addF,AV.isPtr,idxV,AV.isSl,AV.isSlice,AV.rows,ps,pv,extV,extS,AV.outs,AV.outF,packD,AV.dl,fieldV,fieldS,AV.cells?,AV.upr,AV.menc,AV.one,D.one,Value.oneCell',tagOf,AV.isApp,strV,strS,bolV,bolS,slcV,AV.isSlD,asrtS,AV.dcells,D.cells?,stcV,stcS,leafOk,eqDs,eqD,packA,D.val?,↓reduceIte,reduceCtorEq,Nat.reduceAdd,Nat.reduceSub,Nat.reduceMul,List.reduceReplicate,Nat.reduceLeDiff,Nat.reduceLT,Nat.reduceBEq,Nat.reduceEqDiff,Int.reduceNeg,Int.reduceEq,Int.reduceLE,Int.reduceLT,tfb,ctz8,x8_18,x8_18_m1,x8_19,eq_self, g1b, g2, g3, Int.lt_irrefl, e1, e2, hbb, hdz, hzz, hsd, hl0', hl1, hlast, q1, q2]
    refine ⟨⟨by omega, by omega⟩, by omega, by omega, ?_⟩
    have hmr2 := fun q h1 h2 h3 => match_run hG hm hmr.2 hmo.1.1 (by omega) q h1 h2 h3
    refine loop_u (O := O8) (tb := 0) Ct8_ok hmix (by kernel_rfl) (σ := Nat) (fun q => [(24, .own 203 30 5 (l.map Ev.c ++ msN m.club (lastD l) q)), (25, .i ((q : Int) + 1)), (204, .any)]) (fun _ => []) (fun q => (q : Int) ≤ m.ban) (fun q => m.ban.toNat - q) (fun q => q + 1) 0 (by omega) ?_ ?_
    · have hz : l.map Ev.c ++ msN m.club (lastD l) 0 = l.map Ev.c := List.append_nil _
      simp (maxSteps := 4000000) +contextual (disch := first | omega | exact qdb_ok (by kernel_rfl) | exact okb_ok (by kernel_rfl)) only [bw1,bw2,bw3,bw4,bw5,bw6,bw7,bc0,bc1,bc2,bc3,bc4,bc5,bc6,bc7,bb0,setPs,AV.owns,AV.datF,AV.frz,AV.cpy,ifV,isEqB,nilV,nilX,AV.isNilS,AV.isNoRows,wk,dclo,datOf,binIs,addF,AV.isPtr,idxV,AV.isSl,AV.isSlice,AV.rows,ps,pv,extV,extS,AV.outs,AV.outF,packD,AV.dl,fieldV,fieldS,AV.cells?,AV.upr,AV.menc,AV.one,D.one,Value.oneCell',tagOf,AV.isApp,strV,strS,bolV,bolS,slcV,AV.isSlD,asrtS,AV.dcells,D.cells?,stcV,stcS,leafOk,eqDs,eqD,packA,D.val?,↓reduceIte,reduceCtorEq,Nat.reduceAdd,Nat.reduceSub,Nat.reduceMul,List.reduceReplicate,Nat.reduceLeDiff,Nat.reduceLT,Nat.reduceBEq,Nat.reduceEqDiff,Int.reduceNeg,Int.reduceEq,Int.reduceLE,Int.reduceLT,tfb,ctz8,x8_18,x8_18_m1,x8_19,eq_self, hz]
      try rfl
    intro q hq
    obtain ⟨hGq, hmq, _⟩ := hmr2 q hq (by omega) (by omega)
    have hbq := back_is (p := p) hGq.ok hmq
    obtain ⟨dy2, hdy2⟩ : ∃ dy2, backM { m with ban := m.ban - (q : Int) } = (m.ban - (q : Int), dy2) := ⟨_, rfl⟩
    rw [hdy2] at hbq
    have hnil : NilRs (l.map Ev.c ++ msN m.club (lastD l) q) ((l ++ msE m.club (lastD l) q).map Ev.c) := by rw [List.map_append]; exact NilRs.app (.refl _) msN_deep
    have hshq : ShsOk (l ++ msE m.club (lastD l) q) := shs_app hl (by rw [msE_len]; omega) (by intro x hx; obtain ⟨i, _, rfl⟩ := List.mem_map.1 hx; exact Nat.zero_le _)
    have hrows : (l.map Ev.c ++ msN m.club (lastD l) q).length ≤ 200 := by rw [List.length_append, List.length_map, msN_len]; omega
    have hsucc := msN_succ (c := m.club) (d := lastD l) (q := q)
    by_cases hqb : (q : Int) < m.ban
    · have hqb' : (q : Int) + 1 ≤ m.ban := by omega
      have hne : ((m.ban - (q : Int)) != (m.ban - ((q : Int) + 1) + 1)) = false := by
        rw [show m.ban - ((q : Int) + 1) + 1 = m.ban - (q : Int) by omega]; simp
      simp (maxSteps := 4000000) +contextual (disch := first | omega | exact qdb_ok (by kernel_rfl) | exact okb_ok (by kernel_rfl)) only [bw1,bw2,bw3,bw4,bw5,bw6,bw7,bc0,bc1,bc2,bc3,bc4,bc5,bc6,bc7,bb0,setPs,AV.owns,AV.datF,AV.frz,AV.cpy,ifV,isEqB,nilV,nilX,AV.isNilS,AV.isNoRows,wk,dclo,datOf,binIs,addF,AV.isPtr,idxV,AV.isSl,AV.isSlice,AV.rows,ps,pv,extV,extS,AV.outs,AV.outF,packD,AV.dl,fieldV,fieldS,AV.cells?,AV.upr,AV.menc,AV.one,D.one,Value.oneCell',tagOf,AV.isApp,strV,strS,bolV,bolS,slcV,AV.isSlD,asrtS,AV.dcells,D.cells?,stcV,stcS,leafOk,eqDs,eqD,packA,D.val?,↓reduceIte,reduceCtorEq,Nat.reduceAdd,Nat.reduceSub,Nat.reduceMul,List.reduceReplicate,Nat.reduceLeDiff,Nat.reduceLT,Nat.reduceBEq,Nat.reduceEqDiff,Int.reduceNeg,Int.reduceEq,Int.reduceLE,Int.reduceLT,tfb,ctz8,x8_18,x8_18_m1,x8_19,eq_self, hqb', hx17]
      refine ⟨(_, l ++ msE m.club (lastD l) q, p), rfl, ⟨hnil, hshq, hp64⟩, .inr rfl, ?_⟩
      generalize hR : l.map Ev.c ++ msN m.club (lastD l) q = R at hrows
      have hR2 : l.map Ev.c ++ msN m.club (lastD l) (q + 1) = R ++ [evN (lastD l + (q : Int) + 1) 6 0 m.club] := by rw [hsucc, ← List.append_assoc, hR]
      have has : lastD l + ((q : Int) + 1) = lastD l + (q : Int) + 1 := by omega
      simp (maxSteps := 4000000) +contextual (disch := first | omega | exact qdb_ok (by kernel_rfl) | exact okb_ok (by kernel_rfl)) only [bw1,bw2,bw3,bw4,bw5,bw6,bw7,bc0,bc1,bc2,bc3,bc4,bc5,bc6,bc7,bb0,setPs,AV.owns,AV.datF,AV.frz,AV.cpy,ifV,isEqB,nilV,nilX,AV.isNilS,AV.isNoRows,wk,dclo,datOf,binIs,addF,AV.isPtr,idxV,AV.isSl,AV.isSlice,AV.rows,ps,pv,extV,extS,AV.outs,AV.outF,packD,AV.dl,fieldV,fieldS,AV.cells?,AV.upr,AV.menc,AV.one,D.one,Value.oneCell',tagOf,AV.isApp,strV,strS,bolV,bolS,slcV,AV.isSlD,asrtS,AV.dcells,D.cells?,stcV,stcS,leafOk,eqDs,eqD,packA,D.val?,↓reduceIte,reduceCtorEq,Nat.reduceAdd,Nat.reduceSub,Nat.reduceMul,List.reduceReplicate,Nat.reduceLeDiff,Nat.reduceLT,Nat.reduceBEq,Nat.reduceEqDiff,Int.reduceNeg,Int.reduceEq,Int.reduceLE,Int.reduceLT,tfb,ctz8,x8_18,x8_18_m1,x8_19,eq_self, hbq, hne, bne_self_eq_false, hR2, has, Int.reduceBNe]
      and_intros <;> first | omega | rfl | trivial
    · have hqb' : ¬ (q : Int) + 1 ≤ m.ban := by omega
      have hq0 : ((m.ban - (q : Int)) == 0) = true := by rw [show m.ban - (q : Int) = 0 by omega]; rfl
      simp (maxSteps := 4000000) +contextual (disch := first | omega | exact qdb_ok (by kernel_rfl) | exact okb_ok (by kernel_rfl)) only [bw1,bw2,bw3,bw4,bw5,bw6,bw7,bc0,bc1,bc2,bc3,bc4,bc5,bc6,bc7,bb0,setPs,AV.owns,AV.datF,AV.frz,AV.cpy,ifV,isEqB,nilV,nilX,AV.isNilS,AV.isNoRows,wk,dclo,datOf,binIs,addF,AV.isPtr,idxV,AV.isSl,AV.isSlice,AV.rows,ps,pv,extV,extS,AV.outs,AV.outF,packD,AV.dl,fieldV,fieldS,AV.cells?,AV.upr,AV.menc,AV.one,D.one,Value.oneCell',tagOf,AV.isApp,strV,strS,bolV,bolS,slcV,AV.isSlD,asrtS,AV.dcells,D.cells?,stcV,stcS,leafOk,eqDs,eqD,packA,D.val?,↓reduceIte,reduceCtorEq,Nat.reduceAdd,Nat.reduceSub,Nat.reduceMul,List.reduceReplicate,Nat.reduceLeDiff,Nat.reduceLT,Nat.reduceBEq,Nat.reduceEqDiff,Int.reduceNeg,Int.reduceEq,Int.reduceLE,Int.reduceLT,tfb,ctz8,x8_18,x8_18_m1,x8_19,eq_self, hqb', hx17]
      refine ⟨(_, l ++ msE m.club (lastD l) q, p), rfl, ⟨hnil, hshq, hp64⟩, .inr rfl, ?_⟩
      simp (maxSteps := 4000000) +contextual (disch := first | omega | exact qdb_ok (by kernel_rfl) | exact okb_ok (by kernel_rfl)) only [bw1,bw2,bw3,bw4,bw5,bw6,bw7,bc0,bc1,bc2,bc3,bc4,bc5,bc6,bc7,bb0,setPs,AV.owns,AV.datF,AV.frz,AV.cpy,ifV,isEqB,nilV,nilX,AV.isNilS,AV.isNoRows,wk,dclo,datOf,binIs,addF,AV.isPtr,idxV,AV.isSl,AV.isSlice,AV.rows,ps,pv,extV,extS,AV.outs,AV.outF,packD,AV.dl,fieldV,fieldS,AV.cells?,AV.upr,AV.menc,AV.one,D.one,Value.oneCell',tagOf,AV.isApp,strV,strS,bolV,bolS,slcV,AV.isSlD,asrtS,AV.dcells,D.cells?,stcV,stcS,leafOk,eqDs,eqD,packA,D.val?,↓reduceIte,reduceCtorEq,Nat.reduceAdd,Nat.reduceSub,Nat.reduceMul,List.reduceReplicate,Nat.reduceLeDiff,Nat.reduceLT,Nat.reduceBEq,Nat.reduceEqDiff,Int.reduceNeg,Int.reduceEq,Int.reduceLE,Int.reduceLT,tfb,ctz8,x8_18,x8_18_m1,x8_19,eq_self, hbq, hq0, Int.reduceBEq]
  by_cases q3 : lastD l ≤ m.since
  case neg =>
    by_cases g1 : m.ban = 0
    · have g1b : (m.ban == 0) = true := by simpa using g1
      simp (maxSteps := 4000000) +contextual (disch := first | omega | exact qdb_ok (by kernel_rfl) | exact okb_ok (by kernel_rfl)) only [bw1,bw2,bw3,bw4,bw5,bw6,bw7,bc0,bc1,bc2,bc3,bc4,bc5,bc6,bc7,bb0,setPs,AV.owns,AV.datF,AV.frz,AV.cpy,ifV,isEqB,nilV,nilX,AV.isNilS,AV.isNoRows,wk,dclo,datOf,binIs,addF,AV.isPtr,idxV,AV.isSl,AV.isSlice,AV.rows,ps,pv,extV,extS,AV.outs,AV.outF,packD,AV.dl,fieldV,fieldS,AV.cells?,AV.upr,AV.menc,AV.one,D.one,Value.oneCell',tagOf,AV.isApp,strV,strS,bolV,bolS,slcV,AV.isSlD,asrtS,AV.dcells,D.cells?,stcV,stcS,leafOk,eqDs,eqD,packA,D.val?,↓reduceIte,reduceCtorEq,Nat.reduceAdd,Nat.reduceSub,Nat.reduceMul,List.reduceReplicate,Nat.reduceLeDiff,Nat.reduceLT,Nat.reduceBEq,Nat.reduceEqDiff,Int.reduceNeg,Int.reduceEq,Int.reduceLE,Int.reduceLT,tfb,ctz8,x8_18,x8_18_m1,x8_19,eq_self, g1b, Int.lt_irrefl, e1, e2, hbb, hdz, hzz, hsd, hl0', hl1, hlast, q1, q2, q3]
      all_goals omega
    have g1b : (m.ban == 0) = false := by simpa using g1
    by_cases g2 : 40 < m.ban
    · simp (maxSteps := 4000000) +contextual (disch := first | omega | exact qdb_ok (by kernel_rfl) | exact okb_ok (by kernel_rfl)) only [bw1,bw2,bw3,bw4,bw5,bw6,bw7,bc0,bc1,bc2,bc3,bc4,bc5,bc6,bc7,bb0,setPs,AV.owns,AV.datF,AV.frz,AV.cpy,ifV,isEqB,nilV,nilX,AV.isNilS,AV.isNoRows,wk,dclo,datOf,binIs,addF,AV.isPtr,idxV,AV.isSl,AV.isSlice,AV.rows,ps,pv,extV,extS,AV.outs,AV.outF,packD,AV.dl,fieldV,fieldS,AV.cells?,AV.upr,AV.menc,AV.one,D.one,Value.oneCell',tagOf,AV.isApp,strV,strS,bolV,bolS,slcV,AV.isSlD,asrtS,AV.dcells,D.cells?,stcV,stcS,leafOk,eqDs,eqD,packA,D.val?,↓reduceIte,reduceCtorEq,Nat.reduceAdd,Nat.reduceSub,Nat.reduceMul,List.reduceReplicate,Nat.reduceLeDiff,Nat.reduceLT,Nat.reduceBEq,Nat.reduceEqDiff,Int.reduceNeg,Int.reduceEq,Int.reduceLE,Int.reduceLT,tfb,ctz8,x8_18,x8_18_m1,x8_19,eq_self, g1b, g2, Int.lt_irrefl, e1, e2, hbb, hdz, hzz, hsd, hl0', hl1, hlast, q1, q2, q3]
      all_goals omega
    by_cases g3 : 16384 < lastD l + m.ban
    · simp (maxSteps := 4000000) +contextual (disch := first | omega | exact qdb_ok (by kernel_rfl) | exact okb_ok (by kernel_rfl)) only [bw1,bw2,bw3,bw4,bw5,bw6,bw7,bc0,bc1,bc2,bc3,bc4,bc5,bc6,bc7,bb0,setPs,AV.owns,AV.datF,AV.frz,AV.cpy,ifV,isEqB,nilV,nilX,AV.isNilS,AV.isNoRows,wk,dclo,datOf,binIs,addF,AV.isPtr,idxV,AV.isSl,AV.isSlice,AV.rows,ps,pv,extV,extS,AV.outs,AV.outF,packD,AV.dl,fieldV,fieldS,AV.cells?,AV.upr,AV.menc,AV.one,D.one,Value.oneCell',tagOf,AV.isApp,strV,strS,bolV,bolS,slcV,AV.isSlD,asrtS,AV.dcells,D.cells?,stcV,stcS,leafOk,eqDs,eqD,packA,D.val?,↓reduceIte,reduceCtorEq,Nat.reduceAdd,Nat.reduceSub,Nat.reduceMul,List.reduceReplicate,Nat.reduceLeDiff,Nat.reduceLT,Nat.reduceBEq,Nat.reduceEqDiff,Int.reduceNeg,Int.reduceEq,Int.reduceLE,Int.reduceLT,tfb,ctz8,x8_18,x8_18_m1,x8_19,eq_self, g1b, g2, g3, Int.lt_irrefl, e1, e2, hbb, hdz, hzz, hsd, hl0', hl1, hlast, q1, q2, q3]
      all_goals omega
    simp (maxSteps := 4000000) +contextual (disch := first | omega | exact qdb_ok (by kernel_rfl) | exact okb_ok (by kernel_rfl)) only [bw1,bw2,bw3,bw4,bw5,bw6,bw7,bc0,bc1,bc2,bc3,bc4,bc5,bc6,bc7,bb0,setPs,AV.owns,AV.datF,AV.frz,AV.cpy,ifV,isEqB,nilV,nilX,AV.isNilS,AV.isNoRows,wk,dclo,datOf,binIs,addF,AV.isPtr,idxV,AV.isSl,AV.isSlice,AV.rows,ps,pv,extV,extS,AV.outs,AV.outF,packD,AV.dl,fieldV,fieldS,AV.cells?,AV.upr,AV.menc,AV.one,D.one,Value.oneCell',tagOf,AV.isApp,strV,strS,bolV,bolS,slcV,AV.isSlD,asrtS,AV.dcells,D.cells?,stcV,stcS,leafOk,eqDs,eqD,packA,D.val?,↓reduceIte,reduceCtorEq,Nat.reduceAdd,Nat.reduceSub,Nat.reduceMul,List.reduceReplicate,Nat.reduceLeDiff,Nat.reduceLT,Nat.reduceBEq,Nat.reduceEqDiff,Int.reduceNeg,Int.reduceEq,Int.reduceLE,Int.reduceLT,tfb,ctz8,x8_18,x8_18_m1,x8_19,eq_self, g1b, g2, g3, Int.lt_irrefl, e1, e2, hbb, hdz, hzz, hsd, hl0', hl1, hlast, q1, q2, q3]
    refine ⟨⟨by omega, by omega⟩, by omega, by omega, ?_⟩
    have hmr2 := fun q h1 h2 h3 => match_run hG hm hmr.2 hmo.1.1 (by omega) q h1 h2 h3
    refine loop_u (O := O8) (tb := 0) Ct8_ok hmix (by kernel_rfl) (σ := Nat) (fun q => [(24, .own 203 30 5 (l.map Ev.c ++ msN m.club (lastD l) q)), (25, .i ((q : Int) + 1)), (204, .any)]) (fun _ => []) (fun q => (q : Int) ≤ m.ban) (fun q => m.ban.toNat - q) (fun q => q + 1) 0 (by omega) ?_ ?_
    · have hz : l.map Ev.c ++ msN m.club (lastD l) 0 = l.map Ev.c := List.append_nil _
      simp (maxSteps := 4000000) +contextual (disch := first | omega | exact qdb_ok (by kernel_rfl) | exact okb_ok (by kernel_rfl)) only [bw1,bw2,bw3,bw4,bw5,bw6,bw7,bc0,bc1,bc2,bc3,bc4,bc5,bc6,bc7,bb0,setPs,AV.owns,AV.datF,AV.frz,AV.cpy,ifV,isEqB,nilV,nilX,AV.isNilS,AV.isNoRows,wk,dclo,datOf,binIs,addF,AV.isPtr,idxV,AV.isSl,AV.isSlice,AV.rows,ps,pv,extV,extS,AV.outs,AV.outF,packD,AV.dl,fieldV,fieldS,AV.cells?,AV.upr,AV.menc,AV.one,D.one,Value.oneCell',tagOf,AV.isApp,strV,strS,bolV,bolS,slcV,AV.isSlD,asrtS,AV.dcells,D.cells?,stcV,stcS,leafOk,eqDs,eqD,packA,D.val?,↓reduceIte,reduceCtorEq,Nat.reduceAdd,Nat.reduceSub,Nat.reduceMul,List.reduceReplicate,Nat.reduceLeDiff,Nat.reduceLT,Nat.reduceBEq,Nat.reduceEqDiff,Int.reduceNeg,Int.reduceEq,Int.reduceLE,Int.reduceLT,tfb,ctz8,x8_18,x8_18_m1,x8_19,eq_self, hz]
      try rfl
    intro q hq
    obtain ⟨hGq, hmq, _⟩ := hmr2 q hq (by omega) (by omega)
    have hbq := back_is (p := p) hGq.ok hmq
    obtain ⟨dy2, hdy2⟩ : ∃ dy2, backM { m with ban := m.ban - (q : Int) } = (m.ban - (q : Int), dy2) := ⟨_, rfl⟩
    rw [hdy2] at hbq
    have hnil : NilRs (l.map Ev.c ++ msN m.club (lastD l) q) ((l ++ msE m.club (lastD l) q).map Ev.c) := by rw [List.map_append]; exact NilRs.app (.refl _) msN_deep
    have hshq : ShsOk (l ++ msE m.club (lastD l) q) := shs_app hl (by rw [msE_len]; omega) (by intro x hx; obtain ⟨i, _, rfl⟩ := List.mem_map.1 hx; exact Nat.zero_le _)
    have hrows : (l.map Ev.c ++ msN m.club (lastD l) q).length ≤ 200 := by rw [List.length_append, List.length_map, msN_len]; omega
    have hsucc := msN_succ (c := m.club) (d := lastD l) (q := q)
    by_cases hqb : (q : Int) < m.ban
    · have hqb' : (q : Int) + 1 ≤ m.ban := by omega
      have hne : ((m.ban - (q : Int)) != (m.ban - ((q : Int) + 1) + 1)) = false := by
        rw [show m.ban - ((q : Int) + 1) + 1 = m.ban - (q : Int) by omega]; simp
      simp (maxSteps := 4000000) +contextual (disch := first | omega | exact qdb_ok (by kernel_rfl) | exact okb_ok (by kernel_rfl)) only [bw1,bw2,bw3,bw4,bw5,bw6,bw7,bc0,bc1,bc2,bc3,bc4,bc5,bc6,bc7,bb0,setPs,AV.owns,AV.datF,AV.frz,AV.cpy,ifV,isEqB,nilV,nilX,AV.isNilS,AV.isNoRows,wk,dclo,datOf,binIs,addF,AV.isPtr,idxV,AV.isSl,AV.isSlice,AV.rows,ps,pv,extV,extS,AV.outs,AV.outF,packD,AV.dl,fieldV,fieldS,AV.cells?,AV.upr,AV.menc,AV.one,D.one,Value.oneCell',tagOf,AV.isApp,strV,strS,bolV,bolS,slcV,AV.isSlD,asrtS,AV.dcells,D.cells?,stcV,stcS,leafOk,eqDs,eqD,packA,D.val?,↓reduceIte,reduceCtorEq,Nat.reduceAdd,Nat.reduceSub,Nat.reduceMul,List.reduceReplicate,Nat.reduceLeDiff,Nat.reduceLT,Nat.reduceBEq,Nat.reduceEqDiff,Int.reduceNeg,Int.reduceEq,Int.reduceLE,Int.reduceLT,tfb,ctz8,x8_18,x8_18_m1,x8_19,eq_self, hqb', hx17]
      refine ⟨(_, l ++ msE m.club (lastD l) q, p), rfl, ⟨hnil, hshq, hp64⟩, .inr rfl, ?_⟩
      generalize hR : l.map Ev.c ++ msN m.club (lastD l) q = R at hrows
      have hR2 : l.map Ev.c ++ msN m.club (lastD l) (q + 1) = R ++ [evN (lastD l + (q : Int) + 1) 6 0 m.club] := by rw [hsucc, ← List.append_assoc, hR]
      have has : lastD l + ((q : Int) + 1) = lastD l + (q : Int) + 1 := by omega
      simp (maxSteps := 4000000) +contextual (disch := first | omega | exact qdb_ok (by kernel_rfl) | exact okb_ok (by kernel_rfl)) only [bw1,bw2,bw3,bw4,bw5,bw6,bw7,bc0,bc1,bc2,bc3,bc4,bc5,bc6,bc7,bb0,setPs,AV.owns,AV.datF,AV.frz,AV.cpy,ifV,isEqB,nilV,nilX,AV.isNilS,AV.isNoRows,wk,dclo,datOf,binIs,addF,AV.isPtr,idxV,AV.isSl,AV.isSlice,AV.rows,ps,pv,extV,extS,AV.outs,AV.outF,packD,AV.dl,fieldV,fieldS,AV.cells?,AV.upr,AV.menc,AV.one,D.one,Value.oneCell',tagOf,AV.isApp,strV,strS,bolV,bolS,slcV,AV.isSlD,asrtS,AV.dcells,D.cells?,stcV,stcS,leafOk,eqDs,eqD,packA,D.val?,↓reduceIte,reduceCtorEq,Nat.reduceAdd,Nat.reduceSub,Nat.reduceMul,List.reduceReplicate,Nat.reduceLeDiff,Nat.reduceLT,Nat.reduceBEq,Nat.reduceEqDiff,Int.reduceNeg,Int.reduceEq,Int.reduceLE,Int.reduceLT,tfb,ctz8,x8_18,x8_18_m1,x8_19,eq_self, hbq, hne, bne_self_eq_false, hR2, has, Int.reduceBNe]
      and_intros <;> first | omega | rfl | trivial
    · have hqb' : ¬ (q : Int) + 1 ≤ m.ban := by omega
      have hq0 : ((m.ban - (q : Int)) == 0) = true := by rw [show m.ban - (q : Int) = 0 by omega]; rfl
      simp (maxSteps := 4000000) +contextual (disch := first | omega | exact qdb_ok (by kernel_rfl) | exact okb_ok (by kernel_rfl)) only [bw1,bw2,bw3,bw4,bw5,bw6,bw7,bc0,bc1,bc2,bc3,bc4,bc5,bc6,bc7,bb0,setPs,AV.owns,AV.datF,AV.frz,AV.cpy,ifV,isEqB,nilV,nilX,AV.isNilS,AV.isNoRows,wk,dclo,datOf,binIs,addF,AV.isPtr,idxV,AV.isSl,AV.isSlice,AV.rows,ps,pv,extV,extS,AV.outs,AV.outF,packD,AV.dl,fieldV,fieldS,AV.cells?,AV.upr,AV.menc,AV.one,D.one,Value.oneCell',tagOf,AV.isApp,strV,strS,bolV,bolS,slcV,AV.isSlD,asrtS,AV.dcells,D.cells?,stcV,stcS,leafOk,eqDs,eqD,packA,D.val?,↓reduceIte,reduceCtorEq,Nat.reduceAdd,Nat.reduceSub,Nat.reduceMul,List.reduceReplicate,Nat.reduceLeDiff,Nat.reduceLT,Nat.reduceBEq,Nat.reduceEqDiff,Int.reduceNeg,Int.reduceEq,Int.reduceLE,Int.reduceLT,tfb,ctz8,x8_18,x8_18_m1,x8_19,eq_self, hqb', hx17]
      refine ⟨(_, l ++ msE m.club (lastD l) q, p), rfl, ⟨hnil, hshq, hp64⟩, .inr rfl, ?_⟩
      simp (maxSteps := 4000000) +contextual (disch := first | omega | exact qdb_ok (by kernel_rfl) | exact okb_ok (by kernel_rfl)) only [bw1,bw2,bw3,bw4,bw5,bw6,bw7,bc0,bc1,bc2,bc3,bc4,bc5,bc6,bc7,bb0,setPs,AV.owns,AV.datF,AV.frz,AV.cpy,ifV,isEqB,nilV,nilX,AV.isNilS,AV.isNoRows,wk,dclo,datOf,binIs,addF,AV.isPtr,idxV,AV.isSl,AV.isSlice,AV.rows,ps,pv,extV,extS,AV.outs,AV.outF,packD,AV.dl,fieldV,fieldS,AV.cells?,AV.upr,AV.menc,AV.one,D.one,Value.oneCell',tagOf,AV.isApp,strV,strS,bolV,bolS,slcV,AV.isSlD,asrtS,AV.dcells,D.cells?,stcV,stcS,leafOk,eqDs,eqD,packA,D.val?,↓reduceIte,reduceCtorEq,Nat.reduceAdd,Nat.reduceSub,Nat.reduceMul,List.reduceReplicate,Nat.reduceLeDiff,Nat.reduceLT,Nat.reduceBEq,Nat.reduceEqDiff,Int.reduceNeg,Int.reduceEq,Int.reduceLE,Int.reduceLT,tfb,ctz8,x8_18,x8_18_m1,x8_19,eq_self, hbq, hq0, Int.reduceBEq]
  simp (maxSteps := 4000000) +contextual (disch := first | omega | exact qdb_ok (by kernel_rfl) | exact okb_ok (by kernel_rfl)) only [bw1,bw2,bw3,bw4,bw5,bw6,bw7,bc0,bc1,bc2,bc3,bc4,bc5,bc6,bc7,bb0,setPs,AV.owns,AV.datF,AV.frz,AV.cpy,ifV,isEqB,nilV,nilX,AV.isNilS,AV.isNoRows,wk,dclo,datOf,binIs,addF,AV.isPtr,idxV,AV.isSl,AV.isSlice,AV.rows,ps,pv,extV,extS,AV.outs,AV.outF,packD,AV.dl,fieldV,fieldS,AV.cells?,AV.upr,AV.menc,AV.one,D.one,Value.oneCell',tagOf,AV.isApp,strV,strS,bolV,bolS,slcV,AV.isSlD,asrtS,AV.dcells,D.cells?,stcV,stcS,leafOk,eqDs,eqD,packA,D.val?,↓reduceIte,reduceCtorEq,Nat.reduceAdd,Nat.reduceSub,Nat.reduceMul,List.reduceReplicate,Nat.reduceLeDiff,Nat.reduceLT,Nat.reduceBEq,Nat.reduceEqDiff,Int.reduceNeg,Int.reduceEq,Int.reduceLE,Int.reduceLT,tfb,ctz8,x8_18,x8_18_m1,x8_19,eq_self, Int.lt_irrefl, e1, e2, hbb, hdz, hzz, hsd, hl0', hl1, hlast, q1, q2, q3]
  refine ⟨⟨by omega, by omega⟩, by omega, by omega, ?_⟩
  have hpr := fun q hq => pass_run hG hm (by rw [← hj2]; exact hmr.1) (by omega) (by omega) (by omega) q3 q hq
  refine loop_u (O := O8) (tb := 0) Ct8_ok hmix (by kernel_rfl) (σ := Nat) (fun q => [(15, .own 138 30 5 (l.map Ev.c ++ psN p m.since q)), (16, .i (m.since + (q : Int))), (17, .i (m.stage + (q : Int))), (139, .any)]) (fun q => []) (fun q => (q : Int) ≤ 6 - m.stage) (fun q => (6 - m.stage).toNat - q) (fun q => q + 1) 0 (by omega) ?_ ?_
  · have hz : l.map Ev.c ++ psN p m.since 0 = l.map Ev.c := List.append_nil _
    have z1 : m.since + ((0 : Nat) : Int) = m.since := by omega
    have z2 : m.stage + ((0 : Nat) : Int) = m.stage := by omega
    simp (maxSteps := 4000000) +contextual (disch := first | omega | exact qdb_ok (by kernel_rfl) | exact okb_ok (by kernel_rfl)) only [bw1,bw2,bw3,bw4,bw5,bw6,bw7,bc0,bc1,bc2,bc3,bc4,bc5,bc6,bc7,bb0,setPs,AV.owns,AV.datF,AV.frz,AV.cpy,ifV,isEqB,nilV,nilX,AV.isNilS,AV.isNoRows,wk,dclo,datOf,binIs,addF,AV.isPtr,idxV,AV.isSl,AV.isSlice,AV.rows,ps,pv,extV,extS,AV.outs,AV.outF,packD,AV.dl,fieldV,fieldS,AV.cells?,AV.upr,AV.menc,AV.one,D.one,Value.oneCell',tagOf,AV.isApp,strV,strS,bolV,bolS,slcV,AV.isSlD,asrtS,AV.dcells,D.cells?,stcV,stcS,leafOk,eqDs,eqD,packA,D.val?,↓reduceIte,reduceCtorEq,Nat.reduceAdd,Nat.reduceSub,Nat.reduceMul,List.reduceReplicate,Nat.reduceLeDiff,Nat.reduceLT,Nat.reduceBEq,Nat.reduceEqDiff,Int.reduceNeg,Int.reduceEq,Int.reduceLE,Int.reduceLT,tfb,ctz8,x8_18,x8_18_m1,x8_19,eq_self, hz, z1, z2]
    exact ⟨by simp, by simp⟩
  intro q hq
  have hrows : (l.map Ev.c ++ psN p m.since q).length ≤ 200 := by rw [List.length_append, List.length_map, psN_len]; omega
  have hsucc := psN_succ (p := p) (d := m.since) (q := q)
  by_cases hqb : (q : Int) < 6 - m.stage
  · have hqb' : m.stage + (q : Int) < 6 := by omega
    generalize hR : l.map Ev.c ++ psN p m.since q = R at hrows
    have hR2 : l.map Ev.c ++ psN p m.since (q + 1) = R ++ [evN (m.since + (q : Int) + 1) 4 p 0] := by rw [hsucc, ← List.append_assoc, hR]
    simp (maxSteps := 4000000) +contextual (disch := first | omega | exact qdb_ok (by kernel_rfl) | exact okb_ok (by kernel_rfl)) only [bw1,bw2,bw3,bw4,bw5,bw6,bw7,bc0,bc1,bc2,bc3,bc4,bc5,bc6,bc7,bb0,setPs,AV.owns,AV.datF,AV.frz,AV.cpy,ifV,isEqB,nilV,nilX,AV.isNilS,AV.isNoRows,wk,dclo,datOf,binIs,addF,AV.isPtr,idxV,AV.isSl,AV.isSlice,AV.rows,ps,pv,extV,extS,AV.outs,AV.outF,packD,AV.dl,fieldV,fieldS,AV.cells?,AV.upr,AV.menc,AV.one,D.one,Value.oneCell',tagOf,AV.isApp,strV,strS,bolV,bolS,slcV,AV.isSlD,asrtS,AV.dcells,D.cells?,stcV,stcS,leafOk,eqDs,eqD,packA,D.val?,↓reduceIte,reduceCtorEq,Nat.reduceAdd,Nat.reduceSub,Nat.reduceMul,List.reduceReplicate,Nat.reduceLeDiff,Nat.reduceLT,Nat.reduceBEq,Nat.reduceEqDiff,Int.reduceNeg,Int.reduceEq,Int.reduceLE,Int.reduceLT,tfb,ctz8,x8_18,x8_18_m1,x8_19,eq_self, hqb', hR2]
    exact ⟨by omega, by omega, ⟨by omega, by omega⟩, rfl, by rw [Int.add_assoc], by rw [Int.add_assoc]⟩
  have hqb' : ¬ m.stage + (q : Int) < 6 := by omega
  obtain ⟨hGq, hmq, hlq⟩ := hpr q hq
  have hsh1 : (l ++ psE p m.since q).length < 200 := by rw [List.length_append, psE_len]; omega
  have hshq : ∀ d, ShsOk ((l ++ psE p m.since q) ++ [⟨d, 5, p, 0, []⟩]) := fun d => by
    rw [List.append_assoc]
    exact shs_app hl (by rw [List.length_append, psE_len]; simp only [List.length_cons, List.length_nil]; omega) (by
      intro x hx
      rcases List.mem_append.1 hx with hx | hx
      · obtain ⟨i, _, rfl⟩ := List.mem_map.1 hx; exact Nat.zero_le _
      · simp at hx; rw [hx]; exact Nat.zero_le _)
  have hnil : ∀ d, NilRs ((l.map Ev.c ++ psN p m.since q) ++ [evN d 5 p 0]) (((l ++ psE p m.since q) ++ ([⟨d, 5, p, 0, []⟩] : List Ev)).map Ev.c) := fun d => by
    rw [List.map_append, List.map_append]; exact NilRs.app (NilRs.app (.refl _) psN_deep) (.cons evN_deep (.refl _))
  have hcl := fun d h1 h2 => clear_run hGq hmq (by rw [← hj2]; exact hmr.1) (show m.stage + (q : Int) = 6 by omega) hsh1 (d := d) h1 h2
  have hc1 := hcl (dy - 1) (by omega) (by omega)
  have hc2 := hcl dy (by omega) (by omega)
  rw [if_pos (show dy - 1 ≤ m.since + (q : Int) by omega)] at hc1
  rw [if_neg (show ¬ dy ≤ m.since + (q : Int) by omega)] at hc2
  generalize hR : l.map Ev.c ++ psN p m.since q = R at hrows hnil
  have hp1 : playR ((l ++ psE p m.since q) ++ ([⟨dy - 1, 5, p, 0, []⟩] : List Ev)) = ([], ((runR ((l ++ psE p m.since q) ++ ([⟨dy - 1, 5, p, 0, []⟩] : List Ev))).2.1 : Int), 11) := by
    rw [play_err (by rw [hc1]; decide), hc1]
  have hp2 := play_ok hc2
  simp (maxSteps := 4000000) +contextual (disch := first | omega | exact qdb_ok (by kernel_rfl) | exact okb_ok (by kernel_rfl)) only [bw1,bw2,bw3,bw4,bw5,bw6,bw7,bc0,bc1,bc2,bc3,bc4,bc5,bc6,bc7,bb0,setPs,AV.owns,AV.datF,AV.frz,AV.cpy,ifV,isEqB,nilV,nilX,AV.isNilS,AV.isNoRows,wk,dclo,datOf,binIs,addF,AV.isPtr,idxV,AV.isSl,AV.isSlice,AV.rows,ps,pv,extV,extS,AV.outs,AV.outF,packD,AV.dl,fieldV,fieldS,AV.cells?,AV.upr,AV.menc,AV.one,D.one,Value.oneCell',tagOf,AV.isApp,strV,strS,bolV,bolS,slcV,AV.isSlD,asrtS,AV.dcells,D.cells?,stcV,stcS,leafOk,eqDs,eqD,packA,D.val?,↓reduceIte,reduceCtorEq,Nat.reduceAdd,Nat.reduceSub,Nat.reduceMul,List.reduceReplicate,Nat.reduceLeDiff,Nat.reduceLT,Nat.reduceBEq,Nat.reduceEqDiff,Int.reduceNeg,Int.reduceEq,Int.reduceLE,Int.reduceLT,tfb,ctz8,x8_18,x8_18_m1,x8_19,eq_self, hqb', hx12]
  refine ⟨by omega, by omega, by omega, by omega, ?_⟩
  refine ⟨(_, (l ++ psE p m.since q) ++ ([⟨dy - 1, 5, p, 0, []⟩] : List Ev)), rfl, ⟨hnil _, hshq _⟩, ?_⟩
  simp (maxSteps := 4000000) +contextual (disch := first | omega | exact qdb_ok (by kernel_rfl) | exact okb_ok (by kernel_rfl)) only [bw1,bw2,bw3,bw4,bw5,bw6,bw7,bc0,bc1,bc2,bc3,bc4,bc5,bc6,bc7,bb0,setPs,AV.owns,AV.datF,AV.frz,AV.cpy,ifV,isEqB,nilV,nilX,AV.isNilS,AV.isNoRows,wk,dclo,datOf,binIs,addF,AV.isPtr,idxV,AV.isSl,AV.isSlice,AV.rows,ps,pv,extV,extS,AV.outs,AV.outF,packD,AV.dl,fieldV,fieldS,AV.cells?,AV.upr,AV.menc,AV.one,D.one,Value.oneCell',tagOf,AV.isApp,strV,strS,bolV,bolS,slcV,AV.isSlD,asrtS,AV.dcells,D.cells?,stcV,stcS,leafOk,eqDs,eqD,packA,D.val?,↓reduceIte,reduceCtorEq,Nat.reduceAdd,Nat.reduceSub,Nat.reduceMul,List.reduceReplicate,Nat.reduceLeDiff,Nat.reduceLT,Nat.reduceBEq,Nat.reduceEqDiff,Int.reduceNeg,Int.reduceEq,Int.reduceLE,Int.reduceLT,tfb,ctz8,x8_18,x8_18_m1,x8_19,eq_self, hp1, hx12]
  try refine ⟨by omega, by omega, by omega, by omega, ?_⟩
  refine ⟨(_, (l ++ psE p m.since q) ++ ([⟨dy, 5, p, 0, []⟩] : List Ev)), rfl, ⟨hnil _, hshq _⟩, ?_⟩
  clear hnil hcl hshq hc1 hp1
  clear hrows hsucc hpr
  clear hq hqb hqb' hsh1
  by_cases g1 : m.ban = 0
  · have g1b : (m.ban == 0) = true := by simpa using g1
    simp (maxSteps := 4000000) +contextual (disch := first | omega | exact qdb_ok (by kernel_rfl) | exact okb_ok (by kernel_rfl)) only [bw1,bw2,bw3,bw4,bw5,bw6,bw7,bc0,bc1,bc2,bc3,bc4,bc5,bc6,bc7,bb0,setPs,AV.owns,AV.datF,AV.frz,AV.cpy,ifV,isEqB,nilV,nilX,AV.isNilS,AV.isNoRows,wk,dclo,datOf,binIs,addF,AV.isPtr,idxV,AV.isSl,AV.isSlice,AV.rows,ps,pv,extV,extS,AV.outs,AV.outF,packD,AV.dl,fieldV,fieldS,AV.cells?,AV.upr,AV.menc,AV.one,D.one,Value.oneCell',tagOf,AV.isApp,strV,strS,bolV,bolS,slcV,AV.isSlD,asrtS,AV.dcells,D.cells?,stcV,stcS,leafOk,eqDs,eqD,packA,D.val?,↓reduceIte,reduceCtorEq,Nat.reduceAdd,Nat.reduceSub,Nat.reduceMul,List.reduceReplicate,Nat.reduceLeDiff,Nat.reduceLT,Nat.reduceBEq,Nat.reduceEqDiff,Int.reduceNeg,Int.reduceEq,Int.reduceLE,Int.reduceLT,tfb,ctz8,x8_18,x8_18_m1,x8_19,eq_self, g1b, hp2, bne_self_eq_false, Int.reduceBNe]
    all_goals omega
  have g1b : (m.ban == 0) = false := by simpa using g1
  by_cases g2 : 40 < m.ban
  · simp (maxSteps := 4000000) +contextual (disch := first | omega | exact qdb_ok (by kernel_rfl) | exact okb_ok (by kernel_rfl)) only [bw1,bw2,bw3,bw4,bw5,bw6,bw7,bc0,bc1,bc2,bc3,bc4,bc5,bc6,bc7,bb0,setPs,AV.owns,AV.datF,AV.frz,AV.cpy,ifV,isEqB,nilV,nilX,AV.isNilS,AV.isNoRows,wk,dclo,datOf,binIs,addF,AV.isPtr,idxV,AV.isSl,AV.isSlice,AV.rows,ps,pv,extV,extS,AV.outs,AV.outF,packD,AV.dl,fieldV,fieldS,AV.cells?,AV.upr,AV.menc,AV.one,D.one,Value.oneCell',tagOf,AV.isApp,strV,strS,bolV,bolS,slcV,AV.isSlD,asrtS,AV.dcells,D.cells?,stcV,stcS,leafOk,eqDs,eqD,packA,D.val?,↓reduceIte,reduceCtorEq,Nat.reduceAdd,Nat.reduceSub,Nat.reduceMul,List.reduceReplicate,Nat.reduceLeDiff,Nat.reduceLT,Nat.reduceBEq,Nat.reduceEqDiff,Int.reduceNeg,Int.reduceEq,Int.reduceLE,Int.reduceLT,tfb,ctz8,x8_18,x8_18_m1,x8_19,eq_self, g1b, g2, hp2, bne_self_eq_false, Int.reduceBNe]
    all_goals omega
  by_cases g3 : 16384 < lastD l + m.ban
  · simp (maxSteps := 4000000) +contextual (disch := first | omega | exact qdb_ok (by kernel_rfl) | exact okb_ok (by kernel_rfl)) only [bw1,bw2,bw3,bw4,bw5,bw6,bw7,bc0,bc1,bc2,bc3,bc4,bc5,bc6,bc7,bb0,setPs,AV.owns,AV.datF,AV.frz,AV.cpy,ifV,isEqB,nilV,nilX,AV.isNilS,AV.isNoRows,wk,dclo,datOf,binIs,addF,AV.isPtr,idxV,AV.isSl,AV.isSlice,AV.rows,ps,pv,extV,extS,AV.outs,AV.outF,packD,AV.dl,fieldV,fieldS,AV.cells?,AV.upr,AV.menc,AV.one,D.one,Value.oneCell',tagOf,AV.isApp,strV,strS,bolV,bolS,slcV,AV.isSlD,asrtS,AV.dcells,D.cells?,stcV,stcS,leafOk,eqDs,eqD,packA,D.val?,↓reduceIte,reduceCtorEq,Nat.reduceAdd,Nat.reduceSub,Nat.reduceMul,List.reduceReplicate,Nat.reduceLeDiff,Nat.reduceLT,Nat.reduceBEq,Nat.reduceEqDiff,Int.reduceNeg,Int.reduceEq,Int.reduceLE,Int.reduceLT,tfb,ctz8,x8_18,x8_18_m1,x8_19,eq_self, g1b, g2, g3, hp2, bne_self_eq_false, Int.reduceBNe]
    all_goals omega
  simp (maxSteps := 4000000) +contextual (disch := first | omega | exact qdb_ok (by kernel_rfl) | exact okb_ok (by kernel_rfl)) only [bw1,bw2,bw3,bw4,bw5,bw6,bw7,bc0,bc1,bc2,bc3,bc4,bc5,bc6,bc7,bb0,setPs,AV.owns,AV.datF,AV.frz,AV.cpy,ifV,isEqB,nilV,nilX,AV.isNilS,AV.isNoRows,wk,dclo,datOf,binIs,addF,AV.isPtr,idxV,AV.isSl,AV.isSlice,AV.rows,ps,pv,extV,extS,AV.outs,AV.outF,packD,AV.dl,fieldV,fieldS,AV.cells?,AV.upr,AV.menc,AV.one,D.one,Value.oneCell',tagOf,AV.isApp,strV,strS,bolV,bolS,slcV,AV.isSlD,asrtS,AV.dcells,D.cells?,stcV,stcS,leafOk,eqDs,eqD,packA,D.val?,↓reduceIte,reduceCtorEq,Nat.reduceAdd,Nat.reduceSub,Nat.reduceMul,List.reduceReplicate,Nat.reduceLeDiff,Nat.reduceLT,Nat.reduceBEq,Nat.reduceEqDiff,Int.reduceNeg,Int.reduceEq,Int.reduceLE,Int.reduceLT,tfb,ctz8,x8_18,x8_18_m1,x8_19,eq_self, g1b, g2, g3, hp2, bne_self_eq_false, Int.reduceBNe]
  refine ⟨by omega, by omega, ?_⟩
  have hmr2 := fun q h1 h2 h3 => match_run hG hm hmr.2 hmo.1.1 (by omega) q h1 h2 h3
  refine loop_u (O := O8) (tb := 0) Ct8_ok hmix (by kernel_rfl) (σ := Nat) (fun q => [(24, .own 203 30 5 (l.map Ev.c ++ msN m.club (lastD l) q)), (25, .i ((q : Int) + 1)), (204, .any)]) (fun _ => []) (fun q => (q : Int) ≤ m.ban) (fun q => m.ban.toNat - q) (fun q => q + 1) 0 (by omega) ?_ ?_
  · have hz : l.map Ev.c ++ msN m.club (lastD l) 0 = l.map Ev.c := List.append_nil _
    simp (maxSteps := 4000000) +contextual (disch := first | omega | exact qdb_ok (by kernel_rfl) | exact okb_ok (by kernel_rfl)) only [bw1,bw2,bw3,bw4,bw5,bw6,bw7,bc0,bc1,bc2,bc3,bc4,bc5,bc6,bc7,bb0,setPs,AV.owns,AV.datF,AV.frz,AV.cpy,ifV,isEqB,nilV,nilX,AV.isNilS,AV.isNoRows,wk,dclo,datOf,binIs,addF,AV.isPtr,idxV,AV.isSl,AV.isSlice,AV.rows,ps,pv,extV,extS,AV.outs,AV.outF,packD,AV.dl,fieldV,fieldS,AV.cells?,AV.upr,AV.menc,AV.one,D.one,Value.oneCell',tagOf,AV.isApp,strV,strS,bolV,bolS,slcV,AV.isSlD,asrtS,AV.dcells,D.cells?,stcV,stcS,leafOk,eqDs,eqD,packA,D.val?,↓reduceIte,reduceCtorEq,Nat.reduceAdd,Nat.reduceSub,Nat.reduceMul,List.reduceReplicate,Nat.reduceLeDiff,Nat.reduceLT,Nat.reduceBEq,Nat.reduceEqDiff,Int.reduceNeg,Int.reduceEq,Int.reduceLE,Int.reduceLT,tfb,ctz8,x8_18,x8_18_m1,x8_19,eq_self, hz]
    try rfl
  intro q hq
  obtain ⟨hGq, hmq, _⟩ := hmr2 q hq (by omega) (by omega)
  have hbq := back_is (p := p) hGq.ok hmq
  obtain ⟨dy2, hdy2⟩ : ∃ dy2, backM { m with ban := m.ban - (q : Int) } = (m.ban - (q : Int), dy2) := ⟨_, rfl⟩
  rw [hdy2] at hbq
  have hnil : NilRs (l.map Ev.c ++ msN m.club (lastD l) q) ((l ++ msE m.club (lastD l) q).map Ev.c) := by rw [List.map_append]; exact NilRs.app (.refl _) msN_deep
  have hshq : ShsOk (l ++ msE m.club (lastD l) q) := shs_app hl (by rw [msE_len]; omega) (by intro x hx; obtain ⟨i, _, rfl⟩ := List.mem_map.1 hx; exact Nat.zero_le _)
  have hrows : (l.map Ev.c ++ msN m.club (lastD l) q).length ≤ 200 := by rw [List.length_append, List.length_map, msN_len]; omega
  have hsucc := msN_succ (c := m.club) (d := lastD l) (q := q)
  by_cases hqb : (q : Int) < m.ban
  · have hqb' : (q : Int) + 1 ≤ m.ban := by omega
    have hne : ((m.ban - (q : Int)) != (m.ban - ((q : Int) + 1) + 1)) = false := by
      rw [show m.ban - ((q : Int) + 1) + 1 = m.ban - (q : Int) by omega]; simp
    simp (maxSteps := 4000000) +contextual (disch := first | omega | exact qdb_ok (by kernel_rfl) | exact okb_ok (by kernel_rfl)) only [bw1,bw2,bw3,bw4,bw5,bw6,bw7,bc0,bc1,bc2,bc3,bc4,bc5,bc6,bc7,bb0,setPs,AV.owns,AV.datF,AV.frz,AV.cpy,ifV,isEqB,nilV,nilX,AV.isNilS,AV.isNoRows,wk,dclo,datOf,binIs,addF,AV.isPtr,idxV,AV.isSl,AV.isSlice,AV.rows,ps,pv,extV,extS,AV.outs,AV.outF,packD,AV.dl,fieldV,fieldS,AV.cells?,AV.upr,AV.menc,AV.one,D.one,Value.oneCell',tagOf,AV.isApp,strV,strS,bolV,bolS,slcV,AV.isSlD,asrtS,AV.dcells,D.cells?,stcV,stcS,leafOk,eqDs,eqD,packA,D.val?,↓reduceIte,reduceCtorEq,Nat.reduceAdd,Nat.reduceSub,Nat.reduceMul,List.reduceReplicate,Nat.reduceLeDiff,Nat.reduceLT,Nat.reduceBEq,Nat.reduceEqDiff,Int.reduceNeg,Int.reduceEq,Int.reduceLE,Int.reduceLT,tfb,ctz8,x8_18,x8_18_m1,x8_19,eq_self, hqb', hx17]
    refine ⟨(_, l ++ msE m.club (lastD l) q, p), rfl, ⟨hnil, hshq, hp64⟩, .inr rfl, ?_⟩
    generalize hR : l.map Ev.c ++ msN m.club (lastD l) q = R at hrows
    have hR2 : l.map Ev.c ++ msN m.club (lastD l) (q + 1) = R ++ [evN (lastD l + (q : Int) + 1) 6 0 m.club] := by rw [hsucc, ← List.append_assoc, hR]
    have has : lastD l + ((q : Int) + 1) = lastD l + (q : Int) + 1 := by omega
    simp (maxSteps := 4000000) +contextual (disch := first | omega | exact qdb_ok (by kernel_rfl) | exact okb_ok (by kernel_rfl)) only [bw1,bw2,bw3,bw4,bw5,bw6,bw7,bc0,bc1,bc2,bc3,bc4,bc5,bc6,bc7,bb0,setPs,AV.owns,AV.datF,AV.frz,AV.cpy,ifV,isEqB,nilV,nilX,AV.isNilS,AV.isNoRows,wk,dclo,datOf,binIs,addF,AV.isPtr,idxV,AV.isSl,AV.isSlice,AV.rows,ps,pv,extV,extS,AV.outs,AV.outF,packD,AV.dl,fieldV,fieldS,AV.cells?,AV.upr,AV.menc,AV.one,D.one,Value.oneCell',tagOf,AV.isApp,strV,strS,bolV,bolS,slcV,AV.isSlD,asrtS,AV.dcells,D.cells?,stcV,stcS,leafOk,eqDs,eqD,packA,D.val?,↓reduceIte,reduceCtorEq,Nat.reduceAdd,Nat.reduceSub,Nat.reduceMul,List.reduceReplicate,Nat.reduceLeDiff,Nat.reduceLT,Nat.reduceBEq,Nat.reduceEqDiff,Int.reduceNeg,Int.reduceEq,Int.reduceLE,Int.reduceLT,tfb,ctz8,x8_18,x8_18_m1,x8_19,eq_self, hbq, hne, bne_self_eq_false, hR2, has, Int.reduceBNe]
    and_intros <;> first | omega | rfl | trivial
  · have hqb' : ¬ (q : Int) + 1 ≤ m.ban := by omega
    have hq0 : ((m.ban - (q : Int)) == 0) = true := by rw [show m.ban - (q : Int) = 0 by omega]; rfl
    simp (maxSteps := 4000000) +contextual (disch := first | omega | exact qdb_ok (by kernel_rfl) | exact okb_ok (by kernel_rfl)) only [bw1,bw2,bw3,bw4,bw5,bw6,bw7,bc0,bc1,bc2,bc3,bc4,bc5,bc6,bc7,bb0,setPs,AV.owns,AV.datF,AV.frz,AV.cpy,ifV,isEqB,nilV,nilX,AV.isNilS,AV.isNoRows,wk,dclo,datOf,binIs,addF,AV.isPtr,idxV,AV.isSl,AV.isSlice,AV.rows,ps,pv,extV,extS,AV.outs,AV.outF,packD,AV.dl,fieldV,fieldS,AV.cells?,AV.upr,AV.menc,AV.one,D.one,Value.oneCell',tagOf,AV.isApp,strV,strS,bolV,bolS,slcV,AV.isSlD,asrtS,AV.dcells,D.cells?,stcV,stcS,leafOk,eqDs,eqD,packA,D.val?,↓reduceIte,reduceCtorEq,Nat.reduceAdd,Nat.reduceSub,Nat.reduceMul,List.reduceReplicate,Nat.reduceLeDiff,Nat.reduceLT,Nat.reduceBEq,Nat.reduceEqDiff,Int.reduceNeg,Int.reduceEq,Int.reduceLE,Int.reduceLT,tfb,ctz8,x8_18,x8_18_m1,x8_19,eq_self, hqb', hx17]
    refine ⟨(_, l ++ msE m.club (lastD l) q, p), rfl, ⟨hnil, hshq, hp64⟩, .inr rfl, ?_⟩
    simp (maxSteps := 4000000) +contextual (disch := first | omega | exact qdb_ok (by kernel_rfl) | exact okb_ok (by kernel_rfl)) only [bw1,bw2,bw3,bw4,bw5,bw6,bw7,bc0,bc1,bc2,bc3,bc4,bc5,bc6,bc7,bb0,setPs,AV.owns,AV.datF,AV.frz,AV.cpy,ifV,isEqB,nilV,nilX,AV.isNilS,AV.isNoRows,wk,dclo,datOf,binIs,addF,AV.isPtr,idxV,AV.isSl,AV.isSlice,AV.rows,ps,pv,extV,extS,AV.outs,AV.outF,packD,AV.dl,fieldV,fieldS,AV.cells?,AV.upr,AV.menc,AV.one,D.one,Value.oneCell',tagOf,AV.isApp,strV,strS,bolV,bolS,slcV,AV.isSlD,asrtS,AV.dcells,D.cells?,stcV,stcS,leafOk,eqDs,eqD,packA,D.val?,↓reduceIte,reduceCtorEq,Nat.reduceAdd,Nat.reduceSub,Nat.reduceMul,List.reduceReplicate,Nat.reduceLeDiff,Nat.reduceLT,Nat.reduceBEq,Nat.reduceEqDiff,Int.reduceNeg,Int.reduceEq,Int.reduceLE,Int.reduceLT,tfb,ctz8,x8_18,x8_18_m1,x8_19,eq_self, hbq, hq0, Int.reduceBEq]
end Go.Proofs.Ytohkngiflfkjjaa
