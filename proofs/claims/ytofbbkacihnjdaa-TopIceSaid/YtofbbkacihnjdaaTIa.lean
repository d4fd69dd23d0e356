/- A part of the proof that the last text ends: what functions of the program do, told by plain data. -/
import Derived.Test.YtofbbkacihnjdaaIHU
set_option linter.unusedVariables false
set_option linter.unusedSimpArgs false
namespace Go.Proofs.Ytofbbkacihnjdaa
open Go Go.E Go.Maps
set_option maxRecDepth 100000
set_option maxHeartbeats 4000000
structure Pn where
  lo : Int
  hi : Int
  deriving Inhabited, DecidableEq
abbrev Pn.c (s : Pn) : List D := [.i s.lo, .i s.hi]
structure Zo where
  ice : Pn
  paint : Pn
  deriving Inhabited, DecidableEq
abbrev Zo.c (z : Zo) : List D := [.i z.ice.lo, .i z.ice.hi, .i z.paint.lo, .i z.paint.hi]
theorem Pn.inj {a b : Pn} (h : a.c = b.c) : a = b := by cases a; cases b; simp at h; simp [h]
theorem pn_inj {a b : Pn} : (a.lo = b.lo ∧ a.hi = b.hi) = (a = b) := by cases a; cases b; simp
theorem Zo.inj {a b : Zo} (h : a.c = b.c) : a = b := by
  obtain ⟨⟨a1, a2⟩, ⟨a3, a4⟩⟩ := a
  obtain ⟨⟨b1, b2⟩, ⟨b3, b4⟩⟩ := b
  simp at h; simp [h]
theorem zos_inj {a b : List Zo} : (a.map Zo.c = b.map Zo.c) = (a = b) := inj_map fun _ _ h => Zo.inj h
theorem zo_inj {a b : Zo} : (a.ice = b.ice ∧ a.paint = b.paint) = (a = b) := by cases a; cases b; simp
theorem zo_inj2 {a b : Zo} : (a.ice.lo = b.ice.lo ∧ a.ice.hi = b.ice.hi ∧ a.paint = b.paint) = (a = b) := by
  obtain ⟨⟨a1, a2⟩, a3⟩ := a
  obtain ⟨⟨b1, b2⟩, b3⟩ := b
  simp [and_assoc]
def Pn.ok (s : Pn) : Bool := decide (0 ≤ s.lo) && (decide (s.lo ≤ s.hi) && decide (s.hi ≤ 20000))
def Pn.less (t s : Pn) : Pn := ⟨max 0 (t.lo - s.hi), max 0 (t.hi - s.lo)⟩
def Pn.more (t s : Pn) : Pn := ⟨t.lo + s.lo, t.hi + s.hi⟩
def Pn.taken (t s : Pn) : Pn := ⟨min t.lo s.lo, min t.hi s.hi⟩
def Pn.sm (s : Pn) : Prop := (-1000000000 ≤ s.lo ∧ s.lo ≤ 1000000000) ∧ -1000000000 ≤ s.hi ∧ s.hi ≤ 1000000000
def O21 : Nat → Sch := fun id => .done
theorem ho21 : Try.f21.body.map (okO O21) = some true := by kernel_rfl
def Cf21 : Nat → List AV → (AV → List AV → Sto → Prop) → Kt → List AV → Sto → Prop := fun f args K Q e s => match f with
  | _ => False
def Ct21 : CT := { f := Cf21, y := noYld, z := fun d => false }
theorem ctz21 {d : Nat} : CT.z Ct21 d = (false) := id rfl
theorem Ct21_ok : Ct21.ok Try.prog := ok_of_f (fun f args K Q e s h => by
  have h : Cf21 f args K Q e s := h
  unfold Cf21 at h; split at h
  · exact h.elim) (fun _ _ _ _ _ _ _ _ _ h => h)
theorem c21 : callable Try.prog 21 = true := by kernel_rfl
theorem pf21 (n lo hi : Int) : PF Try.prog 21 [.i n, .i lo, .i hi] (fun zz => zz = .ret (.b (inB n lo hi))) := by
  refine PF_nil (PF_start (O := O21) Ct21_ok hmix ho21 Try.func21 c21 rfl Try.ntmps21 Try.results21 ?_)
  by_cases h : lo ≤ n
  · simp (maxSteps := 4000000) +contextual (disch := first | omega | exact qdb_ok (by kernel_rfl) | exact okb_ok (by kernel_rfl)) only [bw1,bw2,bw3,bw4,bw5,bw6,bw7,bc0,bc1,bc2,bc3,bc4,bc5,bc6,bc7,bb0,setPs,AV.owns,AV.datF,AV.frz,AV.cpy,ifV,isEqB,nilV,nilX,AV.isNilS,AV.isNoRows,wk,dclo,datOf,binIs,addF,AV.isPtr,idxV,AV.isSl,AV.isSlice,AV.rows,ps,pv,extV,extS,AV.outs,AV.outF,packD,AV.dl,fieldV,fieldS,AV.cells?,AV.upr,AV.menc,AV.one,D.one,Value.oneCell',tagOf,AV.isApp,strV,strS,bolV,bolS,slcV,AV.isSlD,asrtS,AV.dcells,D.cells?,stcV,stcS,leafOk,eqDs,eqD,packA,D.val?,↓reduceIte,reduceCtorEq,Nat.reduceAdd,Nat.reduceSub,Nat.reduceMul,List.reduceReplicate,Nat.reduceLeDiff,Nat.reduceLT,Nat.reduceBEq,Nat.reduceEqDiff,Int.reduceNeg,Int.reduceEq,Int.reduceLE,Int.reduceLT,tfb,ctz21,h, inB]
  · simp (maxSteps := 4000000) +contextual (disch := first | omega | exact qdb_ok (by kernel_rfl) | exact okb_ok (by kernel_rfl)) only [bw1,bw2,bw3,bw4,bw5,bw6,bw7,bc0,bc1,bc2,bc3,bc4,bc5,bc6,bc7,bb0,setPs,AV.owns,AV.datF,AV.frz,AV.cpy,ifV,isEqB,nilV,nilX,AV.isNilS,AV.isNoRows,wk,dclo,datOf,binIs,addF,AV.isPtr,idxV,AV.isSl,AV.isSlice,AV.rows,ps,pv,extV,extS,AV.outs,AV.outF,packD,AV.dl,fieldV,fieldS,AV.cells?,AV.upr,AV.menc,AV.one,D.one,Value.oneCell',tagOf,AV.isApp,strV,strS,bolV,bolS,slcV,AV.isSlD,asrtS,AV.dcells,D.cells?,stcV,stcS,leafOk,eqDs,eqD,packA,D.val?,↓reduceIte,reduceCtorEq,Nat.reduceAdd,Nat.reduceSub,Nat.reduceMul,List.reduceReplicate,Nat.reduceLeDiff,Nat.reduceLT,Nat.reduceBEq,Nat.reduceEqDiff,Int.reduceNeg,Int.reduceEq,Int.reduceLE,Int.reduceLT,tfb,ctz21,h, inB, Bool.false_and]
def ent21 (args : List AV) (K : AV → List AV → Sto → Prop) (e : List AV) (s : Sto) : Prop := ent (α := (Int) × (Int) × (Int)) (fun aa => [.i aa.1, .i aa.2.1, .i aa.2.2]) (fun aa => True) (fun aa => .b (inB aa.1 aa.2.1 aa.2.2)) args K e s
theorem ent21_ok {args : List AV} {K : AV → List AV → Sto → Prop} {Q : Kt} {e : List AV} {s : Sto} (h : ent21 args K e s) : pcall Try.prog 21 args K Q e s := ent_ok (fun aa h => pf21 aa.1 aa.2.1 aa.2.2) h
theorem eq21 {n : Int} {lo : Int} {hi : Int} {KK : AV → List AV → Sto → Prop} {ee : List AV} {ss : Sto} : ent21 [.d (.i n), .d (.i lo), .d (.i hi)] KK ee ss = (KK (.d (.b (inB n lo hi))) ee ss) := by
  unfold ent21; rw [ent_iff (n, lo, hi) (by intro b h; simpa [Prod.ext_iff, and_assoc, Int.ofNat_inj, ints_inj, hrs_inj, grs_inj, hr_inj, gr_inj, tt_inj, bcs_inj, cn_inj, sd_inj, pn_inj, zos_inj, zo_inj2, zo_inj] using h) rfl]; simp
def O20 : Nat → Sch := fun id => .done
theorem ho20 : Try.f20.body.map (okO O20) = some true := by kernel_rfl
def Cf20 : Nat → List AV → (AV → List AV → Sto → Prop) → Kt → List AV → Sto → Prop := fun f args K Q e s => match f with
  | _ => False
def Ct20 : CT := { f := Cf20, y := noYld, z := fun d => false }
theorem ctz20 {d : Nat} : CT.z Ct20 d = (false) := id rfl
theorem Ct20_ok : Ct20.ok Try.prog := ok_of_f (fun f args K Q e s h => by
  have h : Cf20 f args K Q e s := h
  unfold Cf20 at h; split at h
  · exact h.elim) (fun _ _ _ _ _ _ _ _ _ h => h)
theorem c20 : callable Try.prog 20 = true := by kernel_rfl
theorem pf20 (s : Pn) : PF Try.prog 20 [.agg s.c] (fun zz => zz = .ret (.b s.ok)) := by
  unfold Pn.ok
  by_cases c1 : 0 ≤ s.lo
  case neg =>
    refine PF_nil (PF_start (O := O20) Ct20_ok hmix ho20 Try.func20 c20 rfl Try.ntmps20 Try.results20 ?_)
    simp (maxSteps := 4000000) +contextual (disch := first | omega | exact qdb_ok (by kernel_rfl) | exact okb_ok (by kernel_rfl)) only [bw1,bw2,bw3,bw4,bw5,bw6,bw7,bc0,bc1,bc2,bc3,bc4,bc5,bc6,bc7,bb0,setPs,AV.owns,AV.datF,AV.frz,AV.cpy,ifV,isEqB,nilV,nilX,AV.isNilS,AV.isNoRows,wk,dclo,datOf,binIs,addF,AV.isPtr,idxV,AV.isSl,AV.isSlice,AV.rows,ps,pv,extV,extS,AV.outs,AV.outF,packD,AV.dl,fieldV,fieldS,AV.cells?,AV.upr,AV.menc,AV.one,D.one,Value.oneCell',tagOf,AV.isApp,strV,strS,bolV,bolS,slcV,AV.isSlD,asrtS,AV.dcells,D.cells?,stcV,stcS,leafOk,eqDs,eqD,packA,D.val?,↓reduceIte,reduceCtorEq,Nat.reduceAdd,Nat.reduceSub,Nat.reduceMul,List.reduceReplicate,Nat.reduceLeDiff,Nat.reduceLT,Nat.reduceBEq,Nat.reduceEqDiff,Int.reduceNeg,Int.reduceEq,Int.reduceLE,Int.reduceLT,tfb,ctz20,c1]
    try simp [c1]
  by_cases c2 : s.lo ≤ s.hi
  case neg =>
    refine PF_nil (PF_start (O := O20) Ct20_ok hmix ho20 Try.func20 c20 rfl Try.ntmps20 Try.results20 ?_)
    simp (maxSteps := 4000000) +contextual (disch := first | omega | exact qdb_ok (by kernel_rfl) | exact okb_ok (by kernel_rfl)) only [bw1,bw2,bw3,bw4,bw5,bw6,bw7,bc0,bc1,bc2,bc3,bc4,bc5,bc6,bc7,bb0,setPs,AV.owns,AV.datF,AV.frz,AV.cpy,ifV,isEqB,nilV,nilX,AV.isNilS,AV.isNoRows,wk,dclo,datOf,binIs,addF,AV.isPtr,idxV,AV.isSl,AV.isSlice,AV.rows,ps,pv,extV,extS,AV.outs,AV.outF,packD,AV.dl,fieldV,fieldS,AV.cells?,AV.upr,AV.menc,AV.one,D.one,Value.oneCell',tagOf,AV.isApp,strV,strS,bolV,bolS,slcV,AV.isSlD,asrtS,AV.dcells,D.cells?,stcV,stcS,leafOk,eqDs,eqD,packA,D.val?,↓reduceIte,reduceCtorEq,Nat.reduceAdd,Nat.reduceSub,Nat.reduceMul,List.reduceReplicate,Nat.reduceLeDiff,Nat.reduceLT,Nat.reduceBEq,Nat.reduceEqDiff,Int.reduceNeg,Int.reduceEq,Int.reduceLE,Int.reduceLT,tfb,ctz20,c1, c2]
    try simp [c1, c2]
  refine PF_nil (PF_start (O := O20) Ct20_ok hmix ho20 Try.func20 c20 rfl Try.ntmps20 Try.results20 ?_)
  simp (maxSteps := 4000000) +contextual (disch := first | omega | exact qdb_ok (by kernel_rfl) | exact okb_ok (by kernel_rfl)) only [bw1,bw2,bw3,bw4,bw5,bw6,bw7,bc0,bc1,bc2,bc3,bc4,bc5,bc6,bc7,bb0,setPs,AV.owns,AV.datF,AV.frz,AV.cpy,ifV,isEqB,nilV,nilX,AV.isNilS,AV.isNoRows,wk,dclo,datOf,binIs,addF,AV.isPtr,idxV,AV.isSl,AV.isSlice,AV.rows,ps,pv,extV,extS,AV.outs,AV.outF,packD,AV.dl,fieldV,fieldS,AV.cells?,AV.upr,AV.menc,AV.one,D.one,Value.oneCell',tagOf,AV.isApp,strV,strS,bolV,bolS,slcV,AV.isSlD,asrtS,AV.dcells,D.cells?,stcV,stcS,leafOk,eqDs,eqD,packA,D.val?,↓reduceIte,reduceCtorEq,Nat.reduceAdd,Nat.reduceSub,Nat.reduceMul,List.reduceReplicate,Nat.reduceLeDiff,Nat.reduceLT,Nat.reduceBEq,Nat.reduceEqDiff,Int.reduceNeg,Int.reduceEq,Int.reduceLE,Int.reduceLT,tfb,ctz20,c1, c2]
  try simp [c1, c2]
def ent20 (args : List AV) (K : AV → List AV → Sto → Prop) (e : List AV) (s : Sto) : Prop := ent (α := (Pn)) (fun aa => [.agg aa.c]) (fun aa => True) (fun aa => .b aa.ok) args K e s
theorem ent20_ok {args : List AV} {K : AV → List AV → Sto → Prop} {Q : Kt} {e : List AV} {s : Sto} (h : ent20 args K e s) : pcall Try.prog 20 args K Q e s := ent_ok (fun aa h => pf20 aa) h
theorem eq20 {s : Pn} {KK : AV → List AV → Sto → Prop} {ee : List AV} {ss : Sto} : ent20 [.d (.agg s.c)] KK ee ss = (KK (.d (.b s.ok)) ee ss) := by
  unfold ent20; rw [ent_iff s (by intro b h; simpa [Prod.ext_iff, and_assoc, Int.ofNat_inj, ints_inj, hrs_inj, grs_inj, hr_inj, gr_inj, tt_inj, bcs_inj, cn_inj, sd_inj, pn_inj, zos_inj, zo_inj2, zo_inj] using h) rfl]; simp
def O26 : Nat → Sch := fun id => .done
theorem ho26 : Try.f26.body.map (okO O26) = some true := by kernel_rfl
def Cf26 : Nat → List AV → (AV → List AV → Sto → Prop) → Kt → List AV → Sto → Prop := fun f args K Q e s => match f with
  | _ => False
def Ct26 : CT := { f := Cf26, y := noYld, z := fun d => false }
theorem ctz26 {d : Nat} : CT.z Ct26 d = (false) := id rfl
theorem Ct26_ok : Ct26.ok Try.prog := ok_of_f (fun f args K Q e s h => by
  have h : Cf26 f args K Q e s := h
  unfold Cf26 at h; split at h
  · exact h.elim) (fun _ _ _ _ _ _ _ _ _ h => h)
theorem c26 : callable Try.prog 26 = true := by kernel_rfl
theorem pf26 (t s : Pn) (h : t.sm ∧ s.sm) : PF Try.prog 26 [.agg t.c, .agg s.c] (fun zz => zz = .ret (.agg (t.less s).c)) := by
  obtain ⟨⟨⟨a1, a2⟩, a3, a4⟩, ⟨b1, b2⟩, b3, b4⟩ := h
  unfold Pn.less
  refine PF_nil (PF_start (O := O26) Ct26_ok hmix ho26 Try.func26 c26 rfl Try.ntmps26 Try.results26 ?_)
  simp (maxSteps := 4000000) +contextual (disch := first | omega | exact qdb_ok (by kernel_rfl) | exact okb_ok (by kernel_rfl)) only [bw1,bw2,bw3,bw4,bw5,bw6,bw7,bc0,bc1,bc2,bc3,bc4,bc5,bc6,bc7,bb0,setPs,AV.owns,AV.datF,AV.frz,AV.cpy,ifV,isEqB,nilV,nilX,AV.isNilS,AV.isNoRows,wk,dclo,datOf,binIs,addF,AV.isPtr,idxV,AV.isSl,AV.isSlice,AV.rows,ps,pv,extV,extS,AV.outs,AV.outF,packD,AV.dl,fieldV,fieldS,AV.cells?,AV.upr,AV.menc,AV.one,D.one,Value.oneCell',tagOf,AV.isApp,strV,strS,bolV,bolS,slcV,AV.isSlD,asrtS,AV.dcells,D.cells?,stcV,stcS,leafOk,eqDs,eqD,packA,D.val?,↓reduceIte,reduceCtorEq,Nat.reduceAdd,Nat.reduceSub,Nat.reduceMul,List.reduceReplicate,Nat.reduceLeDiff,Nat.reduceLT,Nat.reduceBEq,Nat.reduceEqDiff,Int.reduceNeg,Int.reduceEq,Int.reduceLE,Int.reduceLT,tfb,ctz26]
  try exact ⟨rfl, rfl⟩
def ent26 (args : List AV) (K : AV → List AV → Sto → Prop) (e : List AV) (s : Sto) : Prop := ent (α := (Pn) × (Pn)) (fun aa => [.agg aa.1.c, .agg aa.2.c]) (fun aa => aa.1.sm ∧ aa.2.sm) (fun aa => .agg (aa.1.less aa.2).c) args K e s
theorem ent26_ok {args : List AV} {K : AV → List AV → Sto → Prop} {Q : Kt} {e : List AV} {s : Sto} (h : ent26 args K e s) : pcall Try.prog 26 args K Q e s := ent_ok (fun aa h => pf26 aa.1 aa.2 h) h
theorem eq26 {t : Pn} {s : Pn} {KK : AV → List AV → Sto → Prop} {ee : List AV} {ss : Sto} : ent26 [.d (.agg t.c), .d (.agg s.c)] KK ee ss = ((t.sm ∧ s.sm) ∧ KK (.d (.agg (t.less s).c)) ee ss) := by
  unfold ent26; rw [ent_iff (t, s) (by intro b h; simpa [Prod.ext_iff, and_assoc, Int.ofNat_inj, ints_inj, hrs_inj, grs_inj, hr_inj, gr_inj, tt_inj, bcs_inj, cn_inj, sd_inj, pn_inj, zos_inj, zo_inj2, zo_inj] using h) rfl]; simp
def O27 : Nat → Sch := fun id => .done
theorem ho27 : Try.f27.body.map (okO O27) = some true := by kernel_rfl
def Cf27 : Nat → List AV → (AV → List AV → Sto → Prop) → Kt → List AV → Sto → Prop := fun f args K Q e s => match f with
  | _ => False
def Ct27 : CT := { f := Cf27, y := noYld, z := fun d => false }
theorem ctz27 {d : Nat} : CT.z Ct27 d = (false) := id rfl
theorem Ct27_ok : Ct27.ok Try.prog := ok_of_f (fun f args K Q e s h => by
  have h : Cf27 f args K Q e s := h
  unfold Cf27 at h; split at h
  · exact h.elim) (fun _ _ _ _ _ _ _ _ _ h => h)
theorem c27 : callable Try.prog 27 = true := by kernel_rfl
theorem pf27 (t : Pn) (x y : Int) (h : t.sm ∧ (⟨x, y⟩ : Pn).sm) : PF Try.prog 27 [.agg t.c, .agg [.i x, .i y]] (fun zz => zz = .ret (.agg (t.more ⟨x, y⟩).c)) := by
  dsimp only [Pn.sm] at h
  obtain ⟨⟨⟨a1, a2⟩, a3, a4⟩, ⟨b1, b2⟩, b3, b4⟩ := h
  unfold Pn.more
  refine PF_nil (PF_start (O := O27) Ct27_ok hmix ho27 Try.func27 c27 rfl Try.ntmps27 Try.results27 ?_)
  simp (maxSteps := 4000000) +contextual (disch := first | omega | exact qdb_ok (by kernel_rfl) | exact okb_ok (by kernel_rfl)) only [bw1,bw2,bw3,bw4,bw5,bw6,bw7,bc0,bc1,bc2,bc3,bc4,bc5,bc6,bc7,bb0,setPs,AV.owns,AV.datF,AV.frz,AV.cpy,ifV,isEqB,nilV,nilX,AV.isNilS,AV.isNoRows,wk,dclo,datOf,binIs,addF,AV.isPtr,idxV,AV.isSl,AV.isSlice,AV.rows,ps,pv,extV,extS,AV.outs,AV.outF,packD,AV.dl,fieldV,fieldS,AV.cells?,AV.upr,AV.menc,AV.one,D.one,Value.oneCell',tagOf,AV.isApp,strV,strS,bolV,bolS,slcV,AV.isSlD,asrtS,AV.dcells,D.cells?,stcV,stcS,leafOk,eqDs,eqD,packA,D.val?,↓reduceIte,reduceCtorEq,Nat.reduceAdd,Nat.reduceSub,Nat.reduceMul,List.reduceReplicate,Nat.reduceLeDiff,Nat.reduceLT,Nat.reduceBEq,Nat.reduceEqDiff,Int.reduceNeg,Int.reduceEq,Int.reduceLE,Int.reduceLT,tfb,ctz27]
  try exact ⟨rfl, rfl⟩
def ent27 (args : List AV) (K : AV → List AV → Sto → Prop) (e : List AV) (s : Sto) : Prop := ent (α := (Pn) × (Int) × (Int)) (fun aa => [.agg aa.1.c, .agg [.i aa.2.1, .i aa.2.2]]) (fun aa => aa.1.sm ∧ (⟨aa.2.1, aa.2.2⟩ : Pn).sm) (fun aa => .agg (aa.1.more ⟨aa.2.1, aa.2.2⟩).c) args K e s
theorem ent27_ok {args : List AV} {K : AV → List AV → Sto → Prop} {Q : Kt} {e : List AV} {s : Sto} (h : ent27 args K e s) : pcall Try.prog 27 args K Q e s := ent_ok (fun aa h => pf27 aa.1 aa.2.1 aa.2.2 h) h
theorem eq27 {t : Pn} {x : Int} {y : Int} {KK : AV → List AV → Sto → Prop} {ee : List AV} {ss : Sto} : ent27 [.d (.agg t.c), .d (.agg [.i x, .i y])] KK ee ss = ((t.sm ∧ (⟨x, y⟩ : Pn).sm) ∧ KK (.d (.agg (t.more ⟨x, y⟩).c)) ee ss) := by
  unfold ent27; rw [ent_iff (t, x, y) (by intro b h; simpa [Prod.ext_iff, and_assoc, Int.ofNat_inj, ints_inj, hrs_inj, grs_inj, hr_inj, gr_inj, tt_inj, bcs_inj, cn_inj, sd_inj, pn_inj, zos_inj, zo_inj2, zo_inj] using h) rfl]; simp
def O71 : Nat → Sch := fun id => .done
theorem ho71 : Try.f71.body.map (okO O71) = some true := by kernel_rfl
def Cf71 : Nat → List AV → (AV → List AV → Sto → Prop) → Kt → List AV → Sto → Prop := fun f args K Q e s => match f with
  | _ => False
def Ct71 : CT := { f := Cf71, y := noYld, z := fun d => false }
theorem ctz71 {d : Nat} : CT.z Ct71 d = (false) := id rfl
theorem Ct71_ok : Ct71.ok Try.prog := ok_of_f (fun f args K Q e s h => by
  have h : Cf71 f args K Q e s := h
  unfold Cf71 at h; split at h
  · exact h.elim) (fun _ _ _ _ _ _ _ _ _ h => h)
theorem c71 : callable Try.prog 71 = true := by kernel_rfl
theorem pf71 (t s : Pn) : PF Try.prog 71 [.agg t.c, .agg s.c] (fun zz => zz = .ret (.agg (t.taken s).c)) := by
  unfold Pn.taken
  refine PF_nil (PF_start (O := O71) Ct71_ok hmix ho71 Try.func71 c71 rfl Try.ntmps71 Try.results71 ?_)
  simp (maxSteps := 4000000) +contextual (disch := first | omega | exact qdb_ok (by kernel_rfl) | exact okb_ok (by kernel_rfl)) only [bw1,bw2,bw3,bw4,bw5,bw6,bw7,bc0,bc1,bc2,bc3,bc4,bc5,bc6,bc7,bb0,setPs,AV.owns,AV.datF,AV.frz,AV.cpy,ifV,isEqB,nilV,nilX,AV.isNilS,AV.isNoRows,wk,dclo,datOf,binIs,addF,AV.isPtr,idxV,AV.isSl,AV.isSlice,AV.rows,ps,pv,extV,extS,AV.outs,AV.outF,packD,AV.dl,fieldV,fieldS,AV.cells?,AV.upr,AV.menc,AV.one,D.one,Value.oneCell',tagOf,AV.isApp,strV,strS,bolV,bolS,slcV,AV.isSlD,asrtS,AV.dcells,D.cells?,stcV,stcS,leafOk,eqDs,eqD,packA,D.val?,↓reduceIte,reduceCtorEq,Nat.reduceAdd,Nat.reduceSub,Nat.reduceMul,List.reduceReplicate,Nat.reduceLeDiff,Nat.reduceLT,Nat.reduceBEq,Nat.reduceEqDiff,Int.reduceNeg,Int.reduceEq,Int.reduceLE,Int.reduceLT,tfb,ctz71]
  try exact ⟨rfl, rfl⟩
def Zo.bad (z : Zo) : Bool := !z.ice.ok || !z.paint.ok
def ent71 (args : List AV) (K : AV → List AV → Sto → Prop) (e : List AV) (s : Sto) : Prop := ent (α := (Pn) × (Pn)) (fun aa => [.agg aa.1.c, .agg aa.2.c]) (fun aa => True) (fun aa => .agg (aa.1.taken aa.2).c) args K e s
theorem ent71_ok {args : List AV} {K : AV → List AV → Sto → Prop} {Q : Kt} {e : List AV} {s : Sto} (h : ent71 args K e s) : pcall Try.prog 71 args K Q e s := ent_ok (fun aa h => pf71 aa.1 aa.2) h
theorem eq71 {t : Pn} {s : Pn} {KK : AV → List AV → Sto → Prop} {ee : List AV} {ss : Sto} : ent71 [.d (.agg t.c), .d (.agg s.c)] KK ee ss = (KK (.d (.agg (t.taken s).c)) ee ss) := by
  unfold ent71; rw [ent_iff (t, s) (by intro b h; simpa [Prod.ext_iff, and_assoc, Int.ofNat_inj, ints_inj, hrs_inj, grs_inj, hr_inj, gr_inj, tt_inj, bcs_inj, cn_inj, sd_inj, pn_inj, zos_inj, zo_inj2, zo_inj] using h) rfl]; simp
def O49 : Nat → Sch := fun id => .done
theorem ho49 : Try.f49.body.map (okO O49) = some true := by kernel_rfl
def Cf49 : Nat → List AV → (AV → List AV → Sto → Prop) → Kt → List AV → Sto → Prop := fun f args K Q e s => match f with
  | 20 => ent20 args K e s
  | _ => False
def Ct49 : CT := { f := Cf49, y := noYld, z := fun d => false }
theorem ctz49 {d : Nat} : CT.z Ct49 d = (false) := id rfl
theorem Ct49_ok : Ct49.ok Try.prog := ok_of_f (fun f args K Q e s h => by
  have h : Cf49 f args K Q e s := h
  unfold Cf49 at h; split at h
  · exact ent20_ok h
  · exact h.elim) (fun _ _ _ _ _ _ _ _ _ h => h)
theorem x49_20 {s : Pn} {KK : AV → List AV → Sto → Prop} {QQ : Kt} {ii : At KK} {jj : At QQ} {ee : List AV} {ss : Sto} : xC Ct49 20 [.d (.agg s.c)] KK QQ ii jj ee ss = (KK (.d (.b s.ok)) ee ss) := eq20
theorem c49 : callable Try.prog 49 = true := by kernel_rfl
theorem pf49 (z : Zo) : PF Try.prog 49 [.agg z.c] (fun zz => zz = .ret (.b z.bad)) := by
  unfold Zo.bad
  by_cases c1 : z.ice.ok = true
  · refine PF_nil (PF_start (O := O49) Ct49_ok hmix ho49 Try.func49 c49 rfl Try.ntmps49 Try.results49 ?_)
    simp (maxSteps := 4000000) +contextual (disch := first | omega | exact qdb_ok (by kernel_rfl) | exact okb_ok (by kernel_rfl)) only [bw1,bw2,bw3,bw4,bw5,bw6,bw7,bc0,bc1,bc2,bc3,bc4,bc5,bc6,bc7,bb0,setPs,AV.owns,AV.datF,AV.frz,AV.cpy,ifV,isEqB,nilV,nilX,AV.isNilS,AV.isNoRows,wk,dclo,datOf,binIs,addF,AV.isPtr,idxV,AV.isSl,AV.isSlice,AV.rows,ps,pv,extV,extS,AV.outs,AV.outF,packD,AV.dl,fieldV,fieldS,AV.cells?,AV.upr,AV.menc,AV.one,D.one,Value.oneCell',tagOf,AV.isApp,strV,strS,bolV,bolS,slcV,AV.isSlD,asrtS,AV.dcells,D.cells?,stcV,stcS,leafOk,eqDs,eqD,packA,D.val?,↓reduceIte,reduceCtorEq,Nat.reduceAdd,Nat.reduceSub,Nat.reduceMul,List.reduceReplicate,Nat.reduceLeDiff,Nat.reduceLT,Nat.reduceBEq,Nat.reduceEqDiff,Int.reduceNeg,Int.reduceEq,Int.reduceLE,Int.reduceLT,tfb,ctz49,x49_20,c1]
    try simp [c1]
  · refine PF_nil (PF_start (O := O49) Ct49_ok hmix ho49 Try.func49 c49 rfl Try.ntmps49 Try.results49 ?_)
    simp (maxSteps := 4000000) +contextual (disch := first | omega | exact qdb_ok (by kernel_rfl) | exact okb_ok (by kernel_rfl)) only [bw1,bw2,bw3,bw4,bw5,bw6,bw7,bc0,bc1,bc2,bc3,bc4,bc5,bc6,bc7,bb0,setPs,AV.owns,AV.datF,AV.frz,AV.cpy,ifV,isEqB,nilV,nilX,AV.isNilS,AV.isNoRows,wk,dclo,datOf,binIs,addF,AV.isPtr,idxV,AV.isSl,AV.isSlice,AV.rows,ps,pv,extV,extS,AV.outs,AV.outF,packD,AV.dl,fieldV,fieldS,AV.cells?,AV.upr,AV.menc,AV.one,D.one,Value.oneCell',tagOf,AV.isApp,strV,strS,bolV,bolS,slcV,AV.isSlD,asrtS,AV.dcells,D.cells?,stcV,stcS,leafOk,eqDs,eqD,packA,D.val?,↓reduceIte,reduceCtorEq,Nat.reduceAdd,Nat.reduceSub,Nat.reduceMul,List.reduceReplicate,Nat.reduceLeDiff,Nat.reduceLT,Nat.reduceBEq,Nat.reduceEqDiff,Int.reduceNeg,Int.reduceEq,Int.reduceLE,Int.reduceLT,tfb,ctz49,x49_20,c1]
    try simp [c1]
def rkOk (r : List Zo) : Bool := inB r.length 1 24 && !(r.any Zo.bad)
def ent49 (args : List AV) (K : AV → List AV → Sto → Prop) (e : List AV) (s : Sto) : Prop := ent (α := (Zo)) (fun aa => [.agg aa.c]) (fun aa => True) (fun aa => .b aa.bad) args K e s
theorem ent49_ok {args : List AV} {K : AV → List AV → Sto → Prop} {Q : Kt} {e : List AV} {s : Sto} (h : ent49 args K e s) : pcall Try.prog 49 args K Q e s := ent_ok (fun aa h => pf49 aa) h
theorem eq49 {z : Zo} {KK : AV → List AV → Sto → Prop} {ee : List AV} {ss : Sto} : ent49 [.d (.agg z.c)] KK ee ss = (KK (.d (.b z.bad)) ee ss) := by
  unfold ent49; rw [ent_iff z (by intro b h; simpa [Prod.ext_iff, and_assoc, Int.ofNat_inj, ints_inj, hrs_inj, grs_inj, hr_inj, gr_inj, tt_inj, bcs_inj, cn_inj, sd_inj, pn_inj, zos_inj, zo_inj2, zo_inj] using h) rfl]; simp
def O61 : Nat → Sch := fun id => .done
theorem ho61 : Try.f61.body.map (okO O61) = some true := by kernel_rfl
def Cf61 : Nat → List AV → (AV → List AV → Sto → Prop) → Kt → List AV → Sto → Prop := fun f args K Q e s => match f with
  | 49 => ent49 args K e s
  | _ => False
def Ct61 : CT := { f := Cf61, y := noYld, z := fun d => false }
theorem ctz61 {d : Nat} : CT.z Ct61 d = (false) := id rfl
theorem Ct61_ok : Ct61.ok Try.prog := ok_of_f (fun f args K Q e s h => by
  have h : Cf61 f args K Q e s := h
  unfold Cf61 at h; split at h
  · exact ent49_ok h
  · exact h.elim) (fun _ _ _ _ _ _ _ _ _ h => h)
theorem x61_49 {z : Zo} {KK : AV → List AV → Sto → Prop} {QQ : Kt} {ii : At KK} {jj : At QQ} {ee : List AV} {ss : Sto} : xC Ct61 49 [.d (.agg z.c)] KK QQ ii jj ee ss = (KK (.d (.b z.bad)) ee ss) := eq49
theorem c61 : callable Try.prog 61 = true := by kernel_rfl
def O50 : Nat → Sch := fun id => .done
theorem ho50 : Try.f50.body.map (okO O50) = some true := by kernel_rfl
def Cf50 : Nat → List AV → (AV → List AV → Sto → Prop) → Kt → List AV → Sto → Prop := fun f args K Q e s => match f with
  | 61 => inlE Try.prog Ct61 O61 61000 61 args K Q e s
  | _ => False
def Ct50 : CT := { f := Cf50, y := noYld, z := fun d => false }
theorem ctz50 {d : Nat} : CT.z Ct50 d = (false) := id rfl
theorem Ct50_ok : Ct50.ok Try.prog := ok_of_f (fun f args K Q e s h => by
  have h : Cf50 f args K Q e s := h
  unfold Cf50 at h; split at h
  · exact inlE_ok Ct61_ok hmix ho61 h
  · exact h.elim) (fun _ _ _ _ _ _ _ _ _ h => h)
theorem z50_61 : type_of% (@xinl Try.prog Ct50 Ct61 O61 61000 61 _ _ _ _ rfl c61 Try.func61 rfl Try.ntmps61 Try.results61) := @xinl Try.prog Ct50 Ct61 O61 61000 61 _ _ _ _ rfl c61 Try.func61 rfl Try.ntmps61 Try.results61
theorem c50 : callable Try.prog 50 = true := by kernel_rfl
def O19 : Nat → Sch := fun id => .done
theorem ho19 : Try.f19.body.map (okO O19) = some true := by kernel_rfl
def Cf19 : Nat → List AV → (AV → List AV → Sto → Prop) → Kt → List AV → Sto → Prop := fun f args K Q e s => match f with
  | 21 => ent21 args K e s
  | 50 => inlE Try.prog Ct50 O50 50000 50 args K Q e s
  | _ => False
def Ct19 : CT := { f := Cf19, y := noYld, z := fun d => false }
theorem ctz19 {d : Nat} : CT.z Ct19 d = (false) := id rfl
theorem Ct19_ok : Ct19.ok Try.prog := ok_of_f (fun f args K Q e s h => by
  have h : Cf19 f args K Q e s := h
  unfold Cf19 at h; split at h
  · exact ent21_ok h
  · exact inlE_ok Ct50_ok hmix ho50 h
  · exact h.elim) (fun _ _ _ _ _ _ _ _ _ h => h)
theorem x19_21 {n : Int} {lo : Int} {hi : Int} {KK : AV → List AV → Sto → Prop} {QQ : Kt} {ii : At KK} {jj : At QQ} {ee : List AV} {ss : Sto} : xC Ct19 21 [.d (.i n), .d (.i lo), .d (.i hi)] KK QQ ii jj ee ss = (KK (.d (.b (inB n lo hi))) ee ss) := eq21
theorem z19_50 : type_of% (@xinl Try.prog Ct19 Ct50 O50 50000 50 _ _ _ _ rfl c50 Try.func50 rfl Try.ntmps50 Try.results50) := @xinl Try.prog Ct19 Ct50 O50 50000 50 _ _ _ _ rfl c50 Try.func50 rfl Try.ntmps50 Try.results50
theorem c19 : callable Try.prog 19 = true := by kernel_rfl
theorem pf19 (r : List Zo) (h : r.length ≤ 1000) : PF Try.prog 19 [.sl 4 (r.map Zo.c)] (fun zz => zz = .ret (.b (rkOk r))) := by
  by_cases c1 : inB r.length 1 24 = true
  case neg =>
    have hW : rkOk r = false := by unfold rkOk; rw [show inB r.length 1 24 = false by simpa using c1]; rfl
    rw [hW]
    refine PF_nil (PF_start (O := O19) Ct19_ok hmix ho19 Try.func19 c19 rfl Try.ntmps19 Try.results19 ?_)
    simp (maxSteps := 4000000) +contextual (disch := first | omega | exact qdb_ok (by kernel_rfl) | exact okb_ok (by kernel_rfl)) only [bw1,bw2,bw3,bw4,bw5,bw6,bw7,bc0,bc1,bc2,bc3,bc4,bc5,bc6,bc7,bb0,setPs,AV.owns,AV.datF,AV.frz,AV.cpy,ifV,isEqB,nilV,nilX,AV.isNilS,AV.isNoRows,wk,dclo,datOf,binIs,addF,AV.isPtr,idxV,AV.isSl,AV.isSlice,AV.rows,ps,pv,extV,extS,AV.outs,AV.outF,packD,AV.dl,fieldV,fieldS,AV.cells?,AV.upr,AV.menc,AV.one,D.one,Value.oneCell',tagOf,AV.isApp,strV,strS,bolV,bolS,slcV,AV.isSlD,asrtS,AV.dcells,D.cells?,stcV,stcS,leafOk,eqDs,eqD,packA,D.val?,↓reduceIte,reduceCtorEq,Nat.reduceAdd,Nat.reduceSub,Nat.reduceMul,List.reduceReplicate,Nat.reduceLeDiff,Nat.reduceLT,Nat.reduceBEq,Nat.reduceEqDiff,Int.reduceNeg,Int.reduceEq,Int.reduceLE,Int.reduceLT,tfb,ctz19,x19_21,z19_50,ctz50,z50_61,ctz61,x61_49,c1]
    try rfl
  obtain ⟨W, hW⟩ : ∃ W, r.any Zo.bad = W := ⟨_, rfl⟩
  have hWr : rkOk r = !W := by unfold rkOk; rw [c1, hW]; rfl
  rw [hWr]
  refine PF_nil (PF_start (O := O19) Ct19_ok hmix ho19 Try.func19 c19 rfl Try.ntmps19 Try.results19 ?_)
  simp (maxSteps := 4000000) +contextual (disch := first | omega | exact qdb_ok (by kernel_rfl) | exact okb_ok (by kernel_rfl)) only [bw1,bw2,bw3,bw4,bw5,bw6,bw7,bc0,bc1,bc2,bc3,bc4,bc5,bc6,bc7,bb0,setPs,AV.owns,AV.datF,AV.frz,AV.cpy,ifV,isEqB,nilV,nilX,AV.isNilS,AV.isNoRows,wk,dclo,datOf,binIs,addF,AV.isPtr,idxV,AV.isSl,AV.isSlice,AV.rows,ps,pv,extV,extS,AV.outs,AV.outF,packD,AV.dl,fieldV,fieldS,AV.cells?,AV.upr,AV.menc,AV.one,D.one,Value.oneCell',tagOf,AV.isApp,strV,strS,bolV,bolS,slcV,AV.isSlD,asrtS,AV.dcells,D.cells?,stcV,stcS,leafOk,eqDs,eqD,packA,D.val?,↓reduceIte,reduceCtorEq,Nat.reduceAdd,Nat.reduceSub,Nat.reduceMul,List.reduceReplicate,Nat.reduceLeDiff,Nat.reduceLT,Nat.reduceBEq,Nat.reduceEqDiff,Int.reduceNeg,Int.reduceEq,Int.reduceLE,Int.reduceLT,tfb,ctz19,x19_21,z19_50,ctz50,z50_61,ctz61,x61_49,c1]
  refine loop_xu (O := O61) (tb := 61000) Ct61_ok hmix (by kernel_rfl) (σ := Nat) (fun k => [(8, .i k), (5, .any)]) (fun _ => []) (fun k => k ≤ r.length ∧ ∀ q, q < k → (r.getD q default).bad = false) (fun k => r.length - k) 0 ⟨Nat.zero_le _, fun q hq => by omega⟩ ?_ ?_
  · simp (maxSteps := 4000000) +contextual (disch := first | omega | exact qdb_ok (by kernel_rfl) | exact okb_ok (by kernel_rfl)) only [bw1,bw2,bw3,bw4,bw5,bw6,bw7,bc0,bc1,bc2,bc3,bc4,bc5,bc6,bc7,bb0,setPs,AV.owns,AV.datF,AV.frz,AV.cpy,ifV,isEqB,nilV,nilX,AV.isNilS,AV.isNoRows,wk,dclo,datOf,binIs,addF,AV.isPtr,idxV,AV.isSl,AV.isSlice,AV.rows,ps,pv,extV,extS,AV.outs,AV.outF,packD,AV.dl,fieldV,fieldS,AV.cells?,AV.upr,AV.menc,AV.one,D.one,Value.oneCell',tagOf,AV.isApp,strV,strS,bolV,bolS,slcV,AV.isSlD,asrtS,AV.dcells,D.cells?,stcV,stcS,leafOk,eqDs,eqD,packA,D.val?,↓reduceIte,reduceCtorEq,Nat.reduceAdd,Nat.reduceSub,Nat.reduceMul,List.reduceReplicate,Nat.reduceLeDiff,Nat.reduceLT,Nat.reduceBEq,Nat.reduceEqDiff,Int.reduceNeg,Int.reduceEq,Int.reduceLE,Int.reduceLT,tfb,ctz19,x19_21,z19_50,ctz50,z50_61,ctz61,x61_49,eq_self]
    try rfl
  intro k hk0
  have hk := hk0.1
  have hq := hk0.2
  have hkk : (0 : Int) ≤ k := by omega
  by_cases hlt : k < r.length
  · have hlt' : (k : Int) < r.length := by omega
    have hrz : (r.map Zo.c).getD k [] = Zo.c (r.getD k default) := Go.E.row_at hlt
    by_cases b : (r.getD k default).bad = true
    · have hWt : W = true := by rw [← hW, List.any_eq_true]; exact ⟨_, List.getElem_mem hlt, by rw [← at_lt hlt]; exact b⟩
      simp (maxSteps := 4000000) +contextual (disch := first | omega | exact qdb_ok (by kernel_rfl) | exact okb_ok (by kernel_rfl)) only [bw1,bw2,bw3,bw4,bw5,bw6,bw7,bc0,bc1,bc2,bc3,bc4,bc5,bc6,bc7,bb0,setPs,AV.owns,AV.datF,AV.frz,AV.cpy,ifV,isEqB,nilV,nilX,AV.isNilS,AV.isNoRows,wk,dclo,datOf,binIs,addF,AV.isPtr,idxV,AV.isSl,AV.isSlice,AV.rows,ps,pv,extV,extS,AV.outs,AV.outF,packD,AV.dl,fieldV,fieldS,AV.cells?,AV.upr,AV.menc,AV.one,D.one,Value.oneCell',tagOf,AV.isApp,strV,strS,bolV,bolS,slcV,AV.isSlD,asrtS,AV.dcells,D.cells?,stcV,stcS,leafOk,eqDs,eqD,packA,D.val?,↓reduceIte,reduceCtorEq,Nat.reduceAdd,Nat.reduceSub,Nat.reduceMul,List.reduceReplicate,Nat.reduceLeDiff,Nat.reduceLT,Nat.reduceBEq,Nat.reduceEqDiff,Int.reduceNeg,Int.reduceEq,Int.reduceLE,Int.reduceLT,tfb,ctz19,x19_21,z19_50,ctz50,z50_61,ctz61,x61_49,eq_self, hlt', hrz, hkk, b, hWt]
      try rfl
    · have b' : (r.getD k default).bad = false := by simpa using b
      simp (maxSteps := 4000000) +contextual (disch := first | omega | exact qdb_ok (by kernel_rfl) | exact okb_ok (by kernel_rfl)) only [bw1,bw2,bw3,bw4,bw5,bw6,bw7,bc0,bc1,bc2,bc3,bc4,bc5,bc6,bc7,bb0,setPs,AV.owns,AV.datF,AV.frz,AV.cpy,ifV,isEqB,nilV,nilX,AV.isNilS,AV.isNoRows,wk,dclo,datOf,binIs,addF,AV.isPtr,idxV,AV.isSl,AV.isSlice,AV.rows,ps,pv,extV,extS,AV.outs,AV.outF,packD,AV.dl,fieldV,fieldS,AV.cells?,AV.upr,AV.menc,AV.one,D.one,Value.oneCell',tagOf,AV.isApp,strV,strS,bolV,bolS,slcV,AV.isSlD,asrtS,AV.dcells,D.cells?,stcV,stcS,leafOk,eqDs,eqD,packA,D.val?,↓reduceIte,reduceCtorEq,Nat.reduceAdd,Nat.reduceSub,Nat.reduceMul,List.reduceReplicate,Nat.reduceLeDiff,Nat.reduceLT,Nat.reduceBEq,Nat.reduceEqDiff,Int.reduceNeg,Int.reduceEq,Int.reduceLE,Int.reduceLT,tfb,ctz19,x19_21,z19_50,ctz50,z50_61,ctz61,x61_49,eq_self, hlt', hrz, hkk, b']
      exact ⟨k + 1, ⟨⟨by omega, fun q hq' => by rcases Nat.lt_succ_iff_lt_or_eq.1 hq' with h | h; exact hq q h; rw [h]; exact b'⟩, by omega⟩, rfl⟩
  have hlt' : ¬ (k : Int) < r.length := by omega
  have hWf : W = false := by
    rw [← hW, List.any_eq_false]
    intro x hx
    obtain ⟨j, hj, rfl⟩ := List.getElem_of_mem hx
    have := hq j (by omega)
    rw [at_lt hj] at this
    rw [this]; decide
  simp (maxSteps := 4000000) +contextual (disch := first | omega | exact qdb_ok (by kernel_rfl) | exact okb_ok (by kernel_rfl)) only [bw1,bw2,bw3,bw4,bw5,bw6,bw7,bc0,bc1,bc2,bc3,bc4,bc5,bc6,bc7,bb0,setPs,AV.owns,AV.datF,AV.frz,AV.cpy,ifV,isEqB,nilV,nilX,AV.isNilS,AV.isNoRows,wk,dclo,datOf,binIs,addF,AV.isPtr,idxV,AV.isSl,AV.isSlice,AV.rows,ps,pv,extV,extS,AV.outs,AV.outF,packD,AV.dl,fieldV,fieldS,AV.cells?,AV.upr,AV.menc,AV.one,D.one,Value.oneCell',tagOf,AV.isApp,strV,strS,bolV,bolS,slcV,AV.isSlD,asrtS,AV.dcells,D.cells?,stcV,stcS,leafOk,eqDs,eqD,packA,D.val?,↓reduceIte,reduceCtorEq,Nat.reduceAdd,Nat.reduceSub,Nat.reduceMul,List.reduceReplicate,Nat.reduceLeDiff,Nat.reduceLT,Nat.reduceBEq,Nat.reduceEqDiff,Int.reduceNeg,Int.reduceEq,Int.reduceLE,Int.reduceLT,tfb,ctz19,x19_21,z19_50,ctz50,z50_61,ctz61,x61_49,eq_self, hlt', hWf]
  try rfl
def ent19 (args : List AV) (K : AV → List AV → Sto → Prop) (e : List AV) (s : Sto) : Prop := ent (α := (List Zo)) (fun aa => [.sl 4 (aa.map Zo.c)]) (fun aa => aa.length ≤ 1000) (fun aa => .b (rkOk aa)) args K e s
theorem ent19_ok {args : List AV} {K : AV → List AV → Sto → Prop} {Q : Kt} {e : List AV} {s : Sto} (h : ent19 args K e s) : pcall Try.prog 19 args K Q e s := ent_ok (fun aa h => pf19 aa h) h
theorem eq19 {r : List Zo} {KK : AV → List AV → Sto → Prop} {ee : List AV} {ss : Sto} : ent19 [.d (.sl 4 (r.map Zo.c))] KK ee ss = ((r.length ≤ 1000) ∧ KK (.d (.b (rkOk r))) ee ss) := by
  unfold ent19; rw [ent_iff r (by intro b h; simpa [Prod.ext_iff, and_assoc, Int.ofNat_inj, ints_inj, hrs_inj, grs_inj, hr_inj, gr_inj, tt_inj, bcs_inj, cn_inj, sd_inj, pn_inj, zos_inj, zo_inj2, zo_inj] using h) rfl]; simp
theorem eqo19 {r : List Zo} {g1 el1 : Nat} {KK : AV → List AV → Sto → Prop} {ee : List AV} {ss : Sto} : ent19 [.own g1 el1 4 (r.map Zo.c)] KK ee ss = ((r.length ≤ 1000) ∧ (.b (rkOk r) : D).flat = true ∧ KK (.d (.b (rkOk r))) ee ss) := by
  unfold ent19; rw [ent_iff r (by intro b h; simpa [Prod.ext_iff, and_assoc, Int.ofNat_inj, ints_inj, hrs_inj, grs_inj, hr_inj, gr_inj, tt_inj, bcs_inj, cn_inj, sd_inj, pn_inj, zos_inj, zo_inj2, zo_inj] using h) rfl]; simp
def O22 : Nat → Sch := fun id => .done
theorem ho22 : Try.f22.body.map (okO O22) = some true := by kernel_rfl
def Cf22 : Nat → List AV → (AV → List AV → Sto → Prop) → Kt → List AV → Sto → Prop := fun f args K Q e s => match f with
  | 21 => ent21 args K e s
  | _ => False
def Ct22 : CT := { f := Cf22, y := noYld, z := fun d => false }
theorem ctz22 {d : Nat} : CT.z Ct22 d = (false) := id rfl
theorem Ct22_ok : Ct22.ok Try.prog := ok_of_f (fun f args K Q e s h => by
  have h : Cf22 f args K Q e s := h
  unfold Cf22 at h; split at h
  · exact ent21_ok h
  · exact h.elim) (fun _ _ _ _ _ _ _ _ _ h => h)
theorem x22_21 {n : Int} {lo : Int} {hi : Int} {KK : AV → List AV → Sto → Prop} {QQ : Kt} {ii : At KK} {jj : At QQ} {ee : List AV} {ss : Sto} : xC Ct22 21 [.d (.i n), .d (.i lo), .d (.i hi)] KK QQ ii jj ee ss = (KK (.d (.b (inB n lo hi))) ee ss) := eq21
theorem c22 : callable Try.prog 22 = true := by kernel_rfl
theorem pf22 (least most : Int) : PF Try.prog 22 [.i least, .i most] (fun zz => zz = .ret (.b (inB most 0 20000 && inB least 0 most))) := by
  by_cases c1 : inB most 0 20000 = true
  · refine PF_nil (PF_start (O := O22) Ct22_ok hmix ho22 Try.func22 c22 rfl Try.ntmps22 Try.results22 ?_)
    simp (maxSteps := 4000000) +contextual (disch := first | omega | exact qdb_ok (by kernel_rfl) | exact okb_ok (by kernel_rfl)) only [bw1,bw2,bw3,bw4,bw5,bw6,bw7,bc0,bc1,bc2,bc3,bc4,bc5,bc6,bc7,bb0,setPs,AV.owns,AV.datF,AV.frz,AV.cpy,ifV,isEqB,nilV,nilX,AV.isNilS,AV.isNoRows,wk,dclo,datOf,binIs,addF,AV.isPtr,idxV,AV.isSl,AV.isSlice,AV.rows,ps,pv,extV,extS,AV.outs,AV.outF,packD,AV.dl,fieldV,fieldS,AV.cells?,AV.upr,AV.menc,AV.one,D.one,Value.oneCell',tagOf,AV.isApp,strV,strS,bolV,bolS,slcV,AV.isSlD,asrtS,AV.dcells,D.cells?,stcV,stcS,leafOk,eqDs,eqD,packA,D.val?,↓reduceIte,reduceCtorEq,Nat.reduceAdd,Nat.reduceSub,Nat.reduceMul,List.reduceReplicate,Nat.reduceLeDiff,Nat.reduceLT,Nat.reduceBEq,Nat.reduceEqDiff,Int.reduceNeg,Int.reduceEq,Int.reduceLE,Int.reduceLT,tfb,ctz22,x22_21,c1]
    try simp [c1]
  · refine PF_nil (PF_start (O := O22) Ct22_ok hmix ho22 Try.func22 c22 rfl Try.ntmps22 Try.results22 ?_)
    simp (maxSteps := 4000000) +contextual (disch := first | omega | exact qdb_ok (by kernel_rfl) | exact okb_ok (by kernel_rfl)) only [bw1,bw2,bw3,bw4,bw5,bw6,bw7,bc0,bc1,bc2,bc3,bc4,bc5,bc6,bc7,bb0,setPs,AV.owns,AV.datF,AV.frz,AV.cpy,ifV,isEqB,nilV,nilX,AV.isNilS,AV.isNoRows,wk,dclo,datOf,binIs,addF,AV.isPtr,idxV,AV.isSl,AV.isSlice,AV.rows,ps,pv,extV,extS,AV.outs,AV.outF,packD,AV.dl,fieldV,fieldS,AV.cells?,AV.upr,AV.menc,AV.one,D.one,Value.oneCell',tagOf,AV.isApp,strV,strS,bolV,bolS,slcV,AV.isSlD,asrtS,AV.dcells,D.cells?,stcV,stcS,leafOk,eqDs,eqD,packA,D.val?,↓reduceIte,reduceCtorEq,Nat.reduceAdd,Nat.reduceSub,Nat.reduceMul,List.reduceReplicate,Nat.reduceLeDiff,Nat.reduceLT,Nat.reduceBEq,Nat.reduceEqDiff,Int.reduceNeg,Int.reduceEq,Int.reduceLE,Int.reduceLT,tfb,ctz22,x22_21,c1]
    try simp [c1]
def ent22 (args : List AV) (K : AV → List AV → Sto → Prop) (e : List AV) (s : Sto) : Prop := ent (α := (Int) × (Int)) (fun aa => [.i aa.1, .i aa.2]) (fun aa => True) (fun aa => .b (inB aa.2 0 20000 && inB aa.1 0 aa.2)) args K e s
theorem ent22_ok {args : List AV} {K : AV → List AV → Sto → Prop} {Q : Kt} {e : List AV} {s : Sto} (h : ent22 args K e s) : pcall Try.prog 22 args K Q e s := ent_ok (fun aa h => pf22 aa.1 aa.2) h
theorem eq22 {least : Int} {most : Int} {KK : AV → List AV → Sto → Prop} {ee : List AV} {ss : Sto} : ent22 [.d (.i least), .d (.i most)] KK ee ss = (KK (.d (.b (inB most 0 20000 && inB least 0 most))) ee ss) := by
  unfold ent22; rw [ent_iff (least, most) (by intro b h; simpa [Prod.ext_iff, and_assoc, Int.ofNat_inj, ints_inj, hrs_inj, grs_inj, hr_inj, gr_inj, tt_inj, bcs_inj, cn_inj, sd_inj, pn_inj, zos_inj, zo_inj2, zo_inj] using h) rfl]; simp
end Go.Proofs.Ytofbbkacihnjdaa
