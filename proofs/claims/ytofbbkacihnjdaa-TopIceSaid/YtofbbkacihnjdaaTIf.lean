/- A part of the proof that the last text ends: what functions of the program do, told by plain data. -/
import Derived.Test.YtofbbkacihnjdaaTIe
set_option linter.unusedVariables false
set_option linter.unusedSimpArgs false
namespace Go.Proofs.Ytofbbkacihnjdaa
open Go Go.E Go.Maps
set_option maxRecDepth 100000
set_option maxHeartbeats 4000000
theorem srch_le {p : Nat → Bool} : ∀ k i j, i ≤ j → i ≤ srch p k i j ∧ srch p k i j ≤ j
  | 0, i, j, h => ⟨Nat.le_refl _, h⟩
  | k + 1, i, j, h => by
    unfold srch
    split
    · split
      · have := srch_le (p := p) k i ((i + j) / 2) (by omega); omega
      · have := srch_le (p := p) k ((i + j) / 2 + 1) j (by omega); omega
    · exact ⟨Nat.le_refl _, h⟩
def O23 : Nat → Sch := fun id => .done
theorem ho23 : Try.f23.body.map (okO O23) = some true := by kernel_rfl
def Cf23 : Nat → List AV → (AV → List AV → Sto → Prop) → Kt → List AV → Sto → Prop := fun f args K Q e s => match f with
  | 24 => ent24 (AV.outs s args) K (mk _) e s
  | _ => False
def Ct23 : CT := { f := Cf23, y := noYld, z := fun d => false }
theorem ctz23 {d : Nat} : CT.z Ct23 d = (false) := id rfl
theorem Ct23_ok : Ct23.ok Try.prog := ok_of_f (fun f args K Q e s h => by
  have h : Cf23 f args K Q e s := h
  unfold Cf23 at h; split at h
  · exact ent24_ok h
  · exact h.elim) (fun _ _ _ _ _ _ _ _ _ h => h)
theorem x23_24 {args : List AV} {KK : AV → List AV → Sto → Prop} {QQ : Kt} {ii : At KK} {jj : At QQ} {ee : List AV} {ss : Sto} : xC Ct23 24 args KK QQ ii jj ee ss = ent24 (AV.outs ss args) KK (mk _) ee ss := id rfl
theorem c23 : callable Try.prog 23 = true := by kernel_rfl
theorem pf23 (fu : Nat) (lim : Int) (kd : Bool) (r : List Zo) (p : Nat) (worn planed : Pn) (h : fu = (if kd = true then 28 else 29) ∧ (rkOk r = true ∧ p ≤ 100) ∧ (worn.ok = true ∧ planed.ok = true)) : PF Try.prog 23 [isC fu lim, .b kd, .ptr [.sl 4 (r.map Zo.c)] 0, .ptr [.i (p : Int)] 0, .ptr worn.c 0, .ptr planed.c 0] (fun zz => zz = .ret (.i (wtN r p worn planed kd lim : Int))) := by
  have hpre := h
  refine PF_nil (PF_start (O := O23) Ct23_ok hmix ho23 Try.func23 c23 rfl Try.ntmps23 Try.results23 ?_)
  simp (maxSteps := 4000000) +contextual (disch := first | omega | exact qdb_ok (by kernel_rfl) | exact okb_ok (by kernel_rfl)) only [bw1,bw2,bw3,bw4,bw5,bw6,bw7,bc0,bc1,bc2,bc3,bc4,bc5,bc6,bc7,bb0,setPs,AV.owns,AV.datF,AV.frz,AV.cpy,ifV,isEqB,nilV,nilX,AV.isNilS,AV.isNoRows,wk,dclo,datOf,binIs,addF,AV.isPtr,idxV,AV.isSl,AV.isSlice,AV.rows,ps,pv,extV,extS,AV.outs,AV.outF,packD,AV.dl,fieldV,fieldS,AV.cells?,AV.upr,AV.menc,AV.one,D.one,Value.oneCell',tagOf,AV.isApp,strV,strS,bolV,bolS,slcV,AV.isSlD,asrtS,AV.dcells,D.cells?,stcV,stcS,leafOk,eqDs,eqD,packA,D.val?,↓reduceIte,reduceCtorEq,Nat.reduceAdd,Nat.reduceSub,Nat.reduceMul,List.reduceReplicate,Nat.reduceLeDiff,Nat.reduceLT,Nat.reduceBEq,Nat.reduceEqDiff,Int.reduceNeg,Int.reduceEq,Int.reduceLE,Int.reduceLT,tfb,ctz23,x23_24,eq24,hpre]
  try rfl
def waR (r : List Zo) (worn planed : Pn) (p least most : Int) : Pn × Int :=
  if rkOk r = true ∧ worn.ok = true ∧ planed.ok = true then
    (if inB p 1 100 = true ∧ inB most 0 20000 = true ∧ inB least 0 most = true then
      (if wtN r p.toNat worn planed false most ≤ wtN r p.toNat worn planed true least then (⟨0, 0⟩, 4) else (⟨(wtN r p.toNat worn planed true least : Int), (wtN r p.toNat worn planed false most : Int) - 1⟩, 0))
    else (⟨0, 0⟩, 2))
  else (⟨0, 0⟩, 1)
def ent23 (o : Option (List D)) (K : AV → List AV → Sto → Prop) (i : At K) (e : List AV) (s : Sto) : Prop := entS (α := (Nat) × (Int) × (Bool) × (List Zo) × (Nat) × (Pn) × (Pn)) (fun aa => [isC aa.1 aa.2.1, .b aa.2.2.1, .ptr [.sl 4 (aa.2.2.2.1.map Zo.c)] 0, .ptr [.i (aa.2.2.2.2.1 : Int)] 0, .ptr aa.2.2.2.2.2.1.c 0, .ptr aa.2.2.2.2.2.2.c 0]) (fun aa => aa.1 = (if aa.2.2.1 = true then 28 else 29) ∧ (rkOk aa.2.2.2.1 = true ∧ aa.2.2.2.2.1 ≤ 100) ∧ (aa.2.2.2.2.2.1.ok = true ∧ aa.2.2.2.2.2.2.ok = true)) (fun aa => .i (wtN aa.2.2.2.1 aa.2.2.2.2.1 aa.2.2.2.2.2.1 aa.2.2.2.2.2.2 aa.2.2.1 aa.2.1 : Int)) o K i e s
theorem ent23_ok {args : List AV} {K : AV → List AV → Sto → Prop} {Q : Kt} {e : List AV} {s : Sto} (h : ent23 (AV.outs s args) K (mk _) e s) : pcall Try.prog 23 args K Q e s := entS_ok (fun aa h => pf23 aa.1 aa.2.1 aa.2.2.1 aa.2.2.2.1 aa.2.2.2.2.1 aa.2.2.2.2.2.1 aa.2.2.2.2.2.2 h) h
theorem eq23 {fu : Nat} {lim : Int} {kd : Bool} {r : List Zo} {p : Nat} {worn : Pn} {planed : Pn} {KK : AV → List AV → Sto → Prop} {ii : At KK} {ee : List AV} {ss : Sto} : ent23 (some [isC fu lim, .b kd, .ptr [.sl 4 (r.map Zo.c)] 0, .ptr [.i (p : Int)] 0, .ptr worn.c 0, .ptr planed.c 0]) KK ii ee ss = ((fu = (if kd = true then 28 else 29) ∧ (rkOk r = true ∧ p ≤ 100) ∧ (worn.ok = true ∧ planed.ok = true)) ∧ (.i (wtN r p worn planed kd lim : Int) : D).flat = true ∧ KK (.d (.i (wtN r p worn planed kd lim : Int))) ee ss) := by
  unfold ent23; rw [entS_iff (fu, lim, kd, r, p, worn, planed) (by intro b h; simpa [Prod.ext_iff, and_assoc, Int.ofNat_inj, ints_inj, hrs_inj, grs_inj, hr_inj, gr_inj, tt_inj, bcs_inj, cn_inj, sd_inj, pn_inj, zos_inj, zo_inj2, zo_inj] using h)] <;> simp
def O8 : Nat → Sch := fun id => .done
theorem ho8 : Try.f8.body.map (okO O8) = some true := by kernel_rfl
def Cf8 : Nat → List AV → (AV → List AV → Sto → Prop) → Kt → List AV → Sto → Prop := fun f args K Q e s => match f with
  | 19 => ent19 args K e s
  | 20 => ent20 args K e s
  | 21 => ent21 args K e s
  | 22 => ent22 args K e s
  | 23 => ent23 (AV.outs s args) K (mk _) e s
  | _ => False
def Ct8 : CT := { f := Cf8, y := noYld, z := fun d => false }
theorem ctz8 {d : Nat} : CT.z Ct8 d = (false) := id rfl
theorem Ct8_ok : Ct8.ok Try.prog := ok_of_f (fun f args K Q e s h => by
  have h : Cf8 f args K Q e s := h
  unfold Cf8 at h; split at h
  · exact ent19_ok h
  · exact ent20_ok h
  · exact ent21_ok h
  · exact ent22_ok h
  · exact ent23_ok h
  · exact h.elim) (fun _ _ _ _ _ _ _ _ _ h => h)
theorem x8_19 {r : List Zo} {KK : AV → List AV → Sto → Prop} {QQ : Kt} {ii : At KK} {jj : At QQ} {ee : List AV} {ss : Sto} : xC Ct8 19 [.d (.sl 4 (r.map Zo.c))] KK QQ ii jj ee ss = ((r.length ≤ 1000) ∧ KK (.d (.b (rkOk r))) ee ss) := eq19
theorem x8_19_m1 {r : List Zo} {g1 el1 : Nat} {KK : AV → List AV → Sto → Prop} {QQ : Kt} {ii : At KK} {jj : At QQ} {ee : List AV} {ss : Sto} : xC Ct8 19 [.own g1 el1 4 (r.map Zo.c)] KK QQ ii jj ee ss = ((r.length ≤ 1000) ∧ (.b (rkOk r) : D).flat = true ∧ KK (.d (.b (rkOk r))) ee ss) := eqo19
theorem x8_20 {s : Pn} {KK : AV → List AV → Sto → Prop} {QQ : Kt} {ii : At KK} {jj : At QQ} {ee : List AV} {ss : Sto} : xC Ct8 20 [.d (.agg s.c)] KK QQ ii jj ee ss = (KK (.d (.b s.ok)) ee ss) := eq20
theorem x8_21 {n : Int} {lo : Int} {hi : Int} {KK : AV → List AV → Sto → Prop} {QQ : Kt} {ii : At KK} {jj : At QQ} {ee : List AV} {ss : Sto} : xC Ct8 21 [.d (.i n), .d (.i lo), .d (.i hi)] KK QQ ii jj ee ss = (KK (.d (.b (inB n lo hi))) ee ss) := eq21
theorem x8_22 {least : Int} {most : Int} {KK : AV → List AV → Sto → Prop} {QQ : Kt} {ii : At KK} {jj : At QQ} {ee : List AV} {ss : Sto} : xC Ct8 22 [.d (.i least), .d (.i most)] KK QQ ii jj ee ss = (KK (.d (.b (inB most 0 20000 && inB least 0 most))) ee ss) := eq22
theorem x8_23 {args : List AV} {KK : AV → List AV → Sto → Prop} {QQ : Kt} {ii : At KK} {jj : At QQ} {ee : List AV} {ss : Sto} : xC Ct8 23 args KK QQ ii jj ee ss = ent23 (AV.outs ss args) KK (mk _) ee ss := id rfl
theorem c8 : callable Try.prog 8 = true := by kernel_rfl
theorem pf8 (r : List Zo) (worn planed : Pn) (p least most : Int) (h : r.length ≤ 1000) : PF Try.prog 8 [.sl 4 (r.map Zo.c), .agg worn.c, .agg planed.c, .i p, .i least, .i most] (fun zz => zz = .ret (.tup [.agg (waR r worn planed p least most).1.c, .i (waR r worn planed p least most).2])) := by
  have hl := h
  by_cases c1 : rkOk r = true
  case neg =>
    have hW : waR r worn planed p least most = (⟨0, 0⟩, 1) := by unfold waR; rw [if_neg (fun h => c1 h.1)]
    rw [hW]
    refine PF_nil (PF_start (O := O8) Ct8_ok hmix ho8 Try.func8 c8 rfl Try.ntmps8 Try.results8 ?_)
    simp (maxSteps := 4000000) +contextual (disch := first | omega | exact qdb_ok (by kernel_rfl) | exact okb_ok (by kernel_rfl)) only [bw1,bw2,bw3,bw4,bw5,bw6,bw7,bc0,bc1,bc2,bc3,bc4,bc5,bc6,bc7,bb0,setPs,AV.owns,AV.datF,AV.frz,AV.cpy,ifV,isEqB,nilV,nilX,AV.isNilS,AV.isNoRows,wk,dclo,datOf,binIs,addF,AV.isPtr,idxV,AV.isSl,AV.isSlice,AV.rows,ps,pv,extV,extS,AV.outs,AV.outF,packD,AV.dl,fieldV,fieldS,AV.cells?,AV.upr,AV.menc,AV.one,D.one,Value.oneCell',tagOf,AV.isApp,strV,strS,bolV,bolS,slcV,AV.isSlD,asrtS,AV.dcells,D.cells?,stcV,stcS,leafOk,eqDs,eqD,packA,D.val?,↓reduceIte,reduceCtorEq,Nat.reduceAdd,Nat.reduceSub,Nat.reduceMul,List.reduceReplicate,Nat.reduceLeDiff,Nat.reduceLT,Nat.reduceBEq,Nat.reduceEqDiff,Int.reduceNeg,Int.reduceEq,Int.reduceLE,Int.reduceLT,tfb,ctz8,x8_19,x8_19_m1,x8_20,x8_21,x8_22,x8_23,eq23,hl, c1]
    try rfl
  by_cases c2 : worn.ok = true
  case neg =>
    have hW : waR r worn planed p least most = (⟨0, 0⟩, 1) := by unfold waR; rw [if_neg (fun h => c2 h.2.1)]
    rw [hW]
    refine PF_nil (PF_start (O := O8) Ct8_ok hmix ho8 Try.func8 c8 rfl Try.ntmps8 Try.results8 ?_)
    simp (maxSteps := 4000000) +contextual (disch := first | omega | exact qdb_ok (by kernel_rfl) | exact okb_ok (by kernel_rfl)) only [bw1,bw2,bw3,bw4,bw5,bw6,bw7,bc0,bc1,bc2,bc3,bc4,bc5,bc6,bc7,bb0,setPs,AV.owns,AV.datF,AV.frz,AV.cpy,ifV,isEqB,nilV,nilX,AV.isNilS,AV.isNoRows,wk,dclo,datOf,binIs,addF,AV.isPtr,idxV,AV.isSl,AV.isSlice,AV.rows,ps,pv,extV,extS,AV.outs,AV.outF,packD,AV.dl,fieldV,fieldS,AV.cells?,AV.upr,AV.menc,AV.one,D.one,Value.oneCell',tagOf,AV.isApp,strV,strS,bolV,bolS,slcV,AV.isSlD,asrtS,AV.dcells,D.cells?,stcV,stcS,leafOk,eqDs,eqD,packA,D.val?,↓reduceIte,reduceCtorEq,Nat.reduceAdd,Nat.reduceSub,Nat.reduceMul,List.reduceReplicate,Nat.reduceLeDiff,Nat.reduceLT,Nat.reduceBEq,Nat.reduceEqDiff,Int.reduceNeg,Int.reduceEq,Int.reduceLE,Int.reduceLT,tfb,ctz8,x8_19,x8_19_m1,x8_20,x8_21,x8_22,x8_23,eq23,hl, c1, c2]
    try rfl
  by_cases c3 : planed.ok = true
  case neg =>
    have hW : waR r worn planed p least most = (⟨0, 0⟩, 1) := by unfold waR; rw [if_neg (fun h => c3 h.2.2)]
    rw [hW]
    refine PF_nil (PF_start (O := O8) Ct8_ok hmix ho8 Try.func8 c8 rfl Try.ntmps8 Try.results8 ?_)
    simp (maxSteps := 4000000) +contextual (disch := first | omega | exact qdb_ok (by kernel_rfl) | exact okb_ok (by kernel_rfl)) only [bw1,bw2,bw3,bw4,bw5,bw6,bw7,bc0,bc1,bc2,bc3,bc4,bc5,bc6,bc7,bb0,setPs,AV.owns,AV.datF,AV.frz,AV.cpy,ifV,isEqB,nilV,nilX,AV.isNilS,AV.isNoRows,wk,dclo,datOf,binIs,addF,AV.isPtr,idxV,AV.isSl,AV.isSlice,AV.rows,ps,pv,extV,extS,AV.outs,AV.outF,packD,AV.dl,fieldV,fieldS,AV.cells?,AV.upr,AV.menc,AV.one,D.one,Value.oneCell',tagOf,AV.isApp,strV,strS,bolV,bolS,slcV,AV.isSlD,asrtS,AV.dcells,D.cells?,stcV,stcS,leafOk,eqDs,eqD,packA,D.val?,↓reduceIte,reduceCtorEq,Nat.reduceAdd,Nat.reduceSub,Nat.reduceMul,List.reduceReplicate,Nat.reduceLeDiff,Nat.reduceLT,Nat.reduceBEq,Nat.reduceEqDiff,Int.reduceNeg,Int.reduceEq,Int.reduceLE,Int.reduceLT,tfb,ctz8,x8_19,x8_19_m1,x8_20,x8_21,x8_22,x8_23,eq23,hl, c1, c2, c3]
    try rfl
  by_cases c4 : inB p 1 100 = true
  case neg =>
    have hW : waR r worn planed p least most = (⟨0, 0⟩, 2) := by unfold waR; rw [if_pos ⟨c1, c2, c3⟩, if_neg (fun h => c4 h.1)]
    rw [hW]
    refine PF_nil (PF_start (O := O8) Ct8_ok hmix ho8 Try.func8 c8 rfl Try.ntmps8 Try.results8 ?_)
    simp (maxSteps := 4000000) +contextual (disch := first | omega | exact qdb_ok (by kernel_rfl) | exact okb_ok (by kernel_rfl)) only [bw1,bw2,bw3,bw4,bw5,bw6,bw7,bc0,bc1,bc2,bc3,bc4,bc5,bc6,bc7,bb0,setPs,AV.owns,AV.datF,AV.frz,AV.cpy,ifV,isEqB,nilV,nilX,AV.isNilS,AV.isNoRows,wk,dclo,datOf,binIs,addF,AV.isPtr,idxV,AV.isSl,AV.isSlice,AV.rows,ps,pv,extV,extS,AV.outs,AV.outF,packD,AV.dl,fieldV,fieldS,AV.cells?,AV.upr,AV.menc,AV.one,D.one,Value.oneCell',tagOf,AV.isApp,strV,strS,bolV,bolS,slcV,AV.isSlD,asrtS,AV.dcells,D.cells?,stcV,stcS,leafOk,eqDs,eqD,packA,D.val?,↓reduceIte,reduceCtorEq,Nat.reduceAdd,Nat.reduceSub,Nat.reduceMul,List.reduceReplicate,Nat.reduceLeDiff,Nat.reduceLT,Nat.reduceBEq,Nat.reduceEqDiff,Int.reduceNeg,Int.reduceEq,Int.reduceLE,Int.reduceLT,tfb,ctz8,x8_19,x8_19_m1,x8_20,x8_21,x8_22,x8_23,eq23,hl, c1, c2, c3, c4]
    try rfl
  by_cases c5 : (inB most 0 20000 && inB least 0 most) = true
  case neg =>
    have hW : waR r worn planed p least most = (⟨0, 0⟩, 2) := by
      unfold waR; rw [if_pos ⟨c1, c2, c3⟩, if_neg (fun h => c5 (by rw [h.2.1, h.2.2]; rfl))]
    rw [hW]
    refine PF_nil (PF_start (O := O8) Ct8_ok hmix ho8 Try.func8 c8 rfl Try.ntmps8 Try.results8 ?_)
    simp (maxSteps := 4000000) +contextual (disch := first | omega | exact qdb_ok (by kernel_rfl) | exact okb_ok (by kernel_rfl)) only [bw1,bw2,bw3,bw4,bw5,bw6,bw7,bc0,bc1,bc2,bc3,bc4,bc5,bc6,bc7,bb0,setPs,AV.owns,AV.datF,AV.frz,AV.cpy,ifV,isEqB,nilV,nilX,AV.isNilS,AV.isNoRows,wk,dclo,datOf,binIs,addF,AV.isPtr,idxV,AV.isSl,AV.isSlice,AV.rows,ps,pv,extV,extS,AV.outs,AV.outF,packD,AV.dl,fieldV,fieldS,AV.cells?,AV.upr,AV.menc,AV.one,D.one,Value.oneCell',tagOf,AV.isApp,strV,strS,bolV,bolS,slcV,AV.isSlD,asrtS,AV.dcells,D.cells?,stcV,stcS,leafOk,eqDs,eqD,packA,D.val?,↓reduceIte,reduceCtorEq,Nat.reduceAdd,Nat.reduceSub,Nat.reduceMul,List.reduceReplicate,Nat.reduceLeDiff,Nat.reduceLT,Nat.reduceBEq,Nat.reduceEqDiff,Int.reduceNeg,Int.reduceEq,Int.reduceLE,Int.reduceLT,tfb,ctz8,x8_19,x8_19_m1,x8_20,x8_21,x8_22,x8_23,eq23,hl, c1, c2, c3, c4, c5]
    try rfl
  have c5' := c5
  rw [Bool.and_eq_true] at c5'
  have hpb := inB_iff.1 c4
  obtain ⟨q, rfl⟩ : ∃ q : Nat, p = q := ⟨p.toNat, by omega⟩
  have q1 : (28 : Nat) = (if true = true then 28 else 29) ∧ (rkOk r = true ∧ q ≤ 100) ∧ (worn.ok = true ∧ planed.ok = true) := ⟨rfl, ⟨c1, by omega⟩, c2, c3⟩
  have q2 : (29 : Nat) = (if false = true then 28 else 29) ∧ (rkOk r = true ∧ q ≤ 100) ∧ (worn.ok = true ∧ planed.ok = true) := ⟨rfl, ⟨c1, by omega⟩, c2, c3⟩
  have hq100 : q ≤ 100 := by omega
  obtain ⟨A, hA⟩ : ∃ A, wtN r q worn planed true least = A := ⟨_, rfl⟩
  obtain ⟨B, hB⟩ : ∃ B, wtN r q worn planed false most = B := ⟨_, rfl⟩
  have hBb : B ≤ 20001 := by rw [← hB]; exact (srch_le 32 0 20001 (by omega)).2
  by_cases c6 : B ≤ A
  · have hW : waR r worn planed (q : Int) least most = (⟨0, 0⟩, 4) := by
      unfold waR; rw [if_pos ⟨c1, c2, c3⟩, if_pos ⟨c4, c5'.1, c5'.2⟩, Int.toNat_natCast, hA, hB, if_pos c6]
    have c6' : (B : Int) ≤ A := by omega
    rw [hW]
    refine PF_nil (PF_start (O := O8) Ct8_ok hmix ho8 Try.func8 c8 rfl Try.ntmps8 Try.results8 ?_)
    simp (maxSteps := 4000000) +contextual (disch := first | omega | exact qdb_ok (by kernel_rfl) | exact okb_ok (by kernel_rfl)) only [bw1,bw2,bw3,bw4,bw5,bw6,bw7,bc0,bc1,bc2,bc3,bc4,bc5,bc6,bc7,bb0,setPs,AV.owns,AV.datF,AV.frz,AV.cpy,ifV,isEqB,nilV,nilX,AV.isNilS,AV.isNoRows,wk,dclo,datOf,binIs,addF,AV.isPtr,idxV,AV.isSl,AV.isSlice,AV.rows,ps,pv,extV,extS,AV.outs,AV.outF,packD,AV.dl,fieldV,fieldS,AV.cells?,AV.upr,AV.menc,AV.one,D.one,Value.oneCell',tagOf,AV.isApp,strV,strS,bolV,bolS,slcV,AV.isSlD,asrtS,AV.dcells,D.cells?,stcV,stcS,leafOk,eqDs,eqD,packA,D.val?,↓reduceIte,reduceCtorEq,Nat.reduceAdd,Nat.reduceSub,Nat.reduceMul,List.reduceReplicate,Nat.reduceLeDiff,Nat.reduceLT,Nat.reduceBEq,Nat.reduceEqDiff,Int.reduceNeg,Int.reduceEq,Int.reduceLE,Int.reduceLT,tfb,ctz8,x8_19,x8_19_m1,x8_20,x8_21,x8_22,x8_23,eq23,hl, c1, c2, c3, c4, c5, hq100, hA, hB, c6']
    exact ⟨rfl, rfl⟩
  · have hW : waR r worn planed (q : Int) least most = (⟨(A : Int), (B : Int) - 1⟩, 0) := by
      unfold waR; rw [if_pos ⟨c1, c2, c3⟩, if_pos ⟨c4, c5'.1, c5'.2⟩, Int.toNat_natCast, hA, hB, if_neg c6]
    have c6' : ¬ (B : Int) ≤ A := by omega
    rw [hW]
    refine PF_nil (PF_start (O := O8) Ct8_ok hmix ho8 Try.func8 c8 rfl Try.ntmps8 Try.results8 ?_)
    simp (maxSteps := 4000000) +contextual (disch := first | omega | exact qdb_ok (by kernel_rfl) | exact okb_ok (by kernel_rfl)) only [bw1,bw2,bw3,bw4,bw5,bw6,bw7,bc0,bc1,bc2,bc3,bc4,bc5,bc6,bc7,bb0,setPs,AV.owns,AV.datF,AV.frz,AV.cpy,ifV,isEqB,nilV,nilX,AV.isNilS,AV.isNoRows,wk,dclo,datOf,binIs,addF,AV.isPtr,idxV,AV.isSl,AV.isSlice,AV.rows,ps,pv,extV,extS,AV.outs,AV.outF,packD,AV.dl,fieldV,fieldS,AV.cells?,AV.upr,AV.menc,AV.one,D.one,Value.oneCell',tagOf,AV.isApp,strV,strS,bolV,bolS,slcV,AV.isSlD,asrtS,AV.dcells,D.cells?,stcV,stcS,leafOk,eqDs,eqD,packA,D.val?,↓reduceIte,reduceCtorEq,Nat.reduceAdd,Nat.reduceSub,Nat.reduceMul,List.reduceReplicate,Nat.reduceLeDiff,Nat.reduceLT,Nat.reduceBEq,Nat.reduceEqDiff,Int.reduceNeg,Int.reduceEq,Int.reduceLE,Int.reduceLT,tfb,ctz8,x8_19,x8_19_m1,x8_20,x8_21,x8_22,x8_23,eq23,hl, c1, c2, c3, c4, c5, hq100, hA, hB, c6']
    exact ⟨rfl, rfl⟩
def ent8 (args : List AV) (K : AV → List AV → Sto → Prop) (e : List AV) (s : Sto) : Prop := ent (α := (List Zo) × (Pn) × (Pn) × (Int) × (Int) × (Int)) (fun aa => [.sl 4 (aa.1.map Zo.c), .agg aa.2.1.c, .agg aa.2.2.1.c, .i aa.2.2.2.1, .i aa.2.2.2.2.1, .i aa.2.2.2.2.2]) (fun aa => aa.1.length ≤ 1000) (fun aa => .tup [.agg (waR aa.1 aa.2.1 aa.2.2.1 aa.2.2.2.1 aa.2.2.2.2.1 aa.2.2.2.2.2).1.c, .i (waR aa.1 aa.2.1 aa.2.2.1 aa.2.2.2.1 aa.2.2.2.2.1 aa.2.2.2.2.2).2]) args K e s
theorem ent8_ok {args : List AV} {K : AV → List AV → Sto → Prop} {Q : Kt} {e : List AV} {s : Sto} (h : ent8 args K e s) : pcall Try.prog 8 args K Q e s := ent_ok (fun aa h => pf8 aa.1 aa.2.1 aa.2.2.1 aa.2.2.2.1 aa.2.2.2.2.1 aa.2.2.2.2.2 h) h
theorem eq8 {r : List Zo} {worn : Pn} {planed : Pn} {p : Int} {least : Int} {most : Int} {KK : AV → List AV → Sto → Prop} {ee : List AV} {ss : Sto} : ent8 [.d (.sl 4 (r.map Zo.c)), .d (.agg worn.c), .d (.agg planed.c), .d (.i p), .d (.i least), .d (.i most)] KK ee ss = ((r.length ≤ 1000) ∧ KK (.d (.tup [.agg (waR r worn planed p least most).1.c, .i (waR r worn planed p least most).2])) ee ss) := by
  unfold ent8; rw [ent_iff (r, worn, planed, p, least, most) (by intro b h; simpa [Prod.ext_iff, and_assoc, Int.ofNat_inj, ints_inj, hrs_inj, grs_inj, hr_inj, gr_inj, tt_inj, bcs_inj, cn_inj, sd_inj, pn_inj, zos_inj, zo_inj2, zo_inj] using h) rfl]; simp
end Go.Proofs.Ytofbbkacihnjdaa
