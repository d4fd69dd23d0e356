/- A part of the proof that the last text ends: what functions of the program do, told by plain data. -/
import Derived.Test.YtofbbkacihnjdaaTIf
set_option linter.unusedVariables false
set_option linter.unusedSimpArgs false
namespace Go.Proofs.Ytofbbkacihnjdaa
open Go Go.E Go.Maps
set_option maxRecDepth 100000
set_option maxHeartbeats 4000000
def Pn.okM (s : Pn) (m : Int) : Bool := decide (0 ≤ s.lo) && (decide (s.lo ≤ s.hi) && decide (s.hi ≤ m))
theorem okM_ok {s : Pn} : s.okM 20000 = s.ok := rfl
def O31 : Nat → Sch := fun id => .done
theorem ho31 : Try.f31.body.map (okO O31) = some true := by kernel_rfl
def Cf31 : Nat → List AV → (AV → List AV → Sto → Prop) → Kt → List AV → Sto → Prop := fun f args K Q e s => match f with
  | _ => False
def Ct31 : CT := { f := Cf31, y := noYld, z := fun d => false }
theorem ctz31 {d : Nat} : CT.z Ct31 d = (false) := id rfl
theorem Ct31_ok : Ct31.ok Try.prog := ok_of_f (fun f args K Q e s h => by
  have h : Cf31 f args K Q e s := h
  unfold Cf31 at h; split at h
  · exact h.elim) (fun _ _ _ _ _ _ _ _ _ h => h)
theorem c31 : callable Try.prog 31 = true := by kernel_rfl
theorem pf31 (n lo hi : Int) : PF Try.prog 31 [.i n, .i lo, .i hi] (fun zz => zz = .ret (.b (inB n lo hi))) := by
  refine PF_nil (PF_start (O := O31) Ct31_ok hmix ho31 Try.func31 c31 rfl Try.ntmps31 Try.results31 ?_)
  by_cases h : lo ≤ n
  · simp (maxSteps := 4000000) +contextual (disch := first | omega | exact qdb_ok (by kernel_rfl) | exact okb_ok (by kernel_rfl)) only [bw1,bw2,bw3,bw4,bw5,bw6,bw7,bc0,bc1,bc2,bc3,bc4,bc5,bc6,bc7,bb0,setPs,AV.owns,AV.datF,AV.frz,AV.cpy,ifV,isEqB,nilV,nilX,AV.isNilS,AV.isNoRows,wk,dclo,datOf,binIs,addF,AV.isPtr,idxV,AV.isSl,AV.isSlice,AV.rows,ps,pv,extV,extS,AV.outs,AV.outF,packD,AV.dl,fieldV,fieldS,AV.cells?,AV.upr,AV.menc,AV.one,D.one,Value.oneCell',tagOf,AV.isApp,strV,strS,bolV,bolS,slcV,AV.isSlD,asrtS,AV.dcells,D.cells?,stcV,stcS,leafOk,eqDs,eqD,packA,D.val?,↓reduceIte,reduceCtorEq,Nat.reduceAdd,Nat.reduceSub,Nat.reduceMul,List.reduceReplicate,Nat.reduceLeDiff,Nat.reduceLT,Nat.reduceBEq,Nat.reduceEqDiff,Int.reduceNeg,Int.reduceEq,Int.reduceLE,Int.reduceLT,tfb,ctz31,h, inB]
  · simp (maxSteps := 4000000) +contextual (disch := first | omega | exact qdb_ok (by kernel_rfl) | exact okb_ok (by kernel_rfl)) only [bw1,bw2,bw3,bw4,bw5,bw6,bw7,bc0,bc1,bc2,bc3,bc4,bc5,bc6,bc7,bb0,setPs,AV.owns,AV.datF,AV.frz,AV.cpy,ifV,isEqB,nilV,nilX,AV.isNilS,AV.isNoRows,wk,dclo,datOf,binIs,addF,AV.isPtr,idxV,AV.isSl,AV.isSlice,AV.rows,ps,pv,extV,extS,AV.outs,AV.outF,packD,AV.dl,fieldV,fieldS,AV.cells?,AV.upr,AV.menc,AV.one,D.one,Value.oneCell',tagOf,AV.isApp,strV,strS,bolV,bolS,slcV,AV.isSlD,asrtS,AV.dcells,D.cells?,stcV,stcS,leafOk,eqDs,eqD,packA,D.val?,↓reduceIte,reduceCtorEq,Nat.reduceAdd,Nat.reduceSub,Nat.reduceMul,List.reduceReplicate,Nat.reduceLeDiff,Nat.reduceLT,Nat.reduceBEq,Nat.reduceEqDiff,Int.reduceNeg,Int.reduceEq,Int.reduceLE,Int.reduceLT,tfb,ctz31,h, inB, Bool.false_and]
def ent31 (args : List AV) (K : AV → List AV → Sto → Prop) (e : List AV) (s : Sto) : Prop := ent (α := (Int) × (Int) × (Int)) (fun aa => [.i aa.1, .i aa.2.1, .i aa.2.2]) (fun aa => True) (fun aa => .b (inB aa.1 aa.2.1 aa.2.2)) args K e s
theorem ent31_ok {args : List AV} {K : AV → List AV → Sto → Prop} {Q : Kt} {e : List AV} {s : Sto} (h : ent31 args K e s) : pcall Try.prog 31 args K Q e s := ent_ok (fun aa h => pf31 aa.1 aa.2.1 aa.2.2) h
theorem eq31 {n : Int} {lo : Int} {hi : Int} {KK : AV → List AV → Sto → Prop} {ee : List AV} {ss : Sto} : ent31 [.d (.i n), .d (.i lo), .d (.i hi)] KK ee ss = (KK (.d (.b (inB n lo hi))) ee ss) := by
  unfold ent31; rw [ent_iff (n, lo, hi) (by intro b h; simpa [Prod.ext_iff, and_assoc, Int.ofNat_inj, ints_inj, hrs_inj, grs_inj, hr_inj, gr_inj, tt_inj, bcs_inj, cn_inj, sd_inj, pn_inj, zos_inj, zo_inj2, zo_inj] using h) rfl]; simp
def O30 : Nat → Sch := fun id => .done
theorem ho30 : Try.f30.body.map (okO O30) = some true := by kernel_rfl
def Cf30 : Nat → List AV → (AV → List AV → Sto → Prop) → Kt → List AV → Sto → Prop := fun f args K Q e s => match f with
  | _ => False
def Ct30 : CT := { f := Cf30, y := noYld, z := fun d => false }
theorem ctz30 {d : Nat} : CT.z Ct30 d = (false) := id rfl
theorem Ct30_ok : Ct30.ok Try.prog := ok_of_f (fun f args K Q e s h => by
  have h : Cf30 f args K Q e s := h
  unfold Cf30 at h; split at h
  · exact h.elim) (fun _ _ _ _ _ _ _ _ _ h => h)
theorem c30 : callable Try.prog 30 = true := by kernel_rfl
theorem pf30 (s : Pn) (m : Int) : PF Try.prog 30 [.agg s.c, .i m] (fun zz => zz = .ret (.b (s.okM m))) := by
  unfold Pn.okM
  by_cases c1 : 0 ≤ s.lo
  case neg =>
    refine PF_nil (PF_start (O := O30) Ct30_ok hmix ho30 Try.func30 c30 rfl Try.ntmps30 Try.results30 ?_)
    simp (maxSteps := 4000000) +contextual (disch := first | omega | exact qdb_ok (by kernel_rfl) | exact okb_ok (by kernel_rfl)) only [bw1,bw2,bw3,bw4,bw5,bw6,bw7,bc0,bc1,bc2,bc3,bc4,bc5,bc6,bc7,bb0,setPs,AV.owns,AV.datF,AV.frz,AV.cpy,ifV,isEqB,nilV,nilX,AV.isNilS,AV.isNoRows,wk,dclo,datOf,binIs,addF,AV.isPtr,idxV,AV.isSl,AV.isSlice,AV.rows,ps,pv,extV,extS,AV.outs,AV.outF,packD,AV.dl,fieldV,fieldS,AV.cells?,AV.upr,AV.menc,AV.one,D.one,Value.oneCell',tagOf,AV.isApp,strV,strS,bolV,bolS,slcV,AV.isSlD,asrtS,AV.dcells,D.cells?,stcV,stcS,leafOk,eqDs,eqD,packA,D.val?,↓reduceIte,reduceCtorEq,Nat.reduceAdd,Nat.reduceSub,Nat.reduceMul,List.reduceReplicate,Nat.reduceLeDiff,Nat.reduceLT,Nat.reduceBEq,Nat.reduceEqDiff,Int.reduceNeg,Int.reduceEq,Int.reduceLE,Int.reduceLT,tfb,ctz30,c1]
    try simp [c1]
  by_cases c2 : s.lo ≤ s.hi
  case neg =>
    refine PF_nil (PF_start (O := O30) Ct30_ok hmix ho30 Try.func30 c30 rfl Try.ntmps30 Try.results30 ?_)
    simp (maxSteps := 4000000) +contextual (disch := first | omega | exact qdb_ok (by kernel_rfl) | exact okb_ok (by kernel_rfl)) only [bw1,bw2,bw3,bw4,bw5,bw6,bw7,bc0,bc1,bc2,bc3,bc4,bc5,bc6,bc7,bb0,setPs,AV.owns,AV.datF,AV.frz,AV.cpy,ifV,isEqB,nilV,nilX,AV.isNilS,AV.isNoRows,wk,dclo,datOf,binIs,addF,AV.isPtr,idxV,AV.isSl,AV.isSlice,AV.rows,ps,pv,extV,extS,AV.outs,AV.outF,packD,AV.dl,fieldV,fieldS,AV.cells?,AV.upr,AV.menc,AV.one,D.one,Value.oneCell',tagOf,AV.isApp,strV,strS,bolV,bolS,slcV,AV.isSlD,asrtS,AV.dcells,D.cells?,stcV,stcS,leafOk,eqDs,eqD,packA,D.val?,↓reduceIte,reduceCtorEq,Nat.reduceAdd,Nat.reduceSub,Nat.reduceMul,List.reduceReplicate,Nat.reduceLeDiff,Nat.reduceLT,Nat.reduceBEq,Nat.reduceEqDiff,Int.reduceNeg,Int.reduceEq,Int.reduceLE,Int.reduceLT,tfb,ctz30,c1, c2]
    try simp [c1, c2]
  refine PF_nil (PF_start (O := O30) Ct30_ok hmix ho30 Try.func30 c30 rfl Try.ntmps30 Try.results30 ?_)
  simp (maxSteps := 4000000) +contextual (disch := first | omega | exact qdb_ok (by kernel_rfl) | exact okb_ok (by kernel_rfl)) only [bw1,bw2,bw3,bw4,bw5,bw6,bw7,bc0,bc1,bc2,bc3,bc4,bc5,bc6,bc7,bb0,setPs,AV.owns,AV.datF,AV.frz,AV.cpy,ifV,isEqB,nilV,nilX,AV.isNilS,AV.isNoRows,wk,dclo,datOf,binIs,addF,AV.isPtr,idxV,AV.isSl,AV.isSlice,AV.rows,ps,pv,extV,extS,AV.outs,AV.outF,packD,AV.dl,fieldV,fieldS,AV.cells?,AV.upr,AV.menc,AV.one,D.one,Value.oneCell',tagOf,AV.isApp,strV,strS,bolV,bolS,slcV,AV.isSlD,asrtS,AV.dcells,D.cells?,stcV,stcS,leafOk,eqDs,eqD,packA,D.val?,↓reduceIte,reduceCtorEq,Nat.reduceAdd,Nat.reduceSub,Nat.reduceMul,List.reduceReplicate,Nat.reduceLeDiff,Nat.reduceLT,Nat.reduceBEq,Nat.reduceEqDiff,Int.reduceNeg,Int.reduceEq,Int.reduceLE,Int.reduceLT,tfb,ctz30,c1, c2]
  try simp [c1, c2]
def ent30 (args : List AV) (K : AV → List AV → Sto → Prop) (e : List AV) (s : Sto) : Prop := ent (α := (Pn) × (Int)) (fun aa => [.agg aa.1.c, .i aa.2]) (fun aa => True) (fun aa => .b (aa.1.okM aa.2)) args K e s
theorem ent30_ok {args : List AV} {K : AV → List AV → Sto → Prop} {Q : Kt} {e : List AV} {s : Sto} (h : ent30 args K e s) : pcall Try.prog 30 args K Q e s := ent_ok (fun aa h => pf30 aa.1 aa.2) h
theorem eq30 {s : Pn} {m : Int} {KK : AV → List AV → Sto → Prop} {ee : List AV} {ss : Sto} : ent30 [.d (.agg s.c), .d (.i m)] KK ee ss = (KK (.d (.b (s.okM m))) ee ss) := by
  unfold ent30; rw [ent_iff (s, m) (by intro b h; simpa [Prod.ext_iff, and_assoc, Int.ofNat_inj, ints_inj, hrs_inj, grs_inj, hr_inj, gr_inj, tt_inj, bcs_inj, cn_inj, sd_inj, pn_inj, zos_inj, zo_inj2, zo_inj] using h) rfl]; simp
def O9 : Nat → Sch := fun id => .done
theorem ho9 : Try.f9.body.map (okO O9) = some true := by kernel_rfl
def Cf9 : Nat → List AV → (AV → List AV → Sto → Prop) → Kt → List AV → Sto → Prop := fun f args K Q e s => match f with
  | 30 => ent30 args K e s
  | 31 => ent31 args K e s
  | _ => False
def Ct9 : CT := { f := Cf9, y := noYld, z := fun d => false }
theorem ctz9 {d : Nat} : CT.z Ct9 d = (false) := id rfl
theorem Ct9_ok : Ct9.ok Try.prog := ok_of_f (fun f args K Q e s h => by
  have h : Cf9 f args K Q e s := h
  unfold Cf9 at h; split at h
  · exact ent30_ok h
  · exact ent31_ok h
  · exact h.elim) (fun _ _ _ _ _ _ _ _ _ h => h)
theorem x9_30 {s : Pn} {m : Int} {KK : AV → List AV → Sto → Prop} {QQ : Kt} {ii : At KK} {jj : At QQ} {ee : List AV} {ss : Sto} : xC Ct9 30 [.d (.agg s.c), .d (.i m)] KK QQ ii jj ee ss = (KK (.d (.b (s.okM m))) ee ss) := eq30
theorem x9_31 {n : Int} {lo : Int} {hi : Int} {KK : AV → List AV → Sto → Prop} {QQ : Kt} {ii : At KK} {jj : At QQ} {ee : List AV} {ss : Sto} : xC Ct9 31 [.d (.i n), .d (.i lo), .d (.i hi)] KK QQ ii jj ee ss = (KK (.d (.b (inB n lo hi))) ee ss) := eq31
theorem c9 : callable Try.prog 9 = true := by kernel_rfl
theorem pf9 (r : List Zo) : PF Try.prog 9 [.sl 4 (r.map Zo.c)] (fun zz => zz = .ret (.b (rkOk r))) := by
  obtain ⟨W, hW⟩ : ∃ W, rkOk r = W := ⟨_, rfl⟩
  rw [hW]
  refine PF_nil (PF_start (O := O9) Ct9_ok hmix ho9 Try.func9 c9 rfl Try.ntmps9 Try.results9 ?_)
  simp (maxSteps := 4000000) +contextual (disch := first | omega | exact qdb_ok (by kernel_rfl) | exact okb_ok (by kernel_rfl)) only [bw1,bw2,bw3,bw4,bw5,bw6,bw7,bc0,bc1,bc2,bc3,bc4,bc5,bc6,bc7,bb0,setPs,AV.owns,AV.datF,AV.frz,AV.cpy,ifV,isEqB,nilV,nilX,AV.isNilS,AV.isNoRows,wk,dclo,datOf,binIs,addF,AV.isPtr,idxV,AV.isSl,AV.isSlice,AV.rows,ps,pv,extV,extS,AV.outs,AV.outF,packD,AV.dl,fieldV,fieldS,AV.cells?,AV.upr,AV.menc,AV.one,D.one,Value.oneCell',tagOf,AV.isApp,strV,strS,bolV,bolS,slcV,AV.isSlD,asrtS,AV.dcells,D.cells?,stcV,stcS,leafOk,eqDs,eqD,packA,D.val?,↓reduceIte,reduceCtorEq,Nat.reduceAdd,Nat.reduceSub,Nat.reduceMul,List.reduceReplicate,Nat.reduceLeDiff,Nat.reduceLT,Nat.reduceBEq,Nat.reduceEqDiff,Int.reduceNeg,Int.reduceEq,Int.reduceLE,Int.reduceLT,tfb,ctz9,x9_30,x9_31]
  refine loop_xu (O := O9) (tb := 0) Ct9_ok hmix (by kernel_rfl) (σ := Nat) (fun k => [(3, .i k)]) (fun _ => []) (fun k => (k ≤ r.length ∧ k ≤ 25) ∧ ∀ q, q < k → (r.getD q default).bad = false) (fun k => 25 - k) 0 ⟨⟨Nat.zero_le _, by omega⟩, fun q hq => by omega⟩ ?_ ?_
  · simp (maxSteps := 4000000) +contextual (disch := first | omega | exact qdb_ok (by kernel_rfl) | exact okb_ok (by kernel_rfl)) only [bw1,bw2,bw3,bw4,bw5,bw6,bw7,bc0,bc1,bc2,bc3,bc4,bc5,bc6,bc7,bb0,setPs,AV.owns,AV.datF,AV.frz,AV.cpy,ifV,isEqB,nilV,nilX,AV.isNilS,AV.isNoRows,wk,dclo,datOf,binIs,addF,AV.isPtr,idxV,AV.isSl,AV.isSlice,AV.rows,ps,pv,extV,extS,AV.outs,AV.outF,packD,AV.dl,fieldV,fieldS,AV.cells?,AV.upr,AV.menc,AV.one,D.one,Value.oneCell',tagOf,AV.isApp,strV,strS,bolV,bolS,slcV,AV.isSlD,asrtS,AV.dcells,D.cells?,stcV,stcS,leafOk,eqDs,eqD,packA,D.val?,↓reduceIte,reduceCtorEq,Nat.reduceAdd,Nat.reduceSub,Nat.reduceMul,List.reduceReplicate,Nat.reduceLeDiff,Nat.reduceLT,Nat.reduceBEq,Nat.reduceEqDiff,Int.reduceNeg,Int.reduceEq,Int.reduceLE,Int.reduceLT,tfb,ctz9,x9_30,x9_31,eq_self]
    try rfl
  intro k hk0
  have hk := hk0.1.1
  have hk25 := hk0.1.2
  have hq := hk0.2
  have hkk : (0 : Int) ≤ k := by omega
  by_cases hlt : k < r.length
  case neg =>
    have hlt' : ¬ (k : Int) < r.length := by omega
    have hany : (r.any Zo.bad) = false := by
      rw [List.any_eq_false]
      intro x hx
      obtain ⟨j, hj, rfl⟩ := List.getElem_of_mem hx
      have := hq j (by omega)
      rw [at_lt hj] at this
      rw [this]; decide
    have hWv : inB r.length 1 24 = W := by rw [← hW]; unfold rkOk; rw [hany]; simp
    simp (maxSteps := 4000000) +contextual (disch := first | omega | exact qdb_ok (by kernel_rfl) | exact okb_ok (by kernel_rfl)) only [bw1,bw2,bw3,bw4,bw5,bw6,bw7,bc0,bc1,bc2,bc3,bc4,bc5,bc6,bc7,bb0,setPs,AV.owns,AV.datF,AV.frz,AV.cpy,ifV,isEqB,nilV,nilX,AV.isNilS,AV.isNoRows,wk,dclo,datOf,binIs,addF,AV.isPtr,idxV,AV.isSl,AV.isSlice,AV.rows,ps,pv,extV,extS,AV.outs,AV.outF,packD,AV.dl,fieldV,fieldS,AV.cells?,AV.upr,AV.menc,AV.one,D.one,Value.oneCell',tagOf,AV.isApp,strV,strS,bolV,bolS,slcV,AV.isSlD,asrtS,AV.dcells,D.cells?,stcV,stcS,leafOk,eqDs,eqD,packA,D.val?,↓reduceIte,reduceCtorEq,Nat.reduceAdd,Nat.reduceSub,Nat.reduceMul,List.reduceReplicate,Nat.reduceLeDiff,Nat.reduceLT,Nat.reduceBEq,Nat.reduceEqDiff,Int.reduceNeg,Int.reduceEq,Int.reduceLE,Int.reduceLT,tfb,ctz9,x9_30,x9_31,eq_self, hlt', hWv]
    try rfl
  have hlt' : (k : Int) < r.length := by omega
  by_cases h24 : k ≤ 24
  case neg =>
    have h24' : ¬ (k : Int) ≤ 24 := by omega
    have hin : inB r.length 1 24 = false := inB_no.2 (by omega)
    have hWv : W = false := by rw [← hW]; unfold rkOk; rw [hin]; rfl
    simp (maxSteps := 4000000) +contextual (disch := first | omega | exact qdb_ok (by kernel_rfl) | exact okb_ok (by kernel_rfl)) only [bw1,bw2,bw3,bw4,bw5,bw6,bw7,bc0,bc1,bc2,bc3,bc4,bc5,bc6,bc7,bb0,setPs,AV.owns,AV.datF,AV.frz,AV.cpy,ifV,isEqB,nilV,nilX,AV.isNilS,AV.isNoRows,wk,dclo,datOf,binIs,addF,AV.isPtr,idxV,AV.isSl,AV.isSlice,AV.rows,ps,pv,extV,extS,AV.outs,AV.outF,packD,AV.dl,fieldV,fieldS,AV.cells?,AV.upr,AV.menc,AV.one,D.one,Value.oneCell',tagOf,AV.isApp,strV,strS,bolV,bolS,slcV,AV.isSlD,asrtS,AV.dcells,D.cells?,stcV,stcS,leafOk,eqDs,eqD,packA,D.val?,↓reduceIte,reduceCtorEq,Nat.reduceAdd,Nat.reduceSub,Nat.reduceMul,List.reduceReplicate,Nat.reduceLeDiff,Nat.reduceLT,Nat.reduceBEq,Nat.reduceEqDiff,Int.reduceNeg,Int.reduceEq,Int.reduceLE,Int.reduceLT,tfb,ctz9,x9_30,x9_31,eq_self, hlt', h24', hin, hWv]
    try rfl
  have h24' : (k : Int) ≤ 24 := by omega
  have hrz : (r.map Zo.c).getD k [] = Zo.c (r.getD k default) := Go.E.row_at hlt
  have hWf : (r.getD k default).bad = true → W = false := fun hb => by
    rw [← hW]; unfold rkOk
    rw [List.any_eq_true.2 ⟨_, List.getElem_mem hlt, by rw [← at_lt hlt]; exact hb⟩]; simp
  by_cases b1 : (r.getD k default).ice.ok = true
  case neg =>
    have b1m : (r.getD k default).ice.okM 20000 = false := by rw [okM_ok]; simpa using b1
    have hWv := hWf (by unfold Zo.bad; rw [show (r.getD k default).ice.ok = false by simpa using b1]; rfl)
    simp (maxSteps := 4000000) +contextual (disch := first | omega | exact qdb_ok (by kernel_rfl) | exact okb_ok (by kernel_rfl)) only [bw1,bw2,bw3,bw4,bw5,bw6,bw7,bc0,bc1,bc2,bc3,bc4,bc5,bc6,bc7,bb0,setPs,AV.owns,AV.datF,AV.frz,AV.cpy,ifV,isEqB,nilV,nilX,AV.isNilS,AV.isNoRows,wk,dclo,datOf,binIs,addF,AV.isPtr,idxV,AV.isSl,AV.isSlice,AV.rows,ps,pv,extV,extS,AV.outs,AV.outF,packD,AV.dl,fieldV,fieldS,AV.cells?,AV.upr,AV.menc,AV.one,D.one,Value.oneCell',tagOf,AV.isApp,strV,strS,bolV,bolS,slcV,AV.isSlD,asrtS,AV.dcells,D.cells?,stcV,stcS,leafOk,eqDs,eqD,packA,D.val?,↓reduceIte,reduceCtorEq,Nat.reduceAdd,Nat.reduceSub,Nat.reduceMul,List.reduceReplicate,Nat.reduceLeDiff,Nat.reduceLT,Nat.reduceBEq,Nat.reduceEqDiff,Int.reduceNeg,Int.reduceEq,Int.reduceLE,Int.reduceLT,tfb,ctz9,x9_30,x9_31,eq_self, hlt', h24', hrz, hkk, b1m, hWv]
    try rfl
  have b1m : (r.getD k default).ice.okM 20000 = true := b1
  by_cases b2 : (r.getD k default).paint.ok = true
  case neg =>
    have b2m : (r.getD k default).paint.okM 20000 = false := by rw [okM_ok]; simpa using b2
    have hWv := hWf (by unfold Zo.bad; rw [b1, show (r.getD k default).paint.ok = false by simpa using b2]; rfl)
    simp (maxSteps := 4000000) +contextual (disch := first | omega | exact qdb_ok (by kernel_rfl) | exact okb_ok (by kernel_rfl)) only [bw1,bw2,bw3,bw4,bw5,bw6,bw7,bc0,bc1,bc2,bc3,bc4,bc5,bc6,bc7,bb0,setPs,AV.owns,AV.datF,AV.frz,AV.cpy,ifV,isEqB,nilV,nilX,AV.isNilS,AV.isNoRows,wk,dclo,datOf,binIs,addF,AV.isPtr,idxV,AV.isSl,AV.isSlice,AV.rows,ps,pv,extV,extS,AV.outs,AV.outF,packD,AV.dl,fieldV,fieldS,AV.cells?,AV.upr,AV.menc,AV.one,D.one,Value.oneCell',tagOf,AV.isApp,strV,strS,bolV,bolS,slcV,AV.isSlD,asrtS,AV.dcells,D.cells?,stcV,stcS,leafOk,eqDs,eqD,packA,D.val?,↓reduceIte,reduceCtorEq,Nat.reduceAdd,Nat.reduceSub,Nat.reduceMul,List.reduceReplicate,Nat.reduceLeDiff,Nat.reduceLT,Nat.reduceBEq,Nat.reduceEqDiff,Int.reduceNeg,Int.reduceEq,Int.reduceLE,Int.reduceLT,tfb,ctz9,x9_30,x9_31,eq_self, hlt', h24', hrz, hkk, b1m, b2m, hWv]
    try rfl
  have b2m : (r.getD k default).paint.okM 20000 = true := b2
  have hnb : (r.getD k default).bad = false := by unfold Zo.bad; rw [b1, b2]; rfl
  simp (maxSteps := 4000000) +contextual (disch := first | omega | exact qdb_ok (by kernel_rfl) | exact okb_ok (by kernel_rfl)) only [bw1,bw2,bw3,bw4,bw5,bw6,bw7,bc0,bc1,bc2,bc3,bc4,bc5,bc6,bc7,bb0,setPs,AV.owns,AV.datF,AV.frz,AV.cpy,ifV,isEqB,nilV,nilX,AV.isNilS,AV.isNoRows,wk,dclo,datOf,binIs,addF,AV.isPtr,idxV,AV.isSl,AV.isSlice,AV.rows,ps,pv,extV,extS,AV.outs,AV.outF,packD,AV.dl,fieldV,fieldS,AV.cells?,AV.upr,AV.menc,AV.one,D.one,Value.oneCell',tagOf,AV.isApp,strV,strS,bolV,bolS,slcV,AV.isSlD,asrtS,AV.dcells,D.cells?,stcV,stcS,leafOk,eqDs,eqD,packA,D.val?,↓reduceIte,reduceCtorEq,Nat.reduceAdd,Nat.reduceSub,Nat.reduceMul,List.reduceReplicate,Nat.reduceLeDiff,Nat.reduceLT,Nat.reduceBEq,Nat.reduceEqDiff,Int.reduceNeg,Int.reduceEq,Int.reduceLE,Int.reduceLT,tfb,ctz9,x9_30,x9_31,eq_self, hlt', h24', hrz, hkk, b1m, b2m]
  exact ⟨k + 1, ⟨⟨⟨by omega, by omega⟩, fun q hq' => by rcases Nat.lt_succ_iff_lt_or_eq.1 hq' with h | h; exact hq q h; rw [h]; exact hnb⟩, by omega⟩, rfl⟩
def ent9 (args : List AV) (K : AV → List AV → Sto → Prop) (e : List AV) (s : Sto) : Prop := ent (α := (List Zo)) (fun aa => [.sl 4 (aa.map Zo.c)]) (fun aa => True) (fun aa => .b (rkOk aa)) args K e s
theorem ent9_ok {args : List AV} {K : AV → List AV → Sto → Prop} {Q : Kt} {e : List AV} {s : Sto} (h : ent9 args K e s) : pcall Try.prog 9 args K Q e s := ent_ok (fun aa h => pf9 aa) h
theorem eq9 {r : List Zo} {KK : AV → List AV → Sto → Prop} {ee : List AV} {ss : Sto} : ent9 [.d (.sl 4 (r.map Zo.c))] KK ee ss = (KK (.d (.b (rkOk r))) ee ss) := by
  unfold ent9; rw [ent_iff r (by intro b h; simpa [Prod.ext_iff, and_assoc, Int.ofNat_inj, ints_inj, hrs_inj, grs_inj, hr_inj, gr_inj, tt_inj, bcs_inj, cn_inj, sd_inj, pn_inj, zos_inj, zo_inj2, zo_inj] using h) rfl]; simp
end Go.Proofs.Ytofbbkacihnjdaa
