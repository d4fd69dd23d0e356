/- A part of the proof that the last text ends: what functions of the program do, told by plain data. -/
import Derived.Test.YtmajlffglplcnaaDoorMP
set_option linter.unusedVariables false
set_option linter.unusedSimpArgs false
namespace Go.Proofs.YtmajlffglplcnaaDoor
open Go Go.E
set_option maxRecDepth 100000
set_option maxHeartbeats 16000000
def ky (x : Row) : Int := x.s.team - 10 * (x.s.gf + 100000 * ((x.s.gf - x.s.ga + 50000) + 100000 * (x.am + 1000 * x.s.pts)))
theorem cmpI_zero {a b : Int} : cmpI a b = 0 ↔ a = b := by
  unfold cmpI; split
  · omega
  · split <;> omega
theorem cmpI_neg {a b : Int} : cmpI a b < 0 ↔ a < b := by
  unfold cmpI; split
  · omega
  · split <;> omega
theorem cmp_lt {x y : Row} (hx : RowOk x) (hy : RowOk y) : (cmpR x y < 0) = (ky x < ky y) := by
  obtain ⟨hx1, hx2, hx3⟩ := hx
  obtain ⟨hy1, hy2, hy3⟩ := hy
  unfold StB at hx1 hy1
  apply propext
  unfold cmpR ky
  simp only [cmN, kf]
  by_cases c0 : cmpI y.s.pts x.s.pts = 0
  case neg => rw [if_neg c0, cmpI_neg]; rw [cmpI_zero] at c0; omega
  rw [if_pos c0]; rw [cmpI_zero] at c0
  by_cases c1 : cmpI y.am x.am = 0
  case neg => rw [if_neg c1, cmpI_neg]; rw [cmpI_zero] at c1; omega
  rw [if_pos c1]; rw [cmpI_zero] at c1
  by_cases c2 : cmpI (y.s.gf - y.s.ga) (x.s.gf - x.s.ga) = 0
  case neg => rw [if_neg c2, cmpI_neg]; rw [cmpI_zero] at c2; omega
  rw [if_pos c2]; rw [cmpI_zero] at c2
  by_cases c3 : cmpI y.s.gf x.s.gf = 0
  case neg => rw [if_neg c3, cmpI_neg]; rw [cmpI_zero] at c3; omega
  rw [if_pos c3]; rw [cmpI_zero] at c3
  by_cases c4 : cmpI (-y.s.team) (-x.s.team) = 0
  case neg => rw [if_neg c4, cmpI_neg]; rw [cmpI_zero] at c4; omega
  rw [if_pos c4]; rw [cmpI_zero] at c4
  omega
theorem avi {a b : Int} (h : a = b) : AV.d (.v (.int .i64 a)) = AV.i b := by rw [h]
theorem u64_in' {x : Int} (h : 0 ≤ x ∧ x ≤ 1000) : IntKind.u64.wrap x = x := by simp [IntKind.wrap, IntKind.signed, IntKind.bits]; omega
abbrev clS : D := .clo (.func 63) [] [.ptr [.sl 1 byD] 0]
theorem swr {n : List Row} {i j : Nat} (hi : i < n.length) (hj : j < n.length) : ((List.map oc n).set i (oc (n.getD j default))).set j (((((((((List.map oc n).set i (oc (n.getD j default))).getD j []).set 0 (.i (n.getD i default).s.team)).set 1 (.i (n.getD i default).s.games)).set 2 (.i (n.getD i default).s.pts)).set 3 (.i (n.getD i default).s.gf)).set 4 (.i (n.getD i default).s.ga)).set 5 (.i (n.getD i default).am)) = List.map oc (swp n i j) := by
  have h1 : (List.map oc n).set i (oc (n.getD j default)) = (n.set i (n.getD j default)).map oc := by rw [List.map_set]
  rw [h1, Go.E.row_at (by simpa using hj)]
  show (List.map oc (n.set i (n.getD j default))).set j (oc (n.getD i default)) = List.map oc ((n.set i (n.getD j default)).set j (n.getD i default))
  exact List.map_set.symm
def O70 : Nat → Sch := fun id => if id = 4 then .one 0 (.one 1 (.one 2 (.one 3 (.one 4 (.one 5 (.one 6 (.one 7 (.one 8 (.one 9 (.one 10 (.one 11 (.one 12 (.one 13 (.one 14 (.one 15 (.one 16 (.done))))))))))))))))) else if id = 6 then .one 0 (.one 1 (.one 2 (.one 3 (.one 4 (.one 5 (.one 6 (.one 7 (.one 8 (.one 9 (.one 10 (.one 11 (.one 12 (.one 13 (.one 14 (.one 15 (.one 16 (.one 17 (.done)))))))))))))))))) else .done
theorem O70_4 : O70 4 = .one 0 (.one 1 (.one 2 (.one 3 (.one 4 (.one 5 (.one 6 (.one 7 (.one 8 (.one 9 (.one 10 (.one 11 (.one 12 (.one 13 (.one 14 (.one 15 (.one 16 (.done))))))))))))))))) := rfl
theorem O70_6 : O70 6 = .one 0 (.one 1 (.one 2 (.one 3 (.one 4 (.one 5 (.one 6 (.one 7 (.one 8 (.one 9 (.one 10 (.one 11 (.one 12 (.one 13 (.one 14 (.one 15 (.one 16 (.one 17 (.done)))))))))))))))))) := rfl
theorem ho70 : Tryd.f70.body.map (okO O70) = some true := by kernel_rfl
def Cf70 : Nat → List AV → (AV → List AV → Sto → Prop) → Kt → List AV → Sto → Prop := fun f args K Q e s => match f with
  | 63 => ent63 args K e s
  | _ => False
def Ct70 : CT := { f := Cf70, y := noYld, z := fun d => false }
theorem ctz70 {d : Nat} : CT.z Ct70 d = (false) := id rfl
theorem Ct70_ok : Ct70.ok Tryd.prog := ok_of_f (fun f args K Q e s h => by
  have h : Cf70 f args K Q e s := h
  unfold Cf70 at h; split at h
  · exact ent63_ok h
  · exact h.elim) (fun _ _ _ _ _ _ _ _ _ h => h)
theorem x70_63 {x : Row} {y : Row} {KK : AV → List AV → Sto → Prop} {QQ : Kt} {ii : At KK} {jj : At QQ} {ee : List AV} {ss : Sto} : xC Ct70 63 [.d (.agg (oc x)), .d (.agg (oc y)), .d (.ptr [.sl 1 byD] 0)] KK QQ ii jj ee ss = ((RowOk x ∧ RowOk y) ∧ KK (.d (.i (cmpR x y))) ee ss) := eq63
theorem c70 : callable Tryd.prog 70 = true := by kernel_rfl
theorem pf70 (l : List Row) (a b : Nat) (h : (a ≤ b ∧ b ≤ l.length ∧ l.length ≤ 1000) ∧ ∀ x ∈ l, RowOk x) : PFu Tryd.prog 70 70 6 (l.map oc) [.i (a : Int), .i (b : Int), clS] (fun r x => ∃ (l' : List Row), (Swp a b l l' ∧ SrtI ky a b l') ∧ r = .d (.tup []) ∧ x = (l'.map oc)) := by
  obtain ⟨⟨h0, h1, h2⟩, hok⟩ := h
  have hro : ∀ {n : List Row} {j : Nat}, Swp a b l n → j < n.length → RowOk (n.getD j default) := fun {n j} hs hj => by
    rw [at_lt hj]; exact hok _ (hs.perm.mem_iff.1 (List.getElem_mem _))
  refine PFu_start (O := O70) Ct70_ok hmix ho70 Tryd.func70 c70 rfl Tryd.ntmps70 Tryd.results70 ?_
  simp (maxSteps := 4000000) +contextual (disch := first | omega | exact qdb_ok (by kernel_rfl) | exact okb_ok (by kernel_rfl)) only [bw1,bw2,bw3,bw4,bw5,bw6,bw7,bc0,bc1,bc2,bc3,bc4,bc5,bc6,bc7,bb0,setPs,AV.owns,AV.datF,AV.frz,AV.cpy,ifV,isEqB,nilV,nilX,AV.isNilS,AV.isNoRows,wk,dclo,datOf,binIs,addF,AV.isPtr,idxV,AV.isSl,AV.isSlice,AV.rows,ps,pv,extV,extS,AV.outs,AV.outF,packD,AV.dl,fieldV,fieldS,AV.cells?,AV.upr,AV.menc,AV.one,D.one,Value.oneCell',tagOf,AV.isApp,strV,strS,bolV,bolS,slcV,AV.isSlD,asrtS,AV.dcells,D.cells?,stcV,stcS,leafOk,eqDs,eqD,packA,D.val?,↓reduceIte,reduceCtorEq,Nat.reduceAdd,Nat.reduceSub,Nat.reduceMul,List.reduceReplicate,Nat.reduceLeDiff,Nat.reduceLT,Nat.reduceBEq,Nat.reduceEqDiff,Int.reduceNeg,Int.reduceEq,Int.reduceLE,Int.reduceLT,tfb,upOk,gU,bu0,ctz70,O70_4,O70_6,x70_63,clS]
  refine loop_rx (O := O70) (tb := 0) Ct70_ok hmix (by kernel_rfl) (σ := List Row × Nat) gU (fun x => x.1.map oc) (fun x => [(0, .own gU 70 6 (x.1.map oc)), (8, .i x.2), (9, .any)]) (fun x => (a + 1 ≤ x.2) ∧ Swp a b l x.1 ∧ SrtI ky a x.2 x.1) (fun x => l.length - x.2) (l, a + 1) ⟨by omega, .refl _, SrtI.one (by omega)⟩ ?_ ?_
  · simp (maxSteps := 4000000) +contextual (disch := first | omega | exact qdb_ok (by kernel_rfl) | exact okb_ok (by kernel_rfl)) only [bw1,bw2,bw3,bw4,bw5,bw6,bw7,bc0,bc1,bc2,bc3,bc4,bc5,bc6,bc7,bb0,setPs,AV.owns,AV.datF,AV.frz,AV.cpy,ifV,isEqB,nilV,nilX,AV.isNilS,AV.isNoRows,wk,dclo,datOf,binIs,addF,AV.isPtr,idxV,AV.isSl,AV.isSlice,AV.rows,ps,pv,extV,extS,AV.outs,AV.outF,packD,AV.dl,fieldV,fieldS,AV.cells?,AV.upr,AV.menc,AV.one,D.one,Value.oneCell',tagOf,AV.isApp,strV,strS,bolV,bolS,slcV,AV.isSlD,asrtS,AV.dcells,D.cells?,stcV,stcS,leafOk,eqDs,eqD,packA,D.val?,↓reduceIte,reduceCtorEq,Nat.reduceAdd,Nat.reduceSub,Nat.reduceMul,List.reduceReplicate,Nat.reduceLeDiff,Nat.reduceLT,Nat.reduceBEq,Nat.reduceEqDiff,Int.reduceNeg,Int.reduceEq,Int.reduceLE,Int.reduceLT,tfb,upOk,gU,bu0,ctz70,O70_4,O70_6,x70_63]
  rintro ⟨m, i⟩ ⟨hi, hs, hsr⟩
  dsimp only at hi hs hsr ⊢
  have hml := hs.len
  by_cases hlt : i < b
  · have hlt' : (i : Int) < b := by omega
    simp (maxSteps := 4000000) +contextual (disch := first | omega | exact qdb_ok (by kernel_rfl) | exact okb_ok (by kernel_rfl)) only [bw1,bw2,bw3,bw4,bw5,bw6,bw7,bc0,bc1,bc2,bc3,bc4,bc5,bc6,bc7,bb0,setPs,AV.owns,AV.datF,AV.frz,AV.cpy,ifV,isEqB,nilV,nilX,AV.isNilS,AV.isNoRows,wk,dclo,datOf,binIs,addF,AV.isPtr,idxV,AV.isSl,AV.isSlice,AV.rows,ps,pv,extV,extS,AV.outs,AV.outF,packD,AV.dl,fieldV,fieldS,AV.cells?,AV.upr,AV.menc,AV.one,D.one,Value.oneCell',tagOf,AV.isApp,strV,strS,bolV,bolS,slcV,AV.isSlD,asrtS,AV.dcells,D.cells?,stcV,stcS,leafOk,eqDs,eqD,packA,D.val?,↓reduceIte,reduceCtorEq,Nat.reduceAdd,Nat.reduceSub,Nat.reduceMul,List.reduceReplicate,Nat.reduceLeDiff,Nat.reduceLT,Nat.reduceBEq,Nat.reduceEqDiff,Int.reduceNeg,Int.reduceEq,Int.reduceLE,Int.reduceLT,tfb,upOk,gU,bu0,ctz70,O70_4,O70_6,x70_63,eq_self, hlt']
    refine loop_rx (O := O70) (tb := 0) Ct70_ok hmix (by kernel_rfl) (σ := List Row × Nat) gU (fun x => x.1.map oc) (fun x => [(0, .own gU 70 6 (x.1.map oc)), (9, .i x.2)]) (fun x => (a ≤ x.2 ∧ x.2 ≤ i) ∧ Swp a b l x.1 ∧ InsI ky a i x.2 x.1) (fun x => x.2) (m, i) ⟨⟨by omega, Nat.le_refl _⟩, hs, InsI.top hsr⟩ ?_ ?_
    · simp (maxSteps := 4000000) +contextual (disch := first | omega | exact qdb_ok (by kernel_rfl) | exact okb_ok (by kernel_rfl)) only [bw1,bw2,bw3,bw4,bw5,bw6,bw7,bc0,bc1,bc2,bc3,bc4,bc5,bc6,bc7,bb0,setPs,AV.owns,AV.datF,AV.frz,AV.cpy,ifV,isEqB,nilV,nilX,AV.isNilS,AV.isNoRows,wk,dclo,datOf,binIs,addF,AV.isPtr,idxV,AV.isSl,AV.isSlice,AV.rows,ps,pv,extV,extS,AV.outs,AV.outF,packD,AV.dl,fieldV,fieldS,AV.cells?,AV.upr,AV.menc,AV.one,D.one,Value.oneCell',tagOf,AV.isApp,strV,strS,bolV,bolS,slcV,AV.isSlD,asrtS,AV.dcells,D.cells?,stcV,stcS,leafOk,eqDs,eqD,packA,D.val?,↓reduceIte,reduceCtorEq,Nat.reduceAdd,Nat.reduceSub,Nat.reduceMul,List.reduceReplicate,Nat.reduceLeDiff,Nat.reduceLT,Nat.reduceBEq,Nat.reduceEqDiff,Int.reduceNeg,Int.reduceEq,Int.reduceLE,Int.reduceLT,tfb,upOk,gU,bu0,ctz70,O70_4,O70_6,x70_63]
    rintro ⟨n, j⟩ ⟨hj, hs2, hin⟩
    dsimp only at hj hs2 hin ⊢
    have hnl := hs2.len
    by_cases hja : a < j
    · have hja' : (a : Int) < j := by omega
      have hj1 : (j : Int) < n.length := by omega
      have hj2 : (j : Int) - 1 < n.length := by omega
      have hj3 : (0 : Int) ≤ j - 1 := by omega
      have hj4 : ((j : Int) - 1).toNat = j - 1 := by omega
      have r1 : (n.map oc).getD j [] = oc (n.getD j default) := Go.E.row_at (by omega)
      have r2 : (n.map oc).getD (j - 1) [] = oc (n.getD (j - 1) default) := Go.E.row_at (by omega)
      have k1 := hro hs2 (j := j) (by omega)
      have k2 := hro hs2 (j := j - 1) (by omega)
      have kc := cmp_lt k1 k2
      by_cases hc : ky (n.getD j default) < ky (n.getD (j - 1) default)
      · simp (maxSteps := 4000000) +contextual (disch := first | omega | exact qdb_ok (by kernel_rfl) | exact okb_ok (by kernel_rfl)) only [bw1,bw2,bw3,bw4,bw5,bw6,bw7,bc0,bc1,bc2,bc3,bc4,bc5,bc6,bc7,bb0,setPs,AV.owns,AV.datF,AV.frz,AV.cpy,ifV,isEqB,nilV,nilX,AV.isNilS,AV.isNoRows,wk,dclo,datOf,binIs,addF,AV.isPtr,idxV,AV.isSl,AV.isSlice,AV.rows,ps,pv,extV,extS,AV.outs,AV.outF,packD,AV.dl,fieldV,fieldS,AV.cells?,AV.upr,AV.menc,AV.one,D.one,Value.oneCell',tagOf,AV.isApp,strV,strS,bolV,bolS,slcV,AV.isSlD,asrtS,AV.dcells,D.cells?,stcV,stcS,leafOk,eqDs,eqD,packA,D.val?,↓reduceIte,reduceCtorEq,Nat.reduceAdd,Nat.reduceSub,Nat.reduceMul,List.reduceReplicate,Nat.reduceLeDiff,Nat.reduceLT,Nat.reduceBEq,Nat.reduceEqDiff,Int.reduceNeg,Int.reduceEq,Int.reduceLE,Int.reduceLT,tfb,upOk,gU,bu0,ctz70,O70_4,O70_6,x70_63,eq_self, hja', hj1, hj2, hj3, hj4, r1, r2, k1, k2, kc, hc]
        refine ⟨by omega, by omega, by omega, by simp; omega, (swp n j (j - 1), j - 1), ⟨⟨⟨by dsimp only; omega, by dsimp only; omega⟩, hs2.step j (j - 1) (by omega) (by omega) h1, hin.step hja hj.2 (by omega) hc⟩, by dsimp only; omega⟩, ⟨swr (by omega) (by omega), avi (by dsimp only; omega)⟩, swr (by omega) (by omega)⟩
      · simp (maxSteps := 4000000) +contextual (disch := first | omega | exact qdb_ok (by kernel_rfl) | exact okb_ok (by kernel_rfl)) only [bw1,bw2,bw3,bw4,bw5,bw6,bw7,bc0,bc1,bc2,bc3,bc4,bc5,bc6,bc7,bb0,setPs,AV.owns,AV.datF,AV.frz,AV.cpy,ifV,isEqB,nilV,nilX,AV.isNilS,AV.isNoRows,wk,dclo,datOf,binIs,addF,AV.isPtr,idxV,AV.isSl,AV.isSlice,AV.rows,ps,pv,extV,extS,AV.outs,AV.outF,packD,AV.dl,fieldV,fieldS,AV.cells?,AV.upr,AV.menc,AV.one,D.one,Value.oneCell',tagOf,AV.isApp,strV,strS,bolV,bolS,slcV,AV.isSlD,asrtS,AV.dcells,D.cells?,stcV,stcS,leafOk,eqDs,eqD,packA,D.val?,↓reduceIte,reduceCtorEq,Nat.reduceAdd,Nat.reduceSub,Nat.reduceMul,List.reduceReplicate,Nat.reduceLeDiff,Nat.reduceLT,Nat.reduceBEq,Nat.reduceEqDiff,Int.reduceNeg,Int.reduceEq,Int.reduceLE,Int.reduceLT,tfb,upOk,gU,bu0,ctz70,O70_4,O70_6,x70_63,eq_self, hja', hj1, hj2, hj3, hj4, r1, r2, k1, k2, kc, hc]
        exact ⟨by omega, (n, i + 1), ⟨⟨by dsimp only; omega, hs2, hin.done hj.2 hj.1 (.inr hc)⟩, by dsimp only; omega⟩, ⟨rfl, rfl⟩, rfl⟩
    · have hja' : ¬ (a : Int) < j := by omega
      simp (maxSteps := 4000000) +contextual (disch := first | omega | exact qdb_ok (by kernel_rfl) | exact okb_ok (by kernel_rfl)) only [bw1,bw2,bw3,bw4,bw5,bw6,bw7,bc0,bc1,bc2,bc3,bc4,bc5,bc6,bc7,bb0,setPs,AV.owns,AV.datF,AV.frz,AV.cpy,ifV,isEqB,nilV,nilX,AV.isNilS,AV.isNoRows,wk,dclo,datOf,binIs,addF,AV.isPtr,idxV,AV.isSl,AV.isSlice,AV.rows,ps,pv,extV,extS,AV.outs,AV.outF,packD,AV.dl,fieldV,fieldS,AV.cells?,AV.upr,AV.menc,AV.one,D.one,Value.oneCell',tagOf,AV.isApp,strV,strS,bolV,bolS,slcV,AV.isSlD,asrtS,AV.dcells,D.cells?,stcV,stcS,leafOk,eqDs,eqD,packA,D.val?,↓reduceIte,reduceCtorEq,Nat.reduceAdd,Nat.reduceSub,Nat.reduceMul,List.reduceReplicate,Nat.reduceLeDiff,Nat.reduceLT,Nat.reduceBEq,Nat.reduceEqDiff,Int.reduceNeg,Int.reduceEq,Int.reduceLE,Int.reduceLT,tfb,upOk,gU,bu0,ctz70,O70_4,O70_6,x70_63,eq_self, hja']
      exact ⟨(n, i + 1), ⟨⟨by dsimp only; omega, hs2, hin.done hj.2 hj.1 (.inl (by omega))⟩, by dsimp only; omega⟩, ⟨rfl, rfl⟩, rfl⟩
  · have hlt' : ¬ (i : Int) < b := by omega
    simp (maxSteps := 4000000) +contextual (disch := first | omega | exact qdb_ok (by kernel_rfl) | exact okb_ok (by kernel_rfl)) only [bw1,bw2,bw3,bw4,bw5,bw6,bw7,bc0,bc1,bc2,bc3,bc4,bc5,bc6,bc7,bb0,setPs,AV.owns,AV.datF,AV.frz,AV.cpy,ifV,isEqB,nilV,nilX,AV.isNilS,AV.isNoRows,wk,dclo,datOf,binIs,addF,AV.isPtr,idxV,AV.isSl,AV.isSlice,AV.rows,ps,pv,extV,extS,AV.outs,AV.outF,packD,AV.dl,fieldV,fieldS,AV.cells?,AV.upr,AV.menc,AV.one,D.one,Value.oneCell',tagOf,AV.isApp,strV,strS,bolV,bolS,slcV,AV.isSlD,asrtS,AV.dcells,D.cells?,stcV,stcS,leafOk,eqDs,eqD,packA,D.val?,↓reduceIte,reduceCtorEq,Nat.reduceAdd,Nat.reduceSub,Nat.reduceMul,List.reduceReplicate,Nat.reduceLeDiff,Nat.reduceLT,Nat.reduceBEq,Nat.reduceEqDiff,Int.reduceNeg,Int.reduceEq,Int.reduceLE,Int.reduceLT,tfb,upOk,gU,bu0,ctz70,O70_4,O70_6,x70_63,eq_self, hlt']
    exact ⟨m, ⟨hs, fun p q p1 p2 p3 => hsr p q p1 p2 (by omega)⟩, rfl⟩
def lenN (n : Int) : Int := if n = 0 then 0 else if n = 1 then 1 else if n ≤ 3 then 2 else if n ≤ 7 then 3 else if n ≤ 15 then 4 else 5
def ent70 (args : List AV) (K : AV → List AV → Sto → Prop) (e : List AV) (s : Sto) : Prop := entU (α := (List Row) × (Nat) × (Nat)) 70 6 (fun aa => (aa.1.map oc)) (fun aa => [.i (aa.2.1 : Int), .i (aa.2.2 : Int), clS]) (fun aa => (aa.2.1 ≤ aa.2.2 ∧ aa.2.2 ≤ aa.1.length ∧ aa.1.length ≤ 1000) ∧ ∀ x ∈ aa.1, RowOk x) (fun aa r x => ∃ (l' : List Row), (Swp aa.2.1 aa.2.2 aa.1 l' ∧ SrtI ky aa.2.1 aa.2.2 l') ∧ r = .d (.tup []) ∧ x = (l'.map oc)) args K e s
theorem ent70_ok {args : List AV} {K : AV → List AV → Sto → Prop} {Q : Kt} {e : List AV} {s : Sto} (h : ent70 args K e s) : pcall Tryd.prog 70 args K Q e s := entU_ok (fun aa h => pf70 aa.1 aa.2.1 aa.2.2 h) (fun aa r x ⟨_, _, hr, _⟩ => ⟨_, hr⟩) h
theorem eq70 {l : List Row} {a : Nat} {b : Nat} {gg : Nat} {KK : AV → List AV → Sto → Prop} {ee : List AV} {ss : Sto} : ent70 [.own gg 70 6 (l.map oc), .d (.i (a : Int)), .d (.i (b : Int)), .d (clS)] KK ee ss = (((a ≤ b ∧ b ≤ l.length ∧ l.length ≤ 1000) ∧ ∀ x ∈ l, RowOk x) ∧ upOk gg 70 6 (l.map oc) ee ss ∧ ∀ (l' : List Row), (Swp a b l l' ∧ SrtI ky a b l') → KK (.d (.tup [])) (ee.map (AV.ups gg (l'.map oc))) (ss.ups gg (l'.map oc))) := by
  unfold ent70
  exact Eq.trans (entU_iff (g := gg) (l, a, b) (by intro b h1 h2; first | (simpa [Prod.ext_iff, and_assoc, Int.ofNat_inj, ints_inj, gams_inj, fars_inj, gam_inj, lea_inj, Int.ofNat_inj, ints_inj, gams_inj, fars_inj, gam_inj, lea_inj, stds_inj, std_inj, Int.ofNat_inj, ints_inj, gams_inj, fars_inj, gam_inj, lea_inj, tv_inj, ocs_inj, row_inj] using And.intro h1 h2) | (simp [Prod.ext_iff, and_assoc, Int.ofNat_inj, ints_inj, gams_inj, fars_inj, gam_inj, lea_inj, Int.ofNat_inj, ints_inj, gams_inj, fars_inj, gam_inj, lea_inj, stds_inj, std_inj, Int.ofNat_inj, ints_inj, gams_inj, fars_inj, gam_inj, lea_inj, tv_inj, ocs_inj, row_inj] at h1 h2 ⊢; simp_all)) rfl) (propext ⟨fun ⟨h1, h2, h3⟩ => ⟨h1, h2, fun l' hq => h3 _ _ ⟨l', hq, rfl, rfl⟩⟩, fun ⟨h1, h2, h3⟩ => ⟨h1, h2, fun r x ⟨l', hq, e1, e2⟩ => by subst e1; subst e2; exact h3 l' hq⟩⟩)
def O79 : Nat → Sch := fun id => .done
theorem ho79 : Tryd.f79.body.map (okO O79) = some true := by kernel_rfl
def Cf79 : Nat → List AV → (AV → List AV → Sto → Prop) → Kt → List AV → Sto → Prop := fun f args K Q e s => match f with
  | _ => False
def Ct79 : CT := { f := Cf79, y := noYld, z := fun d => false }
theorem ctz79 {d : Nat} : CT.z Ct79 d = (false) := id rfl
theorem Ct79_ok : Ct79.ok Tryd.prog := ok_of_f (fun f args K Q e s h => by
  have h : Cf79 f args K Q e s := h
  unfold Cf79 at h; split at h
  · exact h.elim) (fun _ _ _ _ _ _ _ _ _ h => h)
theorem c79 : callable Tryd.prog 79 = true := by kernel_rfl
theorem pf79 (n : Int) (h : 0 ≤ n ∧ n ≤ 16) : PF Tryd.prog 79 [.v (.int .u64 n)] (fun zz => zz = .ret (.i (lenN n))) := by
  obtain ⟨h1, h2⟩ := h
  refine PF_nil (PF_start (O := O79) Ct79_ok hmix ho79 Tryd.func79 c79 rfl Tryd.ntmps79 Tryd.results79 ?_)
  have g1 : ¬ 256 ≤ n := by omega
  have g2 : ¬ 65536 ≤ n := by omega
  have g3 : ¬ 4294967296 ≤ n := by omega
  simp (maxSteps := 4000000) +contextual (disch := first | omega | exact qdb_ok (by kernel_rfl) | exact okb_ok (by kernel_rfl)) only [bw1,bw2,bw3,bw4,bw5,bw6,bw7,bc0,bc1,bc2,bc3,bc4,bc5,bc6,bc7,bb0,setPs,AV.owns,AV.datF,AV.frz,AV.cpy,ifV,isEqB,nilV,nilX,AV.isNilS,AV.isNoRows,wk,dclo,datOf,binIs,addF,AV.isPtr,idxV,AV.isSl,AV.isSlice,AV.rows,ps,pv,extV,extS,AV.outs,AV.outF,packD,AV.dl,fieldV,fieldS,AV.cells?,AV.upr,AV.menc,AV.one,D.one,Value.oneCell',tagOf,AV.isApp,strV,strS,bolV,bolS,slcV,AV.isSlD,asrtS,AV.dcells,D.cells?,stcV,stcS,leafOk,eqDs,eqD,packA,D.val?,↓reduceIte,reduceCtorEq,Nat.reduceAdd,Nat.reduceSub,Nat.reduceMul,List.reduceReplicate,Nat.reduceLeDiff,Nat.reduceLT,Nat.reduceBEq,Nat.reduceEqDiff,Int.reduceNeg,Int.reduceEq,Int.reduceLE,Int.reduceLT,tfb,upOk,gU,bu0,ctz79,g1, g2, g3]
  rcases (show n = 0 ∨ n = 1 ∨ n = 2 ∨ n = 3 ∨ n = 4 ∨ n = 5 ∨ n = 6 ∨ n = 7 ∨ n = 8 ∨ n = 9 ∨ n = 10 ∨ n = 11 ∨ n = 12 ∨ n = 13 ∨ n = 14 ∨ n = 15 ∨ n = 16 by omega) with rfl | rfl | rfl | rfl | rfl | rfl | rfl | rfl | rfl | rfl | rfl | rfl | rfl | rfl | rfl | rfl | rfl <;> exact ⟨⟨trivial, of_decide_eq_true (by kernel_rfl), of_decide_eq_true (by kernel_rfl)⟩, by kernel_rfl⟩
def ent79 (args : List AV) (K : AV → List AV → Sto → Prop) (e : List AV) (s : Sto) : Prop := ent (α := (Int)) (fun aa => [.v (.int .u64 aa)]) (fun aa => 0 ≤ aa ∧ aa ≤ 16) (fun aa => .i (lenN aa)) args K e s
theorem ent79_ok {args : List AV} {K : AV → List AV → Sto → Prop} {Q : Kt} {e : List AV} {s : Sto} (h : ent79 args K e s) : pcall Tryd.prog 79 args K Q e s := ent_ok (fun aa h => pf79 aa h) h
theorem eq79 {n : Int} {KK : AV → List AV → Sto → Prop} {ee : List AV} {ss : Sto} : ent79 [.d (.v (.int .u64 n))] KK ee ss = ((0 ≤ n ∧ n ≤ 16) ∧ KK (.d (.i (lenN n))) ee ss) := by
  unfold ent79; rw [ent_iff n (by intro b h; simpa [Prod.ext_iff, and_assoc, Int.ofNat_inj, ints_inj, gams_inj, fars_inj, gam_inj, lea_inj, Int.ofNat_inj, ints_inj, gams_inj, fars_inj, gam_inj, lea_inj, stds_inj, std_inj, Int.ofNat_inj, ints_inj, gams_inj, fars_inj, gam_inj, lea_inj, tv_inj, ocs_inj, row_inj] using h) rfl]; simp
def O69 : Nat → Sch := fun id => .done
theorem ho69 : Tryd.f69.body.map (okO O69) = some true := by kernel_rfl
def Cf69 : Nat → List AV → (AV → List AV → Sto → Prop) → Kt → List AV → Sto → Prop := fun f args K Q e s => match f with
  | 79 => ent79 args K e s
  | _ => False
def Ct69 : CT := { f := Cf69, y := noYld, z := fun d => false }
theorem ctz69 {d : Nat} : CT.z Ct69 d = (false) := id rfl
theorem Ct69_ok : Ct69.ok Tryd.prog := ok_of_f (fun f args K Q e s h => by
  have h : Cf69 f args K Q e s := h
  unfold Cf69 at h; split at h
  · exact ent79_ok h
  · exact h.elim) (fun _ _ _ _ _ _ _ _ _ h => h)
theorem x69_79 {n : Int} {KK : AV → List AV → Sto → Prop} {QQ : Kt} {ii : At KK} {jj : At QQ} {ee : List AV} {ss : Sto} : xC Ct69 79 [.d (.v (.int .u64 n))] KK QQ ii jj ee ss = ((0 ≤ n ∧ n ≤ 16) ∧ KK (.d (.i (lenN n))) ee ss) := eq79
theorem c69 : callable Tryd.prog 69 = true := by kernel_rfl
theorem pf69 (n : Int) (h : 0 ≤ n ∧ n ≤ 16) : PF Tryd.prog 69 [.v (.int .u64 n)] (fun zz => zz = .ret (.i (lenN n))) := by
  refine PF_nil (PF_start (O := O69) Ct69_ok hmix ho69 Tryd.func69 c69 rfl Tryd.ntmps69 Tryd.results69 ?_)
  simp (maxSteps := 4000000) +contextual (disch := first | omega | exact qdb_ok (by kernel_rfl) | exact okb_ok (by kernel_rfl)) only [bw1,bw2,bw3,bw4,bw5,bw6,bw7,bc0,bc1,bc2,bc3,bc4,bc5,bc6,bc7,bb0,setPs,AV.owns,AV.datF,AV.frz,AV.cpy,ifV,isEqB,nilV,nilX,AV.isNilS,AV.isNoRows,wk,dclo,datOf,binIs,addF,AV.isPtr,idxV,AV.isSl,AV.isSlice,AV.rows,ps,pv,extV,extS,AV.outs,AV.outF,packD,AV.dl,fieldV,fieldS,AV.cells?,AV.upr,AV.menc,AV.one,D.one,Value.oneCell',tagOf,AV.isApp,strV,strS,bolV,bolS,slcV,AV.isSlD,asrtS,AV.dcells,D.cells?,stcV,stcS,leafOk,eqDs,eqD,packA,D.val?,↓reduceIte,reduceCtorEq,Nat.reduceAdd,Nat.reduceSub,Nat.reduceMul,List.reduceReplicate,Nat.reduceLeDiff,Nat.reduceLT,Nat.reduceBEq,Nat.reduceEqDiff,Int.reduceNeg,Int.reduceEq,Int.reduceLE,Int.reduceLT,tfb,upOk,gU,bu0,ctz69,x69_79]
  exact h
def ent69 (args : List AV) (K : AV → List AV → Sto → Prop) (e : List AV) (s : Sto) : Prop := ent (α := (Int)) (fun aa => [.v (.int .u64 aa)]) (fun aa => 0 ≤ aa ∧ aa ≤ 16) (fun aa => .i (lenN aa)) args K e s
theorem ent69_ok {args : List AV} {K : AV → List AV → Sto → Prop} {Q : Kt} {e : List AV} {s : Sto} (h : ent69 args K e s) : pcall Tryd.prog 69 args K Q e s := ent_ok (fun aa h => pf69 aa h) h
theorem eq69 {n : Int} {KK : AV → List AV → Sto → Prop} {ee : List AV} {ss : Sto} : ent69 [.d (.v (.int .u64 n))] KK ee ss = ((0 ≤ n ∧ n ≤ 16) ∧ KK (.d (.i (lenN n))) ee ss) := by
  unfold ent69; rw [ent_iff n (by intro b h; simpa [Prod.ext_iff, and_assoc, Int.ofNat_inj, ints_inj, gams_inj, fars_inj, gam_inj, lea_inj, Int.ofNat_inj, ints_inj, gams_inj, fars_inj, gam_inj, lea_inj, stds_inj, std_inj, Int.ofNat_inj, ints_inj, gams_inj, fars_inj, gam_inj, lea_inj, tv_inj, ocs_inj, row_inj] using h) rfl]; simp
def O68 : Nat → Sch := fun id => if id = 17 then .one 0 (.one 1 (.one 2 (.one 3 (.one 4 (.one 5 (.one 6 (.one 7 (.one 8 (.one 9 (.one 10 (.one 11 (.one 12 (.one 13 (.one 14 (.one 15 (.one 16 (.done))))))))))))))))) else .done
theorem O68_17 : O68 17 = .one 0 (.one 1 (.one 2 (.one 3 (.one 4 (.one 5 (.one 6 (.one 7 (.one 8 (.one 9 (.one 10 (.one 11 (.one 12 (.one 13 (.one 14 (.one 15 (.one 16 (.done))))))))))))))))) := rfl
theorem ho68 : Tryd.f68.body.map (okO O68) = some true := by kernel_rfl
def Cf68 : Nat → List AV → (AV → List AV → Sto → Prop) → Kt → List AV → Sto → Prop := fun f args K Q e s => match f with
  | 70 => ent70 args K e s
  | _ => False
def Ct68 : CT := { f := Cf68, y := noYld, z := fun d => false }
theorem ctz68 {d : Nat} : CT.z Ct68 d = (false) := id rfl
theorem Ct68_ok : Ct68.ok Tryd.prog := ok_of_f (fun f args K Q e s h => by
  have h : Cf68 f args K Q e s := h
  unfold Cf68 at h; split at h
  · exact ent70_ok h
  · exact h.elim) (fun _ _ _ _ _ _ _ _ _ h => h)
theorem x68_70 {l : List Row} {a : Nat} {b : Nat} {gg : Nat} {KK : AV → List AV → Sto → Prop} {QQ : Kt} {ii : At KK} {jj : At QQ} {ee : List AV} {ss : Sto} : xC Ct68 70 [.own gg 70 6 (l.map oc), .d (.i (a : Int)), .d (.i (b : Int)), .d (clS)] KK QQ ii jj ee ss = (((a ≤ b ∧ b ≤ l.length ∧ l.length ≤ 1000) ∧ ∀ x ∈ l, RowOk x) ∧ upOk gg 70 6 (l.map oc) ee ss ∧ ∀ (l' : List Row), (Swp a b l l' ∧ SrtI ky a b l') → KK (.d (.tup [])) (ee.map (AV.ups gg (l'.map oc))) (ss.ups gg (l'.map oc))) := eq70
theorem c68 : callable Tryd.prog 68 = true := by kernel_rfl
theorem pf68 (l : List Row) (a b : Nat) (lim : Int) (h : ((a ≤ b ∧ b ≤ l.length ∧ l.length ≤ 1000) ∧ ∀ x ∈ l, RowOk x) ∧ b ≤ a + 12) : PFu Tryd.prog 68 70 6 (l.map oc) [.i (a : Int), .i (b : Int), .i lim, clS] (fun r x => ∃ (l' : List Row), (Swp a b l l' ∧ SrtI ky a b l') ∧ r = .d (.tup []) ∧ x = (l'.map oc)) := by
  obtain ⟨h0, h1⟩ := h
  have hlt : (b : Int) - a ≤ 12 := by omega
  refine PFu_start (O := O68) Ct68_ok hmix ho68 Tryd.func68 c68 rfl Tryd.ntmps68 Tryd.results68 ?_
  simp (maxSteps := 4000000) +contextual (disch := first | omega | exact qdb_ok (by kernel_rfl) | exact okb_ok (by kernel_rfl)) only [bw1,bw2,bw3,bw4,bw5,bw6,bw7,bc0,bc1,bc2,bc3,bc4,bc5,bc6,bc7,bb0,setPs,AV.owns,AV.datF,AV.frz,AV.cpy,ifV,isEqB,nilV,nilX,AV.isNilS,AV.isNoRows,wk,dclo,datOf,binIs,addF,AV.isPtr,idxV,AV.isSl,AV.isSlice,AV.rows,ps,pv,extV,extS,AV.outs,AV.outF,packD,AV.dl,fieldV,fieldS,AV.cells?,AV.upr,AV.menc,AV.one,D.one,Value.oneCell',tagOf,AV.isApp,strV,strS,bolV,bolS,slcV,AV.isSlD,asrtS,AV.dcells,D.cells?,stcV,stcS,leafOk,eqDs,eqD,packA,D.val?,↓reduceIte,reduceCtorEq,Nat.reduceAdd,Nat.reduceSub,Nat.reduceMul,List.reduceReplicate,Nat.reduceLeDiff,Nat.reduceLT,Nat.reduceBEq,Nat.reduceEqDiff,Int.reduceNeg,Int.reduceEq,Int.reduceLE,Int.reduceLT,tfb,upOk,gU,bu0,ctz68,O68_17,x68_70,clS]
  refine loop_s (O := O68) (tb := 0) Ct68_ok hmix (by kernel_rfl) (σ := Unit) (fun _ => []) (fun _ => True) (fun _ => 0) (fun _ => ()) () trivial ?_ ?_
  · simp (maxSteps := 4000000) +contextual (disch := first | omega | exact qdb_ok (by kernel_rfl) | exact okb_ok (by kernel_rfl)) only [bw1,bw2,bw3,bw4,bw5,bw6,bw7,bc0,bc1,bc2,bc3,bc4,bc5,bc6,bc7,bb0,setPs,AV.owns,AV.datF,AV.frz,AV.cpy,ifV,isEqB,nilV,nilX,AV.isNilS,AV.isNoRows,wk,dclo,datOf,binIs,addF,AV.isPtr,idxV,AV.isSl,AV.isSlice,AV.rows,ps,pv,extV,extS,AV.outs,AV.outF,packD,AV.dl,fieldV,fieldS,AV.cells?,AV.upr,AV.menc,AV.one,D.one,Value.oneCell',tagOf,AV.isApp,strV,strS,bolV,bolS,slcV,AV.isSlD,asrtS,AV.dcells,D.cells?,stcV,stcS,leafOk,eqDs,eqD,packA,D.val?,↓reduceIte,reduceCtorEq,Nat.reduceAdd,Nat.reduceSub,Nat.reduceMul,List.reduceReplicate,Nat.reduceLeDiff,Nat.reduceLT,Nat.reduceBEq,Nat.reduceEqDiff,Int.reduceNeg,Int.reduceEq,Int.reduceLE,Int.reduceLT,tfb,upOk,gU,bu0,ctz68,O68_17,x68_70]
  intro _ _
  simp (maxSteps := 4000000) +contextual (disch := first | omega | exact qdb_ok (by kernel_rfl) | exact okb_ok (by kernel_rfl)) only [bw1,bw2,bw3,bw4,bw5,bw6,bw7,bc0,bc1,bc2,bc3,bc4,bc5,bc6,bc7,bb0,setPs,AV.owns,AV.datF,AV.frz,AV.cpy,ifV,isEqB,nilV,nilX,AV.isNilS,AV.isNoRows,wk,dclo,datOf,binIs,addF,AV.isPtr,idxV,AV.isSl,AV.isSlice,AV.rows,ps,pv,extV,extS,AV.outs,AV.outF,packD,AV.dl,fieldV,fieldS,AV.cells?,AV.upr,AV.menc,AV.one,D.one,Value.oneCell',tagOf,AV.isApp,strV,strS,bolV,bolS,slcV,AV.isSlD,asrtS,AV.dcells,D.cells?,stcV,stcS,leafOk,eqDs,eqD,packA,D.val?,↓reduceIte,reduceCtorEq,Nat.reduceAdd,Nat.reduceSub,Nat.reduceMul,List.reduceReplicate,Nat.reduceLeDiff,Nat.reduceLT,Nat.reduceBEq,Nat.reduceEqDiff,Int.reduceNeg,Int.reduceEq,Int.reduceLE,Int.reduceLT,tfb,upOk,gU,bu0,ctz68,O68_17,x68_70,eq_self, hlt]
  exact ⟨h0, fun l' hl => ⟨l', hl, rfl⟩⟩
def ent68 (args : List AV) (K : AV → List AV → Sto → Prop) (e : List AV) (s : Sto) : Prop := entU (α := (List Row) × (Nat) × (Nat) × (Int)) 70 6 (fun aa => (aa.1.map oc)) (fun aa => [.i (aa.2.1 : Int), .i (aa.2.2.1 : Int), .i aa.2.2.2, clS]) (fun aa => ((aa.2.1 ≤ aa.2.2.1 ∧ aa.2.2.1 ≤ aa.1.length ∧ aa.1.length ≤ 1000) ∧ ∀ x ∈ aa.1, RowOk x) ∧ aa.2.2.1 ≤ aa.2.1 + 12) (fun aa r x => ∃ (l' : List Row), (Swp aa.2.1 aa.2.2.1 aa.1 l' ∧ SrtI ky aa.2.1 aa.2.2.1 l') ∧ r = .d (.tup []) ∧ x = (l'.map oc)) args K e s
theorem ent68_ok {args : List AV} {K : AV → List AV → Sto → Prop} {Q : Kt} {e : List AV} {s : Sto} (h : ent68 args K e s) : pcall Tryd.prog 68 args K Q e s := entU_ok (fun aa h => pf68 aa.1 aa.2.1 aa.2.2.1 aa.2.2.2 h) (fun aa r x ⟨_, _, hr, _⟩ => ⟨_, hr⟩) h
theorem eq68 {l : List Row} {a : Nat} {b : Nat} {lim : Int} {gg : Nat} {KK : AV → List AV → Sto → Prop} {ee : List AV} {ss : Sto} : ent68 [.own gg 70 6 (l.map oc), .d (.i (a : Int)), .d (.i (b : Int)), .d (.i lim), .d (clS)] KK ee ss = ((((a ≤ b ∧ b ≤ l.length ∧ l.length ≤ 1000) ∧ ∀ x ∈ l, RowOk x) ∧ b ≤ a + 12) ∧ upOk gg 70 6 (l.map oc) ee ss ∧ ∀ (l' : List Row), (Swp a b l l' ∧ SrtI ky a b l') → KK (.d (.tup [])) (ee.map (AV.ups gg (l'.map oc))) (ss.ups gg (l'.map oc))) := by
  unfold ent68
  exact Eq.trans (entU_iff (g := gg) (l, a, b, lim) (by intro b h1 h2; first | (simpa [Prod.ext_iff, and_assoc, Int.ofNat_inj, ints_inj, gams_inj, fars_inj, gam_inj, lea_inj, Int.ofNat_inj, ints_inj, gams_inj, fars_inj, gam_inj, lea_inj, stds_inj, std_inj, Int.ofNat_inj, ints_inj, gams_inj, fars_inj, gam_inj, lea_inj, tv_inj, ocs_inj, row_inj] using And.intro h1 h2) | (simp [Prod.ext_iff, and_assoc, Int.ofNat_inj, ints_inj, gams_inj, fars_inj, gam_inj, lea_inj, Int.ofNat_inj, ints_inj, gams_inj, fars_inj, gam_inj, lea_inj, stds_inj, std_inj, Int.ofNat_inj, ints_inj, gams_inj, fars_inj, gam_inj, lea_inj, tv_inj, ocs_inj, row_inj] at h1 h2 ⊢; simp_all)) rfl) (propext ⟨fun ⟨h1, h2, h3⟩ => ⟨h1, h2, fun l' hq => h3 _ _ ⟨l', hq, rfl, rfl⟩⟩, fun ⟨h1, h2, h3⟩ => ⟨h1, h2, fun r x ⟨l', hq, e1, e2⟩ => by subst e1; subst e2; exact h3 l' hq⟩⟩)
def O62 : Nat → Sch := fun id => .done
theorem ho62 : Tryd.f62.body.map (okO O62) = some true := by kernel_rfl
def Cf62 : Nat → List AV → (AV → List AV → Sto → Prop) → Kt → List AV → Sto → Prop := fun f args K Q e s => match f with
  | 68 => ent68 args K e s
  | 69 => ent69 args K e s
  | _ => False
def Ct62 : CT := { f := Cf62, y := noYld, z := fun d => false }
theorem ctz62 {d : Nat} : CT.z Ct62 d = (false) := id rfl
theorem Ct62_ok : Ct62.ok Tryd.prog := ok_of_f (fun f args K Q e s h => by
  have h : Cf62 f args K Q e s := h
  unfold Cf62 at h; split at h
  · exact ent68_ok h
  · exact ent69_ok h
  · exact h.elim) (fun _ _ _ _ _ _ _ _ _ h => h)
theorem x62_68 {l : List Row} {a : Nat} {b : Nat} {lim : Int} {gg : Nat} {KK : AV → List AV → Sto → Prop} {QQ : Kt} {ii : At KK} {jj : At QQ} {ee : List AV} {ss : Sto} : xC Ct62 68 [.own gg 70 6 (l.map oc), .d (.i (a : Int)), .d (.i (b : Int)), .d (.i lim), .d (clS)] KK QQ ii jj ee ss = ((((a ≤ b ∧ b ≤ l.length ∧ l.length ≤ 1000) ∧ ∀ x ∈ l, RowOk x) ∧ b ≤ a + 12) ∧ upOk gg 70 6 (l.map oc) ee ss ∧ ∀ (l' : List Row), (Swp a b l l' ∧ SrtI ky a b l') → KK (.d (.tup [])) (ee.map (AV.ups gg (l'.map oc))) (ss.ups gg (l'.map oc))) := eq68
theorem x62_69 {n : Int} {KK : AV → List AV → Sto → Prop} {QQ : Kt} {ii : At KK} {jj : At QQ} {ee : List AV} {ss : Sto} : xC Ct62 69 [.d (.v (.int .u64 n))] KK QQ ii jj ee ss = ((0 ≤ n ∧ n ≤ 16) ∧ KK (.d (.i (lenN n))) ee ss) := eq69
theorem c62 : callable Tryd.prog 62 = true := by kernel_rfl
theorem pf62 (l : List Row) (h : l.length ≤ 12 ∧ ∀ x ∈ l, RowOk x) : PFu Tryd.prog 62 70 6 (l.map oc) [clS] (fun r x => ∃ (l' : List Row), (Swp 0 l.length l l' ∧ SrtI ky 0 l.length l') ∧ r = .d (.tup []) ∧ x = (l'.map oc)) := by
  obtain ⟨h0, h1⟩ := h
  have h64 : IntKind.u64.wrap (l.length : Int) = l.length := u64_in' (by omega)
  have hz : ((0 : Nat) : Int) = 0 := rfl
  have hx := @x62_68 l 0 l.length
  rw [hz] at hx
  refine PFu_start (O := O62) Ct62_ok hmix ho62 Tryd.func62 c62 rfl Tryd.ntmps62 Tryd.results62 ?_
  simp (maxSteps := 4000000) +contextual (disch := first | omega | exact qdb_ok (by kernel_rfl) | exact okb_ok (by kernel_rfl)) only [bw1,bw2,bw3,bw4,bw5,bw6,bw7,bc0,bc1,bc2,bc3,bc4,bc5,bc6,bc7,bb0,setPs,AV.owns,AV.datF,AV.frz,AV.cpy,ifV,isEqB,nilV,nilX,AV.isNilS,AV.isNoRows,wk,dclo,datOf,binIs,addF,AV.isPtr,idxV,AV.isSl,AV.isSlice,AV.rows,ps,pv,extV,extS,AV.outs,AV.outF,packD,AV.dl,fieldV,fieldS,AV.cells?,AV.upr,AV.menc,AV.one,D.one,Value.oneCell',tagOf,AV.isApp,strV,strS,bolV,bolS,slcV,AV.isSlD,asrtS,AV.dcells,D.cells?,stcV,stcS,leafOk,eqDs,eqD,packA,D.val?,↓reduceIte,reduceCtorEq,Nat.reduceAdd,Nat.reduceSub,Nat.reduceMul,List.reduceReplicate,Nat.reduceLeDiff,Nat.reduceLT,Nat.reduceBEq,Nat.reduceEqDiff,Int.reduceNeg,Int.reduceEq,Int.reduceLE,Int.reduceLT,tfb,upOk,gU,bu0,ctz62,x62_68,x62_69,clS, h64, hx]
  exact ⟨by omega, ⟨⟨⟨Nat.zero_le _, Nat.le_refl _, by omega⟩, h1⟩, h0⟩, fun l' h => ⟨l', h, rfl⟩⟩
def ent62 (args : List AV) (K : AV → List AV → Sto → Prop) (e : List AV) (s : Sto) : Prop := entU (α := (List Row)) 70 6 (fun aa => (aa.map oc)) (fun aa => [clS]) (fun aa => aa.length ≤ 12 ∧ ∀ x ∈ aa, RowOk x) (fun aa r x => ∃ (l' : List Row), (Swp 0 aa.length aa l' ∧ SrtI ky 0 aa.length l') ∧ r = .d (.tup []) ∧ x = (l'.map oc)) args K e s
theorem ent62_ok {args : List AV} {K : AV → List AV → Sto → Prop} {Q : Kt} {e : List AV} {s : Sto} (h : ent62 args K e s) : pcall Tryd.prog 62 args K Q e s := entU_ok (fun aa h => pf62 aa h) (fun aa r x ⟨_, _, hr, _⟩ => ⟨_, hr⟩) h
theorem eq62 {l : List Row} {gg : Nat} {KK : AV → List AV → Sto → Prop} {ee : List AV} {ss : Sto} : ent62 [.own gg 70 6 (l.map oc), .d (clS)] KK ee ss = ((l.length ≤ 12 ∧ ∀ x ∈ l, RowOk x) ∧ upOk gg 70 6 (l.map oc) ee ss ∧ ∀ (l' : List Row), (Swp 0 l.length l l' ∧ SrtI ky 0 l.length l') → KK (.d (.tup [])) (ee.map (AV.ups gg (l'.map oc))) (ss.ups gg (l'.map oc))) := by
  unfold ent62
  exact Eq.trans (entU_iff (g := gg) l (by intro b h1 h2; first | (simpa [Prod.ext_iff, and_assoc, Int.ofNat_inj, ints_inj, gams_inj, fars_inj, gam_inj, lea_inj, Int.ofNat_inj, ints_inj, gams_inj, fars_inj, gam_inj, lea_inj, stds_inj, std_inj, Int.ofNat_inj, ints_inj, gams_inj, fars_inj, gam_inj, lea_inj, tv_inj, ocs_inj, row_inj] using And.intro h1 h2) | (simp [Prod.ext_iff, and_assoc, Int.ofNat_inj, ints_inj, gams_inj, fars_inj, gam_inj, lea_inj, Int.ofNat_inj, ints_inj, gams_inj, fars_inj, gam_inj, lea_inj, stds_inj, std_inj, Int.ofNat_inj, ints_inj, gams_inj, fars_inj, gam_inj, lea_inj, tv_inj, ocs_inj, row_inj] at h1 h2 ⊢; simp_all)) rfl) (propext ⟨fun ⟨h1, h2, h3⟩ => ⟨h1, h2, fun l' hq => h3 _ _ ⟨l', hq, rfl, rfl⟩⟩, fun ⟨h1, h2, h3⟩ => ⟨h1, h2, fun r x ⟨l', hq, e1, e2⟩ => by subst e1; subst e2; exact h3 l' hq⟩⟩)
end Go.Proofs.YtmajlffglplcnaaDoor
