/- A part of the proof that the last text ends: what functions of the program do, told by plain data. -/
import Derived.Test.YtapglfcaghlpfaaSP
import Derived.Test.YtapglfcaghlpfaaEc
set_option linter.unusedVariables false
set_option linter.unusedSimpArgs false
namespace Go.Proofs.Ytapglfcaghlpfaa
open Go Go.E Go.Maps
set_option maxRecDepth 100000
set_option maxHeartbeats 16000000
structure Od where
  call : Cal
  index : Int
  deriving Inhabited, DecidableEq
abbrev oc (x : Od) : List D := [.i x.call.place, .i x.call.elem, .i x.call.under, .b x.call.late, .b x.call.fall, .sl 1 (x.call.marks.map ic), .i x.index]
def ky (x : Od) : Int := x.call.place
theorem oc_inj {a b : Od} (h : oc a = oc b) : a = b := by
  obtain ⟨a, i⟩ := a; obtain ⟨b, j⟩ := b
  simp only [oc, List.cons.injEq, D.v.injEq, Value.int.injEq, Value.bool.injEq, D.sl.injEq, true_and, and_true] at h
  obtain ⟨h1, h2, h3, h4, h5, h6, h7⟩ := h
  have : a = b := Cal.inj (by simp [Cal.c, h1, h2, h3, h4, h5, h6])
  rw [this, h7]
theorem ods_inj {a b : List Od} : (a.map oc = b.map oc) = (a = b) := inj_map fun _ _ h => oc_inj h
theorem od_inj {a b : Od} : (a.call.place = b.call.place ∧ a.call.elem = b.call.elem ∧ a.call.under = b.call.under ∧ a.call.late = b.call.late ∧ a.call.fall = b.call.fall ∧ a.call.marks = b.call.marks ∧ a.index = b.index) = (a = b) := by
  obtain ⟨a, i⟩ := a; obtain ⟨b, j⟩ := b; cases a; cases b; simp [and_assoc]
def O67 : Nat → Sch := fun id => .done
theorem ho67 : Try.f67.body.map (okO O67) = some true := by kernel_rfl
def Cf67 : Nat → List AV → (AV → List AV → Sto → Prop) → Kt → List AV → Sto → Prop := fun f args K Q e s => match f with
  | 72 => ent72 args K e s
  | _ => False
def Ct67 : CT := { f := Cf67, y := noYld, z := fun d => false }
theorem ctz67 {d : Nat} : CT.z Ct67 d = (false) := id rfl
theorem Ct67_ok : Ct67.ok Try.prog := ok_of_f (fun f args K Q e s h => by
  have h : Cf67 f args K Q e s := h
  unfold Cf67 at h; split at h
  · exact ent72_ok h
  · exact h.elim) (fun _ _ _ _ _ _ _ _ _ h => h)
theorem x67_72 {a : Int} {b : Int} {KK : AV → List AV → Sto → Prop} {QQ : Kt} {ii : At KK} {jj : At QQ} {ee : List AV} {ss : Sto} : xC Ct67 72 [.d (.i a), .d (.i b)] KK QQ ii jj ee ss = (KK (.d (.i (cmpI a b))) ee ss) := eq72
theorem c67 : callable Try.prog 67 = true := by kernel_rfl
theorem pf67 (a b : Od) : PF Try.prog 67 [.agg (oc a), .agg (oc b)] (fun zz => zz = .ret (.i (cmpI (ky a) (ky b)))) := by
  unfold ky
  refine PF_nil (PF_start (O := O67) Ct67_ok hmix ho67 Try.func67 c67 rfl Try.ntmps67 Try.results67 ?_)
  simp (maxSteps := 4000000) +contextual (disch := first | omega | exact qdb_ok (by kernel_rfl) | exact okb_ok (by kernel_rfl)) only [bw1,bw2,bw3,bw4,bw5,bw6,bw7,bc0,bc1,bc2,bc3,bc4,bc5,bc6,bc7,setPs,AV.owns,AV.datF,AV.frz,AV.cpy,ifV,isEqB,nilV,nilX,AV.isNilS,AV.isNoRows,wk,dclo,datOf,binIs,addF,AV.isPtr,idxV,AV.isSl,AV.isSlice,AV.rows,ps,pv,extV,extS,AV.outs,AV.outF,packD,AV.dl,fieldV,fieldS,AV.cells?,AV.upr,AV.menc,AV.one,D.one,Value.oneCell',tagOf,AV.isApp,strV,strS,bolV,bolS,slcV,AV.isSlD,asrtS,AV.dcells,D.cells?,stcV,stcS,leafOk,eqDs,eqD,packA,D.val?,↓reduceIte,reduceCtorEq,Nat.reduceAdd,Nat.reduceSub,Nat.reduceMul,List.reduceReplicate,Nat.reduceLeDiff,Nat.reduceLT,Nat.reduceBEq,Nat.reduceEqDiff,Int.reduceNeg,Int.reduceEq,Int.reduceLE,Int.reduceLT,tfb,ctz67,x67_72]
def ent67 (args : List AV) (K : AV → List AV → Sto → Prop) (e : List AV) (s : Sto) : Prop := ent (α := (Od) × (Od)) (fun aa => [.agg (oc aa.1), .agg (oc aa.2)]) (fun aa => True) (fun aa => .i (cmpI (ky aa.1) (ky aa.2))) args K e s
theorem ent67_ok {args : List AV} {K : AV → List AV → Sto → Prop} {Q : Kt} {e : List AV} {s : Sto} (h : ent67 args K e s) : pcall Try.prog 67 args K Q e s := ent_ok (fun aa h => pf67 aa.1 aa.2) h
theorem eq67 {a : Od} {b : Od} {KK : AV → List AV → Sto → Prop} {ee : List AV} {ss : Sto} : ent67 [.d (.agg (oc a)), .d (.agg (oc b))] KK ee ss = (KK (.d (.i (cmpI (ky a) (ky b)))) ee ss) := by
  unfold ent67; rw [ent_iff (a, b) (by intro b h; simpa [Prod.ext_iff, and_assoc, Int.ofNat_inj, ints_inj, cals_inj, pcs_inj, skas_inj, scos_inj, ska_inj, rul_inj, sco_inj, cal_inj, ods_inj, od_inj] using h) rfl]; simp
theorem cmp_lt {x y : Int} : (cmpI x y < 0) = (x < y) := by unfold cmpI; split <;> first | (split <;> (apply propext; omega)) | (apply propext; omega)
abbrev cl67 : D := .v (.func (.func 67) #[] #[])
theorem swr {n : List Od} {i j : Nat} (hi : i < n.length) (hj : j < n.length) : ((List.map oc n).set i (oc (n.getD j default))).set j (((((((((List.map oc n).set i (oc (n.getD j default))).getD j []).set 0 (.i (n.getD i default).call.place)).set 1 (.i (n.getD i default).call.elem)).set 2 (.i (n.getD i default).call.under)).set 3 (.b (n.getD i default).call.late)).set 4 (.b (n.getD i default).call.fall)).set 5 (.sl 1 ((n.getD i default).call.marks.map ic)) |>.set 6 (.i (n.getD i default).index)) = List.map oc (swp n i j) := by
  have h1 : (List.map oc n).set i (oc (n.getD j default)) = (n.set i (n.getD j default)).map oc := by rw [List.map_set]
  rw [h1, row_at (by simpa using hj)]
  show (List.map oc (n.set i (n.getD j default))).set j (oc (n.getD i default)) = List.map oc ((n.set i (n.getD j default)).set j (n.getD i default))
  exact List.map_set.symm
def O102 : Nat → Sch := fun id => if id = 4 then .one 0 (.one 1 (.one 2 (.one 3 (.one 4 (.one 5 (.one 6 (.one 7 (.one 8 (.one 9 (.one 10 (.one 11 (.one 12 (.one 13 (.one 14 (.one 15 (.one 16 (.done))))))))))))))))) else if id = 6 then .one 0 (.one 1 (.one 2 (.one 3 (.one 4 (.one 5 (.one 6 (.one 7 (.one 8 (.one 9 (.one 10 (.one 11 (.one 12 (.one 13 (.one 14 (.one 15 (.one 16 (.one 17 (.done)))))))))))))))))) else .done
theorem O102_4 : O102 4 = .one 0 (.one 1 (.one 2 (.one 3 (.one 4 (.one 5 (.one 6 (.one 7 (.one 8 (.one 9 (.one 10 (.one 11 (.one 12 (.one 13 (.one 14 (.one 15 (.one 16 (.done))))))))))))))))) := rfl
theorem O102_6 : O102 6 = .one 0 (.one 1 (.one 2 (.one 3 (.one 4 (.one 5 (.one 6 (.one 7 (.one 8 (.one 9 (.one 10 (.one 11 (.one 12 (.one 13 (.one 14 (.one 15 (.one 16 (.one 17 (.done)))))))))))))))))) := rfl
theorem ho102 : Try.f102.body.map (okO O102) = some true := by kernel_rfl
def Cf102 : Nat → List AV → (AV → List AV → Sto → Prop) → Kt → List AV → Sto → Prop := fun f args K Q e s => match f with
  | 67 => ent67 args K e s
  | _ => False
def Ct102 : CT := { f := Cf102, y := noYld, z := fun d => false }
theorem ctz102 {d : Nat} : CT.z Ct102 d = (false) := id rfl
theorem Ct102_ok : Ct102.ok Try.prog := ok_of_f (fun f args K Q e s h => by
  have h : Cf102 f args K Q e s := h
  unfold Cf102 at h; split at h
  · exact ent67_ok h
  · exact h.elim) (fun _ _ _ _ _ _ _ _ _ h => h)
theorem x102_67 {a : Od} {b : Od} {KK : AV → List AV → Sto → Prop} {QQ : Kt} {ii : At KK} {jj : At QQ} {ee : List AV} {ss : Sto} : xC Ct102 67 [.d (.agg (oc a)), .d (.agg (oc b))] KK QQ ii jj ee ss = (KK (.d (.i (cmpI (ky a) (ky b)))) ee ss) := eq67
theorem c102 : callable Try.prog 102 = true := by kernel_rfl
theorem pf102 (l : List Od) (a b : Nat) (h : a ≤ b ∧ b ≤ l.length ∧ l.length ≤ 1000) : PFu Try.prog 102 101 7 (l.map oc) [.i (a : Int), .i (b : Int), cl67] (fun r x => ∃ (l' : List Od), (Swp a b l l' ∧ SrtI ky a b l') ∧ r = .d (.tup []) ∧ x = (l'.map oc)) := by
  obtain ⟨h0, h1, h2⟩ := h
  refine PFu_start (O := O102) Ct102_ok hmix ho102 Try.func102 c102 rfl Try.ntmps102 Try.results102 ?_
  simp (maxSteps := 4000000) +contextual (disch := first | omega | exact qdb_ok (by kernel_rfl) | exact okb_ok (by kernel_rfl)) only [bw1,bw2,bw3,bw4,bw5,bw6,bw7,bc0,bc1,bc2,bc3,bc4,bc5,bc6,bc7,setPs,AV.owns,AV.datF,AV.frz,AV.cpy,ifV,isEqB,nilV,nilX,AV.isNilS,AV.isNoRows,wk,dclo,datOf,binIs,addF,AV.isPtr,idxV,AV.isSl,AV.isSlice,AV.rows,ps,pv,extV,extS,AV.outs,AV.outF,packD,AV.dl,fieldV,fieldS,AV.cells?,AV.upr,AV.menc,AV.one,D.one,Value.oneCell',tagOf,AV.isApp,strV,strS,bolV,bolS,slcV,AV.isSlD,asrtS,AV.dcells,D.cells?,stcV,stcS,leafOk,eqDs,eqD,packA,D.val?,↓reduceIte,reduceCtorEq,Nat.reduceAdd,Nat.reduceSub,Nat.reduceMul,List.reduceReplicate,Nat.reduceLeDiff,Nat.reduceLT,Nat.reduceBEq,Nat.reduceEqDiff,Int.reduceNeg,Int.reduceEq,Int.reduceLE,Int.reduceLT,tfb,upOk,gU,bu0,ctz102,O102_4,O102_6,x102_67,cl67]
  refine loop_rx (O := O102) (tb := 0) Ct102_ok hmix (by kernel_rfl) (σ := List Od × Nat) gU (fun x => x.1.map oc) (fun x => [(0, .own gU 101 7 (x.1.map oc)), (8, .i x.2), (9, .any)]) (fun x => (a + 1 ≤ x.2) ∧ Swp a b l x.1 ∧ SrtI ky a x.2 x.1) (fun x => l.length - x.2) (l, a + 1) ⟨by omega, .refl _, SrtI.one (by omega)⟩ ?_ ?_
  · simp (maxSteps := 4000000) +contextual (disch := first | omega | exact qdb_ok (by kernel_rfl) | exact okb_ok (by kernel_rfl)) only [bw1,bw2,bw3,bw4,bw5,bw6,bw7,bc0,bc1,bc2,bc3,bc4,bc5,bc6,bc7,setPs,AV.owns,AV.datF,AV.frz,AV.cpy,ifV,isEqB,nilV,nilX,AV.isNilS,AV.isNoRows,wk,dclo,datOf,binIs,addF,AV.isPtr,idxV,AV.isSl,AV.isSlice,AV.rows,ps,pv,extV,extS,AV.outs,AV.outF,packD,AV.dl,fieldV,fieldS,AV.cells?,AV.upr,AV.menc,AV.one,D.one,Value.oneCell',tagOf,AV.isApp,strV,strS,bolV,bolS,slcV,AV.isSlD,asrtS,AV.dcells,D.cells?,stcV,stcS,leafOk,eqDs,eqD,packA,D.val?,↓reduceIte,reduceCtorEq,Nat.reduceAdd,Nat.reduceSub,Nat.reduceMul,List.reduceReplicate,Nat.reduceLeDiff,Nat.reduceLT,Nat.reduceBEq,Nat.reduceEqDiff,Int.reduceNeg,Int.reduceEq,Int.reduceLE,Int.reduceLT,tfb,upOk,gU,bu0,ctz102,O102_4,O102_6,x102_67]
  rintro ⟨m, i⟩ ⟨hi, hs, hsr⟩
  dsimp only at hi hs hsr ⊢
  have hml := hs.len
  by_cases hlt : i < b
  · have hlt' : (i : Int) < b := by omega
    simp (maxSteps := 4000000) +contextual (disch := first | omega | exact qdb_ok (by kernel_rfl) | exact okb_ok (by kernel_rfl)) only [bw1,bw2,bw3,bw4,bw5,bw6,bw7,bc0,bc1,bc2,bc3,bc4,bc5,bc6,bc7,setPs,AV.owns,AV.datF,AV.frz,AV.cpy,ifV,isEqB,nilV,nilX,AV.isNilS,AV.isNoRows,wk,dclo,datOf,binIs,addF,AV.isPtr,idxV,AV.isSl,AV.isSlice,AV.rows,ps,pv,extV,extS,AV.outs,AV.outF,packD,AV.dl,fieldV,fieldS,AV.cells?,AV.upr,AV.menc,AV.one,D.one,Value.oneCell',tagOf,AV.isApp,strV,strS,bolV,bolS,slcV,AV.isSlD,asrtS,AV.dcells,D.cells?,stcV,stcS,leafOk,eqDs,eqD,packA,D.val?,↓reduceIte,reduceCtorEq,Nat.reduceAdd,Nat.reduceSub,Nat.reduceMul,List.reduceReplicate,Nat.reduceLeDiff,Nat.reduceLT,Nat.reduceBEq,Nat.reduceEqDiff,Int.reduceNeg,Int.reduceEq,Int.reduceLE,Int.reduceLT,tfb,upOk,gU,bu0,ctz102,O102_4,O102_6,x102_67,eq_self, hlt']
    refine loop_rx (O := O102) (tb := 0) Ct102_ok hmix (by kernel_rfl) (σ := List Od × Nat) gU (fun x => x.1.map oc) (fun x => [(0, .own gU 101 7 (x.1.map oc)), (9, .i x.2)]) (fun x => (a ≤ x.2 ∧ x.2 ≤ i) ∧ Swp a b l x.1 ∧ InsI ky a i x.2 x.1) (fun x => x.2) (m, i) ⟨⟨by omega, Nat.le_refl _⟩, hs, InsI.top hsr⟩ ?_ ?_
    · simp (maxSteps := 4000000) +contextual (disch := first | omega | exact qdb_ok (by kernel_rfl) | exact okb_ok (by kernel_rfl)) only [bw1,bw2,bw3,bw4,bw5,bw6,bw7,bc0,bc1,bc2,bc3,bc4,bc5,bc6,bc7,setPs,AV.owns,AV.datF,AV.frz,AV.cpy,ifV,isEqB,nilV,nilX,AV.isNilS,AV.isNoRows,wk,dclo,datOf,binIs,addF,AV.isPtr,idxV,AV.isSl,AV.isSlice,AV.rows,ps,pv,extV,extS,AV.outs,AV.outF,packD,AV.dl,fieldV,fieldS,AV.cells?,AV.upr,AV.menc,AV.one,D.one,Value.oneCell',tagOf,AV.isApp,strV,strS,bolV,bolS,slcV,AV.isSlD,asrtS,AV.dcells,D.cells?,stcV,stcS,leafOk,eqDs,eqD,packA,D.val?,↓reduceIte,reduceCtorEq,Nat.reduceAdd,Nat.reduceSub,Nat.reduceMul,List.reduceReplicate,Nat.reduceLeDiff,Nat.reduceLT,Nat.reduceBEq,Nat.reduceEqDiff,Int.reduceNeg,Int.reduceEq,Int.reduceLE,Int.reduceLT,tfb,upOk,gU,bu0,ctz102,O102_4,O102_6,x102_67]
    rintro ⟨n, j⟩ ⟨hj, hs2, hin⟩
    dsimp only at hj hs2 hin ⊢
    have hnl := hs2.len
    by_cases hja : a < j
    · have hja' : (a : Int) < j := by omega
      have hj1 : (j : Int) < n.length := by omega
      have hj2 : (j : Int) - 1 < n.length := by omega
      have hj3 : (0 : Int) ≤ j - 1 := by omega
      have hj4 : ((j : Int) - 1).toNat = j - 1 := by omega
      have r1 : (n.map oc).getD j [] = oc (n.getD j default) := row_at (by omega)
      have r2 : (n.map oc).getD (j - 1) [] = oc (n.getD (j - 1) default) := row_at (by omega)
      by_cases hc : ky (n.getD j default) < ky (n.getD (j - 1) default)
      · simp (maxSteps := 4000000) +contextual (disch := first | omega | exact qdb_ok (by kernel_rfl) | exact okb_ok (by kernel_rfl)) only [bw1,bw2,bw3,bw4,bw5,bw6,bw7,bc0,bc1,bc2,bc3,bc4,bc5,bc6,bc7,setPs,AV.owns,AV.datF,AV.frz,AV.cpy,ifV,isEqB,nilV,nilX,AV.isNilS,AV.isNoRows,wk,dclo,datOf,binIs,addF,AV.isPtr,idxV,AV.isSl,AV.isSlice,AV.rows,ps,pv,extV,extS,AV.outs,AV.outF,packD,AV.dl,fieldV,fieldS,AV.cells?,AV.upr,AV.menc,AV.one,D.one,Value.oneCell',tagOf,AV.isApp,strV,strS,bolV,bolS,slcV,AV.isSlD,asrtS,AV.dcells,D.cells?,stcV,stcS,leafOk,eqDs,eqD,packA,D.val?,↓reduceIte,reduceCtorEq,Nat.reduceAdd,Nat.reduceSub,Nat.reduceMul,List.reduceReplicate,Nat.reduceLeDiff,Nat.reduceLT,Nat.reduceBEq,Nat.reduceEqDiff,Int.reduceNeg,Int.reduceEq,Int.reduceLE,Int.reduceLT,tfb,upOk,gU,bu0,ctz102,O102_4,O102_6,x102_67,eq_self, hja', hj1, hj2, hj3, hj4, r1, r2, cmp_lt, hc]
        refine ⟨by omega, by omega, by omega, by simp; omega, (swp n j (j - 1), j - 1), ⟨⟨⟨by dsimp only; omega, by dsimp only; omega⟩, hs2.step j (j - 1) (by omega) (by omega) h1, hin.step hja hj.2 (by omega) hc⟩, by dsimp only; omega⟩, ⟨swr (by omega) (by omega), avi (by dsimp only; omega)⟩, swr (by omega) (by omega)⟩
      · simp (maxSteps := 4000000) +contextual (disch := first | omega | exact qdb_ok (by kernel_rfl) | exact okb_ok (by kernel_rfl)) only [bw1,bw2,bw3,bw4,bw5,bw6,bw7,bc0,bc1,bc2,bc3,bc4,bc5,bc6,bc7,setPs,AV.owns,AV.datF,AV.frz,AV.cpy,ifV,isEqB,nilV,nilX,AV.isNilS,AV.isNoRows,wk,dclo,datOf,binIs,addF,AV.isPtr,idxV,AV.isSl,AV.isSlice,AV.rows,ps,pv,extV,extS,AV.outs,AV.outF,packD,AV.dl,fieldV,fieldS,AV.cells?,AV.upr,AV.menc,AV.one,D.one,Value.oneCell',tagOf,AV.isApp,strV,strS,bolV,bolS,slcV,AV.isSlD,asrtS,AV.dcells,D.cells?,stcV,stcS,leafOk,eqDs,eqD,packA,D.val?,↓reduceIte,reduceCtorEq,Nat.reduceAdd,Nat.reduceSub,Nat.reduceMul,List.reduceReplicate,Nat.reduceLeDiff,Nat.reduceLT,Nat.reduceBEq,Nat.reduceEqDiff,Int.reduceNeg,Int.reduceEq,Int.reduceLE,Int.reduceLT,tfb,upOk,gU,bu0,ctz102,O102_4,O102_6,x102_67,eq_self, hja', hj1, hj2, hj3, hj4, r1, r2, cmp_lt, hc]
        exact ⟨by omega, (n, i + 1), ⟨⟨by dsimp only; omega, hs2, hin.done hj.2 hj.1 (.inr hc)⟩, by dsimp only; omega⟩, ⟨rfl, rfl⟩, rfl⟩
    · have hja' : ¬ (a : Int) < j := by omega
      simp (maxSteps := 4000000) +contextual (disch := first | omega | exact qdb_ok (by kernel_rfl) | exact okb_ok (by kernel_rfl)) only [bw1,bw2,bw3,bw4,bw5,bw6,bw7,bc0,bc1,bc2,bc3,bc4,bc5,bc6,bc7,setPs,AV.owns,AV.datF,AV.frz,AV.cpy,ifV,isEqB,nilV,nilX,AV.isNilS,AV.isNoRows,wk,dclo,datOf,binIs,addF,AV.isPtr,idxV,AV.isSl,AV.isSlice,AV.rows,ps,pv,extV,extS,AV.outs,AV.outF,packD,AV.dl,fieldV,fieldS,AV.cells?,AV.upr,AV.menc,AV.one,D.one,Value.oneCell',tagOf,AV.isApp,strV,strS,bolV,bolS,slcV,AV.isSlD,asrtS,AV.dcells,D.cells?,stcV,stcS,leafOk,eqDs,eqD,packA,D.val?,↓reduceIte,reduceCtorEq,Nat.reduceAdd,Nat.reduceSub,Nat.reduceMul,List.reduceReplicate,Nat.reduceLeDiff,Nat.reduceLT,Nat.reduceBEq,Nat.reduceEqDiff,Int.reduceNeg,Int.reduceEq,Int.reduceLE,Int.reduceLT,tfb,upOk,gU,bu0,ctz102,O102_4,O102_6,x102_67,eq_self, hja']
      exact ⟨(n, i + 1), ⟨⟨by dsimp only; omega, hs2, hin.done hj.2 hj.1 (.inl (by omega))⟩, by dsimp only; omega⟩, ⟨rfl, rfl⟩, rfl⟩
  · have hlt' : ¬ (i : Int) < b := by omega
    simp (maxSteps := 4000000) +contextual (disch := first | omega | exact qdb_ok (by kernel_rfl) | exact okb_ok (by kernel_rfl)) only [bw1,bw2,bw3,bw4,bw5,bw6,bw7,bc0,bc1,bc2,bc3,bc4,bc5,bc6,bc7,setPs,AV.owns,AV.datF,AV.frz,AV.cpy,ifV,isEqB,nilV,nilX,AV.isNilS,AV.isNoRows,wk,dclo,datOf,binIs,addF,AV.isPtr,idxV,AV.isSl,AV.isSlice,AV.rows,ps,pv,extV,extS,AV.outs,AV.outF,packD,AV.dl,fieldV,fieldS,AV.cells?,AV.upr,AV.menc,AV.one,D.one,Value.oneCell',tagOf,AV.isApp,strV,strS,bolV,bolS,slcV,AV.isSlD,asrtS,AV.dcells,D.cells?,stcV,stcS,leafOk,eqDs,eqD,packA,D.val?,↓reduceIte,reduceCtorEq,Nat.reduceAdd,Nat.reduceSub,Nat.reduceMul,List.reduceReplicate,Nat.reduceLeDiff,Nat.reduceLT,Nat.reduceBEq,Nat.reduceEqDiff,Int.reduceNeg,Int.reduceEq,Int.reduceLE,Int.reduceLT,tfb,upOk,gU,bu0,ctz102,O102_4,O102_6,x102_67,eq_self, hlt']
    exact ⟨m, ⟨hs, fun p q p1 p2 p3 => hsr p q p1 p2 (by omega)⟩, rfl⟩
def ent102 (args : List AV) (K : AV → List AV → Sto → Prop) (e : List AV) (s : Sto) : Prop := entU (α := (List Od) × (Nat) × (Nat)) 101 7 (fun aa => (aa.1.map oc)) (fun aa => [.i (aa.2.1 : Int), .i (aa.2.2 : Int), cl67]) (fun aa => aa.2.1 ≤ aa.2.2 ∧ aa.2.2 ≤ aa.1.length ∧ aa.1.length ≤ 1000) (fun aa r x => ∃ (l' : List Od), (Swp aa.2.1 aa.2.2 aa.1 l' ∧ SrtI ky aa.2.1 aa.2.2 l') ∧ r = .d (.tup []) ∧ x = (l'.map oc)) args K e s
theorem ent102_ok {args : List AV} {K : AV → List AV → Sto → Prop} {Q : Kt} {e : List AV} {s : Sto} (h : ent102 args K e s) : pcall Try.prog 102 args K Q e s := entU_ok (fun aa h => pf102 aa.1 aa.2.1 aa.2.2 h) (fun aa r x ⟨_, _, hr, _⟩ => ⟨_, hr⟩) h
theorem eq102 {l : List Od} {a : Nat} {b : Nat} {gg : Nat} {KK : AV → List AV → Sto → Prop} {ee : List AV} {ss : Sto} : ent102 [.own gg 101 7 (l.map oc), .d (.i (a : Int)), .d (.i (b : Int)), .d (cl67)] KK ee ss = ((a ≤ b ∧ b ≤ l.length ∧ l.length ≤ 1000) ∧ upOk gg 101 7 (l.map oc) ee ss ∧ ∀ (l' : List Od), (Swp a b l l' ∧ SrtI ky a b l') → KK (.d (.tup [])) (ee.map (AV.ups gg (l'.map oc))) (ss.ups gg (l'.map oc))) := by
  unfold ent102
  exact Eq.trans (entU_iff (g := gg) (l, a, b) (by intro b h1 h2; first | (simpa [Prod.ext_iff, and_assoc, Int.ofNat_inj, ints_inj, cals_inj, pcs_inj, skas_inj, scos_inj, ska_inj, rul_inj, sco_inj, cal_inj, ods_inj, od_inj] using And.intro h1 h2) | (simp [Prod.ext_iff, and_assoc, Int.ofNat_inj, ints_inj, cals_inj, pcs_inj, skas_inj, scos_inj, ska_inj, rul_inj, sco_inj, cal_inj, ods_inj, od_inj] at h1 h2 ⊢; simp_all)) rfl) (propext ⟨fun ⟨h1, h2, h3⟩ => ⟨h1, h2, fun l' hq => h3 _ _ ⟨l', hq, rfl, rfl⟩⟩, fun ⟨h1, h2, h3⟩ => ⟨h1, h2, fun r x ⟨l', hq, e1, e2⟩ => by subst e1; subst e2; exact h3 l' hq⟩⟩)
def O106 : Nat → Sch := fun id => if id = 3 then .one 0 (.one 1 (.one 2 (.one 3 (.one 4 (.one 5 (.one 6 (.one 7 (.one 8 (.one 9 (.one 10 (.one 11 (.one 12 (.one 13 (.one 14 (.one 15 (.done)))))))))))))))) else .done
theorem O106_3 : O106 3 = .one 0 (.one 1 (.one 2 (.one 3 (.one 4 (.one 5 (.one 6 (.one 7 (.one 8 (.one 9 (.one 10 (.one 11 (.one 12 (.one 13 (.one 14 (.one 15 (.done)))))))))))))))) := rfl
theorem ho106 : Try.f106.body.map (okO O106) = some true := by kernel_rfl
def Cf106 : Nat → List AV → (AV → List AV → Sto → Prop) → Kt → List AV → Sto → Prop := fun f args K Q e s => match f with
  | _ => False
def Ct106 : CT := { f := Cf106, y := noYld, z := fun d => false }
theorem ctz106 {d : Nat} : CT.z Ct106 d = (false) := id rfl
theorem Ct106_ok : Ct106.ok Try.prog := ok_of_f (fun f args K Q e s h => by
  have h : Cf106 f args K Q e s := h
  unfold Cf106 at h; split at h
  · exact h.elim) (fun _ _ _ _ _ _ _ _ _ h => h)
theorem c106 : callable Try.prog 106 = true := by kernel_rfl
theorem pf106 (l : List Od) (a b : Nat) (h : a ≤ b ∧ b ≤ l.length ∧ l.length ≤ 1000) : PFu Try.prog 106 101 7 (l.map oc) [.i (a : Int), .i (b : Int), cl67] (fun r x => ∃ (l' : List Od), (Swp a b l l') ∧ r = .d (.tup []) ∧ x = (l'.map oc)) := by
  obtain ⟨h0, h1, h2⟩ := h
  refine PFu_start (O := O106) Ct106_ok hmix ho106 Try.func106 c106 rfl Try.ntmps106 Try.results106 ?_
  simp (maxSteps := 4000000) +contextual (disch := first | omega | exact qdb_ok (by kernel_rfl) | exact okb_ok (by kernel_rfl)) only [bw1,bw2,bw3,bw4,bw5,bw6,bw7,bc0,bc1,bc2,bc3,bc4,bc5,bc6,bc7,setPs,AV.owns,AV.datF,AV.frz,AV.cpy,ifV,isEqB,nilV,nilX,AV.isNilS,AV.isNoRows,wk,dclo,datOf,binIs,addF,AV.isPtr,idxV,AV.isSl,AV.isSlice,AV.rows,ps,pv,extV,extS,AV.outs,AV.outF,packD,AV.dl,fieldV,fieldS,AV.cells?,AV.upr,AV.menc,AV.one,D.one,Value.oneCell',tagOf,AV.isApp,strV,strS,bolV,bolS,slcV,AV.isSlD,asrtS,AV.dcells,D.cells?,stcV,stcS,leafOk,eqDs,eqD,packA,D.val?,↓reduceIte,reduceCtorEq,Nat.reduceAdd,Nat.reduceSub,Nat.reduceMul,List.reduceReplicate,Nat.reduceLeDiff,Nat.reduceLT,Nat.reduceBEq,Nat.reduceEqDiff,Int.reduceNeg,Int.reduceEq,Int.reduceLE,Int.reduceLT,tfb,upOk,gU,bu0,ctz106,O106_3,cl67]
  refine loop_rx (O := O106) (tb := 0) Ct106_ok hmix (by kernel_rfl) (σ := List Od × Nat × Nat) gU (fun x => x.1.map oc) (fun x => [(0, .own gU 101 7 (x.1.map oc)), (8, .i x.2.1), (9, .i ((x.2.2 : Int) - 1))]) (fun x => (a ≤ x.2.1 ∧ x.2.2 ≤ b ∧ x.2.1 ≤ b) ∧ Swp a b l x.1) (fun x => b - x.2.1) (l, a, b) ⟨⟨Nat.le_refl _, Nat.le_refl _, h0⟩, .refl _⟩ ?_ ?_
  · simp (maxSteps := 4000000) +contextual (disch := first | omega | exact qdb_ok (by kernel_rfl) | exact okb_ok (by kernel_rfl)) only [bw1,bw2,bw3,bw4,bw5,bw6,bw7,bc0,bc1,bc2,bc3,bc4,bc5,bc6,bc7,setPs,AV.owns,AV.datF,AV.frz,AV.cpy,ifV,isEqB,nilV,nilX,AV.isNilS,AV.isNoRows,wk,dclo,datOf,binIs,addF,AV.isPtr,idxV,AV.isSl,AV.isSlice,AV.rows,ps,pv,extV,extS,AV.outs,AV.outF,packD,AV.dl,fieldV,fieldS,AV.cells?,AV.upr,AV.menc,AV.one,D.one,Value.oneCell',tagOf,AV.isApp,strV,strS,bolV,bolS,slcV,AV.isSlD,asrtS,AV.dcells,D.cells?,stcV,stcS,leafOk,eqDs,eqD,packA,D.val?,↓reduceIte,reduceCtorEq,Nat.reduceAdd,Nat.reduceSub,Nat.reduceMul,List.reduceReplicate,Nat.reduceLeDiff,Nat.reduceLT,Nat.reduceBEq,Nat.reduceEqDiff,Int.reduceNeg,Int.reduceEq,Int.reduceLE,Int.reduceLT,tfb,upOk,gU,bu0,ctz106,O106_3]
  rintro ⟨n, i, j⟩ ⟨hij, hs⟩
  dsimp only at hij hs ⊢
  have hnl := hs.len
  by_cases hlt : (i : Int) < j - 1
  · have hj1 : (j : Int) - 1 < n.length := by omega
    have hj3 : (0 : Int) ≤ j - 1 := by omega
    have hj4 : ((j : Int) - 1).toNat = j - 1 := by omega
    have hi1 : (i : Int) < n.length := by omega
    have r1 : (n.map oc).getD i [] = oc (n.getD i default) := row_at (by omega)
    have r2 : (n.map oc).getD (j - 1) [] = oc (n.getD (j - 1) default) := row_at (by omega)
    have sw := swr (n := n) (i := i) (j := j - 1) (by omega) (by omega)
    dsimp only [oc] at sw
    simp (maxSteps := 4000000) +contextual (disch := first | omega | exact qdb_ok (by kernel_rfl) | exact okb_ok (by kernel_rfl)) only [bw1,bw2,bw3,bw4,bw5,bw6,bw7,bc0,bc1,bc2,bc3,bc4,bc5,bc6,bc7,setPs,AV.owns,AV.datF,AV.frz,AV.cpy,ifV,isEqB,nilV,nilX,AV.isNilS,AV.isNoRows,wk,dclo,datOf,binIs,addF,AV.isPtr,idxV,AV.isSl,AV.isSlice,AV.rows,ps,pv,extV,extS,AV.outs,AV.outF,packD,AV.dl,fieldV,fieldS,AV.cells?,AV.upr,AV.menc,AV.one,D.one,Value.oneCell',tagOf,AV.isApp,strV,strS,bolV,bolS,slcV,AV.isSlD,asrtS,AV.dcells,D.cells?,stcV,stcS,leafOk,eqDs,eqD,packA,D.val?,↓reduceIte,reduceCtorEq,Nat.reduceAdd,Nat.reduceSub,Nat.reduceMul,List.reduceReplicate,Nat.reduceLeDiff,Nat.reduceLT,Nat.reduceBEq,Nat.reduceEqDiff,Int.reduceNeg,Int.reduceEq,Int.reduceLE,Int.reduceLT,tfb,upOk,gU,bu0,ctz106,O106_3,eq_self, hlt, hj1, hj3, hj4, hi1, r1, r2, sw, List.length_set]
    exact ⟨by omega, by omega, (swp n i (j - 1), i + 1, j - 1), ⟨⟨⟨by dsimp only; omega, by dsimp only; omega, by dsimp only; omega⟩, hs.step i (j - 1) (by omega) (by omega) h1⟩, by dsimp only; omega⟩, ⟨rfl, rfl, avi (by dsimp only; omega)⟩, rfl⟩
  · simp (maxSteps := 4000000) +contextual (disch := first | omega | exact qdb_ok (by kernel_rfl) | exact okb_ok (by kernel_rfl)) only [bw1,bw2,bw3,bw4,bw5,bw6,bw7,bc0,bc1,bc2,bc3,bc4,bc5,bc6,bc7,setPs,AV.owns,AV.datF,AV.frz,AV.cpy,ifV,isEqB,nilV,nilX,AV.isNilS,AV.isNoRows,wk,dclo,datOf,binIs,addF,AV.isPtr,idxV,AV.isSl,AV.isSlice,AV.rows,ps,pv,extV,extS,AV.outs,AV.outF,packD,AV.dl,fieldV,fieldS,AV.cells?,AV.upr,AV.menc,AV.one,D.one,Value.oneCell',tagOf,AV.isApp,strV,strS,bolV,bolS,slcV,AV.isSlD,asrtS,AV.dcells,D.cells?,stcV,stcS,leafOk,eqDs,eqD,packA,D.val?,↓reduceIte,reduceCtorEq,Nat.reduceAdd,Nat.reduceSub,Nat.reduceMul,List.reduceReplicate,Nat.reduceLeDiff,Nat.reduceLT,Nat.reduceBEq,Nat.reduceEqDiff,Int.reduceNeg,Int.reduceEq,Int.reduceLE,Int.reduceLT,tfb,upOk,gU,bu0,ctz106,O106_3,eq_self, hlt]
    exact ⟨n, hs, rfl⟩
def ent106 (args : List AV) (K : AV → List AV → Sto → Prop) (e : List AV) (s : Sto) : Prop := entU (α := (List Od) × (Nat) × (Nat)) 101 7 (fun aa => (aa.1.map oc)) (fun aa => [.i (aa.2.1 : Int), .i (aa.2.2 : Int), cl67]) (fun aa => aa.2.1 ≤ aa.2.2 ∧ aa.2.2 ≤ aa.1.length ∧ aa.1.length ≤ 1000) (fun aa r x => ∃ (l' : List Od), (Swp aa.2.1 aa.2.2 aa.1 l') ∧ r = .d (.tup []) ∧ x = (l'.map oc)) args K e s
theorem ent106_ok {args : List AV} {K : AV → List AV → Sto → Prop} {Q : Kt} {e : List AV} {s : Sto} (h : ent106 args K e s) : pcall Try.prog 106 args K Q e s := entU_ok (fun aa h => pf106 aa.1 aa.2.1 aa.2.2 h) (fun aa r x ⟨_, _, hr, _⟩ => ⟨_, hr⟩) h
theorem eq106 {l : List Od} {a : Nat} {b : Nat} {gg : Nat} {KK : AV → List AV → Sto → Prop} {ee : List AV} {ss : Sto} : ent106 [.own gg 101 7 (l.map oc), .d (.i (a : Int)), .d (.i (b : Int)), .d (cl67)] KK ee ss = ((a ≤ b ∧ b ≤ l.length ∧ l.length ≤ 1000) ∧ upOk gg 101 7 (l.map oc) ee ss ∧ ∀ (l' : List Od), (Swp a b l l') → KK (.d (.tup [])) (ee.map (AV.ups gg (l'.map oc))) (ss.ups gg (l'.map oc))) := by
  unfold ent106
  exact Eq.trans (entU_iff (g := gg) (l, a, b) (by intro b h1 h2; first | (simpa [Prod.ext_iff, and_assoc, Int.ofNat_inj, ints_inj, cals_inj, pcs_inj, skas_inj, scos_inj, ska_inj, rul_inj, sco_inj, cal_inj, ods_inj, od_inj] using And.intro h1 h2) | (simp [Prod.ext_iff, and_assoc, Int.ofNat_inj, ints_inj, cals_inj, pcs_inj, skas_inj, scos_inj, ska_inj, rul_inj, sco_inj, cal_inj, ods_inj, od_inj] at h1 h2 ⊢; simp_all)) rfl) (propext ⟨fun ⟨h1, h2, h3⟩ => ⟨h1, h2, fun l' hq => h3 _ _ ⟨l', hq, rfl, rfl⟩⟩, fun ⟨h1, h2, h3⟩ => ⟨h1, h2, fun r x ⟨l', hq, e1, e2⟩ => by subst e1; subst e2; exact h3 l' hq⟩⟩)
def O107 : Nat → Sch := fun id => if id = 5 then .one 0 (.one 1 (.one 2 (.one 3 (.one 4 (.one 5 (.one 6 (.one 7 (.one 8 (.one 9 (.one 10 (.one 11 (.one 12 (.one 13 (.one 14 (.one 15 (.one 16 (.one 17 (.done)))))))))))))))))) else if id = 11 then .one 0 (.one 1 (.one 2 (.one 3 (.one 4 (.one 5 (.one 6 (.one 7 (.one 8 (.one 9 (.one 10 (.one 11 (.one 12 (.one 13 (.one 14 (.one 15 (.one 16 (.one 17 (.done)))))))))))))))))) else if id = 16 then .one 0 (.one 1 (.one 2 (.one 3 (.one 4 (.one 5 (.one 6 (.one 7 (.one 8 (.one 9 (.one 10 (.one 11 (.one 12 (.done))))))))))))) else if id = 17 then .one 0 (.one 1 (.one 2 (.one 3 (.one 4 (.one 5 (.one 6 (.one 7 (.one 8 (.one 9 (.one 10 (.one 11 (.one 12 (.one 13 (.one 14 (.one 15 (.one 16 (.one 17 (.done)))))))))))))))))) else if id = 22 then .one 0 (.one 1 (.one 2 (.one 3 (.one 4 (.one 5 (.one 6 (.one 7 (.one 8 (.one 9 (.one 10 (.one 11 (.one 12 (.done))))))))))))) else if id = 23 then .one 0 (.one 1 (.one 2 (.one 3 (.one 4 (.one 5 (.one 6 (.one 7 (.one 8 (.one 9 (.one 10 (.one 11 (.one 12 (.one 13 (.one 14 (.one 15 (.one 16 (.one 17 (.done)))))))))))))))))) else .done
theorem O107_5 : O107 5 = .one 0 (.one 1 (.one 2 (.one 3 (.one 4 (.one 5 (.one 6 (.one 7 (.one 8 (.one 9 (.one 10 (.one 11 (.one 12 (.one 13 (.one 14 (.one 15 (.one 16 (.one 17 (.done)))))))))))))))))) := rfl
theorem O107_11 : O107 11 = .one 0 (.one 1 (.one 2 (.one 3 (.one 4 (.one 5 (.one 6 (.one 7 (.one 8 (.one 9 (.one 10 (.one 11 (.one 12 (.one 13 (.one 14 (.one 15 (.one 16 (.one 17 (.done)))))))))))))))))) := rfl
theorem O107_16 : O107 16 = .one 0 (.one 1 (.one 2 (.one 3 (.one 4 (.one 5 (.one 6 (.one 7 (.one 8 (.one 9 (.one 10 (.one 11 (.one 12 (.done))))))))))))) := rfl
theorem O107_17 : O107 17 = .one 0 (.one 1 (.one 2 (.one 3 (.one 4 (.one 5 (.one 6 (.one 7 (.one 8 (.one 9 (.one 10 (.one 11 (.one 12 (.one 13 (.one 14 (.one 15 (.one 16 (.one 17 (.done)))))))))))))))))) := rfl
theorem O107_22 : O107 22 = .one 0 (.one 1 (.one 2 (.one 3 (.one 4 (.one 5 (.one 6 (.one 7 (.one 8 (.one 9 (.one 10 (.one 11 (.one 12 (.done))))))))))))) := rfl
theorem O107_23 : O107 23 = .one 0 (.one 1 (.one 2 (.one 3 (.one 4 (.one 5 (.one 6 (.one 7 (.one 8 (.one 9 (.one 10 (.one 11 (.one 12 (.one 13 (.one 14 (.one 15 (.one 16 (.one 17 (.done)))))))))))))))))) := rfl
theorem ho107 : Try.f107.body.map (okO O107) = some true := by kernel_rfl
def Cf107 : Nat → List AV → (AV → List AV → Sto → Prop) → Kt → List AV → Sto → Prop := fun f args K Q e s => match f with
  | 67 => ent67 args K e s
  | _ => False
def Ct107 : CT := { f := Cf107, y := noYld, z := fun d => false }
theorem ctz107 {d : Nat} : CT.z Ct107 d = (false) := id rfl
theorem Ct107_ok : Ct107.ok Try.prog := ok_of_f (fun f args K Q e s h => by
  have h : Cf107 f args K Q e s := h
  unfold Cf107 at h; split at h
  · exact ent67_ok h
  · exact h.elim) (fun _ _ _ _ _ _ _ _ _ h => h)
theorem x107_67 {a : Od} {b : Od} {KK : AV → List AV → Sto → Prop} {QQ : Kt} {ii : At KK} {jj : At QQ} {ee : List AV} {ss : Sto} : xC Ct107 67 [.d (.agg (oc a)), .d (.agg (oc b))] KK QQ ii jj ee ss = (KK (.d (.i (cmpI (ky a) (ky b)))) ee ss) := eq67
theorem c107 : callable Try.prog 107 = true := by kernel_rfl
theorem pf107 (l : List Od) (a b : Nat) (h : a < b ∧ b ≤ l.length ∧ l.length ≤ 1000 ∧ b < a + 50) : PFu Try.prog 107 101 7 (l.map oc) [.i (a : Int), .i (b : Int), cl67] (fun r x => ∃ (z : Bool), (z = true → SrtI ky a b l) ∧ r = .d (.b z) ∧ x = (l.map oc)) := by
  obtain ⟨h0, h1, h2, h3⟩ := h
  refine PFu_start (O := O107) Ct107_ok hmix ho107 Try.func107 c107 rfl Try.ntmps107 Try.results107 ?_
  simp (maxSteps := 4000000) +contextual (disch := first | omega | exact qdb_ok (by kernel_rfl) | exact okb_ok (by kernel_rfl)) only [bw1,bw2,bw3,bw4,bw5,bw6,bw7,bc0,bc1,bc2,bc3,bc4,bc5,bc6,bc7,setPs,AV.owns,AV.datF,AV.frz,AV.cpy,ifV,isEqB,nilV,nilX,AV.isNilS,AV.isNoRows,wk,dclo,datOf,binIs,addF,AV.isPtr,idxV,AV.isSl,AV.isSlice,AV.rows,ps,pv,extV,extS,AV.outs,AV.outF,packD,AV.dl,fieldV,fieldS,AV.cells?,AV.upr,AV.menc,AV.one,D.one,Value.oneCell',tagOf,AV.isApp,strV,strS,bolV,bolS,slcV,AV.isSlD,asrtS,AV.dcells,D.cells?,stcV,stcS,leafOk,eqDs,eqD,packA,D.val?,↓reduceIte,reduceCtorEq,Nat.reduceAdd,Nat.reduceSub,Nat.reduceMul,List.reduceReplicate,Nat.reduceLeDiff,Nat.reduceLT,Nat.reduceBEq,Nat.reduceEqDiff,Int.reduceNeg,Int.reduceEq,Int.reduceLE,Int.reduceLT,tfb,upOk,gU,bu0,ctz107,O107_5,O107_11,O107_16,O107_17,O107_22,O107_23,x107_67,cl67]
  refine loop_s (O := O107) (tb := 0) Ct107_ok hmix (by kernel_rfl) (σ := Unit) (fun _ => []) (fun _ => True) (fun _ => 0) (fun _ => ()) () trivial ?_ ?_
  · simp (maxSteps := 4000000) +contextual (disch := first | omega | exact qdb_ok (by kernel_rfl) | exact okb_ok (by kernel_rfl)) only [bw1,bw2,bw3,bw4,bw5,bw6,bw7,bc0,bc1,bc2,bc3,bc4,bc5,bc6,bc7,setPs,AV.owns,AV.datF,AV.frz,AV.cpy,ifV,isEqB,nilV,nilX,AV.isNilS,AV.isNoRows,wk,dclo,datOf,binIs,addF,AV.isPtr,idxV,AV.isSl,AV.isSlice,AV.rows,ps,pv,extV,extS,AV.outs,AV.outF,packD,AV.dl,fieldV,fieldS,AV.cells?,AV.upr,AV.menc,AV.one,D.one,Value.oneCell',tagOf,AV.isApp,strV,strS,bolV,bolS,slcV,AV.isSlD,asrtS,AV.dcells,D.cells?,stcV,stcS,leafOk,eqDs,eqD,packA,D.val?,↓reduceIte,reduceCtorEq,Nat.reduceAdd,Nat.reduceSub,Nat.reduceMul,List.reduceReplicate,Nat.reduceLeDiff,Nat.reduceLT,Nat.reduceBEq,Nat.reduceEqDiff,Int.reduceNeg,Int.reduceEq,Int.reduceLE,Int.reduceLT,tfb,upOk,gU,bu0,ctz107,O107_5,O107_11,O107_16,O107_17,O107_22,O107_23,x107_67]
  intro _ _
  simp (maxSteps := 4000000) +contextual (disch := first | omega | exact qdb_ok (by kernel_rfl) | exact okb_ok (by kernel_rfl)) only [bw1,bw2,bw3,bw4,bw5,bw6,bw7,bc0,bc1,bc2,bc3,bc4,bc5,bc6,bc7,setPs,AV.owns,AV.datF,AV.frz,AV.cpy,ifV,isEqB,nilV,nilX,AV.isNilS,AV.isNoRows,wk,dclo,datOf,binIs,addF,AV.isPtr,idxV,AV.isSl,AV.isSlice,AV.rows,ps,pv,extV,extS,AV.outs,AV.outF,packD,AV.dl,fieldV,fieldS,AV.cells?,AV.upr,AV.menc,AV.one,D.one,Value.oneCell',tagOf,AV.isApp,strV,strS,bolV,bolS,slcV,AV.isSlD,asrtS,AV.dcells,D.cells?,stcV,stcS,leafOk,eqDs,eqD,packA,D.val?,↓reduceIte,reduceCtorEq,Nat.reduceAdd,Nat.reduceSub,Nat.reduceMul,List.reduceReplicate,Nat.reduceLeDiff,Nat.reduceLT,Nat.reduceBEq,Nat.reduceEqDiff,Int.reduceNeg,Int.reduceEq,Int.reduceLE,Int.reduceLT,tfb,upOk,gU,bu0,ctz107,O107_5,O107_11,O107_16,O107_17,O107_22,O107_23,x107_67,eq_self]
  refine loop_s (O := O107) (tb := 0) Ct107_ok hmix (by kernel_rfl) (σ := Nat) (fun i => [(9, .i i)]) (fun i => (a + 1 ≤ i ∧ i ≤ b) ∧ SrtI ky a i l) (fun i => b - i) (fun i => i + 1) (a + 1) ⟨⟨Nat.le_refl _, h0⟩, SrtI.one (Nat.le_refl _)⟩ ?_ ?_
  · simp (maxSteps := 4000000) +contextual (disch := first | omega | exact qdb_ok (by kernel_rfl) | exact okb_ok (by kernel_rfl)) only [bw1,bw2,bw3,bw4,bw5,bw6,bw7,bc0,bc1,bc2,bc3,bc4,bc5,bc6,bc7,setPs,AV.owns,AV.datF,AV.frz,AV.cpy,ifV,isEqB,nilV,nilX,AV.isNilS,AV.isNoRows,wk,dclo,datOf,binIs,addF,AV.isPtr,idxV,AV.isSl,AV.isSlice,AV.rows,ps,pv,extV,extS,AV.outs,AV.outF,packD,AV.dl,fieldV,fieldS,AV.cells?,AV.upr,AV.menc,AV.one,D.one,Value.oneCell',tagOf,AV.isApp,strV,strS,bolV,bolS,slcV,AV.isSlD,asrtS,AV.dcells,D.cells?,stcV,stcS,leafOk,eqDs,eqD,packA,D.val?,↓reduceIte,reduceCtorEq,Nat.reduceAdd,Nat.reduceSub,Nat.reduceMul,List.reduceReplicate,Nat.reduceLeDiff,Nat.reduceLT,Nat.reduceBEq,Nat.reduceEqDiff,Int.reduceNeg,Int.reduceEq,Int.reduceLE,Int.reduceLT,tfb,upOk,gU,bu0,ctz107,O107_5,O107_11,O107_16,O107_17,O107_22,O107_23,x107_67]
    try rfl
  rintro i ⟨hi, hs⟩
  have hba : (b : Int) - a < 50 := by omega
  by_cases hlt : i < b
  · have hlt' : (i : Int) < b := by omega
    have hi1 : (i : Int) < l.length := by omega
    have hj1 : (i : Int) - 1 < l.length := by omega
    have hj3 : (0 : Int) ≤ i - 1 := by omega
    have hj4 : ((i : Int) - 1).toNat = i - 1 := by omega
    have hib : ¬ (i : Int) = b := by omega
    have r1 : (l.map oc).getD i [] = oc (l.getD i default) := row_at (by omega)
    have r2 : (l.map oc).getD (i - 1) [] = oc (l.getD (i - 1) default) := row_at (by omega)
    by_cases hc : ky (l.getD i default) < ky (l.getD (i - 1) default)
    · simp (maxSteps := 4000000) +contextual (disch := first | omega | exact qdb_ok (by kernel_rfl) | exact okb_ok (by kernel_rfl)) only [bw1,bw2,bw3,bw4,bw5,bw6,bw7,bc0,bc1,bc2,bc3,bc4,bc5,bc6,bc7,setPs,AV.owns,AV.datF,AV.frz,AV.cpy,ifV,isEqB,nilV,nilX,AV.isNilS,AV.isNoRows,wk,dclo,datOf,binIs,addF,AV.isPtr,idxV,AV.isSl,AV.isSlice,AV.rows,ps,pv,extV,extS,AV.outs,AV.outF,packD,AV.dl,fieldV,fieldS,AV.cells?,AV.upr,AV.menc,AV.one,D.one,Value.oneCell',tagOf,AV.isApp,strV,strS,bolV,bolS,slcV,AV.isSlD,asrtS,AV.dcells,D.cells?,stcV,stcS,leafOk,eqDs,eqD,packA,D.val?,↓reduceIte,reduceCtorEq,Nat.reduceAdd,Nat.reduceSub,Nat.reduceMul,List.reduceReplicate,Nat.reduceLeDiff,Nat.reduceLT,Nat.reduceBEq,Nat.reduceEqDiff,Int.reduceNeg,Int.reduceEq,Int.reduceLE,Int.reduceLT,tfb,upOk,gU,bu0,ctz107,O107_5,O107_11,O107_16,O107_17,O107_22,O107_23,x107_67,eq_self, hlt', hi1, hj1, hj3, hj4, r1, r2, cmp_lt, hc, hib, hba]
      exact ⟨by omega, false, (fun h => by cases h), rfl⟩
    · simp (maxSteps := 4000000) +contextual (disch := first | omega | exact qdb_ok (by kernel_rfl) | exact okb_ok (by kernel_rfl)) only [bw1,bw2,bw3,bw4,bw5,bw6,bw7,bc0,bc1,bc2,bc3,bc4,bc5,bc6,bc7,setPs,AV.owns,AV.datF,AV.frz,AV.cpy,ifV,isEqB,nilV,nilX,AV.isNilS,AV.isNoRows,wk,dclo,datOf,binIs,addF,AV.isPtr,idxV,AV.isSl,AV.isSlice,AV.rows,ps,pv,extV,extS,AV.outs,AV.outF,packD,AV.dl,fieldV,fieldS,AV.cells?,AV.upr,AV.menc,AV.one,D.one,Value.oneCell',tagOf,AV.isApp,strV,strS,bolV,bolS,slcV,AV.isSlD,asrtS,AV.dcells,D.cells?,stcV,stcS,leafOk,eqDs,eqD,packA,D.val?,↓reduceIte,reduceCtorEq,Nat.reduceAdd,Nat.reduceSub,Nat.reduceMul,List.reduceReplicate,Nat.reduceLeDiff,Nat.reduceLT,Nat.reduceBEq,Nat.reduceEqDiff,Int.reduceNeg,Int.reduceEq,Int.reduceLE,Int.reduceLT,tfb,upOk,gU,bu0,ctz107,O107_5,O107_11,O107_16,O107_17,O107_22,O107_23,x107_67,eq_self, hlt', hi1, hj1, hj3, hj4, r1, r2, cmp_lt, hc, hib, hba]
      exact ⟨by omega, ⟨by omega, hs.ext hi.1 hc⟩, by omega⟩
  · obtain rfl : i = b := by omega
    simp (maxSteps := 4000000) +contextual (disch := first | omega | exact qdb_ok (by kernel_rfl) | exact okb_ok (by kernel_rfl)) only [bw1,bw2,bw3,bw4,bw5,bw6,bw7,bc0,bc1,bc2,bc3,bc4,bc5,bc6,bc7,setPs,AV.owns,AV.datF,AV.frz,AV.cpy,ifV,isEqB,nilV,nilX,AV.isNilS,AV.isNoRows,wk,dclo,datOf,binIs,addF,AV.isPtr,idxV,AV.isSl,AV.isSlice,AV.rows,ps,pv,extV,extS,AV.outs,AV.outF,packD,AV.dl,fieldV,fieldS,AV.cells?,AV.upr,AV.menc,AV.one,D.one,Value.oneCell',tagOf,AV.isApp,strV,strS,bolV,bolS,slcV,AV.isSlD,asrtS,AV.dcells,D.cells?,stcV,stcS,leafOk,eqDs,eqD,packA,D.val?,↓reduceIte,reduceCtorEq,Nat.reduceAdd,Nat.reduceSub,Nat.reduceMul,List.reduceReplicate,Nat.reduceLeDiff,Nat.reduceLT,Nat.reduceBEq,Nat.reduceEqDiff,Int.reduceNeg,Int.reduceEq,Int.reduceLE,Int.reduceLT,tfb,upOk,gU,bu0,ctz107,O107_5,O107_11,O107_16,O107_17,O107_22,O107_23,x107_67,eq_self, Int.lt_irrefl]
    exact ⟨true, (fun _ => hs), rfl⟩
def ent107 (args : List AV) (K : AV → List AV → Sto → Prop) (e : List AV) (s : Sto) : Prop := entU (α := (List Od) × (Nat) × (Nat)) 101 7 (fun aa => (aa.1.map oc)) (fun aa => [.i (aa.2.1 : Int), .i (aa.2.2 : Int), cl67]) (fun aa => aa.2.1 < aa.2.2 ∧ aa.2.2 ≤ aa.1.length ∧ aa.1.length ≤ 1000 ∧ aa.2.2 < aa.2.1 + 50) (fun aa r x => ∃ (z : Bool), (z = true → SrtI ky aa.2.1 aa.2.2 aa.1) ∧ r = .d (.b z) ∧ x = (aa.1.map oc)) args K e s
theorem ent107_ok {args : List AV} {K : AV → List AV → Sto → Prop} {Q : Kt} {e : List AV} {s : Sto} (h : ent107 args K e s) : pcall Try.prog 107 args K Q e s := entU_ok (fun aa h => pf107 aa.1 aa.2.1 aa.2.2 h) (fun aa r x ⟨_, _, hr, _⟩ => ⟨_, hr⟩) h
theorem eq107 {l : List Od} {a : Nat} {b : Nat} {gg : Nat} {KK : AV → List AV → Sto → Prop} {ee : List AV} {ss : Sto} : ent107 [.own gg 101 7 (l.map oc), .d (.i (a : Int)), .d (.i (b : Int)), .d (cl67)] KK ee ss = ((a < b ∧ b ≤ l.length ∧ l.length ≤ 1000 ∧ b < a + 50) ∧ upOk gg 101 7 (l.map oc) ee ss ∧ ∀ (z : Bool), (z = true → SrtI ky a b l) → KK (.d (.b z)) (ee.map (AV.ups gg (l.map oc))) (ss.ups gg (l.map oc))) := by
  unfold ent107
  exact Eq.trans (entU_iff (g := gg) (l, a, b) (by intro b h1 h2; first | (simpa [Prod.ext_iff, and_assoc, Int.ofNat_inj, ints_inj, cals_inj, pcs_inj, skas_inj, scos_inj, ska_inj, rul_inj, sco_inj, cal_inj, ods_inj, od_inj] using And.intro h1 h2) | (simp [Prod.ext_iff, and_assoc, Int.ofNat_inj, ints_inj, cals_inj, pcs_inj, skas_inj, scos_inj, ska_inj, rul_inj, sco_inj, cal_inj, ods_inj, od_inj] at h1 h2 ⊢; simp_all)) rfl) (propext ⟨fun ⟨h1, h2, h3⟩ => ⟨h1, h2, fun z hq => h3 _ _ ⟨z, hq, rfl, rfl⟩⟩, fun ⟨h1, h2, h3⟩ => ⟨h1, h2, fun r x ⟨z, hq, e1, e2⟩ => by subst e1; subst e2; exact h3 z hq⟩⟩)
end Go.Proofs.Ytapglfcaghlpfaa
