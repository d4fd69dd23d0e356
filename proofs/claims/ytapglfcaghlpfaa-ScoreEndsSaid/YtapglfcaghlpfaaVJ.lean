/- A part of the proof that the last text ends: what functions of the program do, told by plain data. -/
import Derived.Test.YtapglfcaghlpfaaUE
import Derived.Test.YtapglfcaghlpfaaSQ
import Derived.Test.YtapglfcaghlpfaaVE
import Derived.Test.YtapglfcaghlpfaaEc
set_option linter.unusedVariables false
set_option linter.unusedSimpArgs false
namespace Go.Proofs.Ytapglfcaghlpfaa
open Go Go.E Go.Maps
set_option maxRecDepth 100000
set_option maxHeartbeats 16000000
/-! ### The document's All -/
theorem tk_succ {α β : Type} [Inhabited α] {f : α → β} {l : List α} {k : Nat} (hk : k < l.length) : (l.take (k + 1)).map f = (l.take k).map f ++ [f (l.getD k default)] := by
  rw [List.take_succ_eq_append_getElem hk, List.map_append, at_lt hk]; rfl
def O28 : Nat → Sch := fun id => if id = 11 then .one 0 (.one 2 (.one 3 (.one 4 (.one 5 (.one 6 (.one 7 (.one 8 (.alt (.one 1 (.one 9 (.one 10 (.one 11 (.one 12 (.one 13 (.done))))))) (.one 9 (.alt (.one 1 (.one 10 (.one 11 (.one 12 (.one 13 (.done)))))) (.one 10 (.one 1 (.one 11 (.one 12 (.one 13 (.done)))))))))))))))) else .done
theorem O28_11 : O28 11 = .one 0 (.one 2 (.one 3 (.one 4 (.one 5 (.one 6 (.one 7 (.one 8 (.alt (.one 1 (.one 9 (.one 10 (.one 11 (.one 12 (.one 13 (.done))))))) (.one 9 (.alt (.one 1 (.one 10 (.one 11 (.one 12 (.one 13 (.done)))))) (.one 10 (.one 1 (.one 11 (.one 12 (.one 13 (.done)))))))))))))))) := rfl
theorem ho28 : Try.f28.body.map (okO O28) = some true := by kernel_rfl
def Cf28 : Nat → List AV → (AV → List AV → Sto → Prop) → Kt → List AV → Sto → Prop := fun f args K Q e s => match f with
  | 46 => ent46 args K e s
  | _ => False
def Ct28 : CT := { f := Cf28, y := noYld, z := fun d => false }
theorem ctz28 {d : Nat} : CT.z Ct28 d = (false) := id rfl
theorem Ct28_ok : Ct28.ok Try.prog := ok_of_f (fun f args K Q e s h => by
  have h : Cf28 f args K Q e s := h
  unfold Cf28 at h; split at h
  · exact ent46_ok h
  · exact h.elim) (fun _ _ _ _ _ _ _ _ _ h => h)
theorem x28_46 {l : List Int} {j : Nat} {m : Int} {KK : AV → List AV → Sto → Prop} {QQ : Kt} {ii : At KK} {jj : At QQ} {ee : List AV} {ss : Sto} : xC Ct28 46 [.d (.sl 1 (l.map ic)), .d (.i (j : Int)), .d (.i m)] KK QQ ii jj ee ss = ((j < l.length ∧ l.length ≤ 1000) ∧ KK (.d (.sl 1 ((l.set j m).map ic))) ee ss) := eq46
theorem x28_46_m1 {l : List Int} {j : Nat} {m : Int} {g1 el1 : Nat} {KK : AV → List AV → Sto → Prop} {QQ : Kt} {ii : At KK} {jj : At QQ} {ee : List AV} {ss : Sto} : xC Ct28 46 [.own g1 el1 1 (l.map ic), .d (.i (j : Int)), .d (.i m)] KK QQ ii jj ee ss = ((j < l.length ∧ l.length ≤ 1000) ∧ (.sl 1 ((l.set j m).map ic) : D).flat = true ∧ KK (.d (.sl 1 ((l.set j m).map ic))) ee ss) := eqo46
theorem c28 : callable Try.prog 28 = true := by kernel_rfl
theorem pf28 (s : Ska) (j : Nat) (g q : Int) (h : (s.calls.length ≤ 1000 ∧ s.parts.length ≤ 1000) ∧ (∀ c ∈ s.calls, j < c.marks.length ∧ c.marks.length ≤ 1000) ∧ ∀ p ∈ s.parts, j < p.length ∧ p.length ≤ 1000) : PF Try.prog 28 [.agg s.c, .i (j : Int), .i g, .i q] (fun zz => zz = .ret (.agg (givR s j g q).c)) := by
  obtain ⟨⟨hl1, hl2⟩, hc, hp⟩ := h
  refine PF_nil (PF_start (O := O28) Ct28_ok hmix ho28 Try.func28 c28 rfl Try.ntmps28 Try.results28 ?_)
  simp (maxSteps := 4000000) +contextual (disch := first | omega | exact qdb_ok (by kernel_rfl) | exact okb_ok (by kernel_rfl)) only [bw1,bw2,bw3,bw4,bw5,bw6,bw7,bc0,bc1,bc2,bc3,bc4,bc5,bc6,bc7,setPs,AV.owns,AV.datF,AV.frz,AV.cpy,ifV,isEqB,nilV,nilX,AV.isNilS,AV.isNoRows,wk,dclo,datOf,binIs,addF,AV.isPtr,idxV,AV.isSl,AV.isSlice,AV.rows,ps,pv,extV,extS,AV.outs,AV.outF,packD,AV.dl,fieldV,fieldS,AV.cells?,AV.upr,AV.menc,AV.one,D.one,Value.oneCell',tagOf,AV.isApp,strV,strS,bolV,bolS,slcV,AV.isSlD,asrtS,AV.dcells,D.cells?,stcV,stcS,leafOk,eqDs,eqD,packA,D.val?,↓reduceIte,reduceCtorEq,Nat.reduceAdd,Nat.reduceSub,Nat.reduceMul,List.reduceReplicate,Nat.reduceLeDiff,Nat.reduceLT,Nat.reduceBEq,Nat.reduceEqDiff,Int.reduceNeg,Int.reduceEq,Int.reduceLE,Int.reduceLT,tfb,ctz28,O28_11,x28_46,x28_46_m1]
  refine seedS 10 0 39 37 6 _ (by decide) (by decide) rfl rfl (by simp [AV.mens, AV.men]) (by simp [Sto.mens, AV.mens, AV.men]) rfl ?_
  refine loop_u (O := O28) (tb := 0) Ct28_ok hmix (by kernel_rfl) (σ := Nat) (fun k => [(10, .i k)]) (fun k => [(10, [.own 39 37 6 (((s.calls.take k).map (setC j g)).map Cal.c), .d (.v (.slice none 0 0)), .d (.i s.over)])]) (fun k => k ≤ s.calls.length) (fun k => s.calls.length - k) (fun k => k + 1) 0 (by omega) ?_ ?_
  · simp (maxSteps := 4000000) +contextual (disch := first | omega | exact qdb_ok (by kernel_rfl) | exact okb_ok (by kernel_rfl)) only [bw1,bw2,bw3,bw4,bw5,bw6,bw7,bc0,bc1,bc2,bc3,bc4,bc5,bc6,bc7,setPs,AV.owns,AV.datF,AV.frz,AV.cpy,ifV,isEqB,nilV,nilX,AV.isNilS,AV.isNoRows,wk,dclo,datOf,binIs,addF,AV.isPtr,idxV,AV.isSl,AV.isSlice,AV.rows,ps,pv,extV,extS,AV.outs,AV.outF,packD,AV.dl,fieldV,fieldS,AV.cells?,AV.upr,AV.menc,AV.one,D.one,Value.oneCell',tagOf,AV.isApp,strV,strS,bolV,bolS,slcV,AV.isSlD,asrtS,AV.dcells,D.cells?,stcV,stcS,leafOk,eqDs,eqD,packA,D.val?,↓reduceIte,reduceCtorEq,Nat.reduceAdd,Nat.reduceSub,Nat.reduceMul,List.reduceReplicate,Nat.reduceLeDiff,Nat.reduceLT,Nat.reduceBEq,Nat.reduceEqDiff,Int.reduceNeg,Int.reduceEq,Int.reduceLE,Int.reduceLT,tfb,ctz28,O28_11,x28_46,x28_46_m1,eq_self]
  intro k hk
  by_cases hlt : k < s.calls.length
  · have hlt' : (k : Int) < s.calls.length := by omega
    have hck := hc (s.calls.getD k default) (by rw [at_lt hlt]; exact List.getElem_mem _)
    have ht : (s.calls.take k).length = k := by rw [List.length_take]; omega
    have hst := tk_succ (f := setC j g) hlt
    simp (maxSteps := 4000000) +contextual (disch := first | omega | exact qdb_ok (by kernel_rfl) | exact okb_ok (by kernel_rfl)) only [bw1,bw2,bw3,bw4,bw5,bw6,bw7,bc0,bc1,bc2,bc3,bc4,bc5,bc6,bc7,setPs,AV.owns,AV.datF,AV.frz,AV.cpy,ifV,isEqB,nilV,nilX,AV.isNilS,AV.isNoRows,wk,dclo,datOf,binIs,addF,AV.isPtr,idxV,AV.isSl,AV.isSlice,AV.rows,ps,pv,extV,extS,AV.outs,AV.outF,packD,AV.dl,fieldV,fieldS,AV.cells?,AV.upr,AV.menc,AV.one,D.one,Value.oneCell',tagOf,AV.isApp,strV,strS,bolV,bolS,slcV,AV.isSlD,asrtS,AV.dcells,D.cells?,stcV,stcS,leafOk,eqDs,eqD,packA,D.val?,↓reduceIte,reduceCtorEq,Nat.reduceAdd,Nat.reduceSub,Nat.reduceMul,List.reduceReplicate,Nat.reduceLeDiff,Nat.reduceLT,Nat.reduceBEq,Nat.reduceEqDiff,Int.reduceNeg,Int.reduceEq,Int.reduceLE,Int.reduceLT,tfb,ctz28,O28_11,x28_46,x28_46_m1,eq_self, hlt', hck, List.length_map, ht]
    refine ⟨by omega, by omega, by omega, by omega, ?_⟩
    rw [hst, List.map_append]; rfl
  have hlt' : ¬ (k : Int) < s.calls.length := by omega
  obtain rfl : k = s.calls.length := by omega
  simp (maxSteps := 4000000) +contextual (disch := first | omega | exact qdb_ok (by kernel_rfl) | exact okb_ok (by kernel_rfl)) only [bw1,bw2,bw3,bw4,bw5,bw6,bw7,bc0,bc1,bc2,bc3,bc4,bc5,bc6,bc7,setPs,AV.owns,AV.datF,AV.frz,AV.cpy,ifV,isEqB,nilV,nilX,AV.isNilS,AV.isNoRows,wk,dclo,datOf,binIs,addF,AV.isPtr,idxV,AV.isSl,AV.isSlice,AV.rows,ps,pv,extV,extS,AV.outs,AV.outF,packD,AV.dl,fieldV,fieldS,AV.cells?,AV.upr,AV.menc,AV.one,D.one,Value.oneCell',tagOf,AV.isApp,strV,strS,bolV,bolS,slcV,AV.isSlD,asrtS,AV.dcells,D.cells?,stcV,stcS,leafOk,eqDs,eqD,packA,D.val?,↓reduceIte,reduceCtorEq,Nat.reduceAdd,Nat.reduceSub,Nat.reduceMul,List.reduceReplicate,Nat.reduceLeDiff,Nat.reduceLT,Nat.reduceBEq,Nat.reduceEqDiff,Int.reduceNeg,Int.reduceEq,Int.reduceLE,Int.reduceLT,tfb,ctz28,O28_11,x28_46,x28_46_m1,eq_self, hlt', Int.lt_irrefl, List.take_length]
  refine seedS 10 1 59 22 1 _ (by decide) (by decide) rfl rfl (by simp [AV.mens, AV.men]) (by simp [Sto.mens, AV.mens, AV.men]) rfl ?_
  refine loop_u (O := O28) (tb := 0) Ct28_ok hmix (by kernel_rfl) (σ := Nat) (fun k => [(12, .i k)]) (fun k => [(10, [.own 39 37 6 ((s.calls.map (setC j g)).map Cal.c), .own 59 22 1 (((s.parts.take k).map (setP j q)).map pc), .d (.i s.over)])]) (fun k => k ≤ s.parts.length) (fun k => s.parts.length - k) (fun k => k + 1) 0 (by omega) ?_ ?_
  · simp (maxSteps := 4000000) +contextual (disch := first | omega | exact qdb_ok (by kernel_rfl) | exact okb_ok (by kernel_rfl)) only [bw1,bw2,bw3,bw4,bw5,bw6,bw7,bc0,bc1,bc2,bc3,bc4,bc5,bc6,bc7,setPs,AV.owns,AV.datF,AV.frz,AV.cpy,ifV,isEqB,nilV,nilX,AV.isNilS,AV.isNoRows,wk,dclo,datOf,binIs,addF,AV.isPtr,idxV,AV.isSl,AV.isSlice,AV.rows,ps,pv,extV,extS,AV.outs,AV.outF,packD,AV.dl,fieldV,fieldS,AV.cells?,AV.upr,AV.menc,AV.one,D.one,Value.oneCell',tagOf,AV.isApp,strV,strS,bolV,bolS,slcV,AV.isSlD,asrtS,AV.dcells,D.cells?,stcV,stcS,leafOk,eqDs,eqD,packA,D.val?,↓reduceIte,reduceCtorEq,Nat.reduceAdd,Nat.reduceSub,Nat.reduceMul,List.reduceReplicate,Nat.reduceLeDiff,Nat.reduceLT,Nat.reduceBEq,Nat.reduceEqDiff,Int.reduceNeg,Int.reduceEq,Int.reduceLE,Int.reduceLT,tfb,ctz28,O28_11,x28_46,x28_46_m1,eq_self]
  intro k hk
  by_cases hlt : k < s.parts.length
  · have hlt' : (k : Int) < s.parts.length := by omega
    have hck := hp (s.parts.getD k default) (by rw [at_lt hlt]; exact List.getElem_mem _)
    have ht : (s.parts.take k).length = k := by rw [List.length_take]; omega
    have hst := tk_succ (f := setP j q) hlt
    simp (maxSteps := 4000000) +contextual (disch := first | omega | exact qdb_ok (by kernel_rfl) | exact okb_ok (by kernel_rfl)) only [bw1,bw2,bw3,bw4,bw5,bw6,bw7,bc0,bc1,bc2,bc3,bc4,bc5,bc6,bc7,setPs,AV.owns,AV.datF,AV.frz,AV.cpy,ifV,isEqB,nilV,nilX,AV.isNilS,AV.isNoRows,wk,dclo,datOf,binIs,addF,AV.isPtr,idxV,AV.isSl,AV.isSlice,AV.rows,ps,pv,extV,extS,AV.outs,AV.outF,packD,AV.dl,fieldV,fieldS,AV.cells?,AV.upr,AV.menc,AV.one,D.one,Value.oneCell',tagOf,AV.isApp,strV,strS,bolV,bolS,slcV,AV.isSlD,asrtS,AV.dcells,D.cells?,stcV,stcS,leafOk,eqDs,eqD,packA,D.val?,↓reduceIte,reduceCtorEq,Nat.reduceAdd,Nat.reduceSub,Nat.reduceMul,List.reduceReplicate,Nat.reduceLeDiff,Nat.reduceLT,Nat.reduceBEq,Nat.reduceEqDiff,Int.reduceNeg,Int.reduceEq,Int.reduceLE,Int.reduceLT,tfb,ctz28,O28_11,x28_46,x28_46_m1,eq_self, hlt', hck, List.length_map, ht]
    refine ⟨by omega, by omega, by omega, by omega, ?_⟩
    rw [hst, List.map_append]; rfl
  have hlt' : ¬ (k : Int) < s.parts.length := by omega
  obtain rfl : k = s.parts.length := by omega
  simp (maxSteps := 4000000) +contextual (disch := first | omega | exact qdb_ok (by kernel_rfl) | exact okb_ok (by kernel_rfl)) only [bw1,bw2,bw3,bw4,bw5,bw6,bw7,bc0,bc1,bc2,bc3,bc4,bc5,bc6,bc7,setPs,AV.owns,AV.datF,AV.frz,AV.cpy,ifV,isEqB,nilV,nilX,AV.isNilS,AV.isNoRows,wk,dclo,datOf,binIs,addF,AV.isPtr,idxV,AV.isSl,AV.isSlice,AV.rows,ps,pv,extV,extS,AV.outs,AV.outF,packD,AV.dl,fieldV,fieldS,AV.cells?,AV.upr,AV.menc,AV.one,D.one,Value.oneCell',tagOf,AV.isApp,strV,strS,bolV,bolS,slcV,AV.isSlD,asrtS,AV.dcells,D.cells?,stcV,stcS,leafOk,eqDs,eqD,packA,D.val?,↓reduceIte,reduceCtorEq,Nat.reduceAdd,Nat.reduceSub,Nat.reduceMul,List.reduceReplicate,Nat.reduceLeDiff,Nat.reduceLT,Nat.reduceBEq,Nat.reduceEqDiff,Int.reduceNeg,Int.reduceEq,Int.reduceLE,Int.reduceLT,tfb,ctz28,O28_11,x28_46,x28_46_m1,eq_self, hlt', Int.lt_irrefl, List.take_length]
  exact ⟨rfl, rfl, rfl⟩
def ent28 (args : List AV) (K : AV → List AV → Sto → Prop) (e : List AV) (s : Sto) : Prop := ent (α := (Ska) × (Nat) × (Int) × (Int)) (fun aa => [.agg aa.1.c, .i (aa.2.1 : Int), .i aa.2.2.1, .i aa.2.2.2]) (fun aa => (aa.1.calls.length ≤ 1000 ∧ aa.1.parts.length ≤ 1000) ∧ (∀ c ∈ aa.1.calls, aa.2.1 < c.marks.length ∧ c.marks.length ≤ 1000) ∧ ∀ p ∈ aa.1.parts, aa.2.1 < p.length ∧ p.length ≤ 1000) (fun aa => .agg (givR aa.1 aa.2.1 aa.2.2.1 aa.2.2.2).c) args K e s
theorem ent28_ok {args : List AV} {K : AV → List AV → Sto → Prop} {Q : Kt} {e : List AV} {s : Sto} (h : ent28 args K e s) : pcall Try.prog 28 args K Q e s := ent_ok (fun aa h => pf28 aa.1 aa.2.1 aa.2.2.1 aa.2.2.2 h) h
theorem eq28 {s : Ska} {j : Nat} {g : Int} {q : Int} {KK : AV → List AV → Sto → Prop} {ee : List AV} {ss : Sto} : ent28 [.d (.agg s.c), .d (.i (j : Int)), .d (.i g), .d (.i q)] KK ee ss = (((s.calls.length ≤ 1000 ∧ s.parts.length ≤ 1000) ∧ (∀ c ∈ s.calls, j < c.marks.length ∧ c.marks.length ≤ 1000) ∧ ∀ p ∈ s.parts, j < p.length ∧ p.length ≤ 1000) ∧ KK (.d (.agg (givR s j g q).c)) ee ss) := by
  unfold ent28; rw [ent_iff (s, j, g, q) (by intro b h; simpa [Prod.ext_iff, and_assoc, Int.ofNat_inj, ints_inj, cals_inj, pcs_inj, skas_inj, scos_inj, ska_inj, rul_inj, sco_inj, cal_inj, ods_inj, od_inj, spns_inj, Int.ofNat_inj, ints_inj, cals_inj, pcs_inj, skas_inj, scos_inj, ska_inj, rul_inj, sco_inj, cal_inj] using h) rfl]; simp
end Go.Proofs.Ytapglfcaghlpfaa
