/- A part of the proof that the last text ends: what functions of the program do, told by plain data. -/
import Derived.Test.YtapglfcaghlpfaaGreatZUE
import Derived.Test.YtapglfcaghlpfaaGreatZSQ
import Derived.Test.YtapglfcaghlpfaaGreatZVE
import Derived.Test.YtapglfcaghlpfaaGreatEc
set_option linter.unusedVariables false
set_option linter.unusedSimpArgs false
namespace Go.Proofs.YtapglfcaghlpfaaGreat
open Go Go.E Go.Maps
set_option maxRecDepth 100000
set_option maxHeartbeats 16000000
theorem tk_succ {α β : Type} [Inhabited α] {f : α → β} {l : List α} {k : Nat} (hk : k < l.length) : (l.take (k + 1)).map f = (l.take k).map f ++ [f (l.getD k default)] := by
  rw [List.take_succ_eq_append_getElem hk, List.map_append, at_lt hk]; rfl
def O38 : Nat → Sch := fun id => if id = 11 then .one 0 (.one 2 (.one 3 (.one 4 (.one 5 (.one 6 (.one 7 (.one 8 (.alt (.one 1 (.one 9 (.one 10 (.one 11 (.one 12 (.one 13 (.done))))))) (.one 9 (.alt (.one 1 (.one 10 (.one 11 (.one 12 (.one 13 (.done)))))) (.one 10 (.one 1 (.one 11 (.one 12 (.one 13 (.done)))))))))))))))) else .done
theorem O38_11 : O38 11 = .one 0 (.one 2 (.one 3 (.one 4 (.one 5 (.one 6 (.one 7 (.one 8 (.alt (.one 1 (.one 9 (.one 10 (.one 11 (.one 12 (.one 13 (.done))))))) (.one 9 (.alt (.one 1 (.one 10 (.one 11 (.one 12 (.one 13 (.done)))))) (.one 10 (.one 1 (.one 11 (.one 12 (.one 13 (.done)))))))))))))))) := rfl
theorem ho38 : Tryz.f38.body.map (okO O38) = some true := by kernel_rfl
def Cf38 : Nat → List AV → (AV → List AV → Sto → Prop) → Kt → List AV → Sto → Prop := fun f args K Q e s => match f with
  | 63 => ent63 args K e s
  | _ => False
def Ct38 : CT := { f := Cf38, y := noYld, z := fun d => false }
theorem ctz38 {d : Nat} : CT.z Ct38 d = (false) := id rfl
theorem Ct38_ok : Ct38.ok Tryz.prog := ok_of_f (fun f args K Q e s h => by
  have h : Cf38 f args K Q e s := h
  unfold Cf38 at h; split at h
  · exact ent63_ok h
  · exact h.elim) (fun _ _ _ _ _ _ _ _ _ h => h)
theorem x38_63 {l : List Int} {j : Nat} {m : Int} {KK : AV → List AV → Sto → Prop} {QQ : Kt} {ii : At KK} {jj : At QQ} {ee : List AV} {ss : Sto} : xC Ct38 63 [.d (.sl 1 (l.map ic)), .d (.i (j : Int)), .d (.i m)] KK QQ ii jj ee ss = ((j < l.length ∧ l.length ≤ 1000) ∧ KK (.d (.sl 1 ((l.set j m).map ic))) ee ss) := eq63
theorem c38 : callable Tryz.prog 38 = true := by kernel_rfl
theorem pf38 (s : Ska) (j : Nat) (g q : Int) (h : (s.calls.length ≤ 1000 ∧ s.parts.length ≤ 1000) ∧ (∀ c ∈ s.calls, j < c.marks.length ∧ c.marks.length ≤ 1000) ∧ ∀ p ∈ s.parts, j < p.length ∧ p.length ≤ 1000) : PF Tryz.prog 38 [.agg s.c, .i (j : Int), .i g, .i q] (fun zz => zz = .ret (.agg (givR s j g q).c)) := by
  obtain ⟨⟨hl1, hl2⟩, hc, hp⟩ := h
  refine PF_nil (PF_start (O := O38) Ct38_ok hmix ho38 Tryz.func38 c38 rfl Tryz.ntmps38 Tryz.results38 ?_)
  simp (maxSteps := 4000000) +contextual (disch := first | omega | exact qdb_ok (by kernel_rfl) | exact okb_ok (by kernel_rfl)) only [bw1,bw2,bw5,bw6,bc2,bc3,bc4,bc5,bc6,addF,AV.isPtr,ps,pv,AV.dl,AV.cells?,AV.menc,AV.one,D.one,Value.oneCell',↓reduceIte,reduceCtorEq,Nat.reduceAdd,Nat.reduceSub,List.reduceReplicate,Nat.reduceLeDiff,Nat.reduceLT,Nat.reduceBEq,Nat.reduceEqDiff,tfb]
  refine seedS 10 0 39 44 6 _ (by decide) (by decide) rfl rfl (by simp [AV.mens, AV.men]) (by simp [Sto.mens, AV.mens, AV.men]) rfl ?_
  refine loop_u (O := O38) (tb := 0) Ct38_ok hmix (by kernel_rfl) (σ := Nat) (fun k => [(10, .i k)]) (fun k => [(10, [.own 39 44 6 (((s.calls.take k).map (setC j g)).map Cal.c), .d (.v (.slice none 0 0)), .d (.i s.over)])]) (fun k => k ≤ s.calls.length) (fun k => s.calls.length - k) (fun k => k + 1) 0 (by omega) ?_ ?_
  · simp (maxSteps := 4000000) +contextual (disch := first | omega | exact qdb_ok (by kernel_rfl) | exact okb_ok (by kernel_rfl)) only [bw4,bw5,bw6,bc0,bc3,bc4,bc5,bc6,AV.isNilS,AV.isNoRows,wk,↓reduceIte,reduceCtorEq,Nat.reduceEqDiff,eq_self]
  intro k hk
  by_cases hlt : k < s.calls.length
  · have hlt' : (k : Int) < s.calls.length := by omega
    have hck := hc (s.calls.getD k default) (by rw [at_lt hlt]; exact List.getElem_mem _)
    have ht : (s.calls.take k).length = k := by rw [List.length_take]; omega
    have hst := tk_succ (f := setC j g) hlt
    simp (maxSteps := 4000000) +contextual (disch := first | omega | exact qdb_ok (by kernel_rfl) | exact okb_ok (by kernel_rfl)) only [bw1,bw2,bw4,bw5,bw6,bw7,bc0,bc1,bc2,bc3,bc4,bc5,bc6,AV.isNilS,AV.isNoRows,wk,binIs,addF,AV.isPtr,idxV,AV.isSl,AV.isSlice,AV.rows,ps,pv,AV.dl,AV.cells?,AV.menc,AV.one,D.one,Value.oneCell',tagOf,AV.isApp,AV.dcells,D.cells?,↓reduceIte,reduceCtorEq,Nat.reduceAdd,Nat.reduceMul,List.reduceReplicate,Nat.reduceLeDiff,Nat.reduceLT,Nat.reduceBEq,Nat.reduceEqDiff,tfb,ctz38,x38_63,eq_self, hlt', hck, ht]
    refine ⟨by omega, by omega, by omega, by omega, ?_⟩
    rw [hst, List.map_append]; rfl
  have hlt' : ¬ (k : Int) < s.calls.length := by omega
  obtain rfl : k = s.calls.length := by omega
  simp (maxSteps := 4000000) +contextual (disch := first | omega | exact qdb_ok (by kernel_rfl) | exact okb_ok (by kernel_rfl)) only [bw1,bw2,bw4,bw5,bw6,bw7,bc0,bc1,bc2,bc3,bc4,bc5,bc6,binIs,addF,AV.isPtr,AV.isSlice,AV.rows,↓reduceIte,reduceCtorEq,Nat.reduceAdd,Nat.reduceLeDiff,Nat.reduceEqDiff,tfb,eq_self, hlt', List.take_length]
  refine seedS 10 1 59 23 1 _ (by decide) (by decide) rfl rfl (by simp [AV.mens, AV.men]) (by simp [Sto.mens, AV.mens, AV.men]) rfl ?_
  refine loop_u (O := O38) (tb := 0) Ct38_ok hmix (by kernel_rfl) (σ := Nat) (fun k => [(12, .i k)]) (fun k => [(10, [.own 39 44 6 ((s.calls.map (setC j g)).map Cal.c), .own 59 23 1 (((s.parts.take k).map (setP j q)).map pc), .d (.i s.over)])]) (fun k => k ≤ s.parts.length) (fun k => s.parts.length - k) (fun k => k + 1) 0 (by omega) ?_ ?_
  · simp (maxSteps := 4000000) +contextual (disch := first | omega | exact qdb_ok (by kernel_rfl) | exact okb_ok (by kernel_rfl)) only [bw4,bw5,bw6,bc0,bc3,bc4,bc5,bc6,AV.isNilS,AV.isNoRows,wk,↓reduceIte,reduceCtorEq,Nat.reduceEqDiff,eq_self]
  intro k hk
  by_cases hlt : k < s.parts.length
  · have hlt' : (k : Int) < s.parts.length := by omega
    have hck := hp (s.parts.getD k default) (by rw [at_lt hlt]; exact List.getElem_mem _)
    have ht : (s.parts.take k).length = k := by rw [List.length_take]; omega
    have hst := tk_succ (f := setP j q) hlt
    simp (maxSteps := 4000000) +contextual (disch := first | omega | exact qdb_ok (by kernel_rfl) | exact okb_ok (by kernel_rfl)) only [bw1,bw2,bw3,bw4,bw5,bw6,bw7,bc0,bc1,bc2,bc3,bc4,bc5,bc6,AV.isNilS,AV.isNoRows,wk,binIs,addF,AV.isPtr,idxV,AV.isSl,AV.isSlice,AV.rows,ps,pv,AV.cells?,AV.menc,AV.one,D.one,Value.oneCell',tagOf,AV.isApp,AV.dcells,D.cells?,↓reduceIte,reduceCtorEq,Nat.reduceAdd,Nat.reduceMul,List.reduceReplicate,Nat.reduceLeDiff,Nat.reduceLT,Nat.reduceBEq,Nat.reduceEqDiff,tfb,ctz38,O38_11,x38_63,eq_self, hlt', hck, ht]
    refine ⟨by omega, by omega, by omega, by omega, ?_⟩
    rw [hst, List.map_append]; rfl
  have hlt' : ¬ (k : Int) < s.parts.length := by omega
  obtain rfl : k = s.parts.length := by omega
  simp (maxSteps := 4000000) +contextual (disch := first | omega | exact qdb_ok (by kernel_rfl) | exact okb_ok (by kernel_rfl)) only [bw1,bw2,bw3,bw4,bw5,bw6,bw7,bc0,bc1,bc2,bc3,bc4,bc5,bc6,bc7,binIs,addF,AV.isPtr,AV.isSlice,AV.rows,AV.outs,AV.outF,packD,AV.dl,AV.cells?,AV.menc,AV.one,D.one,Value.oneCell',↓reduceIte,reduceCtorEq,Nat.reduceAdd,Nat.reduceLeDiff,Nat.reduceBEq,Nat.reduceEqDiff,tfb,eq_self, hlt', List.take_length]
  exact ⟨rfl, rfl, rfl⟩
def ent38 (args : List AV) (K : AV → List AV → Sto → Prop) (e : List AV) (s : Sto) : Prop := ent (α := (Ska) × (Nat) × (Int) × (Int)) (fun aa => [.agg aa.1.c, .i (aa.2.1 : Int), .i aa.2.2.1, .i aa.2.2.2]) (fun aa => (aa.1.calls.length ≤ 1000 ∧ aa.1.parts.length ≤ 1000) ∧ (∀ c ∈ aa.1.calls, aa.2.1 < c.marks.length ∧ c.marks.length ≤ 1000) ∧ ∀ p ∈ aa.1.parts, aa.2.1 < p.length ∧ p.length ≤ 1000) (fun aa => .agg (givR aa.1 aa.2.1 aa.2.2.1 aa.2.2.2).c) args K e s
theorem ent38_ok {args : List AV} {K : AV → List AV → Sto → Prop} {Q : Kt} {e : List AV} {s : Sto} (h : ent38 args K e s) : pcall Tryz.prog 38 args K Q e s := ent_ok (fun aa h => pf38 aa.1 aa.2.1 aa.2.2.1 aa.2.2.2 h) h
theorem eq38 {s : Ska} {j : Nat} {g : Int} {q : Int} {KK : AV → List AV → Sto → Prop} {ee : List AV} {ss : Sto} : ent38 [.d (.agg s.c), .d (.i (j : Int)), .d (.i g), .d (.i q)] KK ee ss = (((s.calls.length ≤ 1000 ∧ s.parts.length ≤ 1000) ∧ (∀ c ∈ s.calls, j < c.marks.length ∧ c.marks.length ≤ 1000) ∧ ∀ p ∈ s.parts, j < p.length ∧ p.length ≤ 1000) ∧ KK (.d (.agg (givR s j g q).c)) ee ss) := by
  unfold ent38; rw [ent_iff (s, j, g, q) (by intro b h; simpa [Prod.ext_iff, and_assoc, Int.ofNat_inj, ints_inj, cals_inj, pcs_inj, skas_inj, scos_inj, ska_inj, rul_inj, sco_inj, cal_inj, ods_inj, od_inj, spns_inj, Int.ofNat_inj, ints_inj, cals_inj, pcs_inj, skas_inj, scos_inj, ska_inj, rul_inj, sco_inj, cal_inj] using h) rfl]; simp
end Go.Proofs.YtapglfcaghlpfaaGreat
