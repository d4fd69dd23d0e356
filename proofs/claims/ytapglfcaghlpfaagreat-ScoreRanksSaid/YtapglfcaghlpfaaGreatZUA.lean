/- A part of the proof that the last text ends: what functions of the program do, told by plain data. -/
import Derived.Test.YtapglfcaghlpfaaGreatZSZ
import Derived.Test.YtapglfcaghlpfaaGreatEc
set_option linter.unusedVariables false
set_option linter.unusedSimpArgs false
namespace Go.Proofs.YtapglfcaghlpfaaGreat
open Go Go.E Go.Maps
set_option maxRecDepth 100000
set_option maxHeartbeats 16000000
def O55 : Nat → Sch := fun id => .done
theorem ho55 : Tryz.f55.body.map (okO O55) = some true := by kernel_rfl
def Cf55 : Nat → List AV → (AV → List AV → Sto → Prop) → Kt → List AV → Sto → Prop := fun f args K Q e s => match f with
  | _ => False
def Ct55 : CT := { f := Cf55, y := noYld, z := fun d => false }
theorem ctz55 {d : Nat} : CT.z Ct55 d = (false) := id rfl
theorem Ct55_ok : Ct55.ok Tryz.prog := ok_of_f (fun f args K Q e s h => by
  have h : Cf55 f args K Q e s := h
  unfold Cf55 at h; split at h
  · exact h.elim) (fun _ _ _ _ _ _ _ _ _ h => h)
theorem c55 : callable Tryz.prog 55 = true := by kernel_rfl
theorem pf55 (l : List Int) (h : l.length ≤ 1000000) : PFo Tryz.prog 55 3 1 [.sl 1 (l.map ic)] (fun zz => zz = (l.map ic)) := by
  refine PFo_start (O := O55) Ct55_ok hmix ho55 Tryz.func55 c55 rfl Tryz.ntmps55 Tryz.results55 ?_
  simp (maxSteps := 4000000) +contextual (disch := first | omega | exact qdb_ok (by kernel_rfl) | exact okb_ok (by kernel_rfl)) only [bw1,bw2,bw3,bw4,bw5,bw6,isEqB,AV.isSl,AV.rows,resAll,resV,resS,Sto.get,Sto.kill,AV.kill,AV.men,D.one,Value.oneCell',tagOf,AV.isApp,bsV,bsS,beq_self_eq_true,Bool.false_eq_true,↓reduceIte,reduceCtorEq,List.map_cons,List.map_nil,List.nil_append,List.cons_append,List.length_cons,List.length_nil,true_and,and_true,and_self,implies_true,Nat.reduceAdd,Nat.reduceSub,Nat.reduceMul,List.reduceReplicate,List.replicate_zero,List.toList_toArray,Nat.zero_add,Nat.reduceLeDiff,ne_eq,not_false_eq_true,List.all_cons,List.all_nil,Bool.and_self,tfb,p_bnsl,nl_sl,nlR_e,ro_r,ox_1,or_own,or_nil,ctz55]
  omega
def ent55 (args : List AV) (K : AV → List AV → Sto → Prop) (e : List AV) (s : Sto) : Prop := ento (α := (List Int)) 55006 3 1 (fun aa => [.sl 1 (aa.map ic)]) (fun aa => aa.length ≤ 1000000) (fun aa => (aa.map ic)) args K e s
theorem ent55_ok {args : List AV} {K : AV → List AV → Sto → Prop} {Q : Kt} {e : List AV} {s : Sto} (h : ent55 args K e s) : pcall Tryz.prog 55 args K Q e s := ento_ok (by decide) (fun aa h => pf55 aa h) h
theorem eq55 {l : List Int} {KK : AV → List AV → Sto → Prop} {ee : List AV} {ss : Sto} : ent55 [.d (.sl 1 (l.map ic))] KK ee ss = ((l.length ≤ 1000000) ∧ KK (.own 55006 3 1 (l.map ic)) (ee.map (AV.kill 55006)) (ss.kill 55006)) := by
  unfold ent55
  exact Eq.trans (ento_iff l (by intro b h; simpa [Prod.ext_iff, and_assoc, Int.ofNat_inj, ints_inj, cals_inj, pcs_inj, skas_inj, scos_inj, ska_inj, rul_inj, sco_inj, cal_inj, ods_inj, od_inj] using h) rfl) (by simp)
def O56 : Nat → Sch := fun id => .done
theorem ho56 : Tryz.f56.body.map (okO O56) = some true := by kernel_rfl
def Cf56 : Nat → List AV → (AV → List AV → Sto → Prop) → Kt → List AV → Sto → Prop := fun f args K Q e s => match f with
  | _ => False
def Ct56 : CT := { f := Cf56, y := noYld, z := fun d => false }
theorem ctz56 {d : Nat} : CT.z Ct56 d = (false) := id rfl
theorem Ct56_ok : Ct56.ok Tryz.prog := ok_of_f (fun f args K Q e s h => by
  have h : Cf56 f args K Q e s := h
  unfold Cf56 at h; split at h
  · exact h.elim) (fun _ _ _ _ _ _ _ _ _ h => h)
theorem c56 : callable Tryz.prog 56 = true := by kernel_rfl
theorem pf56 (l : List Cal) (h : l.length ≤ 1000000) : PFo Tryz.prog 56 44 6 [.sl 6 (l.map Cal.c)] (fun zz => zz = (l.map Cal.c)) := by
  refine PFo_start (O := O56) Ct56_ok hmix ho56 Tryz.func56 c56 rfl Tryz.ntmps56 Tryz.results56 ?_
  simp (maxSteps := 4000000) +contextual (disch := first | omega | exact qdb_ok (by kernel_rfl) | exact okb_ok (by kernel_rfl)) only [bw1,bw2,bw3,bw4,bw5,bw6,isEqB,AV.isSl,AV.rows,resAll,resV,resS,Sto.get,Sto.kill,AV.kill,AV.men,D.one,Value.oneCell',tagOf,AV.isApp,bsV,bsS,beq_self_eq_true,Bool.false_eq_true,↓reduceIte,reduceCtorEq,List.map_cons,List.map_nil,List.nil_append,List.cons_append,List.length_cons,List.length_nil,true_and,and_true,and_self,implies_true,Nat.reduceAdd,Nat.reduceSub,Nat.reduceMul,List.reduceReplicate,List.replicate_zero,List.toList_toArray,Nat.zero_add,Nat.reduceLeDiff,ne_eq,not_false_eq_true,List.all_cons,List.all_nil,Bool.and_self,tfb,p_bnsl,nl_sl,nlR_e,ro_r,ox_1,or_own,or_nil,ctz56]
  omega
def ent56 (args : List AV) (K : AV → List AV → Sto → Prop) (e : List AV) (s : Sto) : Prop := ento (α := (List Cal)) 56006 44 6 (fun aa => [.sl 6 (aa.map Cal.c)]) (fun aa => aa.length ≤ 1000000) (fun aa => (aa.map Cal.c)) args K e s
theorem ent56_ok {args : List AV} {K : AV → List AV → Sto → Prop} {Q : Kt} {e : List AV} {s : Sto} (h : ent56 args K e s) : pcall Tryz.prog 56 args K Q e s := ento_ok (by decide) (fun aa h => pf56 aa h) h
theorem eq56 {l : List Cal} {KK : AV → List AV → Sto → Prop} {ee : List AV} {ss : Sto} : ent56 [.d (.sl 6 (l.map Cal.c))] KK ee ss = ((l.length ≤ 1000000) ∧ KK (.own 56006 44 6 (l.map Cal.c)) (ee.map (AV.kill 56006)) (ss.kill 56006)) := by
  unfold ent56
  exact Eq.trans (ento_iff l (by intro b h; simpa [Prod.ext_iff, and_assoc, Int.ofNat_inj, ints_inj, cals_inj, pcs_inj, skas_inj, scos_inj, ska_inj, rul_inj, sco_inj, cal_inj, ods_inj, od_inj] using h) rfl) (by simp)
def O57 : Nat → Sch := fun id => .done
theorem ho57 : Tryz.f57.body.map (okO O57) = some true := by kernel_rfl
def Cf57 : Nat → List AV → (AV → List AV → Sto → Prop) → Kt → List AV → Sto → Prop := fun f args K Q e s => match f with
  | _ => False
def Ct57 : CT := { f := Cf57, y := noYld, z := fun d => false }
theorem ctz57 {d : Nat} : CT.z Ct57 d = (false) := id rfl
theorem Ct57_ok : Ct57.ok Tryz.prog := ok_of_f (fun f args K Q e s h => by
  have h : Cf57 f args K Q e s := h
  unfold Cf57 at h; split at h
  · exact h.elim) (fun _ _ _ _ _ _ _ _ _ h => h)
theorem c57 : callable Tryz.prog 57 = true := by kernel_rfl
theorem pf57 (l : List (List Int)) (h : l.length ≤ 1000000) : PFo Tryz.prog 57 23 1 [.sl 1 (l.map pc)] (fun zz => zz = (l.map pc)) := by
  refine PFo_start (O := O57) Ct57_ok hmix ho57 Tryz.func57 c57 rfl Tryz.ntmps57 Tryz.results57 ?_
  simp (maxSteps := 4000000) +contextual (disch := first | omega | exact qdb_ok (by kernel_rfl) | exact okb_ok (by kernel_rfl)) only [bw1,bw2,bw3,bw4,bw5,bw6,isEqB,AV.isSl,AV.rows,resAll,resV,resS,Sto.get,Sto.kill,AV.kill,AV.men,D.one,Value.oneCell',tagOf,AV.isApp,bsV,bsS,beq_self_eq_true,Bool.false_eq_true,↓reduceIte,reduceCtorEq,List.map_cons,List.map_nil,List.nil_append,List.cons_append,List.length_cons,List.length_nil,true_and,and_true,and_self,implies_true,Nat.reduceAdd,Nat.reduceSub,Nat.reduceMul,List.reduceReplicate,List.replicate_zero,List.toList_toArray,Nat.zero_add,Nat.reduceLeDiff,ne_eq,not_false_eq_true,List.all_cons,List.all_nil,Bool.and_self,tfb,p_bnsl,nl_sl,nlR_e,ro_r,ox_1,or_own,or_nil,ctz57]
  omega
theorem fl_ic {l : List Int} : rowsFlat (l.map ic) = true := rowsFlat_map fun _ => rfl
def ent57 (args : List AV) (K : AV → List AV → Sto → Prop) (e : List AV) (s : Sto) : Prop := ento (α := (List (List Int))) 57006 23 1 (fun aa => [.sl 1 (aa.map pc)]) (fun aa => aa.length ≤ 1000000) (fun aa => (aa.map pc)) args K e s
theorem ent57_ok {args : List AV} {K : AV → List AV → Sto → Prop} {Q : Kt} {e : List AV} {s : Sto} (h : ent57 args K e s) : pcall Tryz.prog 57 args K Q e s := ento_ok (by decide) (fun aa h => pf57 aa h) h
theorem eq57 {l : List (List Int)} {KK : AV → List AV → Sto → Prop} {ee : List AV} {ss : Sto} : ent57 [.d (.sl 1 (l.map pc))] KK ee ss = ((l.length ≤ 1000000) ∧ KK (.own 57006 23 1 (l.map pc)) (ee.map (AV.kill 57006)) (ss.kill 57006)) := by
  unfold ent57
  exact Eq.trans (ento_iff l (by intro b h; simpa [Prod.ext_iff, and_assoc, Int.ofNat_inj, ints_inj, cals_inj, pcs_inj, skas_inj, scos_inj, ska_inj, rul_inj, sco_inj, cal_inj, ods_inj, od_inj] using h) rfl) (by simp)
def O54 : Nat → Sch := fun id => .done
theorem ho54 : Tryz.f54.body.map (okO O54) = some true := by kernel_rfl
def Cf54 : Nat → List AV → (AV → List AV → Sto → Prop) → Kt → List AV → Sto → Prop := fun f args K Q e s => match f with
  | 55 => ent55 args K e s
  | _ => False
def Ct54 : CT := { f := Cf54, y := noYld, z := fun d => false }
theorem Ct54_ok : Ct54.ok Tryz.prog := ok_of_f (fun f args K Q e s h => by
  have h : Cf54 f args K Q e s := h
  unfold Cf54 at h; split at h
  · exact ent55_ok h
  · exact h.elim) (fun _ _ _ _ _ _ _ _ _ h => h)
theorem x54_55 {l : List Int} {KK : AV → List AV → Sto → Prop} {QQ : Kt} {ii : At KK} {jj : At QQ} {ee : List AV} {ss : Sto} : xC Ct54 55 [.d (.sl 1 (l.map ic))] KK QQ ii jj ee ss = ((l.length ≤ 1000000) ∧ KK (.own 55006 3 1 (l.map ic)) (ee.map (AV.kill 55006)) (ss.kill 55006)) := eq55
theorem c54 : callable Tryz.prog 54 = true := by kernel_rfl
theorem pf54 (l : List Int) (m : Int) (j : Nat) (h : j < l.length ∧ l.length ≤ 1000) : PFn Tryz.prog 54 [.sl 1 (l.map ic), .i m, .ptr [.i (j : Int)] 0] (fun zz => zz = .ret (.sl 1 ((l.set j m).map ic))) := by
  obtain ⟨h1, h2⟩ := h
  have h1' : (j : Int) < l.length := by omega
  have h2' : l.length ≤ 1000000 := by omega
  have hs : (l.map ic).set j [D.v (Value.int .i64 m)] = (l.set j m).map ic := by rw [List.map_set]
  refine PFn_nil (PFn_start (O := O54) Ct54_ok hmix ho54 Tryz.func54 c54 rfl Tryz.ntmps54 Tryz.results54 ?_)
  simp (maxSteps := 4000000) +contextual (disch := first | omega | exact qdb_ok (by kernel_rfl) | exact okb_ok (by kernel_rfl)) only [bw1,bw2,bw3,bw4,bw5,bw6,idxV,AV.isSl,AV.rows,loadV,loadS,D.part,ps,pv,resAll,resV,resS,outL,packD,AV.upr,Sto.upr,setR,Sto.get,Sto.kill,AV.kill,AV.men,AV.menc,D.one,Value.oneCell',AV.dcells,D.cells?,Bool.false_eq_true,↓reduceIte,reduceCtorEq,List.map_cons,List.map_nil,List.nil_append,List.cons_append,List.length_cons,List.length_nil,true_and,and_true,and_self,Nat.reduceAdd,Nat.reduceSub,List.reduceReplicate,List.toList_toArray,Nat.zero_add,Nat.reduceLeDiff,ne_eq,not_false_eq_true,List.all_cons,List.all_nil,Bool.and_self,tfb,n_retr,AV.outN,fl_ic,x54_55,h1', h2', hs]
  and_intros <;> first | omega | rfl
def ent54 (o : Option (List D)) (K : AV → List AV → Sto → Prop) (i : At K) (e : List AV) (s : Sto) : Prop := entSn (α := (List Int) × (Int) × (Nat)) (fun aa => [.sl 1 (aa.1.map ic), .i aa.2.1, .ptr [.i (aa.2.2 : Int)] 0]) (fun aa => aa.2.2 < aa.1.length ∧ aa.1.length ≤ 1000) (fun aa => .sl 1 ((aa.1.set aa.2.2 aa.2.1).map ic)) o K i e s
theorem ent54_ok {args : List AV} {K : AV → List AV → Sto → Prop} {Q : Kt} {e : List AV} {s : Sto} (h : ent54 (AV.outs s args) K (mk _) e s) : pcall Tryz.prog 54 args K Q e s := entSn_ok (fun aa h => pf54 aa.1 aa.2.1 aa.2.2 h) h
theorem eq54 {l : List Int} {m : Int} {j : Nat} {KK : AV → List AV → Sto → Prop} {ii : At KK} {ee : List AV} {ss : Sto} : ent54 (some [.sl 1 (l.map ic), .i m, .ptr [.i (j : Int)] 0]) KK ii ee ss = ((j < l.length ∧ l.length ≤ 1000) ∧ KK (.d (.sl 1 ((l.set j m).map ic))) ee ss) := by
  unfold ent54; rw [entSn_iff (l, m, j) (by intro b h; simpa [Prod.ext_iff, and_assoc, Int.ofNat_inj, ints_inj, cals_inj, pcs_inj, skas_inj, scos_inj, ska_inj, rul_inj, sco_inj, cal_inj, ods_inj, od_inj] using h)] <;> simp
def gF {α : Type} (f : α → α) (l : List α) (k : Nat) : List α := (l.take k).map f ++ l.drop k
section
variable {α : Type} [Inhabited α] {f : α → α} {l : List α} {k : Nat}
omit [Inhabited α] in
theorem gF_zero : gF f l 0 = l := rfl
omit [Inhabited α] in
theorem gF_len : (gF f l k).length = l.length := by simp [gF]; omega
omit [Inhabited α] in
theorem gF_all : gF f l l.length = l.map f := by simp [gF]
theorem gF_at (h : k < l.length) : (gF f l k).getD k default = l.getD k default := by
  have : ((l.take k).map f).length = k := by simp; omega
  unfold gF
  rw [List.getD_eq_getElem?_getD, List.getElem?_append_right (by omega), this, Nat.sub_self, List.getElem?_drop, Nat.add_zero, List.getD_eq_getElem?_getD]
theorem gF_set (h : k < l.length) : (gF f l k).set k (f (l.getD k default)) = gF f l (k + 1) := by
  have h1 : ((l.take k).map f).length = k := by simp; omega
  unfold gF
  rw [List.set_append_right _ _ (by omega), h1, Nat.sub_self, List.drop_eq_getElem_cons h, List.set_cons_zero, List.take_succ_eq_append_getElem h, List.map_append, List.append_assoc, at_lt h]
  rfl
end
def setC (j : Nat) (g : Int) (c : Cal) : Cal := { c with marks := c.marks.set j g }
def setP (j : Nat) (q : Int) (p : List Int) : List Int := p.set j q
def givR (s : Ska) (j : Nat) (g q : Int) : Ska := ⟨s.calls.map (setC j g), s.parts.map (setP j q), s.over⟩
def O34 : Nat → Sch := fun id => if id = 2 then .one 0 (.one 1 (.one 3 (.alt (.one 2 (.one 4 (.one 6 (.one 5 (.one 7 (.one 8 (.one 9 (.done)))))))) (.one 4 (.one 2 (.one 6 (.one 5 (.one 7 (.one 8 (.one 9 (.done))))))))))) else if id = 6 then .one 0 (.one 2 (.one 3 (.one 4 (.one 5 (.one 6 (.one 7 (.one 8 (.one 9 (.one 10 (.alt (.one 1 (.one 11 (.one 12 (.one 13 (.one 14 (.done)))))) (.one 11 (.one 1 (.one 12 (.one 13 (.one 14 (.done)))))))))))))))) else if id = 11 then .one 0 (.one 2 (.one 3 (.one 4 (.one 5 (.one 6 (.one 7 (.one 8 (.one 9 (.alt (.one 1 (.one 10 (.one 11 (.one 12 (.done))))) (.one 10 (.one 1 (.one 11 (.one 12 (.done)))))))))))))) else .done
theorem O34_2 : O34 2 = .one 0 (.one 1 (.one 3 (.alt (.one 2 (.one 4 (.one 6 (.one 5 (.one 7 (.one 8 (.one 9 (.done)))))))) (.one 4 (.one 2 (.one 6 (.one 5 (.one 7 (.one 8 (.one 9 (.done))))))))))) := rfl
theorem O34_6 : O34 6 = .one 0 (.one 2 (.one 3 (.one 4 (.one 5 (.one 6 (.one 7 (.one 8 (.one 9 (.one 10 (.alt (.one 1 (.one 11 (.one 12 (.one 13 (.one 14 (.done)))))) (.one 11 (.one 1 (.one 12 (.one 13 (.one 14 (.done)))))))))))))))) := rfl
theorem O34_11 : O34 11 = .one 0 (.one 2 (.one 3 (.one 4 (.one 5 (.one 6 (.one 7 (.one 8 (.one 9 (.alt (.one 1 (.one 10 (.one 11 (.one 12 (.done))))) (.one 10 (.one 1 (.one 11 (.one 12 (.done)))))))))))))) := rfl
theorem ho34 : Tryz.f34.body.map (okO O34) = some true := by kernel_rfl
def Cf34 : Nat → List AV → (AV → List AV → Sto → Prop) → Kt → List AV → Sto → Prop := fun f args K Q e s => match f with
  | 54 => ent54 (AV.outs s args) K (mk _) e s
  | 56 => ent56 args K e s
  | 57 => ent57 args K e s
  | _ => False
def Ct34 : CT := { f := Cf34, y := noYld, z := fun d => false }
theorem Ct34_ok : Ct34.ok Tryz.prog := ok_of_f (fun f args K Q e s h => by
  have h : Cf34 f args K Q e s := h
  unfold Cf34 at h; split at h
  · exact ent54_ok h
  · exact ent56_ok h
  · exact ent57_ok h
  · exact h.elim) (fun _ _ _ _ _ _ _ _ _ h => h)
theorem x34_54 {args : List AV} {KK : AV → List AV → Sto → Prop} {QQ : Kt} {ii : At KK} {jj : At QQ} {ee : List AV} {ss : Sto} : xC Ct34 54 args KK QQ ii jj ee ss = ent54 (AV.outs ss args) KK (mk _) ee ss := id rfl
theorem x34_56 {l : List Cal} {KK : AV → List AV → Sto → Prop} {QQ : Kt} {ii : At KK} {jj : At QQ} {ee : List AV} {ss : Sto} : xC Ct34 56 [.d (.sl 6 (l.map Cal.c))] KK QQ ii jj ee ss = ((l.length ≤ 1000000) ∧ KK (.own 56006 44 6 (l.map Cal.c)) (ee.map (AV.kill 56006)) (ss.kill 56006)) := eq56
theorem x34_57 {l : List (List Int)} {KK : AV → List AV → Sto → Prop} {QQ : Kt} {ii : At KK} {jj : At QQ} {ee : List AV} {ss : Sto} : xC Ct34 57 [.d (.sl 1 (l.map pc))] KK QQ ii jj ee ss = ((l.length ≤ 1000000) ∧ KK (.own 57006 23 1 (l.map pc)) (ee.map (AV.kill 57006)) (ss.kill 57006)) := eq57
theorem c34 : callable Tryz.prog 34 = true := by kernel_rfl
theorem pf34 (s : Ska) (j : Nat) (g q : Int) (h : (s.calls.length ≤ 1000 ∧ s.parts.length ≤ 1000) ∧ (∀ c ∈ s.calls, j < c.marks.length ∧ c.marks.length ≤ 1000) ∧ ∀ p ∈ s.parts, j < p.length ∧ p.length ≤ 1000) : PF Tryz.prog 34 [.agg s.c, .i (j : Int), .i g, .i q] (fun zz => zz = .ret (.agg (givR s j g q).c)) := by
  obtain ⟨⟨hl1, hl2⟩, hc, hp⟩ := h
  have hl1' : s.calls.length ≤ 1000000 := by omega
  have hl2' : s.parts.length ≤ 1000000 := by omega
  refine PF_nil (PF_start (O := O34) Ct34_ok hmix ho34 Tryz.func34 c34 rfl Tryz.ntmps34 Tryz.results34 ?_)
  simp (maxSteps := 4000000) +contextual (disch := first | omega | exact qdb_ok (by kernel_rfl) | exact okb_ok (by kernel_rfl)) only [bw1,bw2,bw3,bw4,bw5,bw6,cloV,addF,AV.isPtr,AV.isSlice,AV.rows,loadV,loadS,AV.part,AV.dl,AV.cells?,setR,Sto.get,Sto.ins,Sto.kill,Sto.upd,AV.kill,AV.men,AV.mens,AV.mencs,AV.menc,Sto.mencs,AV.one,Value.oneCell',Bool.false_eq_true,↓reduceIte,reduceCtorEq,List.map_cons,List.map_nil,List.nil_append,List.cons_append,List.length_cons,List.length_nil,Option.getD_some,Option.isSome_some,true_and,and_self,Nat.reduceAdd,Nat.reduceSub,List.reduceReplicate,List.toList_toArray,Nat.zero_add,Nat.add_zero,Nat.reduceLeDiff,Nat.reduceLT,Nat.reduceBEq,Nat.reduceEqDiff,ne_eq,not_false_eq_true,List.all_cons,List.all_nil,Bool.and_self,List.not_mem_nil,Bool.or_self,tfb,O34_2,x34_56,x34_57,hl1', hl2']
  have hfp0 : ∀ k, (gF (setC j g) s.calls k).length = s.calls.length := fun k => gF_len
  refine loop_u (O := O34) (tb := 0) Ct34_ok hmix (by kernel_rfl) (σ := Nat) (fun k => [(15, .any), (22, .any), (10, .any), (24, .i k)]) (fun k => [(5, [.own 56006 44 6 ((gF (setC j g) s.calls k).map Cal.c), .own 57006 23 1 (s.parts.map pc), .d (.i s.over)])]) (fun k => k ≤ s.calls.length) (fun k => s.calls.length - k) (fun k => k + 1) 0 (by omega) ?_ ?_
  · simp (maxSteps := 4000000) +contextual (disch := first | omega | exact qdb_ok (by kernel_rfl) | exact okb_ok (by kernel_rfl)) only [bw4,bw5,bw6,updAll,AV.isNilS,AV.isNoRows,setAll,wk,wkG,Sto.get,Sto.upd,↓reduceIte,reduceCtorEq,and_self,Nat.reduceEqDiff,and_false,false_and,or_true,or_false,eq_self, gF_zero]
  intro k hk
  by_cases hlt : k < s.calls.length
  · have hlt' : (k : Int) < s.calls.length := by omega
    have hl := hfp0 k
    have hck := hc (s.calls.getD k default) (by rw [at_lt hlt]; exact List.getElem_mem _)
    have r1 : ((gF (setC j g) s.calls k).map Cal.c).getD k [] = Cal.c (s.calls.getD k default) := by rw [row_at (by omega), gF_at hlt]
    have hst : ((gF (setC j g) s.calls k).map Cal.c).set k ((Cal.c (s.calls.getD k default)).set 5 (.sl 1 (((s.calls.getD k default).marks.set j g).map ic))) = (gF (setC j g) s.calls (k + 1)).map Cal.c := by
      rw [← gF_set hlt]
      exact (List.map_set (f := Cal.c) (l := gF (setC j g) s.calls k) (i := k) (a := setC j g (s.calls.getD k default))).symm
    simp (maxSteps := 4000000) +contextual (disch := first | omega | exact qdb_ok (by kernel_rfl) | exact okb_ok (by kernel_rfl)) only [bw1,bw2,bw3,bw4,bw5,bw6,bw7,updAll,AV.isNilS,AV.isNoRows,setAll,wk,wkG,AV.own.injEq,binV,binS,binI,binIs,addF,AV.isPtr,idxV,AV.isSl,AV.rows,loadV,loadS,D.part,AV.part,ps,pv,AV.outs,outL,AV.outF,AV.upr,Sto.upr,setR,Sto.get,Sto.upd,AV.mencs,AV.menc,AV.one,D.one,Value.oneCell',AV.dcells,D.cells?,Bool.false_eq_true,↓reduceIte,reduceCtorEq,List.map_cons,List.map_nil,List.nil_append,List.cons_append,List.length_cons,List.length_nil,Option.getD_some,Option.isSome_some,Option.map_some,true_and,and_true,and_self,Nat.reduceAdd,Nat.zero_add,Nat.add_zero,Nat.reduceLeDiff,Nat.reduceEqDiff,ne_eq,not_false_eq_true,List.all_cons,List.all_nil,Bool.and_self,List.not_mem_nil,and_false,false_and,or_true,or_false,false_or,Bool.or_self,decide_true,tfb,O34_6,x34_54,eq54,eq_self, hlt', hl, r1, hck]
    exact ⟨by omega, by omega, by omega, hst⟩
  have hlt' : ¬ (k : Int) < s.calls.length := by omega
  obtain rfl : k = s.calls.length := by omega
  simp (maxSteps := 4000000) +contextual (disch := first | omega | exact qdb_ok (by kernel_rfl) | exact okb_ok (by kernel_rfl)) only [bw1,bw2,bw4,bw5,bw6,bw7,updAll,setAll,binV,binS,binI,binIs,addF,AV.isPtr,AV.isSlice,AV.rows,loadV,loadS,AV.part,Sto.get,Sto.upd,Bool.false_eq_true,↓reduceIte,reduceCtorEq,List.length_cons,List.length_nil,Option.getD_some,Option.isSome_some,true_and,and_self,Nat.reduceAdd,Nat.zero_add,Nat.reduceLeDiff,ne_eq,not_false_eq_true,List.not_mem_nil,decide_false,tfb,eq_self, hlt', gF_all]
  have hfq0 : ∀ k, (gF (setP j q) s.parts k).length = s.parts.length := fun k => gF_len
  refine loop_u (O := O34) (tb := 0) Ct34_ok hmix (by kernel_rfl) (σ := Nat) (fun k => [(18, .any), (43, .any), (11, .any), (45, .i k)]) (fun k => [(5, [.own 56006 44 6 ((s.calls.map (setC j g)).map Cal.c), .own 57006 23 1 ((gF (setP j q) s.parts k).map pc), .d (.i s.over)])]) (fun k => k ≤ s.parts.length) (fun k => s.parts.length - k) (fun k => k + 1) 0 (by omega) ?_ ?_
  · simp (maxSteps := 4000000) +contextual (disch := first | omega | exact qdb_ok (by kernel_rfl) | exact okb_ok (by kernel_rfl)) only [bw4,bw5,bw6,updAll,AV.isNilS,AV.isNoRows,setAll,wk,wkG,Sto.get,Sto.upd,↓reduceIte,reduceCtorEq,and_self,Nat.reduceEqDiff,and_false,false_and,or_true,or_false,eq_self, gF_zero]
  intro k hk
  by_cases hlt : k < s.parts.length
  · have hlt' : (k : Int) < s.parts.length := by omega
    have hl := hfq0 k
    have hpk := hp (s.parts.getD k default) (by rw [at_lt hlt]; exact List.getElem_mem _)
    have r1 : ((gF (setP j q) s.parts k).map pc).getD k [] = pc (s.parts.getD k default) := by rw [row_at (by omega), gF_at hlt]
    have hst : ((gF (setP j q) s.parts k).map pc).set k [.sl 1 (((s.parts.getD k default).set j q).map ic)] = (gF (setP j q) s.parts (k + 1)).map pc := by
      rw [← gF_set hlt]; exact List.map_set.symm
    simp (maxSteps := 4000000) +contextual (disch := first | omega | exact qdb_ok (by kernel_rfl) | exact okb_ok (by kernel_rfl)) only [bw1,bw2,bw3,bw4,bw5,bw6,bw7,updAll,AV.isNilS,AV.isNoRows,setAll,wk,wkG,binV,binS,binI,binIs,addF,AV.isPtr,idxV,AV.isSl,AV.rows,loadV,loadS,D.part,AV.part,ps,pv,AV.outs,outL,AV.outF,AV.upr,Sto.upr,setR,Sto.get,Sto.upd,AV.mencs,AV.menc,AV.one,D.one,Value.oneCell',AV.dcells,D.cells?,Bool.false_eq_true,↓reduceIte,reduceCtorEq,List.map_cons,List.map_nil,List.nil_append,List.cons_append,List.length_cons,List.length_nil,Option.getD_some,Option.isSome_some,Option.map_some,true_and,and_true,and_self,Nat.reduceAdd,Nat.zero_add,Nat.reduceLeDiff,Nat.reduceEqDiff,ne_eq,not_false_eq_true,List.all_cons,List.all_nil,Bool.and_self,List.not_mem_nil,and_false,false_and,or_true,or_false,Bool.or_self,decide_true,tfb,O34_11,x34_54,eq54,eq_self, hlt', hl, r1, hst, hpk]
    and_intros <;> omega
  have hlt' : ¬ (k : Int) < s.parts.length := by omega
  obtain rfl : k = s.parts.length := by omega
  simp (maxSteps := 4000000) +contextual (disch := first | omega | exact qdb_ok (by kernel_rfl) | exact okb_ok (by kernel_rfl)) only [bw1,bw2,bw3,bw5,bw6,bw7,updAll,setAll,binV,binS,binI,binIs,loadV,loadS,AV.part,resAll,resV,resS,AV.outs,outL,AV.outF,packD,AV.mkAgg,AV.dl,AV.cells?,setR,Sto.get,Sto.upd,AV.mencs,AV.menc,Sto.mencs,AV.one,D.one,Value.oneCell',Bool.false_eq_true,↓reduceIte,reduceCtorEq,List.map_cons,List.map_nil,List.length_cons,List.length_nil,Option.map_some,true_and,and_true,and_self,Nat.reduceAdd,Nat.zero_add,List.drop_zero,List.take_succ_cons,List.take_nil,Nat.reduceLeDiff,Nat.reduceBEq,Nat.reduceEqDiff,ne_eq,not_false_eq_true,List.all_cons,List.all_nil,Bool.and_self,List.not_mem_nil,Bool.or_self,decide_false,Value.int.injEq,tfb,eq_self, hlt', gF_all]
  exact ⟨rfl, rfl, rfl⟩
def ent34 (args : List AV) (K : AV → List AV → Sto → Prop) (e : List AV) (s : Sto) : Prop := ent (α := (Ska) × (Nat) × (Int) × (Int)) (fun aa => [.agg aa.1.c, .i (aa.2.1 : Int), .i aa.2.2.1, .i aa.2.2.2]) (fun aa => (aa.1.calls.length ≤ 1000 ∧ aa.1.parts.length ≤ 1000) ∧ (∀ c ∈ aa.1.calls, aa.2.1 < c.marks.length ∧ c.marks.length ≤ 1000) ∧ ∀ p ∈ aa.1.parts, aa.2.1 < p.length ∧ p.length ≤ 1000) (fun aa => .agg (givR aa.1 aa.2.1 aa.2.2.1 aa.2.2.2).c) args K e s
theorem ent34_ok {args : List AV} {K : AV → List AV → Sto → Prop} {Q : Kt} {e : List AV} {s : Sto} (h : ent34 args K e s) : pcall Tryz.prog 34 args K Q e s := ent_ok (fun aa h => pf34 aa.1 aa.2.1 aa.2.2.1 aa.2.2.2 h) h
theorem eq34 {s : Ska} {j : Nat} {g : Int} {q : Int} {KK : AV → List AV → Sto → Prop} {ee : List AV} {ss : Sto} : ent34 [.d (.agg s.c), .d (.i (j : Int)), .d (.i g), .d (.i q)] KK ee ss = (((s.calls.length ≤ 1000 ∧ s.parts.length ≤ 1000) ∧ (∀ c ∈ s.calls, j < c.marks.length ∧ c.marks.length ≤ 1000) ∧ ∀ p ∈ s.parts, j < p.length ∧ p.length ≤ 1000) ∧ KK (.d (.agg (givR s j g q).c)) ee ss) := by
  unfold ent34; rw [ent_iff (s, j, g, q) (by intro b h; simpa [Prod.ext_iff, and_assoc, Int.ofNat_inj, ints_inj, cals_inj, pcs_inj, skas_inj, scos_inj, ska_inj, rul_inj, sco_inj, cal_inj, ods_inj, od_inj] using h) rfl]; simp
end Go.Proofs.YtapglfcaghlpfaaGreat
