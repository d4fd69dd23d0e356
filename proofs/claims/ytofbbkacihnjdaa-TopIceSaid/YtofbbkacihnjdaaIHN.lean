/- A part of the proof that the last text ends: what functions of the program do, told by plain data. -/
import Derived.Test.YtofbbkacihnjdaaIHM
set_option linter.unusedVariables false
set_option linter.unusedSimpArgs false
namespace Go.Proofs.Ytofbbkacihnjdaa
open Go Go.E Go.Maps
set_option maxRecDepth 100000
set_option maxHeartbeats 16000000
def hcN (t : Tt) (c : Cn) (k : Nat) : List Int := (List.range k).map fun g : Nat => c.at (g : Int) + (t.groups.getD g default).cred
def hcL (t : Tt) (c : Cn) : List Int := hcN t c t.groups.length
theorem hcN_succ {t : Tt} {c : Cn} {k : Nat} : hcN t c (k + 1) = hcN t c k ++ [c.at (k : Int) + (t.groups.getD k default).cred] := by
  unfold hcN; rw [List.range_succ, List.map_append]; rfl
theorem hcN_len {t : Tt} {c : Cn} {k : Nat} : (hcN t c k).length = k := by simp [hcN]
theorem hcL_len {t : Tt} {c : Cn} : (hcL t c).length = t.groups.length := hcN_len
theorem cn_b {c : Cn} (h : CnB c) (g : Int) : 0 ≤ c.at g ∧ c.at g ≤ 12 := by
  unfold CnB at h
  unfold Cn.at
  repeat' split
  all_goals omega
def O46 : Nat → Sch := fun id => if id = 1 then .one 0 (.one 1 (.one 2 (.one 3 (.one 4 (.one 5 (.one 6 (.done))))))) else .done
theorem O46_1 : O46 1 = .one 0 (.one 1 (.one 2 (.one 3 (.one 4 (.one 5 (.one 6 (.done))))))) := rfl
theorem ho46 : Try.f46.body.map (okO O46) = some true := by kernel_rfl
def Cf46 : Nat → List AV → (AV → List AV → Sto → Prop) → Kt → List AV → Sto → Prop := fun f args K Q e s => match f with
  | _ => False
def Ct46 : CT := { f := Cf46, y := noYld, z := fun d => false }
theorem ctz46 {d : Nat} : CT.z Ct46 d = (false) := id rfl
theorem Ct46_ok : Ct46.ok Try.prog := ok_of_f (fun f args K Q e s h => by
  have h : Cf46 f args K Q e s := h
  unfold Cf46 at h; split at h
  · exact h.elim) (fun _ _ _ _ _ _ _ _ _ h => h)
theorem c46 : callable Try.prog 46 = true := by kernel_rfl
theorem pf46 (i : Int) (g : Gr) (c : Cn) (h : (0 ≤ i ∧ i < 5) ∧ CnB c ∧ 0 ≤ g.cred ∧ g.cred ≤ 1000) : PF Try.prog 46 [.i i, .agg g.c, .ptr c.v 0] (fun zz => zz = .ret (.i (c.at i + g.cred))) := by
  obtain ⟨⟨h1, h2⟩, hc, hg⟩ := h
  obtain ⟨k, rfl⟩ : ∃ k : Nat, i = (k : Int) := ⟨i.toNat, by omega⟩
  have hb := cn_b hc (k : Int)
  have hat : c.v.getD k (.v undef) = .i (c.at (k : Int)) := by
    rcases (show k = 0 ∨ k = 1 ∨ k = 2 ∨ k = 3 ∨ k = 4 by omega) with rfl | rfl | rfl | rfl | rfl <;> rfl
  have hat' : [D.i c.a, D.i c.b, D.i c.c, D.i c.d, D.i c.e].getD k (.v undef) = .i (c.at (k : Int)) := hat
  have hk5 : k ≤ 4 := by omega
  have hk6 : (k : Int) < 5 := by omega
  have hk7 : (k : Int) < 0 + 1 + 1 + 1 + 1 + 1 := by omega
  have hk0 : (0 : Int) ≤ k := by omega
  have hmul : k * 1 = k := Nat.mul_one k
  refine PF_nil (PF_start (O := O46) Ct46_ok hmix ho46 Try.func46 c46 rfl Try.ntmps46 Try.results46 ?_)
  simp (maxSteps := 4000000) +contextual (disch := first | omega | exact qdb_ok (by kernel_rfl) | exact okb_ok (by kernel_rfl)) only [bw1,bw2,bw3,bw4,bw5,bw6,bw7,bc0,bc1,bc2,bc3,bc4,bc5,bc6,bc7,bb0,setPs,AV.owns,AV.datF,AV.frz,AV.cpy,ifV,isEqB,nilV,nilX,AV.isNilS,AV.isNoRows,wk,dclo,datOf,binIs,addF,AV.isPtr,idxV,AV.isSl,AV.isSlice,AV.rows,ps,pv,extV,extS,AV.outs,AV.outF,packD,AV.dl,fieldV,fieldS,AV.cells?,AV.upr,AV.menc,AV.one,D.one,Value.oneCell',tagOf,AV.isApp,strV,strS,bolV,bolS,slcV,AV.isSlD,asrtS,AV.dcells,D.cells?,stcV,stcS,leafOk,eqDs,eqD,packA,D.val?,↓reduceIte,reduceCtorEq,Nat.reduceAdd,Nat.reduceSub,Nat.reduceMul,List.reduceReplicate,Nat.reduceLeDiff,Nat.reduceLT,Nat.reduceBEq,Nat.reduceEqDiff,Int.reduceNeg,Int.reduceEq,Int.reduceLE,Int.reduceLT,tfb,qd_Rn,AV.outN,D.flat,D.flats,ctz46,O46_1,hat, hat', hk5, hk6, hk7, hk0, hmul, Nat.zero_add]
  try (and_intros <;> first | omega | rfl)
def ent46 (o : Option (List D)) (K : AV → List AV → Sto → Prop) (i : At K) (e : List AV) (s : Sto) : Prop := entS (α := (Int) × (Gr) × (Cn)) (fun aa => [.i aa.1, .agg aa.2.1.c, .ptr aa.2.2.v 0]) (fun aa => (0 ≤ aa.1 ∧ aa.1 < 5) ∧ CnB aa.2.2 ∧ 0 ≤ aa.2.1.cred ∧ aa.2.1.cred ≤ 1000) (fun aa => .i (aa.2.2.at aa.1 + aa.2.1.cred)) o K i e s
theorem ent46_ok {args : List AV} {K : AV → List AV → Sto → Prop} {Q : Kt} {e : List AV} {s : Sto} (h : ent46 (AV.outs s args) K (mk _) e s) : pcall Try.prog 46 args K Q e s := entS_ok (fun aa h => pf46 aa.1 aa.2.1 aa.2.2 h) h
theorem eq46 {i : Int} {g : Gr} {c : Cn} {KK : AV → List AV → Sto → Prop} {ii : At KK} {ee : List AV} {ss : Sto} : ent46 (some [.i i, .agg g.c, .ptr c.v 0]) KK ii ee ss = (((0 ≤ i ∧ i < 5) ∧ CnB c ∧ 0 ≤ g.cred ∧ g.cred ≤ 1000) ∧ (.i (c.at i + g.cred) : D).flat = true ∧ KK (.d (.i (c.at i + g.cred))) ee ss) := by
  unfold ent46; rw [entS_iff (i, g, c) (by intro b h; simpa [Prod.ext_iff, and_assoc, Int.ofNat_inj, ints_inj, hrs_inj, grs_inj, hr_inj, gr_inj, tt_inj, bcs_inj, cn_inj, sd_inj] using h)] <;> simp
def O45 : Nat → Sch := fun id => .done
theorem ho45 : Try.f45.body.map (okO O45) = some true := by kernel_rfl
def Cf45 : Nat → List AV → (AV → List AV → Sto → Prop) → Kt → List AV → Sto → Prop := fun f args K Q e s => match f with
  | 46 => ent46 (AV.outs s args) K (mk _) e s
  | 59 => ent59 args K e s
  | _ => False
def Ct45 : CT := { f := Cf45, y := noYld, z := fun d => false }
theorem ctz45 {d : Nat} : CT.z Ct45 d = (false) := id rfl
theorem Ct45_ok : Ct45.ok Try.prog := ok_of_f (fun f args K Q e s h => by
  have h : Cf45 f args K Q e s := h
  unfold Cf45 at h; split at h
  · exact ent46_ok h
  · exact ent59_ok h
  · exact h.elim) (fun _ _ _ _ _ _ _ _ _ h => h)
theorem x45_46 {args : List AV} {KK : AV → List AV → Sto → Prop} {QQ : Kt} {ii : At KK} {jj : At QQ} {ee : List AV} {ss : Sto} : xC Ct45 46 args KK QQ ii jj ee ss = ent46 (AV.outs ss args) KK (mk _) ee ss := id rfl
theorem x45_59 {l : List Int} {gg : Nat} {KK : AV → List AV → Sto → Prop} {QQ : Kt} {ii : At KK} {jj : At QQ} {ee : List AV} {ss : Sto} : xC Ct45 59 [.own gg 3 1 (l.map ic)] KK QQ ii jj ee ss = ((l.length ≤ 12) ∧ upOk gg 3 1 (l.map ic) ee ss ∧ KK (.d (.tup [])) (ee.map (AV.ups gg ((isort l).map ic))) (ss.ups gg ((isort l).map ic))) := eq59
theorem c45 : callable Try.prog 45 = true := by kernel_rfl
def O44 : Nat → Sch := fun id => .done
theorem ho44 : Try.f44.body.map (okO O44) = some true := by kernel_rfl
def Cf44 : Nat → List AV → (AV → List AV → Sto → Prop) → Kt → List AV → Sto → Prop := fun f args K Q e s => match f with
  | 45 => inlE Try.prog Ct45 O45 45000 45 args K Q e s
  | _ => False
def Ct44 : CT := { f := Cf44, y := noYld, z := fun d => false }
theorem ctz44 {d : Nat} : CT.z Ct44 d = (false) := id rfl
theorem Ct44_ok : Ct44.ok Try.prog := ok_of_f (fun f args K Q e s h => by
  have h : Cf44 f args K Q e s := h
  unfold Cf44 at h; split at h
  · exact inlE_ok Ct45_ok hmix ho45 h
  · exact h.elim) (fun _ _ _ _ _ _ _ _ _ h => h)
theorem z44_45 : type_of% (@xinl Try.prog Ct44 Ct45 O45 45000 45 _ _ _ _ rfl c45 Try.func45 rfl Try.ntmps45 Try.results45) := @xinl Try.prog Ct44 Ct45 O45 45000 45 _ _ _ _ rfl c45 Try.func45 rfl Try.ntmps45 Try.results45
theorem c44 : callable Try.prog 44 = true := by kernel_rfl
theorem pf44 (c : Cn) (t : Tt) (h : ttOk t = true ∧ CnB c) : PFn Try.prog 44 [.agg c.v, .ptr [.ptr t.c 0] 0] (fun zz => zz = .ret (.sl 1 ((isort (hcL t c)).map ic))) := by
  obtain ⟨ht, hc⟩ := h
  have hbig := tt_hours ht
  refine PFn_nil (PFn_start (O := O44) Ct44_ok hmix ho44 Try.func44 c44 rfl Try.ntmps44 Try.results44 ?_)
  simp (maxSteps := 4000000) +contextual (disch := first | omega | exact qdb_ok (by kernel_rfl) | exact okb_ok (by kernel_rfl)) only [bw1,bw2,bw3,bw4,bw5,bw6,bw7,bc0,bc1,bc2,bc3,bc4,bc5,bc6,bc7,bb0,setPs,AV.owns,AV.datF,AV.frz,AV.cpy,ifV,isEqB,nilV,nilX,AV.isNilS,AV.isNoRows,wk,dclo,datOf,binIs,addF,AV.isPtr,idxV,AV.isSl,AV.isSlice,AV.rows,ps,pv,extV,extS,AV.outs,AV.outF,packD,AV.dl,fieldV,fieldS,AV.cells?,AV.upr,AV.menc,AV.one,D.one,Value.oneCell',tagOf,AV.isApp,strV,strS,bolV,bolS,slcV,AV.isSlD,asrtS,AV.dcells,D.cells?,stcV,stcS,leafOk,eqDs,eqD,packA,D.val?,↓reduceIte,reduceCtorEq,Nat.reduceAdd,Nat.reduceSub,Nat.reduceMul,List.reduceReplicate,Nat.reduceLeDiff,Nat.reduceLT,Nat.reduceBEq,Nat.reduceEqDiff,Int.reduceNeg,Int.reduceEq,Int.reduceLE,Int.reduceLT,tfb,qd_Rn,AV.outN,D.flat,D.flats,n_retn,n_retr,n_retp,upOk,gU,bu0,ctz44,z44_45,ctz45,x45_46,eq46,x45_59]
  refine seed (m1 := mk _) (m2 := mk _) 5 45022 3 1 (by decide) rfl rfl (by simp [Sto.mens, AV.mens, AV.men]) rfl ?_
  refine loop_xu (O := O45) (tb := 45000) Ct45_ok hmix (by kernel_rfl) (σ := Nat) (fun k => [(5, .own 45022 3 1 ((hcN t c k).map ic)), (10, .i k), (6, .any), (7, .any)]) (fun _ => []) (fun k => k ≤ t.groups.length) (fun k => t.groups.length - k) 0 (Nat.zero_le _) ?_ ?_
  · have hz0 : (hcN t c 0).map ic = [] := rfl
    simp (maxSteps := 4000000) +contextual (disch := first | omega | exact qdb_ok (by kernel_rfl) | exact okb_ok (by kernel_rfl)) only [bw1,bw2,bw3,bw4,bw5,bw6,bw7,bc0,bc1,bc2,bc3,bc4,bc5,bc6,bc7,bb0,setPs,AV.owns,AV.datF,AV.frz,AV.cpy,ifV,isEqB,nilV,nilX,AV.isNilS,AV.isNoRows,wk,dclo,datOf,binIs,addF,AV.isPtr,idxV,AV.isSl,AV.isSlice,AV.rows,ps,pv,extV,extS,AV.outs,AV.outF,packD,AV.dl,fieldV,fieldS,AV.cells?,AV.upr,AV.menc,AV.one,D.one,Value.oneCell',tagOf,AV.isApp,strV,strS,bolV,bolS,slcV,AV.isSlD,asrtS,AV.dcells,D.cells?,stcV,stcS,leafOk,eqDs,eqD,packA,D.val?,↓reduceIte,reduceCtorEq,Nat.reduceAdd,Nat.reduceSub,Nat.reduceMul,List.reduceReplicate,Nat.reduceLeDiff,Nat.reduceLT,Nat.reduceBEq,Nat.reduceEqDiff,Int.reduceNeg,Int.reduceEq,Int.reduceLE,Int.reduceLT,tfb,qd_Rn,AV.outN,D.flat,D.flats,n_retn,n_retr,n_retp,upOk,gU,bu0,ctz44,z44_45,ctz45,x45_46,eq46,x45_59,eq_self, hz0]
    try rfl
  rintro k hk
  have hql := hcN_len (t := t) (c := c) (k := k)
  by_cases hlt : k < t.groups.length
  · have hlt' : (k : Int) < t.groups.length := by omega
    have hk0 : (0 : Int) ≤ k := by omega
    have hk5 : (k : Int) < 5 := by omega
    have hrg : (t.groups.map Gr.c).getD k [] = Gr.c (t.groups.getD k default) := Go.E.row_at hlt
    have hgr := tt_group ht hlt
    have hcr : 0 ≤ (t.groups.getD k default).cred ∧ (t.groups.getD k default).cred ≤ 1000 := hgr.2.2
    have hb := cn_b hc (k : Int)
    have hs : (hcN t c k).map ic ++ [[D.v (Value.int .i64 (c.at (k : Int) + (t.groups.getD k default).cred))]] = (hcN t c (k + 1)).map ic := by
      rw [hcN_succ, List.map_append]; rfl
    simp (maxSteps := 4000000) +contextual (disch := first | omega | exact qdb_ok (by kernel_rfl) | exact okb_ok (by kernel_rfl)) only [bw1,bw2,bw3,bw4,bw5,bw6,bw7,bc0,bc1,bc2,bc3,bc4,bc5,bc6,bc7,bb0,setPs,AV.owns,AV.datF,AV.frz,AV.cpy,ifV,isEqB,nilV,nilX,AV.isNilS,AV.isNoRows,wk,dclo,datOf,binIs,addF,AV.isPtr,idxV,AV.isSl,AV.isSlice,AV.rows,ps,pv,extV,extS,AV.outs,AV.outF,packD,AV.dl,fieldV,fieldS,AV.cells?,AV.upr,AV.menc,AV.one,D.one,Value.oneCell',tagOf,AV.isApp,strV,strS,bolV,bolS,slcV,AV.isSlD,asrtS,AV.dcells,D.cells?,stcV,stcS,leafOk,eqDs,eqD,packA,D.val?,↓reduceIte,reduceCtorEq,Nat.reduceAdd,Nat.reduceSub,Nat.reduceMul,List.reduceReplicate,Nat.reduceLeDiff,Nat.reduceLT,Nat.reduceBEq,Nat.reduceEqDiff,Int.reduceNeg,Int.reduceEq,Int.reduceLE,Int.reduceLT,tfb,qd_Rn,AV.outN,D.flat,D.flats,n_retn,n_retr,n_retp,upOk,gU,bu0,ctz44,z44_45,ctz45,x45_46,eq46,x45_59,eq_self, hlt', hk0, hk5, hrg, hs, hql, hc, hcr]
    repeat (refine And.intro (by omega) ?_)
    exact ⟨k + 1, ⟨by omega, by omega⟩, rfl, rfl⟩
  have hkn : ¬ (k : Int) < t.groups.length := by omega
  have hke : hcN t c k = hcL t c := by
    unfold hcL
    rw [show k = t.groups.length by omega]
  have hl12 : (hcL t c).length ≤ 12 := by rw [hcL_len]; omega
  have hfl := ics_flat (isort (hcL t c))
  simp (maxSteps := 4000000) +contextual (disch := first | omega | exact qdb_ok (by kernel_rfl) | exact okb_ok (by kernel_rfl)) only [bw1,bw2,bw3,bw4,bw5,bw6,bw7,bc0,bc1,bc2,bc3,bc4,bc5,bc6,bc7,bb0,setPs,AV.owns,AV.datF,AV.frz,AV.cpy,ifV,isEqB,nilV,nilX,AV.isNilS,AV.isNoRows,wk,dclo,datOf,binIs,addF,AV.isPtr,idxV,AV.isSl,AV.isSlice,AV.rows,ps,pv,extV,extS,AV.outs,AV.outF,packD,AV.dl,fieldV,fieldS,AV.cells?,AV.upr,AV.menc,AV.one,D.one,Value.oneCell',tagOf,AV.isApp,strV,strS,bolV,bolS,slcV,AV.isSlD,asrtS,AV.dcells,D.cells?,stcV,stcS,leafOk,eqDs,eqD,packA,D.val?,↓reduceIte,reduceCtorEq,Nat.reduceAdd,Nat.reduceSub,Nat.reduceMul,List.reduceReplicate,Nat.reduceLeDiff,Nat.reduceLT,Nat.reduceBEq,Nat.reduceEqDiff,Int.reduceNeg,Int.reduceEq,Int.reduceLE,Int.reduceLT,tfb,qd_Rn,AV.outN,D.flat,D.flats,n_retn,n_retr,n_retp,upOk,gU,bu0,ctz44,z44_45,ctz45,x45_46,eq46,x45_59,eq_self, hkn, hke, hl12, hfl]
  try (and_intros <;> first | omega | rfl)
def cmpC (t : Tt) (a b : Cn) : Int := cmpL (isort (hcL t a)) (isort (hcL t b))
def ent44 (o : Option (List D)) (K : AV → List AV → Sto → Prop) (i : At K) (e : List AV) (s : Sto) : Prop := entSn (α := (Cn) × (Tt)) (fun aa => [.agg aa.1.v, .ptr [.ptr aa.2.c 0] 0]) (fun aa => ttOk aa.2 = true ∧ CnB aa.1) (fun aa => .sl 1 ((isort (hcL aa.2 aa.1)).map ic)) o K i e s
theorem ent44_ok {args : List AV} {K : AV → List AV → Sto → Prop} {Q : Kt} {e : List AV} {s : Sto} (h : ent44 (AV.outs s args) K (mk _) e s) : pcall Try.prog 44 args K Q e s := entSn_ok (fun aa h => pf44 aa.1 aa.2 h) h
theorem eq44 {c : Cn} {t : Tt} {KK : AV → List AV → Sto → Prop} {ii : At KK} {ee : List AV} {ss : Sto} : ent44 (some [.agg c.v, .ptr [.ptr t.c 0] 0]) KK ii ee ss = ((ttOk t = true ∧ CnB c) ∧ KK (.d (.sl 1 ((isort (hcL t c)).map ic))) ee ss) := by
  unfold ent44; rw [entSn_iff (c, t) (by intro b h; simpa [Prod.ext_iff, and_assoc, Int.ofNat_inj, ints_inj, hrs_inj, grs_inj, hr_inj, gr_inj, tt_inj, bcs_inj, cn_inj, sd_inj] using h)] <;> simp
def O15 : Nat → Sch := fun id => if id = 2 then .one 0 (.one 1 (.one 3 (.alt (.one 2 (.one 4 (.one 5 (.one 6 (.one 7 (.done)))))) (.one 4 (.one 2 (.one 5 (.one 6 (.one 7 (.done))))))))) else .done
theorem O15_2 : O15 2 = .one 0 (.one 1 (.one 3 (.alt (.one 2 (.one 4 (.one 5 (.one 6 (.one 7 (.done)))))) (.one 4 (.one 2 (.one 5 (.one 6 (.one 7 (.done))))))))) := rfl
theorem ho15 : Try.f15.body.map (okO O15) = some true := by kernel_rfl
def Cf15 : Nat → List AV → (AV → List AV → Sto → Prop) → Kt → List AV → Sto → Prop := fun f args K Q e s => match f with
  | 44 => ent44 (AV.outs s args) K (mk _) e s
  | 47 => ent47 args K e s
  | _ => False
def Ct15 : CT := { f := Cf15, y := noYld, z := fun d => false }
theorem ctz15 {d : Nat} : CT.z Ct15 d = (false) := id rfl
theorem Ct15_ok : Ct15.ok Try.prog := ok_of_f (fun f args K Q e s h => by
  have h : Cf15 f args K Q e s := h
  unfold Cf15 at h; split at h
  · exact ent44_ok h
  · exact ent47_ok h
  · exact h.elim) (fun _ _ _ _ _ _ _ _ _ h => h)
theorem x15_44 {args : List AV} {KK : AV → List AV → Sto → Prop} {QQ : Kt} {ii : At KK} {jj : At QQ} {ee : List AV} {ss : Sto} : xC Ct15 44 args KK QQ ii jj ee ss = ent44 (AV.outs ss args) KK (mk _) ee ss := id rfl
theorem x15_47 {x : List Int} {y : List Int} {KK : AV → List AV → Sto → Prop} {QQ : Kt} {ii : At KK} {jj : At QQ} {ee : List AV} {ss : Sto} : xC Ct15 47 [.d (.sl 1 (x.map ic)), .d (.sl 1 (y.map ic))] KK QQ ii jj ee ss = ((x.length ≤ 1000 ∧ y.length = x.length) ∧ KK (.d (.i (cmpL x y))) ee ss) := eq47
theorem x15_47_m1 {x : List Int} {y : List Int} {g1 el1 : Nat} {KK : AV → List AV → Sto → Prop} {QQ : Kt} {ii : At KK} {jj : At QQ} {ee : List AV} {ss : Sto} : xC Ct15 47 [.own g1 el1 1 (x.map ic), .d (.sl 1 (y.map ic))] KK QQ ii jj ee ss = ((x.length ≤ 1000 ∧ y.length = x.length) ∧ (.i (cmpL x y) : D).flat = true ∧ KK (.d (.i (cmpL x y))) ee ss) := by
  show ent47 _ _ _ _ = _
  unfold ent47; rw [ent_iff (x, y) (by intro b h; simpa [Prod.ext_iff, and_assoc, Int.ofNat_inj, ints_inj, hrs_inj, grs_inj, hr_inj, gr_inj, tt_inj, bcs_inj, cn_inj, sd_inj] using h) rfl]; simp
theorem x15_47_m2 {x : List Int} {y : List Int} {g1 el1 : Nat} {KK : AV → List AV → Sto → Prop} {QQ : Kt} {ii : At KK} {jj : At QQ} {ee : List AV} {ss : Sto} : xC Ct15 47 [.d (.sl 1 (x.map ic)), .own g1 el1 1 (y.map ic)] KK QQ ii jj ee ss = ((x.length ≤ 1000 ∧ y.length = x.length) ∧ (.i (cmpL x y) : D).flat = true ∧ KK (.d (.i (cmpL x y))) ee ss) := by
  show ent47 _ _ _ _ = _
  unfold ent47; rw [ent_iff (x, y) (by intro b h; simpa [Prod.ext_iff, and_assoc, Int.ofNat_inj, ints_inj, hrs_inj, grs_inj, hr_inj, gr_inj, tt_inj, bcs_inj, cn_inj, sd_inj] using h) rfl]; simp
theorem x15_47_m3 {x : List Int} {y : List Int} {g1 el1 : Nat} {g2 el2 : Nat} {KK : AV → List AV → Sto → Prop} {QQ : Kt} {ii : At KK} {jj : At QQ} {ee : List AV} {ss : Sto} : xC Ct15 47 [.own g1 el1 1 (x.map ic), .own g2 el2 1 (y.map ic)] KK QQ ii jj ee ss = ((x.length ≤ 1000 ∧ y.length = x.length) ∧ (.i (cmpL x y) : D).flat = true ∧ KK (.d (.i (cmpL x y))) ee ss) := eqo47
theorem c15 : callable Try.prog 15 = true := by kernel_rfl
theorem pf15 (t : Tt) (a b : Cn) (h : ttOk t = true ∧ CnB a ∧ CnB b) : PF Try.prog 15 [.ptr t.c 0, .agg a.v, .agg b.v] (fun zz => zz = .ret (.i (cmpC t a b))) := by
  obtain ⟨ht, ha, hb⟩ := h
  have hbig := tt_hours ht
  have hl1 : (isort (hcL t a)).length ≤ 1000 := by rw [isort_len, hcL_len]; omega
  have hl2 : (isort (hcL t b)).length = (isort (hcL t a)).length := by rw [isort_len, isort_len, hcL_len, hcL_len]
  have hw : cmpC t a b = cmpL (isort (hcL t a)) (isort (hcL t b)) := rfl
  refine PF_nil (PF_start (O := O15) Ct15_ok hmix ho15 Try.func15 c15 rfl Try.ntmps15 Try.results15 ?_)
  simp (maxSteps := 4000000) +contextual (disch := first | omega | exact qdb_ok (by kernel_rfl) | exact okb_ok (by kernel_rfl)) only [bw1,bw2,bw3,bw4,bw5,bw6,bw7,bc0,bc1,bc2,bc3,bc4,bc5,bc6,bc7,bb0,setPs,AV.owns,AV.datF,AV.frz,AV.cpy,ifV,isEqB,nilV,nilX,AV.isNilS,AV.isNoRows,wk,dclo,datOf,binIs,addF,AV.isPtr,idxV,AV.isSl,AV.isSlice,AV.rows,ps,pv,extV,extS,AV.outs,AV.outF,packD,AV.dl,fieldV,fieldS,AV.cells?,AV.upr,AV.menc,AV.one,D.one,Value.oneCell',tagOf,AV.isApp,strV,strS,bolV,bolS,slcV,AV.isSlD,asrtS,AV.dcells,D.cells?,stcV,stcS,leafOk,eqDs,eqD,packA,D.val?,↓reduceIte,reduceCtorEq,Nat.reduceAdd,Nat.reduceSub,Nat.reduceMul,List.reduceReplicate,Nat.reduceLeDiff,Nat.reduceLT,Nat.reduceBEq,Nat.reduceEqDiff,Int.reduceNeg,Int.reduceEq,Int.reduceLE,Int.reduceLT,tfb,qd_Rn,AV.outN,D.flat,D.flats,upOk,gU,bu0,ctz15,O15_2,x15_44,eq44,x15_47,x15_47_m1,x15_47_m2,x15_47_m3,ht, ha, hb, hl1, hl2, hw]
  try (and_intros <;> first | omega | rfl)
def ent15 (o : Option (List D)) (K : AV → List AV → Sto → Prop) (i : At K) (e : List AV) (s : Sto) : Prop := entS (α := (Tt) × (Cn) × (Cn)) (fun aa => [.ptr aa.1.c 0, .agg aa.2.1.v, .agg aa.2.2.v]) (fun aa => ttOk aa.1 = true ∧ CnB aa.2.1 ∧ CnB aa.2.2) (fun aa => .i (cmpC aa.1 aa.2.1 aa.2.2)) o K i e s
theorem ent15_ok {args : List AV} {K : AV → List AV → Sto → Prop} {Q : Kt} {e : List AV} {s : Sto} (h : ent15 (AV.outs s args) K (mk _) e s) : pcall Try.prog 15 args K Q e s := entS_ok (fun aa h => pf15 aa.1 aa.2.1 aa.2.2 h) h
theorem eq15 {t : Tt} {a : Cn} {b : Cn} {KK : AV → List AV → Sto → Prop} {ii : At KK} {ee : List AV} {ss : Sto} : ent15 (some [.ptr t.c 0, .agg a.v, .agg b.v]) KK ii ee ss = ((ttOk t = true ∧ CnB a ∧ CnB b) ∧ (.i (cmpC t a b) : D).flat = true ∧ KK (.d (.i (cmpC t a b))) ee ss) := by
  unfold ent15; rw [entS_iff (t, a, b) (by intro b h; simpa [Prod.ext_iff, and_assoc, Int.ofNat_inj, ints_inj, hrs_inj, grs_inj, hr_inj, gr_inj, tt_inj, bcs_inj, cn_inj, sd_inj] using h)] <;> simp
end Go.Proofs.Ytofbbkacihnjdaa
