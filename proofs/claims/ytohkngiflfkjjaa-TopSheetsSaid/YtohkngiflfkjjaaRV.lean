/- A part of the proof that the last text ends: what functions of the program do, told by plain data. -/
import Derived.Test.YtohkngiflfkjjaaRU
set_option linter.unusedVariables false
set_option linter.unusedSimpArgs false
namespace Go.Proofs.Ytohkngiflfkjjaa
open Go Go.E Go.Maps
set_option maxRecDepth 100000
set_option maxHeartbeats 16000000
/-! ### The program: members by rising person -/
def sp47 (args : List AV) (K : AV → List AV → Sto → Prop) (e : List AV) (s : Sto) : Prop :=
  ∃ (PM : PMem), args = [.clo (.func 74) [] [.ref 48002 0]] ∧ (PM.length ≤ 1000 ∧ ∀ p ∈ PM, i64 p.1) ∧ (s.get 48002 = some [.mp 3000100011] ∧ s.get 3000100011 = some (bxs 4000100011 fki Mem.c PM)) ∧ (AV.stays TK EK e ∧ othL TK EK s) ∧ (∀ x ∈ s, TK.contains x.1 = true → x ∈ stoK' PM) ∧ K (.own 80012 3 1 ((srtd (PM.map (·.1))).map ic)) e s
theorem frameK {args e : List AV} {s : Sto} {PM : PMem} (ha : AV.onlys TK args = true) (h1 : s.get 48002 = some [.mp 3000100011]) (h2 : s.get 3000100011 = some (bxs 4000100011 fki Mem.c PM)) (h3 : AV.stays TK EK e) (h4 : othL TK EK s) : FrameOk TK EK args (stoK' PM) e s where
  tags := fun g hg => by
    simp only [TK, List.mem_cons, List.not_mem_nil, or_false] at hg
    omega
  sub := fun g c hg => by
    simp only [stoK', Sto.get] at hg
    repeat' split at hg
    · rename_i e; subst e; cases hg; exact ⟨rfl, h1, rfl⟩
    · rename_i e; subst e; cases hg; exact ⟨rfl, h2, onlys_bxs rfl⟩
    · cases hg
  args := ha
  eo := rfl
  av := fun x hx => by
    simp only [EK, List.mem_cons, List.not_mem_nil, or_false] at hx
    rcases hx with rfl | rfl
    · exact .inr (.inr ⟨rfl, by omega⟩)
    · exact .inr (.inr (show 2000000000 ≤ 3000100011 by omega))
  slots := h3
  others := fun g c hg hT => othL_get h4 hg hT
theorem st_ents {α β : Type} {fk : α → D} {fv : β → D} {M : List (α × β)} {T : List Nat} {E : List AV} : AV.stays T E (ents fk fv M) := by
  unfold ents; induction M with
  | nil => trivial
  | cons p M ih => exact ⟨trivial, ih⟩
theorem person_at {l : List Mem} {k : Nat} (h : k < l.length) : (List.map ic (l.map (·.person))).getD k [] = [.i (l.getD k default).person] := by
  simp [List.getD, h]
theorem len_ne {l : List Int} (h : l ≠ []) : ((l.length : Int) == 0) = false := by
  cases l with
  | nil => exact absurd rfl h
  | cons a b => simp only [List.length_cons]; exact beq_false_of_ne (by omega)
theorem sp47_ok {args : List AV} {K : AV → List AV → Sto → Prop} {Q : Kt} {e : List AV} {s : Sto} (h : sp47 args K e s) : pcall Try.prog 47 args K Q e s := by
  obtain ⟨PM, rfl, ⟨h1, h2⟩, ⟨h3, h4⟩, ⟨h5, h6⟩, hs, hK⟩ := h
  refine pcall_frame (RQ := fun _ _ => False) (frameK rfl h3 h4 h5 h6) (keys47 h1 h2) (fun r s1 hr => ?_) (fun c s1 h => h.elim)
  obtain ⟨rfl, b1, b2, b3, b4⟩ := hr
  refine ⟨⟨rfl, fun g c hg hc => ?_⟩, by
    rw [mer_id fun x hx hT => ?_]
    · exact hK
    · have := hs x hx hT
      simp only [stoK', List.mem_cons, List.not_mem_nil, or_false] at this
      rcases this with rfl | rfl
      · exact b1
      · exact b2⟩
  simp only [TK, List.contains_cons, List.contains_nil, Bool.or_false, Bool.or_eq_true, beq_iff_eq] at hg
  rcases hg with rfl | rfl | rfl | rfl
  · rw [b1] at hc; cases hc; rfl
  · rw [b2] at hc; cases hc; exact onlys_bxs rfl
  · rw [b3] at hc; cases hc
  · rw [b4] at hc; cases hc
def O28 : Nat → Sch := fun id => .done
theorem ho28 : Try.f28.body.map (okO O28) = some true := by kernel_rfl
def Cf28 : Nat → List AV → (AV → List AV → Sto → Prop) → Kt → List AV → Sto → Prop := fun f args K Q e s => match f with
  | _ => False
def Ct28 : CT := { f := Cf28, y := noYld, z := fun d => false }
theorem ctz28 {d : Nat} : CT.z Ct28 d = (false) := id rfl
theorem Ct28_ok : Ct28.ok Try.prog := ok_of_f (fun f args K Q e s h => by
  have h : Cf28 f args K Q e s := h
  unfold Cf28 at h; split at h
  · exact h.elim) (fun _ _ _ _ _ _ _ _ _ h => h)
theorem c28 : callable Try.prog 28 = true := by kernel_rfl
def O48 : Nat → Sch := fun id => .done
theorem ho48 : Try.f48.body.map (okO O48) = some true := by kernel_rfl
def Cf48 : Nat → List AV → (AV → List AV → Sto → Prop) → Kt → List AV → Sto → Prop := fun f args K Q e s => match f with
  | _ => False
def Ct48 : CT := { f := Cf48, y := noYld, z := fun d => false }
theorem ctz48 {d : Nat} : CT.z Ct48 d = (false) := id rfl
theorem Ct48_ok : Ct48.ok Try.prog := ok_of_f (fun f args K Q e s h => by
  have h : Cf48 f args K Q e s := h
  unfold Cf48 at h; split at h
  · exact h.elim) (fun _ _ _ _ _ _ _ _ _ h => h)
theorem c48 : callable Try.prog 48 = true := by kernel_rfl
def O46 : Nat → Sch := fun id => .done
theorem ho46 : Try.f46.body.map (okO O46) = some true := by kernel_rfl
def Cf46 : Nat → List AV → (AV → List AV → Sto → Prop) → Kt → List AV → Sto → Prop := fun f args K Q e s => match f with
  | 47 => sp47 args K e s
  | 48 => inlE Try.prog Ct48 O48 48000 48 args K Q e s
  | _ => False
def Ct46 : CT := { f := Cf46, y := noYld, z := fun d => false }
theorem ctz46 {d : Nat} : CT.z Ct46 d = (false) := id rfl
theorem Ct46_ok : Ct46.ok Try.prog := ok_of_f (fun f args K Q e s h => by
  have h : Cf46 f args K Q e s := h
  unfold Cf46 at h; split at h
  · exact sp47_ok h
  · exact inlE_ok Ct48_ok hmix ho48 h
  · exact h.elim) (fun _ _ _ _ _ _ _ _ _ h => h)
theorem z46_48 : type_of% (@xinl Try.prog Ct46 Ct48 O48 48000 48 _ _ _ _ rfl c48 Try.func48 rfl Try.ntmps48 Try.results48) := @xinl Try.prog Ct46 Ct48 O48 48000 48 _ _ _ _ rfl c48 Try.func48 rfl Try.ntmps48 Try.results48
theorem c46 : callable Try.prog 46 = true := by kernel_rfl
def O12 : Nat → Sch := fun id => if id = 6 then .one 1 (.one 2 (.one 3 (.one 4 (.one 5 (.one 6 (.one 7 (.one 8 (.one 9 (.one 10 (.one 11 (.one 12 (.one 13 (.one 14 (.one 15 (.one 16 (.one 17 (.one 18 (.one 19 (.one 20 (.one 21 (.alt (.one 0 (.one 22 (.one 23 (.one 24 (.done))))) (.one 22 (.one 0 (.one 23 (.one 24 (.done)))))))))))))))))))))))))) else .done
theorem O12_6 : O12 6 = .one 1 (.one 2 (.one 3 (.one 4 (.one 5 (.one 6 (.one 7 (.one 8 (.one 9 (.one 10 (.one 11 (.one 12 (.one 13 (.one 14 (.one 15 (.one 16 (.one 17 (.one 18 (.one 19 (.one 20 (.one 21 (.alt (.one 0 (.one 22 (.one 23 (.one 24 (.done))))) (.one 22 (.one 0 (.one 23 (.one 24 (.done)))))))))))))))))))))))))) := rfl
theorem ho12 : Try.f12.body.map (okO O12) = some true := by kernel_rfl
def Cf12o : Nat → List AV → (AV → List AV → Sto → Prop) → Kt → List AV → Sto → Prop := fun f args K Q e s => match f with
  | 27 => sp27 args K e s
  | 28 => inlE Try.prog Ct28 O28 28000 28 args K Q e s
  | _ => False
def Ct12o : CT := { f := Cf12o, y := noYld, z := fun d => false }
theorem ctz12o {d : Nat} : CT.z Ct12o d = (false) := id rfl
theorem Ct12o_ok : Ct12o.ok Try.prog := ok_of_f (fun f args K Q e s h => by
  have h : Cf12o f args K Q e s := h
  unfold Cf12o at h; split at h
  · exact sp27_ok h
  · exact inlE_ok Ct28_ok hmix ho28 h
  · exact h.elim) (fun _ _ _ _ _ _ _ _ _ h => h)
def Yd12 : Nat → List Nat → Code → Code → List AV → (AV → List AV → Sto → Prop) → Kt → List AV → Sto → Prop := fun G ps asg bdy => if G / 1000 = 1000000 then yldE Try.prog Ct12o O12 0 G ps asg bdy else fun _ _ _ _ _ => False
def Cy12_46 : CT := { f := Cf46, y := Yd12 }
theorem ctzy12_46 {d : Nat} : CT.z Cy12_46 d = false := id rfl
theorem Cy12_46_ok : Cy12_46.ok Try.prog := ⟨Ct46_ok.f, fun g ps asg bdy args K Q e s h => by
  have h : Yd12 g ps asg bdy args K Q e s := h
  unfold Yd12 at h; split at h
  · exact yldE_ok Ct12o_ok hmix h
  · exact h.elim⟩
def Cf12 : Nat → List AV → (AV → List AV → Sto → Prop) → Kt → List AV → Sto → Prop := fun f args K Q e s => match f with
  | 27 => sp27 args K e s
  | 28 => inlE Try.prog Ct28 O28 28000 28 args K Q e s
  | 46 => inlE Try.prog Cy12_46 O46 46000 46 args K Q e s
  | _ => False
def Ct12 : CT := { f := Cf12, y := noYld, z := fun d => false }
theorem ctz12 {d : Nat} : CT.z Ct12 d = (false) := id rfl
theorem Ct12_ok : Ct12.ok Try.prog := ok_of_f (fun f args K Q e s h => by
  have h : Cf12 f args K Q e s := h
  unfold Cf12 at h; split at h
  · exact sp27_ok h
  · exact inlE_ok Ct28_ok hmix ho28 h
  · exact inlE_ok Cy12_46_ok hmix ho46 h
  · exact h.elim) (fun _ _ _ _ _ _ _ _ _ h => h)
theorem z12_46 : type_of% (@xinl Try.prog Ct12 Cy12_46 O46 46000 46 _ _ _ _ rfl c46 Try.func46 rfl Try.ntmps46 Try.results46) := @xinl Try.prog Ct12 Cy12_46 O46 46000 46 _ _ _ _ rfl c46 Try.func46 rfl Try.ntmps46 Try.results46
theorem cy12_46 {n : Nat} {args : List AV} {K : AV → List AV → Sto → Prop} {Q : Kt} {i : At K} {j : At Q} {e : List AV} {s : Sto} : xC Cy12_46 n args K Q i j e s = xC Ct46 n args K Q i j e s := id rfl
theorem yy12_46_19 : type_of% (fun ps asg bdy => @xyld Try.prog Cy12_46 Ct12o O12 0 1000000019 Yd12 rfl ps asg bdy (if_pos (by omega))) := fun ps asg bdy => @xyld Try.prog Cy12_46 Ct12o O12 0 1000000019 Yd12 rfl ps asg bdy (if_pos (by omega))
theorem z12_28 : type_of% (@xinl Try.prog Ct12 Ct28 O28 28000 28 _ _ _ _ rfl c28 Try.func28 rfl Try.ntmps28 Try.results28) := @xinl Try.prog Ct12 Ct28 O28 28000 28 _ _ _ _ rfl c28 Try.func28 rfl Try.ntmps28 Try.results28
theorem z12o_28 : type_of% (@xinl Try.prog Ct12o Ct28 O28 28000 28 _ _ _ _ rfl c28 Try.func28 rfl Try.ntmps28 Try.results28) := @xinl Try.prog Ct12o Ct28 O28 28000 28 _ _ _ _ rfl c28 Try.func28 rfl Try.ntmps28 Try.results28
theorem c12 : callable Try.prog 12 = true := by kernel_rfl
theorem pf12 (l : List Ev) (h : ShsOk l) : PFn Try.prog 12 [.sl 5 (l.map Ev.c)] (fun zz => zz = .ret (.tup [.sl 5 ((playR l).1.map Mem.c), .i (playR l).2.1, .i (playR l).2.2])) := by
  have hl := h
  unfold playR
  have hx : ∀ {args : List AV} {KK : AV → List AV → Sto → Prop} {QQ : Kt} {ii : At KK} {jj : At QQ} {ee : List AV} {ss : Sto}, xC Ct12 27 args KK QQ ii jj ee ss = sp27 args KK ee ss := id rfl
  have hx47 : ∀ {args : List AV} {KK : AV → List AV → Sto → Prop} {QQ : Kt} {ii : At KK} {jj : At QQ} {ee : List AV} {ss : Sto}, xC Ct46 47 args KK QQ ii jj ee ss = sp47 args KK ee ss := id rfl
  refine PFn_nil (PFn_start (O := O12) Ct12_ok hmix ho12 Try.func12 c12 rfl Try.ntmps12 Try.results12 ?_)
  simp (maxSteps := 4000000) +contextual (disch := first | omega | exact qdb_ok (by kernel_rfl) | exact okb_ok (by kernel_rfl)) only [bw1,bw2,bw3,bw4,bw5,bw6,bw7,bc0,bc1,bc2,bc3,bc4,bc5,bc6,bc7,bb0,setPs,AV.owns,AV.datF,AV.frz,AV.cpy,ifV,isEqB,nilV,nilX,AV.isNilS,AV.isNoRows,wk,dclo,datOf,binIs,addF,AV.isPtr,idxV,AV.isSl,AV.isSlice,AV.rows,ps,pv,extV,extS,AV.outs,AV.outF,packD,AV.dl,fieldV,fieldS,AV.cells?,AV.upr,AV.menc,AV.one,D.one,Value.oneCell',tagOf,AV.isApp,strV,strS,bolV,bolS,slcV,AV.isSlD,asrtS,AV.dcells,D.cells?,stcV,stcS,leafOk,eqDs,eqD,packA,D.val?,↓reduceIte,reduceCtorEq,Nat.reduceAdd,Nat.reduceSub,Nat.reduceMul,List.reduceReplicate,Nat.reduceLeDiff,Nat.reduceLT,Nat.reduceBEq,Nat.reduceEqDiff,Int.reduceNeg,Int.reduceEq,Int.reduceLE,Int.reduceLT,tfb,boxAt,key3',key99',mencs_bxs,mencs_ents,kill_bxs,kill_ents,en_bxs,bxs_len,false_implies,n_retn,n_retr,n_retp,qd_Rn,AV.outN,fl_ic,D.flat,D.flats,ctz12,O12_6,z12_28,ctz28,z12o_28,z12_46,cy12_46,ctzy12_46,ctz12o,yy12_46_19,ctz46,z46_48,ctz48,hx]
  refine ⟨l, rfl, hl, fun hz => ⟨⟨by simp [AV.stays, AV.stay], by simp [othF, AV.stays, AV.stay]⟩, fun PM M1 M2 hR => ?_⟩, fun hz => ?_⟩
  case refine_2 =>
    rw [if_neg hz]
    have hzb : ((runR l).2.2 != 0) = true := by simpa using hz
    simp (maxSteps := 4000000) +contextual (disch := first | omega | exact qdb_ok (by kernel_rfl) | exact okb_ok (by kernel_rfl)) only [bw1,bw2,bw3,bw4,bw5,bw6,bw7,bc0,bc1,bc2,bc3,bc4,bc5,bc6,bc7,bb0,setPs,AV.owns,AV.datF,AV.frz,AV.cpy,ifV,isEqB,nilV,nilX,AV.isNilS,AV.isNoRows,wk,dclo,datOf,binIs,addF,AV.isPtr,idxV,AV.isSl,AV.isSlice,AV.rows,ps,pv,extV,extS,AV.outs,AV.outF,packD,AV.dl,fieldV,fieldS,AV.cells?,AV.upr,AV.menc,AV.one,D.one,Value.oneCell',tagOf,AV.isApp,strV,strS,bolV,bolS,slcV,AV.isSlD,asrtS,AV.dcells,D.cells?,stcV,stcS,leafOk,eqDs,eqD,packA,D.val?,↓reduceIte,reduceCtorEq,Nat.reduceAdd,Nat.reduceSub,Nat.reduceMul,List.reduceReplicate,Nat.reduceLeDiff,Nat.reduceLT,Nat.reduceBEq,Nat.reduceEqDiff,Int.reduceNeg,Int.reduceEq,Int.reduceLE,Int.reduceLT,tfb,boxAt,key3',key99',mencs_bxs,mencs_ents,kill_bxs,kill_ents,en_bxs,bxs_len,false_implies,n_retn,n_retr,n_retp,qd_Rn,AV.outN,fl_ic,D.flat,D.flats,ctz12,O12_6,z12_28,ctz28,z12o_28,z12_46,cy12_46,ctzy12_46,ctz12o,yy12_46_19,ctz46,z46_48,ctz48,hzb]
  rw [if_pos hz]
  simp (maxSteps := 4000000) +contextual (disch := first | omega | exact qdb_ok (by kernel_rfl) | exact okb_ok (by kernel_rfl)) only [bw1,bw2,bw3,bw4,bw5,bw6,bw7,bc0,bc1,bc2,bc3,bc4,bc5,bc6,bc7,bb0,setPs,AV.owns,AV.datF,AV.frz,AV.cpy,ifV,isEqB,nilV,nilX,AV.isNilS,AV.isNoRows,wk,dclo,datOf,binIs,addF,AV.isPtr,idxV,AV.isSl,AV.isSlice,AV.rows,ps,pv,extV,extS,AV.outs,AV.outF,packD,AV.dl,fieldV,fieldS,AV.cells?,AV.upr,AV.menc,AV.one,D.one,Value.oneCell',tagOf,AV.isApp,strV,strS,bolV,bolS,slcV,AV.isSlD,asrtS,AV.dcells,D.cells?,stcV,stcS,leafOk,eqDs,eqD,packA,D.val?,↓reduceIte,reduceCtorEq,Nat.reduceAdd,Nat.reduceSub,Nat.reduceMul,List.reduceReplicate,Nat.reduceLeDiff,Nat.reduceLT,Nat.reduceBEq,Nat.reduceEqDiff,Int.reduceNeg,Int.reduceEq,Int.reduceLE,Int.reduceLT,tfb,boxAt,key3',key99',mencs_bxs,mencs_ents,kill_bxs,kill_ents,en_bxs,bxs_len,false_implies,n_retn,n_retr,n_retp,qd_Rn,AV.outN,fl_ic,D.flat,D.flats,ctz12,O12_6,z12_28,ctz28,z12o_28,z12_46,cy12_46,ctzy12_46,ctz12o,yy12_46_19,ctz46,z46_48,ctz48,eq_self]
  refine seedSF (i1 := mk _) (i2 := mk _) (j := mk _) 3 0 44 43 5 _ (by decide) (by decide) rfl rfl (by simp [AV.mens, AV.men]) (by simp [Sto.mens, AV.mens, AV.men, mens_bxs, mens_ents]) rfl ?_
  refine rng_cut (C := Ct12) Ct12_ok 1000000019 [] [(3, [.own 44 43 5 ((runR l).1.mem.map Mem.c)])] ?_ ?_
  · have hms := (runR_ok hl).1.1
    have hln := hms.1
    have hPl := hR.len
    have hks := keys_srt hR runR_srt
    simp (maxSteps := 4000000) +contextual (disch := first | omega | exact qdb_ok (by kernel_rfl) | exact okb_ok (by kernel_rfl)) only [bw1,bw2,bw3,bw4,bw5,bw6,bw7,bc0,bc1,bc2,bc3,bc4,bc5,bc6,bc7,bb0,setPs,AV.owns,AV.datF,AV.frz,AV.cpy,ifV,isEqB,nilV,nilX,AV.isNilS,AV.isNoRows,wk,dclo,datOf,binIs,addF,AV.isPtr,idxV,AV.isSl,AV.isSlice,AV.rows,ps,pv,extV,extS,AV.outs,AV.outF,packD,AV.dl,fieldV,fieldS,AV.cells?,AV.upr,AV.menc,AV.one,D.one,Value.oneCell',tagOf,AV.isApp,strV,strS,bolV,bolS,slcV,AV.isSlD,asrtS,AV.dcells,D.cells?,stcV,stcS,leafOk,eqDs,eqD,packA,D.val?,↓reduceIte,reduceCtorEq,Nat.reduceAdd,Nat.reduceSub,Nat.reduceMul,List.reduceReplicate,Nat.reduceLeDiff,Nat.reduceLT,Nat.reduceBEq,Nat.reduceEqDiff,Int.reduceNeg,Int.reduceEq,Int.reduceLE,Int.reduceLT,tfb,boxAt,key3',key99',mencs_bxs,mencs_ents,kill_bxs,kill_ents,en_bxs,bxs_len,false_implies,n_retn,n_retr,n_retp,qd_Rn,AV.outN,fl_ic,D.flat,D.flats,ctz12,O12_6,z12_28,ctz28,z12o_28,z12_46,cy12_46,ctzy12_46,ctz12o,yy12_46_19,ctz46,z46_48,ctz48,eq_self, hx47]
    refine ⟨by simp [mens_bxs, mens_ents], PM, rfl, ⟨by omega, hR.rg⟩, ⟨rfl, rfl⟩, ⟨by simp [AV.stays, AV.stay], by simp [AV.stays, AV.stay, othL, st_ents]⟩, by simp, ?_⟩
    rw [hks]
    simp (maxSteps := 4000000) +contextual (disch := first | omega | exact qdb_ok (by kernel_rfl) | exact okb_ok (by kernel_rfl)) only [bw1,bw2,bw3,bw4,bw5,bw6,bw7,bc0,bc1,bc2,bc3,bc4,bc5,bc6,bc7,bb0,setPs,AV.owns,AV.datF,AV.frz,AV.cpy,ifV,isEqB,nilV,nilX,AV.isNilS,AV.isNoRows,wk,dclo,datOf,binIs,addF,AV.isPtr,idxV,AV.isSl,AV.isSlice,AV.rows,ps,pv,extV,extS,AV.outs,AV.outF,packD,AV.dl,fieldV,fieldS,AV.cells?,AV.upr,AV.menc,AV.one,D.one,Value.oneCell',tagOf,AV.isApp,strV,strS,bolV,bolS,slcV,AV.isSlD,asrtS,AV.dcells,D.cells?,stcV,stcS,leafOk,eqDs,eqD,packA,D.val?,↓reduceIte,reduceCtorEq,Nat.reduceAdd,Nat.reduceSub,Nat.reduceMul,List.reduceReplicate,Nat.reduceLeDiff,Nat.reduceLT,Nat.reduceBEq,Nat.reduceEqDiff,Int.reduceNeg,Int.reduceEq,Int.reduceLE,Int.reduceLT,tfb,boxAt,key3',key99',mencs_bxs,mencs_ents,kill_bxs,kill_ents,en_bxs,bxs_len,false_implies,n_retn,n_retr,n_retp,qd_Rn,AV.outN,fl_ic,D.flat,D.flats,ctz12,O12_6,z12_28,ctz28,z12o_28,z12_46,cy12_46,ctzy12_46,ctz12o,yy12_46_19,ctz46,z46_48,ctz48,eq_self]
    refine loop_xu (O := O46) (tb := 46000) Cy12_46_ok hmix (by kernel_rfl) (σ := Nat) (fun k => [(12, .i k)]) (fun k => [(3, [.own 44 43 5 (((runR l).1.mem.take k).map Mem.c)])]) (fun k => k ≤ (runR l).1.mem.length) (fun k => (runR l).1.mem.length - k) 0 (Nat.zero_le _) ?_ ?_
    · simp (maxSteps := 4000000) +contextual (disch := first | omega | exact qdb_ok (by kernel_rfl) | exact okb_ok (by kernel_rfl)) only [bw1,bw2,bw3,bw4,bw5,bw6,bw7,bc0,bc1,bc2,bc3,bc4,bc5,bc6,bc7,bb0,setPs,AV.owns,AV.datF,AV.frz,AV.cpy,ifV,isEqB,nilV,nilX,AV.isNilS,AV.isNoRows,wk,dclo,datOf,binIs,addF,AV.isPtr,idxV,AV.isSl,AV.isSlice,AV.rows,ps,pv,extV,extS,AV.outs,AV.outF,packD,AV.dl,fieldV,fieldS,AV.cells?,AV.upr,AV.menc,AV.one,D.one,Value.oneCell',tagOf,AV.isApp,strV,strS,bolV,bolS,slcV,AV.isSlD,asrtS,AV.dcells,D.cells?,stcV,stcS,leafOk,eqDs,eqD,packA,D.val?,↓reduceIte,reduceCtorEq,Nat.reduceAdd,Nat.reduceSub,Nat.reduceMul,List.reduceReplicate,Nat.reduceLeDiff,Nat.reduceLT,Nat.reduceBEq,Nat.reduceEqDiff,Int.reduceNeg,Int.reduceEq,Int.reduceLE,Int.reduceLT,tfb,boxAt,key3',key99',mencs_bxs,mencs_ents,kill_bxs,kill_ents,en_bxs,bxs_len,false_implies,n_retn,n_retr,n_retp,qd_Rn,AV.outN,fl_ic,D.flat,D.flats,ctz12,O12_6,z12_28,ctz28,z12o_28,z12_46,cy12_46,ctzy12_46,ctz12o,yy12_46_19,ctz46,z46_48,ctz48,eq_self]
      exact ⟨wk_ents _, wk_ents _, wk_ents _⟩
    intro k hk
    by_cases hlt : k < (runR l).1.mem.length
    · have hlt' : (k : Int) < (runR l).1.mem.length := by omega
      obtain ⟨a, h1, h7⟩ := at_srt hR hlt
      have hpa := person_at hlt
      have hbm := bm_ok (gb := 4000100011) hR.rg
      have hkey := keyOf3 (hR.rg _ (List.mem_of_getElem? h1))
      have hlk := fun {R : Option Nat → Prop} {m : At R} => xLkB_at (gb := 4000100011) h1 h7 (R := R) (m := m)
      have hat := bx_at (gb := 4000100011) h1
      have htk := take_succ (l := (runR l).1.mem) hlt
      generalize (runR l).1.mem.getD k default = m at h1 h7 hpa hkey hlk hat htk
      simp only at hkey hlk hat
      simp (maxSteps := 4000000) +contextual (disch := first | omega | exact qdb_ok (by kernel_rfl) | exact okb_ok (by kernel_rfl)) only [bw1,bw2,bw3,bw4,bw5,bw6,bw7,bc0,bc1,bc2,bc3,bc4,bc5,bc6,bc7,bb0,setPs,AV.owns,AV.datF,AV.frz,AV.cpy,ifV,isEqB,nilV,nilX,AV.isNilS,AV.isNoRows,wk,dclo,datOf,binIs,addF,AV.isPtr,idxV,AV.isSl,AV.isSlice,AV.rows,ps,pv,extV,extS,AV.outs,AV.outF,packD,AV.dl,fieldV,fieldS,AV.cells?,AV.upr,AV.menc,AV.one,D.one,Value.oneCell',tagOf,AV.isApp,strV,strS,bolV,bolS,slcV,AV.isSlD,asrtS,AV.dcells,D.cells?,stcV,stcS,leafOk,eqDs,eqD,packA,D.val?,↓reduceIte,reduceCtorEq,Nat.reduceAdd,Nat.reduceSub,Nat.reduceMul,List.reduceReplicate,Nat.reduceLeDiff,Nat.reduceLT,Nat.reduceBEq,Nat.reduceEqDiff,Int.reduceNeg,Int.reduceEq,Int.reduceLE,Int.reduceLT,tfb,boxAt,key3',key99',mencs_bxs,mencs_ents,kill_bxs,kill_ents,en_bxs,bxs_len,false_implies,n_retn,n_retr,n_retp,qd_Rn,AV.outN,fl_ic,D.flat,D.flats,ctz12,O12_6,z12_28,ctz28,z12o_28,z12_46,cy12_46,ctzy12_46,ctz12o,yy12_46_19,ctz46,z46_48,ctz48,eq_self, hlt', hpa, hbm, hkey, hlk, hat]
      exact ⟨by omega, by rw [List.length_take]; omega, by rw [List.length_take]; omega, k + 1, ⟨by omega, by omega⟩, rfl, wk_ents _, wk_ents _, wk_ents _, by rw [htk, List.map_append]; rfl⟩
    · have hlt' : ¬ (k : Int) < (runR l).1.mem.length := by omega
      obtain rfl : k = (runR l).1.mem.length := by omega
      simp (maxSteps := 4000000) +contextual (disch := first | omega | exact qdb_ok (by kernel_rfl) | exact okb_ok (by kernel_rfl)) only [bw1,bw2,bw3,bw4,bw5,bw6,bw7,bc0,bc1,bc2,bc3,bc4,bc5,bc6,bc7,bb0,setPs,AV.owns,AV.datF,AV.frz,AV.cpy,ifV,isEqB,nilV,nilX,AV.isNilS,AV.isNoRows,wk,dclo,datOf,binIs,addF,AV.isPtr,idxV,AV.isSl,AV.isSlice,AV.rows,ps,pv,extV,extS,AV.outs,AV.outF,packD,AV.dl,fieldV,fieldS,AV.cells?,AV.upr,AV.menc,AV.one,D.one,Value.oneCell',tagOf,AV.isApp,strV,strS,bolV,bolS,slcV,AV.isSlD,asrtS,AV.dcells,D.cells?,stcV,stcS,leafOk,eqDs,eqD,packA,D.val?,↓reduceIte,reduceCtorEq,Nat.reduceAdd,Nat.reduceSub,Nat.reduceMul,List.reduceReplicate,Nat.reduceLeDiff,Nat.reduceLT,Nat.reduceBEq,Nat.reduceEqDiff,Int.reduceNeg,Int.reduceEq,Int.reduceLE,Int.reduceLT,tfb,boxAt,key3',key99',mencs_bxs,mencs_ents,kill_bxs,kill_ents,en_bxs,bxs_len,false_implies,n_retn,n_retr,n_retp,qd_Rn,AV.outN,fl_ic,D.flat,D.flats,ctz12,O12_6,z12_28,ctz28,z12o_28,z12_46,cy12_46,ctzy12_46,ctz12o,yy12_46_19,ctz46,z46_48,ctz48,eq_self, Int.lt_irrefl]
      exact ⟨wk_ents _, wk_ents _, wk_ents _, by rw [List.take_length]⟩
  · have hfl : rowsFlat ((runR l).1.mem.map Mem.c) = true := rowsFlat_map fun _ => rfl
    simp (maxSteps := 4000000) +contextual (disch := first | omega | exact qdb_ok (by kernel_rfl) | exact okb_ok (by kernel_rfl)) only [bw1,bw2,bw3,bw4,bw5,bw6,bw7,bc0,bc1,bc2,bc3,bc4,bc5,bc6,bc7,bb0,setPs,AV.owns,AV.datF,AV.frz,AV.cpy,ifV,isEqB,nilV,nilX,AV.isNilS,AV.isNoRows,wk,dclo,datOf,binIs,addF,AV.isPtr,idxV,AV.isSl,AV.isSlice,AV.rows,ps,pv,extV,extS,AV.outs,AV.outF,packD,AV.dl,fieldV,fieldS,AV.cells?,AV.upr,AV.menc,AV.one,D.one,Value.oneCell',tagOf,AV.isApp,strV,strS,bolV,bolS,slcV,AV.isSlD,asrtS,AV.dcells,D.cells?,stcV,stcS,leafOk,eqDs,eqD,packA,D.val?,↓reduceIte,reduceCtorEq,Nat.reduceAdd,Nat.reduceSub,Nat.reduceMul,List.reduceReplicate,Nat.reduceLeDiff,Nat.reduceLT,Nat.reduceBEq,Nat.reduceEqDiff,Int.reduceNeg,Int.reduceEq,Int.reduceLE,Int.reduceLT,tfb,boxAt,key3',key99',mencs_bxs,mencs_ents,kill_bxs,kill_ents,en_bxs,bxs_len,false_implies,n_retn,n_retr,n_retp,qd_Rn,AV.outN,fl_ic,D.flat,D.flats,ctz12,O12_6,z12_28,ctz28,z12o_28,z12_46,cy12_46,ctzy12_46,ctz12o,yy12_46_19,ctz46,z46_48,ctz48,eq_self, hfl]
def ent12 (args : List AV) (K : AV → List AV → Sto → Prop) (e : List AV) (s : Sto) : Prop := entn (α := (List Ev)) (fun aa => [.sl 5 (aa.map Ev.c)]) (fun aa => ShsOk aa) (fun aa => .tup [.sl 5 ((playR aa).1.map Mem.c), .i (playR aa).2.1, .i (playR aa).2.2]) args K e s
theorem ent12_ok {args : List AV} {K : AV → List AV → Sto → Prop} {Q : Kt} {e : List AV} {s : Sto} (h : ent12 args K e s) : pcall Try.prog 12 args K Q e s := entn_ok (fun aa h => pf12 aa h) h
theorem eq12 {l : List Ev} {KK : AV → List AV → Sto → Prop} {ee : List AV} {ss : Sto} : ent12 [.d (.sl 5 (l.map Ev.c))] KK ee ss = ((ShsOk l) ∧ KK (.d (.tup [.sl 5 ((playR l).1.map Mem.c), .i (playR l).2.1, .i (playR l).2.2])) ee ss) := by
  unfold ent12; rw [entn_iff l (by intro b h; simpa [Prod.ext_iff, and_assoc, Int.ofNat_inj, ints_inj, evs_inj, mems_inj, ev_inj, mem_inj, st_inj] using h) rfl] <;> simp
theorem eqo12 {l : List Ev} {g1 el1 : Nat} {KK : AV → List AV → Sto → Prop} {ee : List AV} {ss : Sto} : ent12 [.own g1 el1 5 (l.map Ev.c)] KK ee ss = ((ShsOk l) ∧ KK (.d (.tup [.sl 5 ((playR l).1.map Mem.c), .i (playR l).2.1, .i (playR l).2.2])) ee ss) := by
  unfold ent12; rw [entn_iff l (by intro b h; simpa [Prod.ext_iff, and_assoc, Int.ofNat_inj, ints_inj, evs_inj, mems_inj, ev_inj, mem_inj, st_inj] using h) rfl] <;> simp
def O15 : Nat → Sch := fun id => if id = 9 then .one 0 (.one 1 (.one 2 (.one 3 (.one 4 (.one 5 (.one 6 (.one 7 (.one 8 (.one 9 (.one 10 (.one 11 (.one 12 (.one 13 (.done)))))))))))))) else if id = 10 then .one 1 (.one 2 (.one 3 (.one 4 (.alt (.one 0 (.one 5 (.one 6 (.one 7 (.done))))) (.one 5 (.one 0 (.one 6 (.one 7 (.done))))))))) else .done
theorem O15_9 : O15 9 = .one 0 (.one 1 (.one 2 (.one 3 (.one 4 (.one 5 (.one 6 (.one 7 (.one 8 (.one 9 (.one 10 (.one 11 (.one 12 (.one 13 (.done)))))))))))))) := rfl
theorem O15_10 : O15 10 = .one 1 (.one 2 (.one 3 (.one 4 (.alt (.one 0 (.one 5 (.one 6 (.one 7 (.done))))) (.one 5 (.one 0 (.one 6 (.one 7 (.done))))))))) := rfl
theorem ho15 : Try.f15.body.map (okO O15) = some true := by kernel_rfl
def Cf15o : Nat → List AV → (AV → List AV → Sto → Prop) → Kt → List AV → Sto → Prop := fun f args K Q e s => match f with
  | 27 => sp27 args K e s
  | 28 => inlE Try.prog Ct28 O28 28000 28 args K Q e s
  | 33 => ent33 args K e s
  | 34 => ent34 args K e s
  | 35 => sp35 args K e s
  | _ => False
def Ct15o : CT := { f := Cf15o, y := noYld, z := fun d => false }
theorem ctz15o {d : Nat} : CT.z Ct15o d = (false) := id rfl
theorem Ct15o_ok : Ct15o.ok Try.prog := ok_of_f (fun f args K Q e s h => by
  have h : Cf15o f args K Q e s := h
  unfold Cf15o at h; split at h
  · exact sp27_ok h
  · exact inlE_ok Ct28_ok hmix ho28 h
  · exact ent33_ok h
  · exact ent34_ok h
  · exact sp35_ok h
  · exact h.elim) (fun _ _ _ _ _ _ _ _ _ h => h)
def Yd15 : Nat → List Nat → Code → Code → List AV → (AV → List AV → Sto → Prop) → Kt → List AV → Sto → Prop := fun G ps asg bdy => if G / 1000 = 1000000 then yldE Try.prog Ct15o O15 0 G ps asg bdy else fun _ _ _ _ _ => False
def Cy15_46 : CT := { f := Cf46, y := Yd15 }
theorem ctzy15_46 {d : Nat} : CT.z Cy15_46 d = false := id rfl
theorem Cy15_46_ok : Cy15_46.ok Try.prog := ⟨Ct46_ok.f, fun g ps asg bdy args K Q e s h => by
  have h : Yd15 g ps asg bdy args K Q e s := h
  unfold Yd15 at h; split at h
  · exact yldE_ok Ct15o_ok hmix h
  · exact h.elim⟩
def Cf15 : Nat → List AV → (AV → List AV → Sto → Prop) → Kt → List AV → Sto → Prop := fun f args K Q e s => match f with
  | 27 => sp27 args K e s
  | 28 => inlE Try.prog Ct28 O28 28000 28 args K Q e s
  | 33 => ent33 args K e s
  | 34 => ent34 args K e s
  | 35 => sp35 args K e s
  | 46 => inlE Try.prog Cy15_46 O46 46000 46 args K Q e s
  | _ => False
def Ct15 : CT := { f := Cf15, y := noYld, z := fun d => false }
theorem ctz15 {d : Nat} : CT.z Ct15 d = (false) := id rfl
theorem Ct15_ok : Ct15.ok Try.prog := ok_of_f (fun f args K Q e s h => by
  have h : Cf15 f args K Q e s := h
  unfold Cf15 at h; split at h
  · exact sp27_ok h
  · exact inlE_ok Ct28_ok hmix ho28 h
  · exact ent33_ok h
  · exact ent34_ok h
  · exact sp35_ok h
  · exact inlE_ok Cy15_46_ok hmix ho46 h
  · exact h.elim) (fun _ _ _ _ _ _ _ _ _ h => h)
theorem z15_46 : type_of% (@xinl Try.prog Ct15 Cy15_46 O46 46000 46 _ _ _ _ rfl c46 Try.func46 rfl Try.ntmps46 Try.results46) := @xinl Try.prog Ct15 Cy15_46 O46 46000 46 _ _ _ _ rfl c46 Try.func46 rfl Try.ntmps46 Try.results46
theorem cy15_46 {n : Nat} {args : List AV} {K : AV → List AV → Sto → Prop} {Q : Kt} {i : At K} {j : At Q} {e : List AV} {s : Sto} : xC Cy15_46 n args K Q i j e s = xC Ct46 n args K Q i j e s := id rfl
theorem yy15_46_35 : type_of% (fun ps asg bdy => @xyld Try.prog Cy15_46 Ct15o O15 0 1000000035 Yd15 rfl ps asg bdy (if_pos (by omega))) := fun ps asg bdy => @xyld Try.prog Cy15_46 Ct15o O15 0 1000000035 Yd15 rfl ps asg bdy (if_pos (by omega))
theorem x15_33 {n : Int} {KK : AV → List AV → Sto → Prop} {QQ : Kt} {ii : At KK} {jj : At QQ} {ee : List AV} {ss : Sto} : xC Ct15 33 [.d (.i n)] KK QQ ii jj ee ss = (KK (.d (.b (inB n 0 255))) ee ss) := eq33
theorem x15_34 {l : List Ev} {d : Int} {KK : AV → List AV → Sto → Prop} {QQ : Kt} {ii : At KK} {jj : At QQ} {ee : List AV} {ss : Sto} : xC Ct15 34 [.d (.sl 5 (l.map Ev.c)), .d (.i d)] KK QQ ii jj ee ss = ((l.length ≤ 100000) ∧ KK (.d (.b (lateB l d))) ee ss) := eq34
theorem x15_34_m1 {l : List Ev} {d : Int} {g1 el1 : Nat} {KK : AV → List AV → Sto → Prop} {QQ : Kt} {ii : At KK} {jj : At QQ} {ee : List AV} {ss : Sto} : xC Ct15 34 [.own g1 el1 5 (l.map Ev.c), .d (.i d)] KK QQ ii jj ee ss = ((l.length ≤ 100000) ∧ (.b (lateB l d) : D).flat = true ∧ KK (.d (.b (lateB l d))) ee ss) := eqo34
theorem z15_28 : type_of% (@xinl Try.prog Ct15 Ct28 O28 28000 28 _ _ _ _ rfl c28 Try.func28 rfl Try.ntmps28 Try.results28) := @xinl Try.prog Ct15 Ct28 O28 28000 28 _ _ _ _ rfl c28 Try.func28 rfl Try.ntmps28 Try.results28
theorem x15o_33 {n : Int} {KK : AV → List AV → Sto → Prop} {QQ : Kt} {ii : At KK} {jj : At QQ} {ee : List AV} {ss : Sto} : xC Ct15o 33 [.d (.i n)] KK QQ ii jj ee ss = (KK (.d (.b (inB n 0 255))) ee ss) := eq33
theorem x15o_34 {l : List Ev} {d : Int} {KK : AV → List AV → Sto → Prop} {QQ : Kt} {ii : At KK} {jj : At QQ} {ee : List AV} {ss : Sto} : xC Ct15o 34 [.d (.sl 5 (l.map Ev.c)), .d (.i d)] KK QQ ii jj ee ss = ((l.length ≤ 100000) ∧ KK (.d (.b (lateB l d))) ee ss) := eq34
theorem x15o_34_m1 {l : List Ev} {d : Int} {g1 el1 : Nat} {KK : AV → List AV → Sto → Prop} {QQ : Kt} {ii : At KK} {jj : At QQ} {ee : List AV} {ss : Sto} : xC Ct15o 34 [.own g1 el1 5 (l.map Ev.c), .d (.i d)] KK QQ ii jj ee ss = ((l.length ≤ 100000) ∧ (.b (lateB l d) : D).flat = true ∧ KK (.d (.b (lateB l d))) ee ss) := eqo34
theorem z15o_28 : type_of% (@xinl Try.prog Ct15o Ct28 O28 28000 28 _ _ _ _ rfl c28 Try.func28 rfl Try.ntmps28 Try.results28) := @xinl Try.prog Ct15o Ct28 O28 28000 28 _ _ _ _ rfl c28 Try.func28 rfl Try.ntmps28 Try.results28
theorem c15 : callable Try.prog 15 = true := by kernel_rfl
theorem pf15 (l : List Ev) (c d : Int) (h : ShsOk l) : PFn Try.prog 15 [.sl 5 (l.map Ev.c), .i c, .i d] (fun zz => zz = .ret (.tup [.sl 1 ((ableR l c d).1.map ic), .i (ableR l c d).2])) := by
  have hl := h
  have hll := hl.1
  unfold ableR
  have hx : ∀ {args : List AV} {KK : AV → List AV → Sto → Prop} {QQ : Kt} {ii : At KK} {jj : At QQ} {ee : List AV} {ss : Sto}, xC Ct15 27 args KK QQ ii jj ee ss = sp27 args KK ee ss := id rfl
  have hx35 : ∀ {args : List AV} {KK : AV → List AV → Sto → Prop} {QQ : Kt} {ii : At KK} {jj : At QQ} {ee : List AV} {ss : Sto}, xC Ct15o 35 args KK QQ ii jj ee ss = sp35 args KK ee ss := id rfl
  have hx47 : ∀ {args : List AV} {KK : AV → List AV → Sto → Prop} {QQ : Kt} {ii : At KK} {jj : At QQ} {ee : List AV} {ss : Sto}, xC Ct46 47 args KK QQ ii jj ee ss = sp47 args KK ee ss := id rfl
  refine PFn_nil (PFn_start (O := O15) Ct15_ok hmix ho15 Try.func15 c15 rfl Try.ntmps15 Try.results15 ?_)
  simp (maxSteps := 4000000) +contextual (disch := first | omega | exact qdb_ok (by kernel_rfl) | exact okb_ok (by kernel_rfl)) only [bw1,bw2,bw3,bw4,bw5,bw6,bw7,bc0,bc1,bc2,bc3,bc4,bc5,bc6,bc7,bb0,setPs,AV.owns,AV.datF,AV.frz,AV.cpy,ifV,isEqB,nilV,nilX,AV.isNilS,AV.isNoRows,wk,dclo,datOf,binIs,addF,AV.isPtr,idxV,AV.isSl,AV.isSlice,AV.rows,ps,pv,extV,extS,AV.outs,AV.outF,packD,AV.dl,fieldV,fieldS,AV.cells?,AV.upr,AV.menc,AV.one,D.one,Value.oneCell',tagOf,AV.isApp,strV,strS,bolV,bolS,slcV,AV.isSlD,asrtS,AV.dcells,D.cells?,stcV,stcS,leafOk,eqDs,eqD,packA,D.val?,↓reduceIte,reduceCtorEq,Nat.reduceAdd,Nat.reduceSub,Nat.reduceMul,List.reduceReplicate,Nat.reduceLeDiff,Nat.reduceLT,Nat.reduceBEq,Nat.reduceEqDiff,Int.reduceNeg,Int.reduceEq,Int.reduceLE,Int.reduceLT,tfb,boxAt,key3',key99',mencs_bxs,mencs_ents,kill_bxs,kill_ents,en_bxs,bxs_len,false_implies,n_retn,n_retr,n_retp,qd_Rn,AV.outN,fl_ic,D.flat,D.flats,ctz15,O15_9,O15_10,x15_33,x15_34,x15_34_m1,z15_28,ctz28,x15o_33,x15o_34,x15o_34_m1,z15o_28,z15_46,cy15_46,ctzy15_46,ctz15o,yy15_46_35,ctz46,z46_48,ctz48,hx]
  refine ⟨l, rfl, hl, fun hz => ⟨⟨by simp [AV.stays, AV.stay], by simp [othF, AV.stays, AV.stay]⟩, fun PM M1 M2 hR => ?_⟩, fun hz => ?_⟩
  case refine_2 =>
    rw [if_neg hz]
    have hzb : ((runR l).2.2 != 0) = true := by simpa using hz
    simp (maxSteps := 4000000) +contextual (disch := first | omega | exact qdb_ok (by kernel_rfl) | exact okb_ok (by kernel_rfl)) only [bw1,bw2,bw3,bw4,bw5,bw6,bw7,bc0,bc1,bc2,bc3,bc4,bc5,bc6,bc7,bb0,setPs,AV.owns,AV.datF,AV.frz,AV.cpy,ifV,isEqB,nilV,nilX,AV.isNilS,AV.isNoRows,wk,dclo,datOf,binIs,addF,AV.isPtr,idxV,AV.isSl,AV.isSlice,AV.rows,ps,pv,extV,extS,AV.outs,AV.outF,packD,AV.dl,fieldV,fieldS,AV.cells?,AV.upr,AV.menc,AV.one,D.one,Value.oneCell',tagOf,AV.isApp,strV,strS,bolV,bolS,slcV,AV.isSlD,asrtS,AV.dcells,D.cells?,stcV,stcS,leafOk,eqDs,eqD,packA,D.val?,↓reduceIte,reduceCtorEq,Nat.reduceAdd,Nat.reduceSub,Nat.reduceMul,List.reduceReplicate,Nat.reduceLeDiff,Nat.reduceLT,Nat.reduceBEq,Nat.reduceEqDiff,Int.reduceNeg,Int.reduceEq,Int.reduceLE,Int.reduceLT,tfb,boxAt,key3',key99',mencs_bxs,mencs_ents,kill_bxs,kill_ents,en_bxs,bxs_len,false_implies,n_retn,n_retr,n_retp,qd_Rn,AV.outN,fl_ic,D.flat,D.flats,ctz15,O15_9,O15_10,x15_33,x15_34,x15_34_m1,z15_28,ctz28,x15o_33,x15o_34,x15o_34_m1,z15o_28,z15_46,cy15_46,ctzy15_46,ctz15o,yy15_46_35,ctz46,z46_48,ctz48,hzb]
  rw [if_pos hz]
  by_cases k1 : inB c 0 255 = true
  case neg =>
    rw [if_neg fun h => k1 h.1]
    simp (maxSteps := 4000000) +contextual (disch := first | omega | exact qdb_ok (by kernel_rfl) | exact okb_ok (by kernel_rfl)) only [bw1,bw2,bw3,bw4,bw5,bw6,bw7,bc0,bc1,bc2,bc3,bc4,bc5,bc6,bc7,bb0,setPs,AV.owns,AV.datF,AV.frz,AV.cpy,ifV,isEqB,nilV,nilX,AV.isNilS,AV.isNoRows,wk,dclo,datOf,binIs,addF,AV.isPtr,idxV,AV.isSl,AV.isSlice,AV.rows,ps,pv,extV,extS,AV.outs,AV.outF,packD,AV.dl,fieldV,fieldS,AV.cells?,AV.upr,AV.menc,AV.one,D.one,Value.oneCell',tagOf,AV.isApp,strV,strS,bolV,bolS,slcV,AV.isSlD,asrtS,AV.dcells,D.cells?,stcV,stcS,leafOk,eqDs,eqD,packA,D.val?,↓reduceIte,reduceCtorEq,Nat.reduceAdd,Nat.reduceSub,Nat.reduceMul,List.reduceReplicate,Nat.reduceLeDiff,Nat.reduceLT,Nat.reduceBEq,Nat.reduceEqDiff,Int.reduceNeg,Int.reduceEq,Int.reduceLE,Int.reduceLT,tfb,boxAt,key3',key99',mencs_bxs,mencs_ents,kill_bxs,kill_ents,en_bxs,bxs_len,false_implies,n_retn,n_retr,n_retp,qd_Rn,AV.outN,fl_ic,D.flat,D.flats,ctz15,O15_9,O15_10,x15_33,x15_34,x15_34_m1,z15_28,ctz28,x15o_33,x15o_34,x15o_34_m1,z15o_28,z15_46,cy15_46,ctzy15_46,ctz15o,yy15_46_35,ctz46,z46_48,ctz48,eq_self, k1, hll]
  by_cases k2 : lateB l d = true
  case neg =>
    rw [if_neg fun h => k2 h.2]
    simp (maxSteps := 4000000) +contextual (disch := first | omega | exact qdb_ok (by kernel_rfl) | exact okb_ok (by kernel_rfl)) only [bw1,bw2,bw3,bw4,bw5,bw6,bw7,bc0,bc1,bc2,bc3,bc4,bc5,bc6,bc7,bb0,setPs,AV.owns,AV.datF,AV.frz,AV.cpy,ifV,isEqB,nilV,nilX,AV.isNilS,AV.isNoRows,wk,dclo,datOf,binIs,addF,AV.isPtr,idxV,AV.isSl,AV.isSlice,AV.rows,ps,pv,extV,extS,AV.outs,AV.outF,packD,AV.dl,fieldV,fieldS,AV.cells?,AV.upr,AV.menc,AV.one,D.one,Value.oneCell',tagOf,AV.isApp,strV,strS,bolV,bolS,slcV,AV.isSlD,asrtS,AV.dcells,D.cells?,stcV,stcS,leafOk,eqDs,eqD,packA,D.val?,↓reduceIte,reduceCtorEq,Nat.reduceAdd,Nat.reduceSub,Nat.reduceMul,List.reduceReplicate,Nat.reduceLeDiff,Nat.reduceLT,Nat.reduceBEq,Nat.reduceEqDiff,Int.reduceNeg,Int.reduceEq,Int.reduceLE,Int.reduceLT,tfb,boxAt,key3',key99',mencs_bxs,mencs_ents,kill_bxs,kill_ents,en_bxs,bxs_len,false_implies,n_retn,n_retr,n_retp,qd_Rn,AV.outN,fl_ic,D.flat,D.flats,ctz15,O15_9,O15_10,x15_33,x15_34,x15_34_m1,z15_28,ctz28,x15o_33,x15o_34,x15o_34_m1,z15o_28,z15_46,cy15_46,ctzy15_46,ctz15o,yy15_46_35,ctz46,z46_48,ctz48,eq_self, k1, hll, k2]
  rw [if_pos ⟨k1, k2⟩]
  have hd := late_rng k2
  simp (maxSteps := 4000000) +contextual (disch := first | omega | exact qdb_ok (by kernel_rfl) | exact okb_ok (by kernel_rfl)) only [bw1,bw2,bw3,bw4,bw5,bw6,bw7,bc0,bc1,bc2,bc3,bc4,bc5,bc6,bc7,bb0,setPs,AV.owns,AV.datF,AV.frz,AV.cpy,ifV,isEqB,nilV,nilX,AV.isNilS,AV.isNoRows,wk,dclo,datOf,binIs,addF,AV.isPtr,idxV,AV.isSl,AV.isSlice,AV.rows,ps,pv,extV,extS,AV.outs,AV.outF,packD,AV.dl,fieldV,fieldS,AV.cells?,AV.upr,AV.menc,AV.one,D.one,Value.oneCell',tagOf,AV.isApp,strV,strS,bolV,bolS,slcV,AV.isSlD,asrtS,AV.dcells,D.cells?,stcV,stcS,leafOk,eqDs,eqD,packA,D.val?,↓reduceIte,reduceCtorEq,Nat.reduceAdd,Nat.reduceSub,Nat.reduceMul,List.reduceReplicate,Nat.reduceLeDiff,Nat.reduceLT,Nat.reduceBEq,Nat.reduceEqDiff,Int.reduceNeg,Int.reduceEq,Int.reduceLE,Int.reduceLT,tfb,boxAt,key3',key99',mencs_bxs,mencs_ents,kill_bxs,kill_ents,en_bxs,bxs_len,false_implies,n_retn,n_retr,n_retp,qd_Rn,AV.outN,fl_ic,D.flat,D.flats,ctz15,O15_9,O15_10,x15_33,x15_34,x15_34_m1,z15_28,ctz28,x15o_33,x15o_34,x15o_34_m1,z15o_28,z15_46,cy15_46,ctzy15_46,ctz15o,yy15_46_35,ctz46,z46_48,ctz48,eq_self, k1, hll, k2]
  refine seedSF (i1 := mk _) (i2 := mk _) (j := mk _) 12 0 57 3 1 _ (by decide) (by decide) rfl rfl (by simp [AV.mens, AV.men]) (by simp [Sto.mens, AV.mens, AV.men, mens_bxs, mens_ents]) rfl ?_
  refine rng_cut (C := Ct15) Ct15_ok 1000000035 [] [(12, [.own 57 3 1 ((ableN (runR l).1 c d (runR l).1.mem.length).map ic)])] ?_ ?_
  · have hms := (runR_ok hl).1.1
    have hln := hms.1
    have hPl := hR.len
    have hks := keys_srt hR runR_srt
    simp (maxSteps := 4000000) +contextual (disch := first | omega | exact qdb_ok (by kernel_rfl) | exact okb_ok (by kernel_rfl)) only [bw1,bw2,bw3,bw4,bw5,bw6,bw7,bc0,bc1,bc2,bc3,bc4,bc5,bc6,bc7,bb0,setPs,AV.owns,AV.datF,AV.frz,AV.cpy,ifV,isEqB,nilV,nilX,AV.isNilS,AV.isNoRows,wk,dclo,datOf,binIs,addF,AV.isPtr,idxV,AV.isSl,AV.isSlice,AV.rows,ps,pv,extV,extS,AV.outs,AV.outF,packD,AV.dl,fieldV,fieldS,AV.cells?,AV.upr,AV.menc,AV.one,D.one,Value.oneCell',tagOf,AV.isApp,strV,strS,bolV,bolS,slcV,AV.isSlD,asrtS,AV.dcells,D.cells?,stcV,stcS,leafOk,eqDs,eqD,packA,D.val?,↓reduceIte,reduceCtorEq,Nat.reduceAdd,Nat.reduceSub,Nat.reduceMul,List.reduceReplicate,Nat.reduceLeDiff,Nat.reduceLT,Nat.reduceBEq,Nat.reduceEqDiff,Int.reduceNeg,Int.reduceEq,Int.reduceLE,Int.reduceLT,tfb,boxAt,key3',key99',mencs_bxs,mencs_ents,kill_bxs,kill_ents,en_bxs,bxs_len,false_implies,n_retn,n_retr,n_retp,qd_Rn,AV.outN,fl_ic,D.flat,D.flats,ctz15,O15_9,O15_10,x15_33,x15_34,x15_34_m1,z15_28,ctz28,x15o_33,x15o_34,x15o_34_m1,z15o_28,z15_46,cy15_46,ctzy15_46,ctz15o,yy15_46_35,ctz46,z46_48,ctz48,eq_self, hx47]
    refine ⟨by simp [mens_bxs, mens_ents], PM, rfl, ⟨by omega, hR.rg⟩, ⟨rfl, rfl⟩, ⟨by simp [AV.stays, AV.stay], by simp [AV.stays, AV.stay, othL, st_ents]⟩, by simp, ?_⟩
    rw [hks]
    simp (maxSteps := 4000000) +contextual (disch := first | omega | exact qdb_ok (by kernel_rfl) | exact okb_ok (by kernel_rfl)) only [bw1,bw2,bw3,bw4,bw5,bw6,bw7,bc0,bc1,bc2,bc3,bc4,bc5,bc6,bc7,bb0,setPs,AV.owns,AV.datF,AV.frz,AV.cpy,ifV,isEqB,nilV,nilX,AV.isNilS,AV.isNoRows,wk,dclo,datOf,binIs,addF,AV.isPtr,idxV,AV.isSl,AV.isSlice,AV.rows,ps,pv,extV,extS,AV.outs,AV.outF,packD,AV.dl,fieldV,fieldS,AV.cells?,AV.upr,AV.menc,AV.one,D.one,Value.oneCell',tagOf,AV.isApp,strV,strS,bolV,bolS,slcV,AV.isSlD,asrtS,AV.dcells,D.cells?,stcV,stcS,leafOk,eqDs,eqD,packA,D.val?,↓reduceIte,reduceCtorEq,Nat.reduceAdd,Nat.reduceSub,Nat.reduceMul,List.reduceReplicate,Nat.reduceLeDiff,Nat.reduceLT,Nat.reduceBEq,Nat.reduceEqDiff,Int.reduceNeg,Int.reduceEq,Int.reduceLE,Int.reduceLT,tfb,boxAt,key3',key99',mencs_bxs,mencs_ents,kill_bxs,kill_ents,en_bxs,bxs_len,false_implies,n_retn,n_retr,n_retp,qd_Rn,AV.outN,fl_ic,D.flat,D.flats,ctz15,O15_9,O15_10,x15_33,x15_34,x15_34_m1,z15_28,ctz28,x15o_33,x15o_34,x15o_34_m1,z15o_28,z15_46,cy15_46,ctzy15_46,ctz15o,yy15_46_35,ctz46,z46_48,ctz48,eq_self]
    refine loop_xu (O := O46) (tb := 46000) Cy15_46_ok hmix (by kernel_rfl) (σ := Nat) (fun k => [(12, .i k)]) (fun k => [(12, [.own 57 3 1 ((ableN (runR l).1 c d k).map ic)])]) (fun k => k ≤ (runR l).1.mem.length) (fun k => (runR l).1.mem.length - k) 0 (Nat.zero_le _) ?_ ?_
    · have hz0 : ableN (runR l).1 c d 0 = [] := rfl
      simp (maxSteps := 4000000) +contextual (disch := first | omega | exact qdb_ok (by kernel_rfl) | exact okb_ok (by kernel_rfl)) only [bw1,bw2,bw3,bw4,bw5,bw6,bw7,bc0,bc1,bc2,bc3,bc4,bc5,bc6,bc7,bb0,setPs,AV.owns,AV.datF,AV.frz,AV.cpy,ifV,isEqB,nilV,nilX,AV.isNilS,AV.isNoRows,wk,dclo,datOf,binIs,addF,AV.isPtr,idxV,AV.isSl,AV.isSlice,AV.rows,ps,pv,extV,extS,AV.outs,AV.outF,packD,AV.dl,fieldV,fieldS,AV.cells?,AV.upr,AV.menc,AV.one,D.one,Value.oneCell',tagOf,AV.isApp,strV,strS,bolV,bolS,slcV,AV.isSlD,asrtS,AV.dcells,D.cells?,stcV,stcS,leafOk,eqDs,eqD,packA,D.val?,↓reduceIte,reduceCtorEq,Nat.reduceAdd,Nat.reduceSub,Nat.reduceMul,List.reduceReplicate,Nat.reduceLeDiff,Nat.reduceLT,Nat.reduceBEq,Nat.reduceEqDiff,Int.reduceNeg,Int.reduceEq,Int.reduceLE,Int.reduceLT,tfb,boxAt,key3',key99',mencs_bxs,mencs_ents,kill_bxs,kill_ents,en_bxs,bxs_len,false_implies,n_retn,n_retr,n_retp,qd_Rn,AV.outN,fl_ic,D.flat,D.flats,ctz15,O15_9,O15_10,x15_33,x15_34,x15_34_m1,z15_28,ctz28,x15o_33,x15o_34,x15o_34_m1,z15o_28,z15_46,cy15_46,ctzy15_46,ctz15o,yy15_46_35,ctz46,z46_48,ctz48,eq_self, hz0]
      exact ⟨wk_ents _, wk_ents _, wk_ents _⟩
    intro k hk
    by_cases hlt : k < (runR l).1.mem.length
    · have hlt' : (k : Int) < (runR l).1.mem.length := by omega
      obtain ⟨a, h1, h7⟩ := at_srt hR hlt
      have hpa := person_at hlt
      have hbm := bm_ok (gb := 4000100011) hR.rg
      have hkey := keyOf3 (hR.rg _ (List.mem_of_getElem? h1))
      have hpi := hR.rg _ (List.mem_of_getElem? h1)
      have hlk := fun {R : Option Nat → Prop} {m : At R} => xLkB_at (gb := 4000100011) h1 h7 (R := R) (m := m)
      have hat := bx_at (gb := 4000100011) h1
      have hyes := fun hc => ableN_yes (s := (runR l).1) (c := c) (d := d) hlt hc
      have hno := fun hc => ableN_no (s := (runR l).1) (c := c) (d := d) hlt hc
      have hmo := (runR_ok hl).2 ((runR l).1.mem.getD k default) (by rw [at_lt hlt]; exact List.getElem_mem _)
      have hln2 := ableN_len (s := (runR l).1) (c := c) (d := d) (k := k)
      unfold MOk at hmo
      generalize (runR l).1.mem.getD k default = m at h1 h7 hpa hkey hlk hat hyes hno hmo hpi
      simp only at hkey hlk hat hpi
      by_cases q1 : m.club = c
      case neg =>
        have q1b : (m.club == c) = false := by simpa using q1
        have hno := hno (by unfold ableP; rw [decide_eq_false q1]; rfl)
        simp (maxSteps := 4000000) +contextual (disch := first | omega | exact qdb_ok (by kernel_rfl) | exact okb_ok (by kernel_rfl)) only [bw1,bw2,bw3,bw4,bw5,bw6,bw7,bc0,bc1,bc2,bc3,bc4,bc5,bc6,bc7,bb0,setPs,AV.owns,AV.datF,AV.frz,AV.cpy,ifV,isEqB,nilV,nilX,AV.isNilS,AV.isNoRows,wk,dclo,datOf,binIs,addF,AV.isPtr,idxV,AV.isSl,AV.isSlice,AV.rows,ps,pv,extV,extS,AV.outs,AV.outF,packD,AV.dl,fieldV,fieldS,AV.cells?,AV.upr,AV.menc,AV.one,D.one,Value.oneCell',tagOf,AV.isApp,strV,strS,bolV,bolS,slcV,AV.isSlD,asrtS,AV.dcells,D.cells?,stcV,stcS,leafOk,eqDs,eqD,packA,D.val?,↓reduceIte,reduceCtorEq,Nat.reduceAdd,Nat.reduceSub,Nat.reduceMul,List.reduceReplicate,Nat.reduceLeDiff,Nat.reduceLT,Nat.reduceBEq,Nat.reduceEqDiff,Int.reduceNeg,Int.reduceEq,Int.reduceLE,Int.reduceLT,tfb,boxAt,key3',key99',mencs_bxs,mencs_ents,kill_bxs,kill_ents,en_bxs,bxs_len,false_implies,n_retn,n_retr,n_retp,qd_Rn,AV.outN,fl_ic,D.flat,D.flats,ctz15,O15_9,O15_10,x15_33,x15_34,x15_34_m1,z15_28,ctz28,x15o_33,x15o_34,x15o_34_m1,z15o_28,z15_46,cy15_46,ctzy15_46,ctz15o,yy15_46_35,ctz46,z46_48,ctz48,eq_self, hlt', hpa, hbm, hkey, hlk, hat, q1b]
        exact ⟨by omega, k + 1, ⟨by omega, by omega⟩, rfl, by rw [hno], wk_ents _, wk_ents _, wk_ents _⟩
      have q1b : (m.club == c) = true := by simpa using q1
      simp (maxSteps := 4000000) +contextual (disch := first | omega | exact qdb_ok (by kernel_rfl) | exact okb_ok (by kernel_rfl)) only [bw1,bw2,bw3,bw4,bw5,bw6,bw7,bc0,bc1,bc2,bc3,bc4,bc5,bc6,bc7,bb0,setPs,AV.owns,AV.datF,AV.frz,AV.cpy,ifV,isEqB,nilV,nilX,AV.isNilS,AV.isNoRows,wk,dclo,datOf,binIs,addF,AV.isPtr,idxV,AV.isSl,AV.isSlice,AV.rows,ps,pv,extV,extS,AV.outs,AV.outF,packD,AV.dl,fieldV,fieldS,AV.cells?,AV.upr,AV.menc,AV.one,D.one,Value.oneCell',tagOf,AV.isApp,strV,strS,bolV,bolS,slcV,AV.isSlD,asrtS,AV.dcells,D.cells?,stcV,stcS,leafOk,eqDs,eqD,packA,D.val?,↓reduceIte,reduceCtorEq,Nat.reduceAdd,Nat.reduceSub,Nat.reduceMul,List.reduceReplicate,Nat.reduceLeDiff,Nat.reduceLT,Nat.reduceBEq,Nat.reduceEqDiff,Int.reduceNeg,Int.reduceEq,Int.reduceLE,Int.reduceLT,tfb,boxAt,key3',key99',mencs_bxs,mencs_ents,kill_bxs,kill_ents,en_bxs,bxs_len,false_implies,n_retn,n_retr,n_retp,qd_Rn,AV.outN,fl_ic,D.flat,D.flats,ctz15,O15_9,O15_10,x15_33,x15_34,x15_34_m1,z15_28,ctz28,x15o_33,x15o_34,x15o_34_m1,z15o_28,z15_46,cy15_46,ctzy15_46,ctz15o,yy15_46_35,ctz46,z46_48,ctz48,eq_self, hlt', hpa, hbm, hkey, hlk, hat, q1b, hx35]
      refine ⟨by omega, PM, M1, M2, a, m, d, plB (runR l).1.evs m.person d, rfl, ⟨h1, hmo.2.1.1, i64_of (by omega), hpi, hR.rg2, hR.m2e _ _, hR.m2⟩, ⟨by simp [keepO], by simp [AV.stays, AV.stay, keepO], by simp [AV.stays, AV.stay, othL]⟩, ⟨rfl, rfl, rfl, rfl⟩, by simp, ?_⟩
      have hwhy : whyB m (plB (runR l).1.evs m.person d) = why (runR l).1.evs m d := rfl
      by_cases q2 : why (runR l).1.evs m d = []
      · have hyes := hyes (by unfold ableP; rw [decide_eq_true q1, decide_eq_true q2]; rfl)
        have hnil := hwhy.trans q2
        simp (maxSteps := 4000000) +contextual (disch := first | omega | exact qdb_ok (by kernel_rfl) | exact okb_ok (by kernel_rfl)) only [bw1,bw2,bw3,bw4,bw5,bw6,bw7,bc0,bc1,bc2,bc3,bc4,bc5,bc6,bc7,bb0,setPs,AV.owns,AV.datF,AV.frz,AV.cpy,ifV,isEqB,nilV,nilX,AV.isNilS,AV.isNoRows,wk,dclo,datOf,binIs,addF,AV.isPtr,idxV,AV.isSl,AV.isSlice,AV.rows,ps,pv,extV,extS,AV.outs,AV.outF,packD,AV.dl,fieldV,fieldS,AV.cells?,AV.upr,AV.menc,AV.one,D.one,Value.oneCell',tagOf,AV.isApp,strV,strS,bolV,bolS,slcV,AV.isSlD,asrtS,AV.dcells,D.cells?,stcV,stcS,leafOk,eqDs,eqD,packA,D.val?,↓reduceIte,reduceCtorEq,Nat.reduceAdd,Nat.reduceSub,Nat.reduceMul,List.reduceReplicate,Nat.reduceLeDiff,Nat.reduceLT,Nat.reduceBEq,Nat.reduceEqDiff,Int.reduceNeg,Int.reduceEq,Int.reduceLE,Int.reduceLT,tfb,boxAt,key3',key99',mencs_bxs,mencs_ents,kill_bxs,kill_ents,en_bxs,bxs_len,false_implies,n_retn,n_retr,n_retp,qd_Rn,AV.outN,fl_ic,D.flat,D.flats,ctz15,O15_9,O15_10,x15_33,x15_34,x15_34_m1,z15_28,ctz28,x15o_33,x15o_34,x15o_34_m1,z15o_28,z15_46,cy15_46,ctzy15_46,ctz15o,yy15_46_35,ctz46,z46_48,ctz48,eq_self, hnil, List.length_nil, List.map_nil, hat, List.map_cons, keepO]
        have hln3 := hln2 (by omega)
        exact ⟨by omega, by omega, k + 1, ⟨by omega, by omega⟩, rfl, by rw [hyes, List.map_append]; rfl, wk_ents _, wk_ents _, wk_ents _⟩
      · have hno := hno (by unfold ableP; rw [decide_eq_false q2, Bool.and_false])
        have q2b := len_ne (l := whyB m (plB (runR l).1.evs m.person d)) q2
        simp (maxSteps := 4000000) +contextual (disch := first | omega | exact qdb_ok (by kernel_rfl) | exact okb_ok (by kernel_rfl)) only [bw1,bw2,bw3,bw4,bw5,bw6,bw7,bc0,bc1,bc2,bc3,bc4,bc5,bc6,bc7,bb0,setPs,AV.owns,AV.datF,AV.frz,AV.cpy,ifV,isEqB,nilV,nilX,AV.isNilS,AV.isNoRows,wk,dclo,datOf,binIs,addF,AV.isPtr,idxV,AV.isSl,AV.isSlice,AV.rows,ps,pv,extV,extS,AV.outs,AV.outF,packD,AV.dl,fieldV,fieldS,AV.cells?,AV.upr,AV.menc,AV.one,D.one,Value.oneCell',tagOf,AV.isApp,strV,strS,bolV,bolS,slcV,AV.isSlD,asrtS,AV.dcells,D.cells?,stcV,stcS,leafOk,eqDs,eqD,packA,D.val?,↓reduceIte,reduceCtorEq,Nat.reduceAdd,Nat.reduceSub,Nat.reduceMul,List.reduceReplicate,Nat.reduceLeDiff,Nat.reduceLT,Nat.reduceBEq,Nat.reduceEqDiff,Int.reduceNeg,Int.reduceEq,Int.reduceLE,Int.reduceLT,tfb,boxAt,key3',key99',mencs_bxs,mencs_ents,kill_bxs,kill_ents,en_bxs,bxs_len,false_implies,n_retn,n_retr,n_retp,qd_Rn,AV.outN,fl_ic,D.flat,D.flats,ctz15,O15_9,O15_10,x15_33,x15_34,x15_34_m1,z15_28,ctz28,x15o_33,x15o_34,x15o_34_m1,z15o_28,z15_46,cy15_46,ctzy15_46,ctz15o,yy15_46_35,ctz46,z46_48,ctz48,eq_self, q2b, List.length_map, hat, List.map_cons, List.map_nil, keepO]
        exact ⟨k + 1, ⟨by omega, by omega⟩, rfl, by rw [hno], wk_ents _, wk_ents _, wk_ents _⟩
    · have hlt' : ¬ (k : Int) < (runR l).1.mem.length := by omega
      obtain rfl : k = (runR l).1.mem.length := by omega
      simp (maxSteps := 4000000) +contextual (disch := first | omega | exact qdb_ok (by kernel_rfl) | exact okb_ok (by kernel_rfl)) only [bw1,bw2,bw3,bw4,bw5,bw6,bw7,bc0,bc1,bc2,bc3,bc4,bc5,bc6,bc7,bb0,setPs,AV.owns,AV.datF,AV.frz,AV.cpy,ifV,isEqB,nilV,nilX,AV.isNilS,AV.isNoRows,wk,dclo,datOf,binIs,addF,AV.isPtr,idxV,AV.isSl,AV.isSlice,AV.rows,ps,pv,extV,extS,AV.outs,AV.outF,packD,AV.dl,fieldV,fieldS,AV.cells?,AV.upr,AV.menc,AV.one,D.one,Value.oneCell',tagOf,AV.isApp,strV,strS,bolV,bolS,slcV,AV.isSlD,asrtS,AV.dcells,D.cells?,stcV,stcS,leafOk,eqDs,eqD,packA,D.val?,↓reduceIte,reduceCtorEq,Nat.reduceAdd,Nat.reduceSub,Nat.reduceMul,List.reduceReplicate,Nat.reduceLeDiff,Nat.reduceLT,Nat.reduceBEq,Nat.reduceEqDiff,Int.reduceNeg,Int.reduceEq,Int.reduceLE,Int.reduceLT,tfb,boxAt,key3',key99',mencs_bxs,mencs_ents,kill_bxs,kill_ents,en_bxs,bxs_len,false_implies,n_retn,n_retr,n_retp,qd_Rn,AV.outN,fl_ic,D.flat,D.flats,ctz15,O15_9,O15_10,x15_33,x15_34,x15_34_m1,z15_28,ctz28,x15o_33,x15o_34,x15o_34_m1,z15o_28,z15_46,cy15_46,ctzy15_46,ctz15o,yy15_46_35,ctz46,z46_48,ctz48,eq_self, Int.lt_irrefl]
      exact ⟨wk_ents _, wk_ents _, wk_ents _⟩
  · have hfl : ∀ q : List Int, rowsFlat (q.map ic) = true := fun q => rowsFlat_map fun _ => rfl
    simp (maxSteps := 4000000) +contextual (disch := first | omega | exact qdb_ok (by kernel_rfl) | exact okb_ok (by kernel_rfl)) only [bw1,bw2,bw3,bw4,bw5,bw6,bw7,bc0,bc1,bc2,bc3,bc4,bc5,bc6,bc7,bb0,setPs,AV.owns,AV.datF,AV.frz,AV.cpy,ifV,isEqB,nilV,nilX,AV.isNilS,AV.isNoRows,wk,dclo,datOf,binIs,addF,AV.isPtr,idxV,AV.isSl,AV.isSlice,AV.rows,ps,pv,extV,extS,AV.outs,AV.outF,packD,AV.dl,fieldV,fieldS,AV.cells?,AV.upr,AV.menc,AV.one,D.one,Value.oneCell',tagOf,AV.isApp,strV,strS,bolV,bolS,slcV,AV.isSlD,asrtS,AV.dcells,D.cells?,stcV,stcS,leafOk,eqDs,eqD,packA,D.val?,↓reduceIte,reduceCtorEq,Nat.reduceAdd,Nat.reduceSub,Nat.reduceMul,List.reduceReplicate,Nat.reduceLeDiff,Nat.reduceLT,Nat.reduceBEq,Nat.reduceEqDiff,Int.reduceNeg,Int.reduceEq,Int.reduceLE,Int.reduceLT,tfb,boxAt,key3',key99',mencs_bxs,mencs_ents,kill_bxs,kill_ents,en_bxs,bxs_len,false_implies,n_retn,n_retr,n_retp,qd_Rn,AV.outN,fl_ic,D.flat,D.flats,ctz15,O15_9,O15_10,x15_33,x15_34,x15_34_m1,z15_28,ctz28,x15o_33,x15o_34,x15o_34_m1,z15o_28,z15_46,cy15_46,ctzy15_46,ctz15o,yy15_46_35,ctz46,z46_48,ctz48,eq_self, hfl]
def ent15 (args : List AV) (K : AV → List AV → Sto → Prop) (e : List AV) (s : Sto) : Prop := entn (α := (List Ev) × (Int) × (Int)) (fun aa => [.sl 5 (aa.1.map Ev.c), .i aa.2.1, .i aa.2.2]) (fun aa => ShsOk aa.1) (fun aa => .tup [.sl 1 ((ableR aa.1 aa.2.1 aa.2.2).1.map ic), .i (ableR aa.1 aa.2.1 aa.2.2).2]) args K e s
theorem ent15_ok {args : List AV} {K : AV → List AV → Sto → Prop} {Q : Kt} {e : List AV} {s : Sto} (h : ent15 args K e s) : pcall Try.prog 15 args K Q e s := entn_ok (fun aa h => pf15 aa.1 aa.2.1 aa.2.2 h) h
theorem eq15 {l : List Ev} {c : Int} {d : Int} {KK : AV → List AV → Sto → Prop} {ee : List AV} {ss : Sto} : ent15 [.d (.sl 5 (l.map Ev.c)), .d (.i c), .d (.i d)] KK ee ss = ((ShsOk l) ∧ KK (.d (.tup [.sl 1 ((ableR l c d).1.map ic), .i (ableR l c d).2])) ee ss) := by
  unfold ent15; rw [entn_iff (l, c, d) (by intro b h; simpa [Prod.ext_iff, and_assoc, Int.ofNat_inj, ints_inj, evs_inj, mems_inj, ev_inj, mem_inj, st_inj] using h) rfl] <;> simp
theorem eqo15 {l : List Ev} {c : Int} {d : Int} {g1 el1 : Nat} {KK : AV → List AV → Sto → Prop} {ee : List AV} {ss : Sto} : ent15 [.own g1 el1 5 (l.map Ev.c), .d (.i c), .d (.i d)] KK ee ss = ((ShsOk l) ∧ KK (.d (.tup [.sl 1 ((ableR l c d).1.map ic), .i (ableR l c d).2])) ee ss) := by
  unfold ent15; rw [entn_iff (l, c, d) (by intro b h; simpa [Prod.ext_iff, and_assoc, Int.ofNat_inj, ints_inj, evs_inj, mems_inj, ev_inj, mem_inj, st_inj] using h) rfl] <;> simp
end Go.Proofs.Ytohkngiflfkjjaa
