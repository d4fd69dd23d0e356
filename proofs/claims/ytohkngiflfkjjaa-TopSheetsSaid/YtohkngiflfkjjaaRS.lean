/- A part of the proof that the last text ends: what functions of the program do, told by plain data. -/
import Derived.Test.YtohkngiflfkjjaaRS0
set_option linter.unusedVariables false
set_option linter.unusedSimpArgs false
namespace Go.Proofs.Ytohkngiflfkjjaa
open Go Go.E Go.Maps
set_option maxRecDepth 100000
set_option maxHeartbeats 16000000
/-! ### The program: all persons, in order -/
theorem pf73 (l : List Int) (h : l.length ≤ 1000000) : PFu Try.prog 73 3 1 (l.map ic) [] (fun r x => r = .d (.tup []) ∧ x = ((srtd l).map ic)) := by
  exact srt73 l h
def ent73 (args : List AV) (K : AV → List AV → Sto → Prop) (e : List AV) (s : Sto) : Prop := entU (α := (List Int)) 3 1 (fun aa => (aa.map ic)) (fun aa => []) (fun aa => aa.length ≤ 1000000) (fun aa r x => r = .d (.tup []) ∧ x = ((srtd aa).map ic)) args K e s
theorem ent73_ok {args : List AV} {K : AV → List AV → Sto → Prop} {Q : Kt} {e : List AV} {s : Sto} (h : ent73 args K e s) : pcall Try.prog 73 args K Q e s := entU_ok (fun aa h => pf73 aa h) (fun aa r x h => ⟨_, h.1⟩) h
theorem eq73 {l : List Int} {gg : Nat} {KK : AV → List AV → Sto → Prop} {ee : List AV} {ss : Sto} : ent73 [.own gg 3 1 (l.map ic)] KK ee ss = ((l.length ≤ 1000000) ∧ upOk gg 3 1 (l.map ic) ee ss ∧ KK (.d (.tup [])) (ee.map (AV.ups gg ((srtd l).map ic))) (ss.ups gg ((srtd l).map ic))) := by
  unfold ent73
  exact Eq.trans (entU_iff (g := gg) l (by intro b h1 h2; first | (simpa [Prod.ext_iff, and_assoc, Int.ofNat_inj, ints_inj, evs_inj, mems_inj, ev_inj, mem_inj, st_inj] using And.intro h1 h2) | (simp [Prod.ext_iff, and_assoc, Int.ofNat_inj, ints_inj, evs_inj, mems_inj, ev_inj, mem_inj, st_inj] at h1 h2 ⊢; simp_all)) rfl) (propext ⟨fun ⟨h1, h2, h3⟩ => ⟨h1, h2, h3 _ _ ⟨rfl, rfl⟩⟩, fun ⟨h1, h2, h3⟩ => ⟨h1, h2, fun r x ⟨e1, e2⟩ => by subst e1; subst e2; exact h3⟩⟩)
def O74 : Nat → Sch := fun id => .done
theorem ho74 : Try.f74.body.map (okO O74) = some true := by kernel_rfl
def Cf74 : Nat → List AV → (AV → List AV → Sto → Prop) → Kt → List AV → Sto → Prop := fun f args K Q e s => match f with
  | _ => False
def Ct74 : CT := { f := Cf74, y := noYld, z := fun d => false }
theorem ctz74 {d : Nat} : CT.z Ct74 d = (false) := id rfl
theorem Ct74_ok : Ct74.ok Try.prog := ok_of_f (fun f args K Q e s h => by
  have h : Cf74 f args K Q e s := h
  unfold Cf74 at h; split at h
  · exact h.elim) (fun _ _ _ _ _ _ _ _ _ h => h)
theorem c74 : callable Try.prog 74 = true := by kernel_rfl
def O80 : Nat → Sch := fun id => .done
theorem ho80 : Try.f80.body.map (okO O80) = some true := by kernel_rfl
def Cf80o : Nat → List AV → (AV → List AV → Sto → Prop) → Kt → List AV → Sto → Prop := fun f args K Q e s => match f with
  | _ => False
def Ct80o : CT := { f := Cf80o, y := noYld, z := fun d => false }
theorem ctz80o {d : Nat} : CT.z Ct80o d = (false) := id rfl
theorem Ct80o_ok : Ct80o.ok Try.prog := ok_of_f (fun f args K Q e s h => by
  have h : Cf80o f args K Q e s := h
  unfold Cf80o at h; split at h
  · exact h.elim) (fun _ _ _ _ _ _ _ _ _ h => h)
def Yd80 : Nat → List Nat → Code → Code → List AV → (AV → List AV → Sto → Prop) → Kt → List AV → Sto → Prop := fun G ps asg bdy => if G / 1000 = 1000080 then yldE Try.prog Ct80o O80 80000 G ps asg bdy else fun _ _ _ _ _ => False
def Cy80_74 : CT := { f := Cf74, y := Yd80 }
theorem ctzy80_74 {d : Nat} : CT.z Cy80_74 d = false := id rfl
theorem Cy80_74_ok : Cy80_74.ok Try.prog := ⟨Ct74_ok.f, fun g ps asg bdy args K Q e s h => by
  have h : Yd80 g ps asg bdy args K Q e s := h
  unfold Yd80 at h; split at h
  · exact yldE_ok Ct80o_ok hmix h
  · exact h.elim⟩
def Cf80 : Nat → List AV → (AV → List AV → Sto → Prop) → Kt → List AV → Sto → Prop := fun f args K Q e s => match f with
  | 74 => inlE Try.prog Cy80_74 O74 74000 74 args K Q e s
  | _ => False
def Ct80 : CT := { f := Cf80, y := noYld, z := fun d => false }
theorem ctz80 {d : Nat} : CT.z Ct80 d = (false) := id rfl
theorem Ct80_ok : Ct80.ok Try.prog := ok_of_f (fun f args K Q e s h => by
  have h : Cf80 f args K Q e s := h
  unfold Cf80 at h; split at h
  · exact inlE_ok Cy80_74_ok hmix ho74 h
  · exact h.elim) (fun _ _ _ _ _ _ _ _ _ h => h)
theorem z80_74 : type_of% (@xinl Try.prog Ct80 Cy80_74 O74 74000 74 _ _ _ _ rfl c74 Try.func74 rfl Try.ntmps74 Try.results74) := @xinl Try.prog Ct80 Cy80_74 O74 74000 74 _ _ _ _ rfl c74 Try.func74 rfl Try.ntmps74 Try.results74
theorem cy80_74 {n : Nat} {args : List AV} {K : AV → List AV → Sto → Prop} {Q : Kt} {i : At K} {j : At Q} {e : List AV} {s : Sto} : xC Cy80_74 n args K Q i j e s = xC Ct74 n args K Q i j e s := id rfl
theorem yy80_74_7 : type_of% (fun ps asg bdy => @xyld Try.prog Cy80_74 Ct80o O80 80000 1000080007 Yd80 rfl ps asg bdy (if_pos (by omega))) := fun ps asg bdy => @xyld Try.prog Cy80_74 Ct80o O80 80000 1000080007 Yd80 rfl ps asg bdy (if_pos (by omega))
theorem c80 : callable Try.prog 80 = true := by kernel_rfl
def O72 : Nat → Sch := fun id => .done
theorem ho72 : Try.f72.body.map (okO O72) = some true := by kernel_rfl
def Cf72 : Nat → List AV → (AV → List AV → Sto → Prop) → Kt → List AV → Sto → Prop := fun f args K Q e s => match f with
  | 80 => inlE Try.prog Ct80 O80 80000 80 args K Q e s
  | _ => False
def Ct72 : CT := { f := Cf72, y := noYld, z := fun d => false }
theorem ctz72 {d : Nat} : CT.z Ct72 d = (false) := id rfl
theorem Ct72_ok : Ct72.ok Try.prog := ok_of_f (fun f args K Q e s h => by
  have h : Cf72 f args K Q e s := h
  unfold Cf72 at h; split at h
  · exact inlE_ok Ct80_ok hmix ho80 h
  · exact h.elim) (fun _ _ _ _ _ _ _ _ _ h => h)
theorem z72_80 : type_of% (@xinl Try.prog Ct72 Ct80 O80 80000 80 _ _ _ _ rfl c80 Try.func80 rfl Try.ntmps80 Try.results80) := @xinl Try.prog Ct72 Ct80 O80 80000 80 _ _ _ _ rfl c80 Try.func80 rfl Try.ntmps80 Try.results80
theorem c72 : callable Try.prog 72 = true := by kernel_rfl
def O47 : Nat → Sch := fun id => .done
theorem ho47 : Try.f47.body.map (okO O47) = some true := by kernel_rfl
def Cf47 : Nat → List AV → (AV → List AV → Sto → Prop) → Kt → List AV → Sto → Prop := fun f args K Q e s => match f with
  | 72 => inlE Try.prog Ct72 O72 72000 72 args K Q e s
  | 73 => ent73 args K e s
  | _ => False
def Ct47 : CT := { f := Cf47, y := noYld, z := fun d => false }
theorem ctz47 {d : Nat} : CT.z Ct47 d = (false) := id rfl
theorem Ct47_ok : Ct47.ok Try.prog := ok_of_f (fun f args K Q e s h => by
  have h : Cf47 f args K Q e s := h
  unfold Cf47 at h; split at h
  · exact inlE_ok Ct72_ok hmix ho72 h
  · exact ent73_ok h
  · exact h.elim) (fun _ _ _ _ _ _ _ _ _ h => h)
theorem x47_73 {l : List Int} {gg : Nat} {KK : AV → List AV → Sto → Prop} {QQ : Kt} {ii : At KK} {jj : At QQ} {ee : List AV} {ss : Sto} : xC Ct47 73 [.own gg 3 1 (l.map ic)] KK QQ ii jj ee ss = ((l.length ≤ 1000000) ∧ upOk gg 3 1 (l.map ic) ee ss ∧ KK (.d (.tup [])) (ee.map (AV.ups gg ((srtd l).map ic))) (ss.ups gg ((srtd l).map ic))) := eq73
theorem z47_72 : type_of% (@xinl Try.prog Ct47 Ct72 O72 72000 72 _ _ _ _ rfl c72 Try.func72 rfl Try.ntmps72 Try.results72) := @xinl Try.prog Ct47 Ct72 O72 72000 72 _ _ _ _ rfl c72 Try.func72 rfl Try.ntmps72 Try.results72
theorem c47 : callable Try.prog 47 = true := by kernel_rfl
abbrev TK : List Nat := [48002, 3000100011, 4000100011, 80012]
abbrev EK : List AV := [.ref 48002 0, .mp 3000100011]
abbrev stoK' (PM : PMem) : Sto := [(48002, [.mp 3000100011]), (3000100011, bxs 4000100011 fki Mem.c PM)]
def psS (PM : PMem) (seen : List Nat) : List Int := seen.map fun i => (PM.getD i default).1
theorem psS_len {PM : PMem} {y : List Nat} : (psS PM y).length = y.length := by simp [psS]
theorem psS_snoc {PM : PMem} {y : List Nat} {k : Nat} : psS PM (y ++ [k]) = psS PM y ++ [(PM.getD k default).1] := by simp [psS]
theorem psS_perm {PM : PMem} {y : List Nat} (hn : y.Nodup) (hy : ∀ k ∈ y, k < PM.length) (ha : ∀ k, k < PM.length → k ∈ y) : (psS PM y).Perm (PM.map (·.1)) := by
  have h := (seen_all hn hy ha).map (·.1)
  rw [List.map_map] at h
  exact h
theorem srtd_perm' (l : List Int) : (srtd l).Perm l := List.mergeSort_perm l _
theorem srtd_pw (l : List Int) : (srtd l).Pairwise (· ≤ ·) := by
  have h := List.pairwise_mergeSort (le := fun x y : Int => decide (x ≤ y)) (fun a b c h1 h2 => by simp at h1 h2 ⊢; omega) (fun a b => by simp; omega) l
  exact h.imp fun h => by simpa using h
theorem srtd_perm {l l' : List Int} (h : l.Perm l') : srtd l = srtd l' :=
  List.Perm.eq_of_pairwise (le := (· ≤ ·)) (fun a b _ _ h1 h2 => by omega) (srtd_pw l) (srtd_pw l') ((srtd_perm' l).trans (h.trans (srtd_perm' l').symm))
theorem mencs_itc {g k n : Nat} {y : List Nat} : AV.mencs k (itc g n y) = false := by simp [itc, AV.mencs, AV.menc]
theorem okUp_bxs {g el sz gb : Nat} {rows : List (List D)} {α β : Type} {fk : α → D} {fc : β → List D} {M : List (α × β)} (h : gb ≠ g) : okUp g el sz rows (bxs gb fk fc M) := by
  unfold bxs
  generalize 0 = j
  induction M generalizing j with
  | nil => trivial
  | cons p M ih => exact ⟨by simp [okUp1, AV.men, AV.mens, h], ih _⟩
theorem ups_bxs {g gb : Nat} {rows : List (List D)} {α β : Type} {fk : α → D} {fc : β → List D} {M : List (α × β)} (h : gb ≠ g) : (bxs gb fk fc M).map (AV.ups g rows) = bxs gb fk fc M := by
  unfold bxs
  generalize 0 = j
  induction M generalizing j with
  | nil => rfl
  | cons p M ih => simp [bxsF, AV.ups, ih]
theorem keys47 {PM : PMem} (hl : PM.length ≤ 1000) (hr : ∀ p ∈ PM, i64 p.1) :
    pcall Try.prog 47 [.clo (.func 74) [] [.ref 48002 0]] (fun r e1 s1 => e1 = EK ∧ r = .own 80012 3 1 ((srtd (PM.map (·.1))).map ic) ∧ s1.get 48002 = some [.mp 3000100011] ∧ s1.get 3000100011 = some (bxs 4000100011 fki Mem.c PM) ∧ s1.get 4000100011 = none ∧ s1.get 80012 = none) (fun y e1 _ => e1 = EK ∧ match y with | .panic _ => False | _ => False) EK ((0, []) :: stoK' PM) := by
  refine pcall_start (O := O47) (tb := 47000) Ct47_ok hmix ho47 Try.func47 c47 rfl Try.ntmps47 Try.results47 ?_
  simp (maxSteps := 4000000) +contextual (disch := first | omega | exact qdb_ok (by kernel_rfl) | exact okb_ok (by kernel_rfl)) only [bw1,bw2,bw3,bw4,bw5,bw6,bw7,bc0,bc1,bc2,bc3,bc4,bc5,bc6,bc7,bb0,setPs,AV.owns,AV.datF,AV.frz,AV.cpy,ifV,isEqB,nilV,nilX,AV.isNilS,AV.isNoRows,wk,dclo,datOf,binIs,addF,AV.isPtr,idxV,AV.isSl,AV.isSlice,AV.rows,ps,pv,extV,extS,AV.outs,AV.outF,packD,AV.dl,fieldV,fieldS,AV.cells?,AV.upr,AV.menc,AV.one,D.one,Value.oneCell',tagOf,AV.isApp,strV,strS,bolV,bolS,slcV,AV.isSlD,asrtS,AV.dcells,D.cells?,stcV,stcS,leafOk,eqDs,eqD,packA,D.val?,↓reduceIte,reduceCtorEq,Nat.reduceAdd,Nat.reduceSub,Nat.reduceMul,List.reduceReplicate,Nat.reduceLeDiff,Nat.reduceLT,Nat.reduceBEq,Nat.reduceEqDiff,Int.reduceNeg,Int.reduceEq,Int.reduceLE,Int.reduceLT,tfb,boxAt,key3',key99',mencs_bxs,mencs_ents,kill_bxs,kill_ents,en_bxs,bxs_len,false_implies,upOk,gU,bu0,ctz47,x47_73,z47_72,ctz72,z72_80,ctz80,z80_74,cy80_74,ctzy80_74,ctz80o,yy80_74_7,ctz74]
  refine seedSF (i1 := mk _) (i2 := mk _) (j := mk _) 80003 0 80012 3 1 _ (by decide) (by decide) rfl rfl (by simp [AV.mens, AV.men]) (by simp [Sto.mens, AV.mens, AV.men, mens_bxs]) rfl ?_
  refine rng_cutX (C := Ct80) Ct80_ok 1000080007 (σ := List Nat) (fun _ => []) (fun y => [(80003, [.own 80012 3 1 ((psS PM y).map ic)])]) (fun y => y.Nodup ∧ (∀ k ∈ y, k < PM.length) ∧ ∀ k, k < PM.length → k ∈ y) ?_ ?_
  · have hz : psS PM [] = [] := rfl
    simp (maxSteps := 4000000) +contextual (disch := first | omega | exact qdb_ok (by kernel_rfl) | exact okb_ok (by kernel_rfl)) only [bw1,bw2,bw3,bw4,bw5,bw6,bw7,bc0,bc1,bc2,bc3,bc4,bc5,bc6,bc7,bb0,setPs,AV.owns,AV.datF,AV.frz,AV.cpy,ifV,isEqB,nilV,nilX,AV.isNilS,AV.isNoRows,wk,dclo,datOf,binIs,addF,AV.isPtr,idxV,AV.isSl,AV.isSlice,AV.rows,ps,pv,extV,extS,AV.outs,AV.outF,packD,AV.dl,fieldV,fieldS,AV.cells?,AV.upr,AV.menc,AV.one,D.one,Value.oneCell',tagOf,AV.isApp,strV,strS,bolV,bolS,slcV,AV.isSlD,asrtS,AV.dcells,D.cells?,stcV,stcS,leafOk,eqDs,eqD,packA,D.val?,↓reduceIte,reduceCtorEq,Nat.reduceAdd,Nat.reduceSub,Nat.reduceMul,List.reduceReplicate,Nat.reduceLeDiff,Nat.reduceLT,Nat.reduceBEq,Nat.reduceEqDiff,Int.reduceNeg,Int.reduceEq,Int.reduceLE,Int.reduceLT,tfb,boxAt,key3',key99',mencs_bxs,mencs_ents,kill_bxs,kill_ents,en_bxs,bxs_len,false_implies,upOk,gU,bu0,ctz47,x47_73,z47_72,ctz72,z72_80,ctz80,z80_74,cy80_74,ctzy80_74,ctz80o,yy80_74_7,ctz74,eq_self]
    refine ⟨mens_bxs (by decide), ?_⟩
    refine loop_xu (O := O74) (tb := 74000) Cy80_74_ok hmix (by kernel_rfl) (σ := List Nat) (fun _ => []) (fun y => [(80003, [.own 80012 3 1 ((psS PM y).map ic)]), (2000074005, itc 3000100011 PM.length y)]) (fun y => y.Nodup ∧ ∀ k ∈ y, k < PM.length) (fun y => PM.length - y.length) [] ⟨by simp, by simp⟩ ?_ ?_
    · simp (maxSteps := 4000000) +contextual (disch := first | omega | exact qdb_ok (by kernel_rfl) | exact okb_ok (by kernel_rfl)) only [bw1,bw2,bw3,bw4,bw5,bw6,bw7,bc0,bc1,bc2,bc3,bc4,bc5,bc6,bc7,bb0,setPs,AV.owns,AV.datF,AV.frz,AV.cpy,ifV,isEqB,nilV,nilX,AV.isNilS,AV.isNoRows,wk,dclo,datOf,binIs,addF,AV.isPtr,idxV,AV.isSl,AV.isSlice,AV.rows,ps,pv,extV,extS,AV.outs,AV.outF,packD,AV.dl,fieldV,fieldS,AV.cells?,AV.upr,AV.menc,AV.one,D.one,Value.oneCell',tagOf,AV.isApp,strV,strS,bolV,bolS,slcV,AV.isSlD,asrtS,AV.dcells,D.cells?,stcV,stcS,leafOk,eqDs,eqD,packA,D.val?,↓reduceIte,reduceCtorEq,Nat.reduceAdd,Nat.reduceSub,Nat.reduceMul,List.reduceReplicate,Nat.reduceLeDiff,Nat.reduceLT,Nat.reduceBEq,Nat.reduceEqDiff,Int.reduceNeg,Int.reduceEq,Int.reduceLE,Int.reduceLT,tfb,boxAt,key3',key99',mencs_bxs,mencs_ents,kill_bxs,kill_ents,en_bxs,bxs_len,false_implies,upOk,gU,bu0,ctz47,x47_73,z47_72,ctz72,z72_80,ctz80,z80_74,cy80_74,ctzy80_74,ctz80o,yy80_74_7,ctz74,eq_self, hz]
      exact ⟨wk_ents _, wk_ents _⟩
    rintro seen ⟨hn1, hn2⟩
    simp (maxSteps := 4000000) +contextual (disch := first | omega | exact qdb_ok (by kernel_rfl) | exact okb_ok (by kernel_rfl)) only [bw1,bw2,bw3,bw4,bw5,bw6,bw7,bc0,bc1,bc2,bc3,bc4,bc5,bc6,bc7,bb0,setPs,AV.owns,AV.datF,AV.frz,AV.cpy,ifV,isEqB,nilV,nilX,AV.isNilS,AV.isNoRows,wk,dclo,datOf,binIs,addF,AV.isPtr,idxV,AV.isSl,AV.isSlice,AV.rows,ps,pv,extV,extS,AV.outs,AV.outF,packD,AV.dl,fieldV,fieldS,AV.cells?,AV.upr,AV.menc,AV.one,D.one,Value.oneCell',tagOf,AV.isApp,strV,strS,bolV,bolS,slcV,AV.isSlD,asrtS,AV.dcells,D.cells?,stcV,stcS,leafOk,eqDs,eqD,packA,D.val?,↓reduceIte,reduceCtorEq,Nat.reduceAdd,Nat.reduceSub,Nat.reduceMul,List.reduceReplicate,Nat.reduceLeDiff,Nat.reduceLT,Nat.reduceBEq,Nat.reduceEqDiff,Int.reduceNeg,Int.reduceEq,Int.reduceLE,Int.reduceLT,tfb,boxAt,key3',key99',mencs_bxs,mencs_ents,kill_bxs,kill_ents,en_bxs,bxs_len,false_implies,upOk,gU,bu0,ctz47,x47_73,z47_72,ctz72,z72_80,ctz80,z80_74,cy80_74,ctzy80_74,ctz80o,yy80_74_7,ctz74,eq_self]
    refine nx_bxs (gb := 4000100011) (fk := fki) (fc := Mem.c) (M := PM) (G := 3000100011) rfl rfl rfl rfl (by simp [AV.mencs, AV.menc, Sto.mencs, mencs_ents, mencs_bxs, itc]) (fun hall => ?_) (fun k hi hs => ?_)
    · simp (maxSteps := 4000000) +contextual (disch := first | omega | exact qdb_ok (by kernel_rfl) | exact okb_ok (by kernel_rfl)) only [bw1,bw2,bw3,bw4,bw5,bw6,bw7,bc0,bc1,bc2,bc3,bc4,bc5,bc6,bc7,bb0,setPs,AV.owns,AV.datF,AV.frz,AV.cpy,ifV,isEqB,nilV,nilX,AV.isNilS,AV.isNoRows,wk,dclo,datOf,binIs,addF,AV.isPtr,idxV,AV.isSl,AV.isSlice,AV.rows,ps,pv,extV,extS,AV.outs,AV.outF,packD,AV.dl,fieldV,fieldS,AV.cells?,AV.upr,AV.menc,AV.one,D.one,Value.oneCell',tagOf,AV.isApp,strV,strS,bolV,bolS,slcV,AV.isSlD,asrtS,AV.dcells,D.cells?,stcV,stcS,leafOk,eqDs,eqD,packA,D.val?,↓reduceIte,reduceCtorEq,Nat.reduceAdd,Nat.reduceSub,Nat.reduceMul,List.reduceReplicate,Nat.reduceLeDiff,Nat.reduceLT,Nat.reduceBEq,Nat.reduceEqDiff,Int.reduceNeg,Int.reduceEq,Int.reduceLE,Int.reduceLT,tfb,boxAt,key3',key99',mencs_bxs,mencs_ents,kill_bxs,kill_ents,en_bxs,bxs_len,false_implies,upOk,gU,bu0,ctz47,x47_73,z47_72,ctz72,z72_80,ctz80,z80_74,cy80_74,ctzy80_74,ctz80o,yy80_74_7,ctz74,eq_self]
      exact ⟨seen, ⟨hn1, hn2, hall⟩, rfl, wk_ents _⟩
    · have hss := seen_lt hn1 hn2 hi hs
      have hs1 := hss.1
      have hs2 := hss.2.1
      have hs3 := hss.2.2
      have hp1 := psS_len (PM := PM) (y := seen)
      have hlt : seen.length < 1000 := by omega
      have hp2 := psS_snoc (PM := PM) (y := seen) (k := k)
      have hk1 : ∀ x, (itc 3000100011 PM.length x).map (AV.kill 80012) = itc 3000100011 PM.length x := fun x => kill_itc (by decide)
      have hk2 : ∀ x, (itc 3000100011 PM.length x).map (AV.kill 80011) = itc 3000100011 PM.length x := fun x => kill_itc (by decide)
      simp (maxSteps := 4000000) +contextual (disch := first | omega | exact qdb_ok (by kernel_rfl) | exact okb_ok (by kernel_rfl)) only [bw1,bw2,bw3,bw4,bw5,bw6,bw7,bc0,bc1,bc2,bc3,bc4,bc5,bc6,bc7,bb0,setPs,AV.owns,AV.datF,AV.frz,AV.cpy,ifV,isEqB,nilV,nilX,AV.isNilS,AV.isNoRows,wk,dclo,datOf,binIs,addF,AV.isPtr,idxV,AV.isSl,AV.isSlice,AV.rows,ps,pv,extV,extS,AV.outs,AV.outF,packD,AV.dl,fieldV,fieldS,AV.cells?,AV.upr,AV.menc,AV.one,D.one,Value.oneCell',tagOf,AV.isApp,strV,strS,bolV,bolS,slcV,AV.isSlD,asrtS,AV.dcells,D.cells?,stcV,stcS,leafOk,eqDs,eqD,packA,D.val?,↓reduceIte,reduceCtorEq,Nat.reduceAdd,Nat.reduceSub,Nat.reduceMul,List.reduceReplicate,Nat.reduceLeDiff,Nat.reduceLT,Nat.reduceBEq,Nat.reduceEqDiff,Int.reduceNeg,Int.reduceEq,Int.reduceLE,Int.reduceLT,tfb,boxAt,key3',key99',mencs_bxs,mencs_ents,kill_bxs,kill_ents,en_bxs,bxs_len,false_implies,upOk,gU,bu0,ctz47,x47_73,z47_72,ctz72,z72_80,ctz80,z80_74,cy80_74,ctzy80_74,ctz80o,yy80_74_7,ctz74,eq_self, hk1, hk2, hp1]
      exact ⟨hi, by omega, by omega, mencs_itc, seen ++ [k], ⟨⟨hs2, hs3⟩, by rw [List.length_append]; simp only [List.length_cons, List.length_nil]; omega⟩, by rw [hp2, List.map_append]; rfl, wk_ents _, wk_ents _⟩
  · rintro y ⟨hn, hy, ha⟩
    simp (maxSteps := 4000000) +contextual (disch := first | omega | exact qdb_ok (by kernel_rfl) | exact okb_ok (by kernel_rfl)) only [bw1,bw2,bw3,bw4,bw5,bw6,bw7,bc0,bc1,bc2,bc3,bc4,bc5,bc6,bc7,bb0,setPs,AV.owns,AV.datF,AV.frz,AV.cpy,ifV,isEqB,nilV,nilX,AV.isNilS,AV.isNoRows,wk,dclo,datOf,binIs,addF,AV.isPtr,idxV,AV.isSl,AV.isSlice,AV.rows,ps,pv,extV,extS,AV.outs,AV.outF,packD,AV.dl,fieldV,fieldS,AV.cells?,AV.upr,AV.menc,AV.one,D.one,Value.oneCell',tagOf,AV.isApp,strV,strS,bolV,bolS,slcV,AV.isSlD,asrtS,AV.dcells,D.cells?,stcV,stcS,leafOk,eqDs,eqD,packA,D.val?,↓reduceIte,reduceCtorEq,Nat.reduceAdd,Nat.reduceSub,Nat.reduceMul,List.reduceReplicate,Nat.reduceLeDiff,Nat.reduceLT,Nat.reduceBEq,Nat.reduceEqDiff,Int.reduceNeg,Int.reduceEq,Int.reduceLE,Int.reduceLT,tfb,boxAt,key3',key99',mencs_bxs,mencs_ents,kill_bxs,kill_ents,en_bxs,bxs_len,false_implies,upOk,gU,bu0,ctz47,x47_73,z47_72,ctz72,z72_80,ctz80,z80_74,cy80_74,ctzy80_74,ctz80o,yy80_74_7,ctz74,eq_self]
    have hp := srtd_perm (psS_perm hn hy ha)
    exact ⟨by rw [psS_len]; have := nd_le _ _ hn hy; omega, okUp_bxs (by decide), by rw [hp], ups_bxs (by decide)⟩
end Go.Proofs.Ytohkngiflfkjjaa
