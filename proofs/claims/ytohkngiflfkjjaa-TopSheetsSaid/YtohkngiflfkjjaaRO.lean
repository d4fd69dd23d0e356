/- A part of the proof that the last text ends: what functions of the program do, told by plain data. -/
import Derived.Test.YtohkngiflfkjjaaRN
set_option linter.unusedVariables false
set_option linter.unusedSimpArgs false
namespace Go.Proofs.Ytohkngiflfkjjaa
open Go Go.E Go.Maps
set_option maxRecDepth 100000
set_option maxHeartbeats 16000000
/-! ### The program: why a member is barred -/
def whyB (m : Mem) (p : Bool) : List Int := (if 0 < m.ban then [1] else []) ++ ((if 0 < m.stage then [2] else []) ++ (if p = true then [3] else []))
def whyK (m : Mem) (p : Bool) : Nat → List Int
  | 0 => []
  | 1 => []
  | 2 => if 0 < m.ban then [1] else []
  | 3 => (if 0 < m.ban then [1] else []) ++ (if 0 < m.stage then [2] else [])
  | _ => whyB m p
theorem whyK_2 {m : Mem} {p : Bool} : (whyK m p 2).length ≤ 1 := by
  show (if 0 < m.ban then [(1 : Int)] else []).length ≤ 1
  split
  · exact Nat.le_refl _
  · exact Nat.zero_le _
theorem whyK_3 {m : Mem} {p : Bool} : (whyK m p 3).length ≤ 2 := by
  show ((if 0 < m.ban then [(1 : Int)] else []) ++ (if 0 < m.stage then [(2 : Int)] else [])).length ≤ 2
  rw [List.length_append]
  split <;> split <;> simp only [List.length_cons, List.length_nil] <;> omega
abbrev TC : List Nat := 35041 :: TB
abbrev EC (a : Nat) : List AV := .bx 4000100011 a 0 :: EB
theorem frameC {args e : List AV} {s : Sto} {PM : PMem} {M1 M2 : PSet} {a : Nat} (ha : AV.onlys TC args = true) (h : IsB s PM M1 M2) (hb : AV.bx 4000100011 a 0 ∈ e) (h2 : AV.stays TC (EC a) e) (h3 : othL TC (EC a) s) : FrameOk TC (EC a) args (stoB PM M1 M2) e s where
  tags := fun g hg => by
    simp only [TC, TB, List.mem_cons, List.not_mem_nil, or_false] at hg
    omega
  sub := fun g c hg => by
    simp only [stoB, Sto.get] at hg
    repeat' split at hg
    · rename_i e; subst e; cases hg; exact ⟨rfl, h.b, rfl⟩
    · rename_i e; subst e; cases hg; exact ⟨rfl, h.g, onlys_bxs rfl⟩
    · rename_i e; subst e; cases hg; exact ⟨rfl, h.m1, stays_ents⟩
    · rename_i e; subst e; cases hg; exact ⟨rfl, h.m2, stays_ents⟩
    · cases hg
  args := ha
  eo := rfl
  av := fun x hx => by
    simp only [EC, EB, List.mem_cons, List.not_mem_nil, or_false] at hx
    rcases hx with rfl | rfl | rfl | rfl | rfl
    · exact .inl hb
    · exact .inr (.inr ⟨rfl, by omega⟩)
    · exact .inr (.inr (show 2000000000 ≤ 3000100011 by omega))
    · exact .inr (.inr (show 2000000000 ≤ 2000100012 by omega))
    · exact .inr (.inr (show 2000000000 ≤ 2000100013 by omega))
  slots := h2
  others := fun g c hg hT => othL_get h3 hg hT
theorem xLk_p {q : Int × Int} {M : PSet} {p : Bool} (h : q ∈ M.map (·.1) ↔ p = true) (ht : ∀ q b, (q, b) ∈ M → b = true) {R : Option D → Prop} {m : At R} : xLk (ents fkp fvb M) (pV q) R m = R (if p = true then some (.b true) else none) := by
  by_cases c : p = true
  · rw [if_pos c]; exact xLk_yes (h.2 c) ht
  · rw [if_neg c]; exact xLk_none fun hq => c (h.1 hq)
theorem pl1 : placeOf Try.prog 100 1 = some (1, 1) := by kernel_rfl
theorem pl2 : placeOf Try.prog 100 2 = some (2, 1) := by kernel_rfl
theorem pl3 : placeOf Try.prog 100 3 = some (3, 1) := by kernel_rfl
theorem mens_ents {α β : Type} {fk : α → D} {fv : β → D} {M : List (α × β)} {g : Nat} : AV.mens g (ents fk fv M) = false := by
  unfold ents; induction M with
  | nil => rfl
  | cons p M ih => simp [AV.mens, AV.men, ih]
theorem mens_bxs {α β : Type} {fk : α → D} {fc : β → List D} {M : List (α × β)} {g gb : Nat} (h : gb ≠ g) : AV.mens g (bxs gb fk fc M) = false := by
  unfold bxs
  generalize 0 = j
  induction M generalizing j with
  | nil => rfl
  | cons p M ih => simp [bxsF, AV.mens, AV.men, h, ih]
theorem ix100 : ixe Try.prog 100 = some (4, false, 1) := by kernel_rfl
def O35 : Nat → Sch := fun id => if id = 2 then .one 0 (.one 1 (.one 2 (.one 5 (.one 6 (.one 7 (.one 10 (.one 11 (.one 12 (.one 13 (.one 14 (.one 15 (.one 16 (.one 17 (.one 18 (.one 19 (.one 22 (.alt (.one 3 (.one 4 (.alt (.one 8 (.one 9 (.one 20 (.one 21 (.done))))) (.one 20 (.one 8 (.one 9 (.one 21 (.done)))))))) (.alt (.one 8 (.one 9 (.alt (.one 3 (.one 4 (.one 20 (.one 21 (.done))))) (.one 20 (.one 3 (.one 4 (.one 21 (.done)))))))) (.one 20 (.one 3 (.one 4 (.one 8 (.one 9 (.one 21 (.done))))))))))))))))))))))))) else .done
theorem O35_2 : O35 2 = .one 0 (.one 1 (.one 2 (.one 5 (.one 6 (.one 7 (.one 10 (.one 11 (.one 12 (.one 13 (.one 14 (.one 15 (.one 16 (.one 17 (.one 18 (.one 19 (.one 22 (.alt (.one 3 (.one 4 (.alt (.one 8 (.one 9 (.one 20 (.one 21 (.done))))) (.one 20 (.one 8 (.one 9 (.one 21 (.done)))))))) (.alt (.one 8 (.one 9 (.alt (.one 3 (.one 4 (.one 20 (.one 21 (.done))))) (.one 20 (.one 3 (.one 4 (.one 21 (.done)))))))) (.one 20 (.one 3 (.one 4 (.one 8 (.one 9 (.one 21 (.done))))))))))))))))))))))))) := rfl
theorem ho35 : Try.f35.body.map (okO O35) = some true := by kernel_rfl
def Cf35 : Nat → List AV → (AV → List AV → Sto → Prop) → Kt → List AV → Sto → Prop := fun f args K Q e s => match f with
  | _ => False
def Ct35 : CT := { f := Cf35, y := noYld, z := fun d => false }
theorem ctz35 {d : Nat} : CT.z Ct35 d = (false) := id rfl
theorem Ct35_ok : Ct35.ok Try.prog := ok_of_f (fun f args K Q e s h => by
  have h : Cf35 f args K Q e s := h
  unfold Cf35 at h; split at h
  · exact h.elim) (fun _ _ _ _ _ _ _ _ _ h => h)
theorem c35 : callable Try.prog 35 = true := by kernel_rfl
theorem barred35 {PM : PMem} {M1 M2 : PSet} {a : Nat} {m : Mem} {d : Int} {p : Bool} (h1 : PM[a]? = some (m.person, m)) (hs : 0 ≤ m.stage) (hd : i64 d) (hp : i64 m.person) (hg2 : ∀ p ∈ M2, i64 p.1.1 ∧ i64 p.1.2) (hm : ((m.person, d) ∈ M2.map (·.1)) ↔ p = true) (ht : ∀ q b, (q, b) ∈ M2 → b = true) :
    pcall Try.prog 35 [.ref 100016 0, .bx 4000100011 a 0, .d (.i d)] (fun r e1 s1 => e1 = EC a ∧ r = .own 35041 3 1 ((whyB m p).map ic) ∧ IsB s1 PM M1 M2 ∧ s1.get 4000100011 = none ∧ s1.get 35041 = none) (fun y e1 _ => e1 = EC a ∧ match y with | .panic _ => False | _ => False) (EC a) ((0, []) :: stoB PM M1 M2) := by
  have hat : bxAt (bxs 4000100011 fki Mem.c PM) 4000100011 a = some (.i m.person, m.c) := bx_at h1
  have hlk : ∀ {R : Option D → Prop} {mm : At R}, xLk (ents fkp fvb M2) (.agg #[.int .i64 m.person, .int .i64 d]) R mm = R (if p = true then some (.b true) else none) := fun {R mm} => xLk_p (q := (m.person, d)) hm ht
  have hem := em_ok hg2
  have hk := keyOf99 hp hd
  have sb : (m.stage != 0) = decide (0 < m.stage) := by rw [Bool.eq_iff_iff]; simp; omega
  have w0 : whyK m p 0 = [] := rfl
  have w1 : whyK m p 1 = [] := rfl
  have w4 : whyK m p 4 = whyB m p := rfl
  refine pcall_start (O := O35) (tb := 35000) Ct35_ok hmix ho35 Try.func35 c35 rfl Try.ntmps35 Try.results35 ?_
  have z0 : ((0 : Nat) : Int) = 0 := rfl
  have z1 : ((1 : Nat) : Int) = 1 := rfl
  have z2 : ((2 : Nat) : Int) = 2 := rfl
  have z3 : ((3 : Nat) : Int) = 3 := rfl
  have z4 : ((4 : Nat) : Int) = 4 := rfl
  have hpp : ∃ q : Bool, q = p := ⟨p, rfl⟩
  cases p
  case true =>
    have v3 : whyK m true 4 = whyK m true 3 ++ [3] := by simp [whyK, whyB]
    have hl2 := whyK_2 (m := m) (p := true)
    have hl3 := whyK_3 (m := m) (p := true)
    simp (maxSteps := 4000000) +contextual (disch := first | omega | exact qdb_ok (by kernel_rfl) | exact okb_ok (by kernel_rfl)) only [bw1,bw2,bw3,bw4,bw5,bw6,bw7,bc0,bc1,bc2,bc3,bc4,bc5,bc6,bc7,bb0,setPs,AV.owns,AV.datF,AV.frz,AV.cpy,ifV,isEqB,nilV,nilX,AV.isNilS,AV.isNoRows,wk,dclo,datOf,binIs,addF,AV.isPtr,idxV,AV.isSl,AV.isSlice,AV.rows,ps,pv,extV,extS,AV.outs,AV.outF,packD,AV.dl,fieldV,fieldS,AV.cells?,AV.upr,AV.menc,AV.one,D.one,Value.oneCell',tagOf,AV.isApp,strV,strS,bolV,bolS,slcV,AV.isSlD,asrtS,AV.dcells,D.cells?,stcV,stcS,leafOk,eqDs,eqD,packA,D.val?,↓reduceIte,reduceCtorEq,Nat.reduceAdd,Nat.reduceSub,Nat.reduceMul,List.reduceReplicate,Nat.reduceLeDiff,Nat.reduceLT,Nat.reduceBEq,Nat.reduceEqDiff,Int.reduceNeg,Int.reduceEq,Int.reduceLE,Int.reduceLT,tfb,ix100,pl1,pl2,pl3,List.set_cons_zero,List.set_cons_succ,boxAt,key3',key99',mencs_bxs,mencs_ents,kill_bxs,kill_ents,lkv_some',lkv_none',ctz35,O35_2,hat, hlk, hem, hk, sb]
    refine seed (m1 := mk _) (m2 := mk _) 7 35041 3 1 (by decide) rfl rfl (by simp [Sto.mens, AV.mens, AV.men, mens_bxs, mens_ents]) rfl ?_
    refine loop_u (O := O35) (tb := 35000) Ct35_ok hmix (by kernel_rfl) (σ := Nat) (fun k => [(7, .own 35041 3 1 ((whyK m true k).map ic)), (8, .any), (9, .any), (40, .any), (32, .i k)]) (fun k => []) (fun k => k ≤ 4) (fun k => 4 - k) (fun k => k + 1) 0 (by omega) ?_ ?_
    · simp (maxSteps := 4000000) +contextual (disch := first | omega | exact qdb_ok (by kernel_rfl) | exact okb_ok (by kernel_rfl)) only [bw1,bw2,bw3,bw4,bw5,bw6,bw7,bc0,bc1,bc2,bc3,bc4,bc5,bc6,bc7,bb0,setPs,AV.owns,AV.datF,AV.frz,AV.cpy,ifV,isEqB,nilV,nilX,AV.isNilS,AV.isNoRows,wk,dclo,datOf,binIs,addF,AV.isPtr,idxV,AV.isSl,AV.isSlice,AV.rows,ps,pv,extV,extS,AV.outs,AV.outF,packD,AV.dl,fieldV,fieldS,AV.cells?,AV.upr,AV.menc,AV.one,D.one,Value.oneCell',tagOf,AV.isApp,strV,strS,bolV,bolS,slcV,AV.isSlD,asrtS,AV.dcells,D.cells?,stcV,stcS,leafOk,eqDs,eqD,packA,D.val?,↓reduceIte,reduceCtorEq,Nat.reduceAdd,Nat.reduceSub,Nat.reduceMul,List.reduceReplicate,Nat.reduceLeDiff,Nat.reduceLT,Nat.reduceBEq,Nat.reduceEqDiff,Int.reduceNeg,Int.reduceEq,Int.reduceLE,Int.reduceLT,tfb,ix100,pl1,pl2,pl3,List.set_cons_zero,List.set_cons_succ,boxAt,key3',key99',mencs_bxs,mencs_ents,kill_bxs,kill_ents,lkv_some',lkv_none',ctz35,O35_2,eq_self, w0]
      exact ⟨wk_ents _, wk_ents _, wk_ents _⟩
    intro k hk4
    have hkk : k = 0 ∨ k = 1 ∨ k = 2 ∨ k = 3 ∨ k = 4 := by omega
    rcases hkk with rfl | rfl | rfl | rfl | rfl
    · simp (maxSteps := 4000000) +contextual (disch := first | omega | exact qdb_ok (by kernel_rfl) | exact okb_ok (by kernel_rfl)) only [bw1,bw2,bw3,bw4,bw5,bw6,bw7,bc0,bc1,bc2,bc3,bc4,bc5,bc6,bc7,bb0,setPs,AV.owns,AV.datF,AV.frz,AV.cpy,ifV,isEqB,nilV,nilX,AV.isNilS,AV.isNoRows,wk,dclo,datOf,binIs,addF,AV.isPtr,idxV,AV.isSl,AV.isSlice,AV.rows,ps,pv,extV,extS,AV.outs,AV.outF,packD,AV.dl,fieldV,fieldS,AV.cells?,AV.upr,AV.menc,AV.one,D.one,Value.oneCell',tagOf,AV.isApp,strV,strS,bolV,bolS,slcV,AV.isSlD,asrtS,AV.dcells,D.cells?,stcV,stcS,leafOk,eqDs,eqD,packA,D.val?,↓reduceIte,reduceCtorEq,Nat.reduceAdd,Nat.reduceSub,Nat.reduceMul,List.reduceReplicate,Nat.reduceLeDiff,Nat.reduceLT,Nat.reduceBEq,Nat.reduceEqDiff,Int.reduceNeg,Int.reduceEq,Int.reduceLE,Int.reduceLT,tfb,ix100,pl1,pl2,pl3,List.set_cons_zero,List.set_cons_succ,boxAt,key3',key99',mencs_bxs,mencs_ents,kill_bxs,kill_ents,lkv_some',lkv_none',ctz35,O35_2,eq_self, z0, z1, Int.reduceToNat, Int.reduceAdd, Int.toNat_zero, Nat.zero_mul, List.getD_cons_zero, List.getD_cons_succ, w0, w1]
      and_intros <;> first | omega | rfl | exact wk_ents _
    · by_cases c : 0 < m.ban
      · have w2 : whyK m true 2 = [1] := if_pos c
        simp (maxSteps := 4000000) +contextual (disch := first | omega | exact qdb_ok (by kernel_rfl) | exact okb_ok (by kernel_rfl)) only [bw1,bw2,bw3,bw4,bw5,bw6,bw7,bc0,bc1,bc2,bc3,bc4,bc5,bc6,bc7,bb0,setPs,AV.owns,AV.datF,AV.frz,AV.cpy,ifV,isEqB,nilV,nilX,AV.isNilS,AV.isNoRows,wk,dclo,datOf,binIs,addF,AV.isPtr,idxV,AV.isSl,AV.isSlice,AV.rows,ps,pv,extV,extS,AV.outs,AV.outF,packD,AV.dl,fieldV,fieldS,AV.cells?,AV.upr,AV.menc,AV.one,D.one,Value.oneCell',tagOf,AV.isApp,strV,strS,bolV,bolS,slcV,AV.isSlD,asrtS,AV.dcells,D.cells?,stcV,stcS,leafOk,eqDs,eqD,packA,D.val?,↓reduceIte,reduceCtorEq,Nat.reduceAdd,Nat.reduceSub,Nat.reduceMul,List.reduceReplicate,Nat.reduceLeDiff,Nat.reduceLT,Nat.reduceBEq,Nat.reduceEqDiff,Int.reduceNeg,Int.reduceEq,Int.reduceLE,Int.reduceLT,tfb,ix100,pl1,pl2,pl3,List.set_cons_zero,List.set_cons_succ,boxAt,key3',key99',mencs_bxs,mencs_ents,kill_bxs,kill_ents,lkv_some',lkv_none',ctz35,O35_2,eq_self, Int.reduceToNat, Int.reduceAdd, List.getD_cons_zero, List.getD_cons_succ, z1, z2, w1, w2, c]
        and_intros <;> first | omega | rfl | exact wk_ents _
      · have w2 : whyK m true 2 = [] := if_neg c
        simp (maxSteps := 4000000) +contextual (disch := first | omega | exact qdb_ok (by kernel_rfl) | exact okb_ok (by kernel_rfl)) only [bw1,bw2,bw3,bw4,bw5,bw6,bw7,bc0,bc1,bc2,bc3,bc4,bc5,bc6,bc7,bb0,setPs,AV.owns,AV.datF,AV.frz,AV.cpy,ifV,isEqB,nilV,nilX,AV.isNilS,AV.isNoRows,wk,dclo,datOf,binIs,addF,AV.isPtr,idxV,AV.isSl,AV.isSlice,AV.rows,ps,pv,extV,extS,AV.outs,AV.outF,packD,AV.dl,fieldV,fieldS,AV.cells?,AV.upr,AV.menc,AV.one,D.one,Value.oneCell',tagOf,AV.isApp,strV,strS,bolV,bolS,slcV,AV.isSlD,asrtS,AV.dcells,D.cells?,stcV,stcS,leafOk,eqDs,eqD,packA,D.val?,↓reduceIte,reduceCtorEq,Nat.reduceAdd,Nat.reduceSub,Nat.reduceMul,List.reduceReplicate,Nat.reduceLeDiff,Nat.reduceLT,Nat.reduceBEq,Nat.reduceEqDiff,Int.reduceNeg,Int.reduceEq,Int.reduceLE,Int.reduceLT,tfb,ix100,pl1,pl2,pl3,List.set_cons_zero,List.set_cons_succ,boxAt,key3',key99',mencs_bxs,mencs_ents,kill_bxs,kill_ents,lkv_some',lkv_none',ctz35,O35_2,eq_self, Int.reduceToNat, Int.reduceAdd, List.getD_cons_zero, List.getD_cons_succ, z1, z2, w1, w2, c]
        and_intros <;> first | omega | rfl | exact wk_ents _
    · by_cases c : 0 < m.stage
      · have w3 : whyK m true 3 = whyK m true 2 ++ [2] := by simp [whyK, c]
        simp (maxSteps := 4000000) +contextual (disch := first | omega | exact qdb_ok (by kernel_rfl) | exact okb_ok (by kernel_rfl)) only [bw1,bw2,bw3,bw4,bw5,bw6,bw7,bc0,bc1,bc2,bc3,bc4,bc5,bc6,bc7,bb0,setPs,AV.owns,AV.datF,AV.frz,AV.cpy,ifV,isEqB,nilV,nilX,AV.isNilS,AV.isNoRows,wk,dclo,datOf,binIs,addF,AV.isPtr,idxV,AV.isSl,AV.isSlice,AV.rows,ps,pv,extV,extS,AV.outs,AV.outF,packD,AV.dl,fieldV,fieldS,AV.cells?,AV.upr,AV.menc,AV.one,D.one,Value.oneCell',tagOf,AV.isApp,strV,strS,bolV,bolS,slcV,AV.isSlD,asrtS,AV.dcells,D.cells?,stcV,stcS,leafOk,eqDs,eqD,packA,D.val?,↓reduceIte,reduceCtorEq,Nat.reduceAdd,Nat.reduceSub,Nat.reduceMul,List.reduceReplicate,Nat.reduceLeDiff,Nat.reduceLT,Nat.reduceBEq,Nat.reduceEqDiff,Int.reduceNeg,Int.reduceEq,Int.reduceLE,Int.reduceLT,tfb,ix100,pl1,pl2,pl3,List.set_cons_zero,List.set_cons_succ,boxAt,key3',key99',mencs_bxs,mencs_ents,kill_bxs,kill_ents,lkv_some',lkv_none',ctz35,O35_2,eq_self, Int.reduceToNat, Int.reduceAdd, List.getD_cons_zero, List.getD_cons_succ, z2, z3, w3, c, List.map_append, List.map_cons, List.map_nil]
        and_intros <;> first | omega | rfl | exact wk_ents _
      · have w3 : whyK m true 3 = whyK m true 2 := by simp [whyK, c]
        simp (maxSteps := 4000000) +contextual (disch := first | omega | exact qdb_ok (by kernel_rfl) | exact okb_ok (by kernel_rfl)) only [bw1,bw2,bw3,bw4,bw5,bw6,bw7,bc0,bc1,bc2,bc3,bc4,bc5,bc6,bc7,bb0,setPs,AV.owns,AV.datF,AV.frz,AV.cpy,ifV,isEqB,nilV,nilX,AV.isNilS,AV.isNoRows,wk,dclo,datOf,binIs,addF,AV.isPtr,idxV,AV.isSl,AV.isSlice,AV.rows,ps,pv,extV,extS,AV.outs,AV.outF,packD,AV.dl,fieldV,fieldS,AV.cells?,AV.upr,AV.menc,AV.one,D.one,Value.oneCell',tagOf,AV.isApp,strV,strS,bolV,bolS,slcV,AV.isSlD,asrtS,AV.dcells,D.cells?,stcV,stcS,leafOk,eqDs,eqD,packA,D.val?,↓reduceIte,reduceCtorEq,Nat.reduceAdd,Nat.reduceSub,Nat.reduceMul,List.reduceReplicate,Nat.reduceLeDiff,Nat.reduceLT,Nat.reduceBEq,Nat.reduceEqDiff,Int.reduceNeg,Int.reduceEq,Int.reduceLE,Int.reduceLT,tfb,ix100,pl1,pl2,pl3,List.set_cons_zero,List.set_cons_succ,boxAt,key3',key99',mencs_bxs,mencs_ents,kill_bxs,kill_ents,lkv_some',lkv_none',ctz35,O35_2,eq_self, Int.reduceToNat, Int.reduceAdd, List.getD_cons_zero, List.getD_cons_succ, z2, z3, w3, c]
        and_intros <;> first | omega | rfl | exact wk_ents _
    · simp (maxSteps := 4000000) +contextual (disch := first | omega | exact qdb_ok (by kernel_rfl) | exact okb_ok (by kernel_rfl)) only [bw1,bw2,bw3,bw4,bw5,bw6,bw7,bc0,bc1,bc2,bc3,bc4,bc5,bc6,bc7,bb0,setPs,AV.owns,AV.datF,AV.frz,AV.cpy,ifV,isEqB,nilV,nilX,AV.isNilS,AV.isNoRows,wk,dclo,datOf,binIs,addF,AV.isPtr,idxV,AV.isSl,AV.isSlice,AV.rows,ps,pv,extV,extS,AV.outs,AV.outF,packD,AV.dl,fieldV,fieldS,AV.cells?,AV.upr,AV.menc,AV.one,D.one,Value.oneCell',tagOf,AV.isApp,strV,strS,bolV,bolS,slcV,AV.isSlD,asrtS,AV.dcells,D.cells?,stcV,stcS,leafOk,eqDs,eqD,packA,D.val?,↓reduceIte,reduceCtorEq,Nat.reduceAdd,Nat.reduceSub,Nat.reduceMul,List.reduceReplicate,Nat.reduceLeDiff,Nat.reduceLT,Nat.reduceBEq,Nat.reduceEqDiff,Int.reduceNeg,Int.reduceEq,Int.reduceLE,Int.reduceLT,tfb,ix100,pl1,pl2,pl3,List.set_cons_zero,List.set_cons_succ,boxAt,key3',key99',mencs_bxs,mencs_ents,kill_bxs,kill_ents,lkv_some',lkv_none',ctz35,O35_2,eq_self, Int.reduceToNat, Int.reduceAdd, List.getD_cons_zero, List.getD_cons_succ, z3, z4, v3, List.map_append, List.map_cons, List.map_nil]
      and_intros <;> first | omega | rfl | exact wk_ents _
    · simp (maxSteps := 4000000) +contextual (disch := first | omega | exact qdb_ok (by kernel_rfl) | exact okb_ok (by kernel_rfl)) only [bw1,bw2,bw3,bw4,bw5,bw6,bw7,bc0,bc1,bc2,bc3,bc4,bc5,bc6,bc7,bb0,setPs,AV.owns,AV.datF,AV.frz,AV.cpy,ifV,isEqB,nilV,nilX,AV.isNilS,AV.isNoRows,wk,dclo,datOf,binIs,addF,AV.isPtr,idxV,AV.isSl,AV.isSlice,AV.rows,ps,pv,extV,extS,AV.outs,AV.outF,packD,AV.dl,fieldV,fieldS,AV.cells?,AV.upr,AV.menc,AV.one,D.one,Value.oneCell',tagOf,AV.isApp,strV,strS,bolV,bolS,slcV,AV.isSlD,asrtS,AV.dcells,D.cells?,stcV,stcS,leafOk,eqDs,eqD,packA,D.val?,↓reduceIte,reduceCtorEq,Nat.reduceAdd,Nat.reduceSub,Nat.reduceMul,List.reduceReplicate,Nat.reduceLeDiff,Nat.reduceLT,Nat.reduceBEq,Nat.reduceEqDiff,Int.reduceNeg,Int.reduceEq,Int.reduceLE,Int.reduceLT,tfb,ix100,pl1,pl2,pl3,List.set_cons_zero,List.set_cons_succ,boxAt,key3',key99',mencs_bxs,mencs_ents,kill_bxs,kill_ents,lkv_some',lkv_none',ctz35,O35_2,eq_self, z4, Int.lt_irrefl, w4]
      exact ⟨rfl, rfl, rfl, rfl⟩
  case false =>
    have v3 : whyK m false 4 = whyK m false 3 := by simp [whyK, whyB]
    have hl2 := whyK_2 (m := m) (p := false)
    have hl3 := whyK_3 (m := m) (p := false)
    simp (maxSteps := 4000000) +contextual (disch := first | omega | exact qdb_ok (by kernel_rfl) | exact okb_ok (by kernel_rfl)) only [bw1,bw2,bw3,bw4,bw5,bw6,bw7,bc0,bc1,bc2,bc3,bc4,bc5,bc6,bc7,bb0,setPs,AV.owns,AV.datF,AV.frz,AV.cpy,ifV,isEqB,nilV,nilX,AV.isNilS,AV.isNoRows,wk,dclo,datOf,binIs,addF,AV.isPtr,idxV,AV.isSl,AV.isSlice,AV.rows,ps,pv,extV,extS,AV.outs,AV.outF,packD,AV.dl,fieldV,fieldS,AV.cells?,AV.upr,AV.menc,AV.one,D.one,Value.oneCell',tagOf,AV.isApp,strV,strS,bolV,bolS,slcV,AV.isSlD,asrtS,AV.dcells,D.cells?,stcV,stcS,leafOk,eqDs,eqD,packA,D.val?,↓reduceIte,reduceCtorEq,Nat.reduceAdd,Nat.reduceSub,Nat.reduceMul,List.reduceReplicate,Nat.reduceLeDiff,Nat.reduceLT,Nat.reduceBEq,Nat.reduceEqDiff,Int.reduceNeg,Int.reduceEq,Int.reduceLE,Int.reduceLT,tfb,ix100,pl1,pl2,pl3,List.set_cons_zero,List.set_cons_succ,boxAt,key3',key99',mencs_bxs,mencs_ents,kill_bxs,kill_ents,lkv_some',lkv_none',ctz35,O35_2,hat, hlk, hem, hk, sb]
    refine seed (m1 := mk _) (m2 := mk _) 7 35041 3 1 (by decide) rfl rfl (by simp [Sto.mens, AV.mens, AV.men, mens_bxs, mens_ents]) rfl ?_
    refine loop_u (O := O35) (tb := 35000) Ct35_ok hmix (by kernel_rfl) (σ := Nat) (fun k => [(7, .own 35041 3 1 ((whyK m false k).map ic)), (8, .any), (9, .any), (40, .any), (32, .i k)]) (fun k => []) (fun k => k ≤ 4) (fun k => 4 - k) (fun k => k + 1) 0 (by omega) ?_ ?_
    · simp (maxSteps := 4000000) +contextual (disch := first | omega | exact qdb_ok (by kernel_rfl) | exact okb_ok (by kernel_rfl)) only [bw1,bw2,bw3,bw4,bw5,bw6,bw7,bc0,bc1,bc2,bc3,bc4,bc5,bc6,bc7,bb0,setPs,AV.owns,AV.datF,AV.frz,AV.cpy,ifV,isEqB,nilV,nilX,AV.isNilS,AV.isNoRows,wk,dclo,datOf,binIs,addF,AV.isPtr,idxV,AV.isSl,AV.isSlice,AV.rows,ps,pv,extV,extS,AV.outs,AV.outF,packD,AV.dl,fieldV,fieldS,AV.cells?,AV.upr,AV.menc,AV.one,D.one,Value.oneCell',tagOf,AV.isApp,strV,strS,bolV,bolS,slcV,AV.isSlD,asrtS,AV.dcells,D.cells?,stcV,stcS,leafOk,eqDs,eqD,packA,D.val?,↓reduceIte,reduceCtorEq,Nat.reduceAdd,Nat.reduceSub,Nat.reduceMul,List.reduceReplicate,Nat.reduceLeDiff,Nat.reduceLT,Nat.reduceBEq,Nat.reduceEqDiff,Int.reduceNeg,Int.reduceEq,Int.reduceLE,Int.reduceLT,tfb,ix100,pl1,pl2,pl3,List.set_cons_zero,List.set_cons_succ,boxAt,key3',key99',mencs_bxs,mencs_ents,kill_bxs,kill_ents,lkv_some',lkv_none',ctz35,O35_2,eq_self, w0]
      exact ⟨wk_ents _, wk_ents _, wk_ents _⟩
    intro k hk4
    have hkk : k = 0 ∨ k = 1 ∨ k = 2 ∨ k = 3 ∨ k = 4 := by omega
    rcases hkk with rfl | rfl | rfl | rfl | rfl
    · simp (maxSteps := 4000000) +contextual (disch := first | omega | exact qdb_ok (by kernel_rfl) | exact okb_ok (by kernel_rfl)) only [bw1,bw2,bw3,bw4,bw5,bw6,bw7,bc0,bc1,bc2,bc3,bc4,bc5,bc6,bc7,bb0,setPs,AV.owns,AV.datF,AV.frz,AV.cpy,ifV,isEqB,nilV,nilX,AV.isNilS,AV.isNoRows,wk,dclo,datOf,binIs,addF,AV.isPtr,idxV,AV.isSl,AV.isSlice,AV.rows,ps,pv,extV,extS,AV.outs,AV.outF,packD,AV.dl,fieldV,fieldS,AV.cells?,AV.upr,AV.menc,AV.one,D.one,Value.oneCell',tagOf,AV.isApp,strV,strS,bolV,bolS,slcV,AV.isSlD,asrtS,AV.dcells,D.cells?,stcV,stcS,leafOk,eqDs,eqD,packA,D.val?,↓reduceIte,reduceCtorEq,Nat.reduceAdd,Nat.reduceSub,Nat.reduceMul,List.reduceReplicate,Nat.reduceLeDiff,Nat.reduceLT,Nat.reduceBEq,Nat.reduceEqDiff,Int.reduceNeg,Int.reduceEq,Int.reduceLE,Int.reduceLT,tfb,ix100,pl1,pl2,pl3,List.set_cons_zero,List.set_cons_succ,boxAt,key3',key99',mencs_bxs,mencs_ents,kill_bxs,kill_ents,lkv_some',lkv_none',ctz35,O35_2,eq_self, z0, z1, Int.reduceToNat, Int.reduceAdd, Int.toNat_zero, Nat.zero_mul, List.getD_cons_zero, List.getD_cons_succ, w0, w1]
      and_intros <;> first | omega | rfl | exact wk_ents _
    · by_cases c : 0 < m.ban
      · have w2 : whyK m false 2 = [1] := if_pos c
        simp (maxSteps := 4000000) +contextual (disch := first | omega | exact qdb_ok (by kernel_rfl) | exact okb_ok (by kernel_rfl)) only [bw1,bw2,bw3,bw4,bw5,bw6,bw7,bc0,bc1,bc2,bc3,bc4,bc5,bc6,bc7,bb0,setPs,AV.owns,AV.datF,AV.frz,AV.cpy,ifV,isEqB,nilV,nilX,AV.isNilS,AV.isNoRows,wk,dclo,datOf,binIs,addF,AV.isPtr,idxV,AV.isSl,AV.isSlice,AV.rows,ps,pv,extV,extS,AV.outs,AV.outF,packD,AV.dl,fieldV,fieldS,AV.cells?,AV.upr,AV.menc,AV.one,D.one,Value.oneCell',tagOf,AV.isApp,strV,strS,bolV,bolS,slcV,AV.isSlD,asrtS,AV.dcells,D.cells?,stcV,stcS,leafOk,eqDs,eqD,packA,D.val?,↓reduceIte,reduceCtorEq,Nat.reduceAdd,Nat.reduceSub,Nat.reduceMul,List.reduceReplicate,Nat.reduceLeDiff,Nat.reduceLT,Nat.reduceBEq,Nat.reduceEqDiff,Int.reduceNeg,Int.reduceEq,Int.reduceLE,Int.reduceLT,tfb,ix100,pl1,pl2,pl3,List.set_cons_zero,List.set_cons_succ,boxAt,key3',key99',mencs_bxs,mencs_ents,kill_bxs,kill_ents,lkv_some',lkv_none',ctz35,O35_2,eq_self, Int.reduceToNat, Int.reduceAdd, List.getD_cons_zero, List.getD_cons_succ, z1, z2, w1, w2, c]
        and_intros <;> first | omega | rfl | exact wk_ents _
      · have w2 : whyK m false 2 = [] := if_neg c
        simp (maxSteps := 4000000) +contextual (disch := first | omega | exact qdb_ok (by kernel_rfl) | exact okb_ok (by kernel_rfl)) only [bw1,bw2,bw3,bw4,bw5,bw6,bw7,bc0,bc1,bc2,bc3,bc4,bc5,bc6,bc7,bb0,setPs,AV.owns,AV.datF,AV.frz,AV.cpy,ifV,isEqB,nilV,nilX,AV.isNilS,AV.isNoRows,wk,dclo,datOf,binIs,addF,AV.isPtr,idxV,AV.isSl,AV.isSlice,AV.rows,ps,pv,extV,extS,AV.outs,AV.outF,packD,AV.dl,fieldV,fieldS,AV.cells?,AV.upr,AV.menc,AV.one,D.one,Value.oneCell',tagOf,AV.isApp,strV,strS,bolV,bolS,slcV,AV.isSlD,asrtS,AV.dcells,D.cells?,stcV,stcS,leafOk,eqDs,eqD,packA,D.val?,↓reduceIte,reduceCtorEq,Nat.reduceAdd,Nat.reduceSub,Nat.reduceMul,List.reduceReplicate,Nat.reduceLeDiff,Nat.reduceLT,Nat.reduceBEq,Nat.reduceEqDiff,Int.reduceNeg,Int.reduceEq,Int.reduceLE,Int.reduceLT,tfb,ix100,pl1,pl2,pl3,List.set_cons_zero,List.set_cons_succ,boxAt,key3',key99',mencs_bxs,mencs_ents,kill_bxs,kill_ents,lkv_some',lkv_none',ctz35,O35_2,eq_self, Int.reduceToNat, Int.reduceAdd, List.getD_cons_zero, List.getD_cons_succ, z1, z2, w1, w2, c]
        and_intros <;> first | omega | rfl | exact wk_ents _
    · by_cases c : 0 < m.stage
      · have w3 : whyK m false 3 = whyK m false 2 ++ [2] := by simp [whyK, c]
        simp (maxSteps := 4000000) +contextual (disch := first | omega | exact qdb_ok (by kernel_rfl) | exact okb_ok (by kernel_rfl)) only [bw1,bw2,bw3,bw4,bw5,bw6,bw7,bc0,bc1,bc2,bc3,bc4,bc5,bc6,bc7,bb0,setPs,AV.owns,AV.datF,AV.frz,AV.cpy,ifV,isEqB,nilV,nilX,AV.isNilS,AV.isNoRows,wk,dclo,datOf,binIs,addF,AV.isPtr,idxV,AV.isSl,AV.isSlice,AV.rows,ps,pv,extV,extS,AV.outs,AV.outF,packD,AV.dl,fieldV,fieldS,AV.cells?,AV.upr,AV.menc,AV.one,D.one,Value.oneCell',tagOf,AV.isApp,strV,strS,bolV,bolS,slcV,AV.isSlD,asrtS,AV.dcells,D.cells?,stcV,stcS,leafOk,eqDs,eqD,packA,D.val?,↓reduceIte,reduceCtorEq,Nat.reduceAdd,Nat.reduceSub,Nat.reduceMul,List.reduceReplicate,Nat.reduceLeDiff,Nat.reduceLT,Nat.reduceBEq,Nat.reduceEqDiff,Int.reduceNeg,Int.reduceEq,Int.reduceLE,Int.reduceLT,tfb,ix100,pl1,pl2,pl3,List.set_cons_zero,List.set_cons_succ,boxAt,key3',key99',mencs_bxs,mencs_ents,kill_bxs,kill_ents,lkv_some',lkv_none',ctz35,O35_2,eq_self, Int.reduceToNat, Int.reduceAdd, List.getD_cons_zero, List.getD_cons_succ, z2, z3, w3, c, List.map_append, List.map_cons, List.map_nil]
        and_intros <;> first | omega | rfl | exact wk_ents _
      · have w3 : whyK m false 3 = whyK m false 2 := by simp [whyK, c]
        simp (maxSteps := 4000000) +contextual (disch := first | omega | exact qdb_ok (by kernel_rfl) | exact okb_ok (by kernel_rfl)) only [bw1,bw2,bw3,bw4,bw5,bw6,bw7,bc0,bc1,bc2,bc3,bc4,bc5,bc6,bc7,bb0,setPs,AV.owns,AV.datF,AV.frz,AV.cpy,ifV,isEqB,nilV,nilX,AV.isNilS,AV.isNoRows,wk,dclo,datOf,binIs,addF,AV.isPtr,idxV,AV.isSl,AV.isSlice,AV.rows,ps,pv,extV,extS,AV.outs,AV.outF,packD,AV.dl,fieldV,fieldS,AV.cells?,AV.upr,AV.menc,AV.one,D.one,Value.oneCell',tagOf,AV.isApp,strV,strS,bolV,bolS,slcV,AV.isSlD,asrtS,AV.dcells,D.cells?,stcV,stcS,leafOk,eqDs,eqD,packA,D.val?,↓reduceIte,reduceCtorEq,Nat.reduceAdd,Nat.reduceSub,Nat.reduceMul,List.reduceReplicate,Nat.reduceLeDiff,Nat.reduceLT,Nat.reduceBEq,Nat.reduceEqDiff,Int.reduceNeg,Int.reduceEq,Int.reduceLE,Int.reduceLT,tfb,ix100,pl1,pl2,pl3,List.set_cons_zero,List.set_cons_succ,boxAt,key3',key99',mencs_bxs,mencs_ents,kill_bxs,kill_ents,lkv_some',lkv_none',ctz35,O35_2,eq_self, Int.reduceToNat, Int.reduceAdd, List.getD_cons_zero, List.getD_cons_succ, z2, z3, w3, c]
        and_intros <;> first | omega | rfl | exact wk_ents _
    · simp (maxSteps := 4000000) +contextual (disch := first | omega | exact qdb_ok (by kernel_rfl) | exact okb_ok (by kernel_rfl)) only [bw1,bw2,bw3,bw4,bw5,bw6,bw7,bc0,bc1,bc2,bc3,bc4,bc5,bc6,bc7,bb0,setPs,AV.owns,AV.datF,AV.frz,AV.cpy,ifV,isEqB,nilV,nilX,AV.isNilS,AV.isNoRows,wk,dclo,datOf,binIs,addF,AV.isPtr,idxV,AV.isSl,AV.isSlice,AV.rows,ps,pv,extV,extS,AV.outs,AV.outF,packD,AV.dl,fieldV,fieldS,AV.cells?,AV.upr,AV.menc,AV.one,D.one,Value.oneCell',tagOf,AV.isApp,strV,strS,bolV,bolS,slcV,AV.isSlD,asrtS,AV.dcells,D.cells?,stcV,stcS,leafOk,eqDs,eqD,packA,D.val?,↓reduceIte,reduceCtorEq,Nat.reduceAdd,Nat.reduceSub,Nat.reduceMul,List.reduceReplicate,Nat.reduceLeDiff,Nat.reduceLT,Nat.reduceBEq,Nat.reduceEqDiff,Int.reduceNeg,Int.reduceEq,Int.reduceLE,Int.reduceLT,tfb,ix100,pl1,pl2,pl3,List.set_cons_zero,List.set_cons_succ,boxAt,key3',key99',mencs_bxs,mencs_ents,kill_bxs,kill_ents,lkv_some',lkv_none',ctz35,O35_2,eq_self, Int.reduceToNat, Int.reduceAdd, List.getD_cons_zero, List.getD_cons_succ, z3, z4, v3, List.map_append, List.map_cons, List.map_nil]
      and_intros <;> first | omega | rfl | exact wk_ents _
    · simp (maxSteps := 4000000) +contextual (disch := first | omega | exact qdb_ok (by kernel_rfl) | exact okb_ok (by kernel_rfl)) only [bw1,bw2,bw3,bw4,bw5,bw6,bw7,bc0,bc1,bc2,bc3,bc4,bc5,bc6,bc7,bb0,setPs,AV.owns,AV.datF,AV.frz,AV.cpy,ifV,isEqB,nilV,nilX,AV.isNilS,AV.isNoRows,wk,dclo,datOf,binIs,addF,AV.isPtr,idxV,AV.isSl,AV.isSlice,AV.rows,ps,pv,extV,extS,AV.outs,AV.outF,packD,AV.dl,fieldV,fieldS,AV.cells?,AV.upr,AV.menc,AV.one,D.one,Value.oneCell',tagOf,AV.isApp,strV,strS,bolV,bolS,slcV,AV.isSlD,asrtS,AV.dcells,D.cells?,stcV,stcS,leafOk,eqDs,eqD,packA,D.val?,↓reduceIte,reduceCtorEq,Nat.reduceAdd,Nat.reduceSub,Nat.reduceMul,List.reduceReplicate,Nat.reduceLeDiff,Nat.reduceLT,Nat.reduceBEq,Nat.reduceEqDiff,Int.reduceNeg,Int.reduceEq,Int.reduceLE,Int.reduceLT,tfb,ix100,pl1,pl2,pl3,List.set_cons_zero,List.set_cons_succ,boxAt,key3',key99',mencs_bxs,mencs_ents,kill_bxs,kill_ents,lkv_some',lkv_none',ctz35,O35_2,eq_self, z4, Int.lt_irrefl, w4]
      exact ⟨rfl, rfl, rfl, rfl⟩
end Go.Proofs.Ytohkngiflfkjjaa
