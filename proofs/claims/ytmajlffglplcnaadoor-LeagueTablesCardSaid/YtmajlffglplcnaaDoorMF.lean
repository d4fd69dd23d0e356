/- A part of the proof that the last text ends: what functions of the program do, told by plain data. -/
import Derived.Test.YtmajlffglplcnaaDoorME
set_option linter.unusedVariables false
set_option linter.unusedSimpArgs false
namespace Go.Proofs.YtmajlffglplcnaaDoor
open Go Go.E
set_option maxRecDepth 100000
set_option maxHeartbeats 16000000
def amG (l : List Gam) (t : Int) (g : Gam) : Int := if (stF l g.home).pts = (stF l t).pts ∧ (stF l g.away).pts = (stF l t).pts then ptG g t else 0
def amN (l : List Gam) (t : Int) (k : Nat) : Int := ((l.take k).map (amG l t)).sum
def amF (l : List Gam) (t : Int) : Int := amN l t l.length
theorem amN_zero {l : List Gam} {t : Int} : amN l t 0 = 0 := by simp [amN]
theorem amN_succ {l : List Gam} {t : Int} {k : Nat} (h : k < l.length) : amN l t (k + 1) = amN l t k + amG l t (l.getD k default) := by
  unfold amN; rw [take_succ h, List.map_append, List.sum_append]; simp
theorem amG_b (l : List Gam) (t : Int) (g : Gam) : 0 ≤ amG l t g ∧ amG l t g ≤ 3 := by
  unfold amG; split
  · exact ptG_b g t
  · omega
theorem amN_b {l : List Gam} {t : Int} : ∀ k : Nat, k ≤ l.length → 0 ≤ amN l t k ∧ amN l t k ≤ 3 * k
  | 0, _ => by rw [amN_zero]; omega
  | k + 1, hk => by
    rw [amN_succ (by omega)]
    have h1 := amN_b (l := l) (t := t) k (by omega)
    have h2 := amG_b l t (l.getD k default)
    omega
theorem amG_yes {l : List Gam} {t : Int} {g : Gam} (h1 : (stF l g.home).pts = (stF l t).pts) (h2 : (stF l g.away).pts = (stF l t).pts) : amG l t g = ptG g t := by unfold amG; rw [if_pos ⟨h1, h2⟩]
theorem amG_no1 {l : List Gam} {t : Int} {g : Gam} (h1 : ¬ (stF l g.home).pts = (stF l t).pts) : amG l t g = 0 := by unfold amG; rw [if_neg (fun h => h1 h.1)]
theorem amG_no2 {l : List Gam} {t : Int} {g : Gam} (h1 : ¬ (stF l g.away).pts = (stF l t).pts) : amG l t g = 0 := by unfold amG; rw [if_neg (fun h => h1 h.2)]
def O64 : Nat → Sch := fun id => .done
theorem ho64 : Tryd.f64.body.map (okO O64) = some true := by kernel_rfl
def Cf64 : Nat → List AV → (AV → List AV → Sto → Prop) → Kt → List AV → Sto → Prop := fun f args K Q e s => match f with
  | 44 => ent44 args K e s
  | 65 => ent65 args K e s
  | _ => False
def Ct64 : CT := { f := Cf64, y := noYld, z := fun d => false }
theorem ctz64 {d : Nat} : CT.z Ct64 d = (false) := id rfl
theorem Ct64_ok : Ct64.ok Tryd.prog := ok_of_f (fun f args K Q e s h => by
  have h : Cf64 f args K Q e s := h
  unfold Cf64 at h; split at h
  · exact ent44_ok h
  · exact ent65_ok h
  · exact h.elim) (fun _ _ _ _ _ _ _ _ _ h => h)
theorem x64_44 {l : Lea} {t : Int} {KK : AV → List AV → Sto → Prop} {QQ : Kt} {ii : At KK} {jj : At QQ} {ee : List AV} {ss : Sto} : xC Ct64 44 [.d (.agg l.c), .d (.i t)] KK QQ ii jj ee ss = ((gsOk l.games) ∧ KK (.d (.agg (stF l.games t).c)) ee ss) := eq44
theorem x64_65 {g : Gam} {t : Int} {KK : AV → List AV → Sto → Prop} {QQ : Kt} {ii : At KK} {jj : At QQ} {ee : List AV} {ss : Sto} : xC Ct64 65 [.d (.agg g.c), .d (.i t)] KK QQ ii jj ee ss = (KK (.d (.i (ptG g t))) ee ss) := eq65
theorem c64 : callable Tryd.prog 64 = true := by kernel_rfl
theorem pf64 (l : Lea) (t : Int) (h : gsOk l.games) : PF Tryd.prog 64 [.agg l.c, .i t] (fun zz => zz = .ret (.i (amF l.games t))) := by
  have h64 := h.1
  refine PF_nil (PF_start (O := O64) Ct64_ok hmix ho64 Tryd.func64 c64 rfl Tryd.ntmps64 Tryd.results64 ?_)
  simp (maxSteps := 4000000) +contextual (disch := first | omega | exact qdb_ok (by kernel_rfl) | exact okb_ok (by kernel_rfl)) only [bw1,bw2,bw3,bw4,bw5,bw6,bw7,bc0,bc1,bc2,bc3,bc4,bc5,bc6,bc7,bb0,setPs,AV.owns,AV.datF,AV.frz,AV.cpy,ifV,isEqB,nilV,nilX,AV.isNilS,AV.isNoRows,wk,dclo,datOf,binIs,addF,AV.isPtr,idxV,AV.isSl,AV.isSlice,AV.rows,ps,pv,extV,extS,AV.outs,AV.outF,packD,AV.dl,fieldV,fieldS,AV.cells?,AV.upr,AV.menc,AV.one,D.one,Value.oneCell',tagOf,AV.isApp,strV,strS,bolV,bolS,slcV,AV.isSlD,asrtS,AV.dcells,D.cells?,stcV,stcS,leafOk,eqDs,eqD,packA,D.val?,↓reduceIte,reduceCtorEq,Nat.reduceAdd,Nat.reduceSub,Nat.reduceMul,List.reduceReplicate,Nat.reduceLeDiff,Nat.reduceLT,Nat.reduceBEq,Nat.reduceEqDiff,Int.reduceNeg,Int.reduceEq,Int.reduceLE,Int.reduceLT,tfb,ctz64,x64_44,x64_65,h]
  refine loop_xu (O := O64) (tb := 0) Ct64_ok hmix (by kernel_rfl) (σ := Nat) (fun k => [(6, .i (amN l.games t k)), (7, .i k), (8, .any)]) (fun k => []) (fun k => k ≤ l.games.length) (fun k => l.games.length - k) 0 (Nat.zero_le _) ?_ ?_
  · have hz : amN l.games t 0 = 0 := amN_zero
    simp (maxSteps := 4000000) +contextual (disch := first | omega | exact qdb_ok (by kernel_rfl) | exact okb_ok (by kernel_rfl)) only [bw1,bw2,bw3,bw4,bw5,bw6,bw7,bc0,bc1,bc2,bc3,bc4,bc5,bc6,bc7,bb0,setPs,AV.owns,AV.datF,AV.frz,AV.cpy,ifV,isEqB,nilV,nilX,AV.isNilS,AV.isNoRows,wk,dclo,datOf,binIs,addF,AV.isPtr,idxV,AV.isSl,AV.isSlice,AV.rows,ps,pv,extV,extS,AV.outs,AV.outF,packD,AV.dl,fieldV,fieldS,AV.cells?,AV.upr,AV.menc,AV.one,D.one,Value.oneCell',tagOf,AV.isApp,strV,strS,bolV,bolS,slcV,AV.isSlD,asrtS,AV.dcells,D.cells?,stcV,stcS,leafOk,eqDs,eqD,packA,D.val?,↓reduceIte,reduceCtorEq,Nat.reduceAdd,Nat.reduceSub,Nat.reduceMul,List.reduceReplicate,Nat.reduceLeDiff,Nat.reduceLT,Nat.reduceBEq,Nat.reduceEqDiff,Int.reduceNeg,Int.reduceEq,Int.reduceLE,Int.reduceLT,tfb,ctz64,x64_44,x64_65,eq_self, hz]
    try rfl
  rintro k hk
  have hb := amN_b (t := t) k hk
  by_cases hlt : k < l.games.length
  case neg =>
    obtain rfl : k = l.games.length := by omega
    simp (maxSteps := 4000000) +contextual (disch := first | omega | exact qdb_ok (by kernel_rfl) | exact okb_ok (by kernel_rfl)) only [bw1,bw2,bw3,bw4,bw5,bw6,bw7,bc0,bc1,bc2,bc3,bc4,bc5,bc6,bc7,bb0,setPs,AV.owns,AV.datF,AV.frz,AV.cpy,ifV,isEqB,nilV,nilX,AV.isNilS,AV.isNoRows,wk,dclo,datOf,binIs,addF,AV.isPtr,idxV,AV.isSl,AV.isSlice,AV.rows,ps,pv,extV,extS,AV.outs,AV.outF,packD,AV.dl,fieldV,fieldS,AV.cells?,AV.upr,AV.menc,AV.one,D.one,Value.oneCell',tagOf,AV.isApp,strV,strS,bolV,bolS,slcV,AV.isSlD,asrtS,AV.dcells,D.cells?,stcV,stcS,leafOk,eqDs,eqD,packA,D.val?,↓reduceIte,reduceCtorEq,Nat.reduceAdd,Nat.reduceSub,Nat.reduceMul,List.reduceReplicate,Nat.reduceLeDiff,Nat.reduceLT,Nat.reduceBEq,Nat.reduceEqDiff,Int.reduceNeg,Int.reduceEq,Int.reduceLE,Int.reduceLT,tfb,ctz64,x64_44,x64_65,eq_self, Int.lt_irrefl]
    rfl
  have hlt' : (k : Int) < l.games.length := by omega
  have hs := amN_succ (t := t) hlt
  have hpb := ptG_b (l.games.getD k default) t
  by_cases d1 : (stF l.games (l.games.getD k default).home).pts = (stF l.games t).pts
  case neg =>
    have d1b : ((stF l.games (l.games.getD k default).home).pts == (stF l.games t).pts) = false := by simpa using d1
    rw [amG_no1 d1, Int.add_zero] at hs
    simp (maxSteps := 4000000) +contextual (disch := first | omega | exact qdb_ok (by kernel_rfl) | exact okb_ok (by kernel_rfl)) only [bw1,bw2,bw3,bw4,bw5,bw6,bw7,bc0,bc1,bc2,bc3,bc4,bc5,bc6,bc7,bb0,setPs,AV.owns,AV.datF,AV.frz,AV.cpy,ifV,isEqB,nilV,nilX,AV.isNilS,AV.isNoRows,wk,dclo,datOf,binIs,addF,AV.isPtr,idxV,AV.isSl,AV.isSlice,AV.rows,ps,pv,extV,extS,AV.outs,AV.outF,packD,AV.dl,fieldV,fieldS,AV.cells?,AV.upr,AV.menc,AV.one,D.one,Value.oneCell',tagOf,AV.isApp,strV,strS,bolV,bolS,slcV,AV.isSlD,asrtS,AV.dcells,D.cells?,stcV,stcS,leafOk,eqDs,eqD,packA,D.val?,↓reduceIte,reduceCtorEq,Nat.reduceAdd,Nat.reduceSub,Nat.reduceMul,List.reduceReplicate,Nat.reduceLeDiff,Nat.reduceLT,Nat.reduceBEq,Nat.reduceEqDiff,Int.reduceNeg,Int.reduceEq,Int.reduceLE,Int.reduceLT,tfb,ctz64,x64_44,x64_65,eq_self, hlt', h, d1b]
    repeat (refine And.intro (by omega) ?_)
    exact ⟨k + 1, ⟨by omega, by omega⟩, by rw [hs], rfl⟩
  have d1b : ((stF l.games (l.games.getD k default).home).pts == (stF l.games t).pts) = true := by simpa using d1
  by_cases d2 : (stF l.games (l.games.getD k default).away).pts = (stF l.games t).pts
  case neg =>
    have d2b : ((stF l.games (l.games.getD k default).away).pts == (stF l.games t).pts) = false := by simpa using d2
    rw [amG_no2 d2, Int.add_zero] at hs
    simp (maxSteps := 4000000) +contextual (disch := first | omega | exact qdb_ok (by kernel_rfl) | exact okb_ok (by kernel_rfl)) only [bw1,bw2,bw3,bw4,bw5,bw6,bw7,bc0,bc1,bc2,bc3,bc4,bc5,bc6,bc7,bb0,setPs,AV.owns,AV.datF,AV.frz,AV.cpy,ifV,isEqB,nilV,nilX,AV.isNilS,AV.isNoRows,wk,dclo,datOf,binIs,addF,AV.isPtr,idxV,AV.isSl,AV.isSlice,AV.rows,ps,pv,extV,extS,AV.outs,AV.outF,packD,AV.dl,fieldV,fieldS,AV.cells?,AV.upr,AV.menc,AV.one,D.one,Value.oneCell',tagOf,AV.isApp,strV,strS,bolV,bolS,slcV,AV.isSlD,asrtS,AV.dcells,D.cells?,stcV,stcS,leafOk,eqDs,eqD,packA,D.val?,↓reduceIte,reduceCtorEq,Nat.reduceAdd,Nat.reduceSub,Nat.reduceMul,List.reduceReplicate,Nat.reduceLeDiff,Nat.reduceLT,Nat.reduceBEq,Nat.reduceEqDiff,Int.reduceNeg,Int.reduceEq,Int.reduceLE,Int.reduceLT,tfb,ctz64,x64_44,x64_65,eq_self, hlt', h, d1b, d2b]
    repeat (refine And.intro (by omega) ?_)
    exact ⟨k + 1, ⟨by omega, by omega⟩, by rw [hs], rfl⟩
  have d2b : ((stF l.games (l.games.getD k default).away).pts == (stF l.games t).pts) = true := by simpa using d2
  rw [amG_yes d1 d2] at hs
  simp (maxSteps := 4000000) +contextual (disch := first | omega | exact qdb_ok (by kernel_rfl) | exact okb_ok (by kernel_rfl)) only [bw1,bw2,bw3,bw4,bw5,bw6,bw7,bc0,bc1,bc2,bc3,bc4,bc5,bc6,bc7,bb0,setPs,AV.owns,AV.datF,AV.frz,AV.cpy,ifV,isEqB,nilV,nilX,AV.isNilS,AV.isNoRows,wk,dclo,datOf,binIs,addF,AV.isPtr,idxV,AV.isSl,AV.isSlice,AV.rows,ps,pv,extV,extS,AV.outs,AV.outF,packD,AV.dl,fieldV,fieldS,AV.cells?,AV.upr,AV.menc,AV.one,D.one,Value.oneCell',tagOf,AV.isApp,strV,strS,bolV,bolS,slcV,AV.isSlD,asrtS,AV.dcells,D.cells?,stcV,stcS,leafOk,eqDs,eqD,packA,D.val?,↓reduceIte,reduceCtorEq,Nat.reduceAdd,Nat.reduceSub,Nat.reduceMul,List.reduceReplicate,Nat.reduceLeDiff,Nat.reduceLT,Nat.reduceBEq,Nat.reduceEqDiff,Int.reduceNeg,Int.reduceEq,Int.reduceLE,Int.reduceLT,tfb,ctz64,x64_44,x64_65,eq_self, hlt', h, d1b, d2b]
  repeat (refine And.intro (by omega) ?_)
  exact ⟨k + 1, ⟨by omega, by omega⟩, by rw [hs], rfl⟩
def ahB (l : List Gam) (a b : Int) : Bool :=
  if (stF l a).pts = (stF l b).pts then
    (if amF l a = amF l b then
      (if (stF l a).gf - (stF l a).ga = (stF l b).gf - (stF l b).ga then
        (if (stF l a).gf = (stF l b).gf then decide (a < b) else decide ((stF l b).gf < (stF l a).gf))
       else decide ((stF l b).gf - (stF l b).ga < (stF l a).gf - (stF l a).ga))
     else decide (amF l b < amF l a))
  else decide ((stF l b).pts < (stF l a).pts)
theorem stF_b {l : List Gam} {t : Int} (h : gsOk l) : StB (stF l t) 64 := by
  have h1 := stN_b (t := t) h l.length (Nat.le_refl _)
  have h2 := h.1
  unfold stF
  unfold StB at *
  omega
theorem amF_b {l : List Gam} {t : Int} (h : gsOk l) : 0 ≤ amF l t ∧ amF l t ≤ 192 := by
  have h1 := amN_b (l := l) (t := t) l.length (Nat.le_refl _)
  have h2 := h.1
  unfold amF; omega
def ent64 (args : List AV) (K : AV → List AV → Sto → Prop) (e : List AV) (s : Sto) : Prop := ent (α := (Lea) × (Int)) (fun aa => [.agg aa.1.c, .i aa.2]) (fun aa => gsOk aa.1.games) (fun aa => .i (amF aa.1.games aa.2)) args K e s
theorem ent64_ok {args : List AV} {K : AV → List AV → Sto → Prop} {Q : Kt} {e : List AV} {s : Sto} (h : ent64 args K e s) : pcall Tryd.prog 64 args K Q e s := ent_ok (fun aa h => pf64 aa.1 aa.2 h) h
theorem eq64 {l : Lea} {t : Int} {KK : AV → List AV → Sto → Prop} {ee : List AV} {ss : Sto} : ent64 [.d (.agg l.c), .d (.i t)] KK ee ss = ((gsOk l.games) ∧ KK (.d (.i (amF l.games t))) ee ss) := by
  unfold ent64; rw [ent_iff (l, t) (by intro b h; simpa [Prod.ext_iff, and_assoc, Int.ofNat_inj, ints_inj, gams_inj, fars_inj, gam_inj, lea_inj, Int.ofNat_inj, ints_inj, gams_inj, fars_inj, gam_inj, lea_inj, stds_inj, std_inj] using h) rfl]; simp
def O43 : Nat → Sch := fun id => if id = 1 then .one 1 (.one 4 (.alt (.one 0 (.alt (.one 2 (.alt (.one 3 (.alt (.one 5 (.alt (.one 6 (.one 7 (.one 8 (.one 9 (.done))))) (.one 7 (.one 6 (.one 8 (.one 9 (.done))))))) (.alt (.one 6 (.alt (.one 5 (.one 7 (.one 8 (.one 9 (.done))))) (.one 7 (.one 5 (.one 8 (.one 9 (.done))))))) (.one 7 (.alt (.one 5 (.one 6 (.one 8 (.one 9 (.done))))) (.one 6 (.one 5 (.one 8 (.one 9 (.done)))))))))) (.alt (.one 6 (.alt (.one 3 (.alt (.one 5 (.one 7 (.one 8 (.one 9 (.done))))) (.one 7 (.one 5 (.one 8 (.one 9 (.done))))))) (.one 7 (.one 3 (.one 5 (.one 8 (.one 9 (.done)))))))) (.one 7 (.alt (.one 3 (.alt (.one 5 (.one 6 (.one 8 (.one 9 (.done))))) (.one 6 (.one 5 (.one 8 (.one 9 (.done))))))) (.one 6 (.one 3 (.one 5 (.one 8 (.one 9 (.done))))))))))) (.alt (.one 3 (.alt (.one 2 (.alt (.one 5 (.alt (.one 6 (.one 7 (.one 8 (.one 9 (.done))))) (.one 7 (.one 6 (.one 8 (.one 9 (.done))))))) (.alt (.one 6 (.alt (.one 5 (.one 7 (.one 8 (.one 9 (.done))))) (.one 7 (.one 5 (.one 8 (.one 9 (.done))))))) (.one 7 (.alt (.one 5 (.one 6 (.one 8 (.one 9 (.done))))) (.one 6 (.one 5 (.one 8 (.one 9 (.done)))))))))) (.alt (.one 6 (.alt (.one 2 (.alt (.one 5 (.one 7 (.one 8 (.one 9 (.done))))) (.one 7 (.one 5 (.one 8 (.one 9 (.done))))))) (.one 7 (.one 2 (.one 5 (.one 8 (.one 9 (.done)))))))) (.one 7 (.alt (.one 2 (.alt (.one 5 (.one 6 (.one 8 (.one 9 (.done))))) (.one 6 (.one 5 (.one 8 (.one 9 (.done))))))) (.one 6 (.one 2 (.one 5 (.one 8 (.one 9 (.done))))))))))) (.alt (.one 6 (.alt (.one 2 (.alt (.one 3 (.alt (.one 5 (.one 7 (.one 8 (.one 9 (.done))))) (.one 7 (.one 5 (.one 8 (.one 9 (.done))))))) (.one 7 (.one 3 (.one 5 (.one 8 (.one 9 (.done)))))))) (.alt (.one 3 (.alt (.one 2 (.alt (.one 5 (.one 7 (.one 8 (.one 9 (.done))))) (.one 7 (.one 5 (.one 8 (.one 9 (.done))))))) (.one 7 (.one 2 (.one 5 (.one 8 (.one 9 (.done)))))))) (.one 7 (.alt (.one 2 (.one 3 (.one 5 (.one 8 (.one 9 (.done)))))) (.one 3 (.one 2 (.one 5 (.one 8 (.one 9 (.done))))))))))) (.one 7 (.alt (.one 2 (.alt (.one 3 (.alt (.one 5 (.one 6 (.one 8 (.one 9 (.done))))) (.one 6 (.one 5 (.one 8 (.one 9 (.done))))))) (.one 6 (.one 3 (.one 5 (.one 8 (.one 9 (.done)))))))) (.alt (.one 3 (.alt (.one 2 (.alt (.one 5 (.one 6 (.one 8 (.one 9 (.done))))) (.one 6 (.one 5 (.one 8 (.one 9 (.done))))))) (.one 6 (.one 2 (.one 5 (.one 8 (.one 9 (.done)))))))) (.one 6 (.alt (.one 2 (.one 3 (.one 5 (.one 8 (.one 9 (.done)))))) (.one 3 (.one 2 (.one 5 (.one 8 (.one 9 (.done))))))))))))))) (.alt (.one 3 (.alt (.one 0 (.alt (.one 2 (.alt (.one 5 (.alt (.one 6 (.one 7 (.one 8 (.one 9 (.done))))) (.one 7 (.one 6 (.one 8 (.one 9 (.done))))))) (.alt (.one 6 (.alt (.one 5 (.one 7 (.one 8 (.one 9 (.done))))) (.one 7 (.one 5 (.one 8 (.one 9 (.done))))))) (.one 7 (.alt (.one 5 (.one 6 (.one 8 (.one 9 (.done))))) (.one 6 (.one 5 (.one 8 (.one 9 (.done)))))))))) (.alt (.one 6 (.alt (.one 2 (.alt (.one 5 (.one 7 (.one 8 (.one 9 (.done))))) (.one 7 (.one 5 (.one 8 (.one 9 (.done))))))) (.one 7 (.one 2 (.one 5 (.one 8 (.one 9 (.done)))))))) (.one 7 (.alt (.one 2 (.alt (.one 5 (.one 6 (.one 8 (.one 9 (.done))))) (.one 6 (.one 5 (.one 8 (.one 9 (.done))))))) (.one 6 (.one 2 (.one 5 (.one 8 (.one 9 (.done))))))))))) (.alt (.one 6 (.alt (.one 0 (.alt (.one 2 (.alt (.one 5 (.one 7 (.one 8 (.one 9 (.done))))) (.one 7 (.one 5 (.one 8 (.one 9 (.done))))))) (.one 7 (.one 2 (.one 5 (.one 8 (.one 9 (.done)))))))) (.one 7 (.one 0 (.one 2 (.one 5 (.one 8 (.one 9 (.done))))))))) (.one 7 (.alt (.one 0 (.alt (.one 2 (.alt (.one 5 (.one 6 (.one 8 (.one 9 (.done))))) (.one 6 (.one 5 (.one 8 (.one 9 (.done))))))) (.one 6 (.one 2 (.one 5 (.one 8 (.one 9 (.done)))))))) (.one 6 (.one 0 (.one 2 (.one 5 (.one 8 (.one 9 (.done)))))))))))) (.alt (.one 6 (.alt (.one 0 (.alt (.one 2 (.alt (.one 3 (.alt (.one 5 (.one 7 (.one 8 (.one 9 (.done))))) (.one 7 (.one 5 (.one 8 (.one 9 (.done))))))) (.one 7 (.one 3 (.one 5 (.one 8 (.one 9 (.done)))))))) (.alt (.one 3 (.alt (.one 2 (.alt (.one 5 (.one 7 (.one 8 (.one 9 (.done))))) (.one 7 (.one 5 (.one 8 (.one 9 (.done))))))) (.one 7 (.one 2 (.one 5 (.one 8 (.one 9 (.done)))))))) (.one 7 (.alt (.one 2 (.one 3 (.one 5 (.one 8 (.one 9 (.done)))))) (.one 3 (.one 2 (.one 5 (.one 8 (.one 9 (.done))))))))))) (.alt (.one 3 (.alt (.one 0 (.alt (.one 2 (.alt (.one 5 (.one 7 (.one 8 (.one 9 (.done))))) (.one 7 (.one 5 (.one 8 (.one 9 (.done))))))) (.one 7 (.one 2 (.one 5 (.one 8 (.one 9 (.done)))))))) (.one 7 (.one 0 (.one 2 (.one 5 (.one 8 (.one 9 (.done))))))))) (.one 7 (.one 0 (.alt (.one 2 (.one 3 (.one 5 (.one 8 (.one 9 (.done)))))) (.one 3 (.one 2 (.one 5 (.one 8 (.one 9 (.done)))))))))))) (.one 7 (.alt (.one 0 (.alt (.one 2 (.alt (.one 3 (.alt (.one 5 (.one 6 (.one 8 (.one 9 (.done))))) (.one 6 (.one 5 (.one 8 (.one 9 (.done))))))) (.one 6 (.one 3 (.one 5 (.one 8 (.one 9 (.done)))))))) (.alt (.one 3 (.alt (.one 2 (.alt (.one 5 (.one 6 (.one 8 (.one 9 (.done))))) (.one 6 (.one 5 (.one 8 (.one 9 (.done))))))) (.one 6 (.one 2 (.one 5 (.one 8 (.one 9 (.done)))))))) (.one 6 (.alt (.one 2 (.one 3 (.one 5 (.one 8 (.one 9 (.done)))))) (.one 3 (.one 2 (.one 5 (.one 8 (.one 9 (.done))))))))))) (.alt (.one 3 (.alt (.one 0 (.alt (.one 2 (.alt (.one 5 (.one 6 (.one 8 (.one 9 (.done))))) (.one 6 (.one 5 (.one 8 (.one 9 (.done))))))) (.one 6 (.one 2 (.one 5 (.one 8 (.one 9 (.done)))))))) (.one 6 (.one 0 (.one 2 (.one 5 (.one 8 (.one 9 (.done))))))))) (.one 6 (.one 0 (.alt (.one 2 (.one 3 (.one 5 (.one 8 (.one 9 (.done)))))) (.one 3 (.one 2 (.one 5 (.one 8 (.one 9 (.done)))))))))))))))) else if id = 4 then .one 0 (.one 1 (.one 4 (.alt (.one 2 (.one 3 (.one 5 (.one 6 (.done))))) (.one 3 (.one 2 (.one 5 (.one 6 (.done)))))))) else if id = 5 then .one 0 (.one 1 (.one 4 (.alt (.one 2 (.one 3 (.one 5 (.one 6 (.one 7 (.done)))))) (.one 3 (.one 2 (.one 5 (.one 6 (.one 7 (.done))))))))) else .done
theorem O43_1 : O43 1 = .one 1 (.one 4 (.alt (.one 0 (.alt (.one 2 (.alt (.one 3 (.alt (.one 5 (.alt (.one 6 (.one 7 (.one 8 (.one 9 (.done))))) (.one 7 (.one 6 (.one 8 (.one 9 (.done))))))) (.alt (.one 6 (.alt (.one 5 (.one 7 (.one 8 (.one 9 (.done))))) (.one 7 (.one 5 (.one 8 (.one 9 (.done))))))) (.one 7 (.alt (.one 5 (.one 6 (.one 8 (.one 9 (.done))))) (.one 6 (.one 5 (.one 8 (.one 9 (.done)))))))))) (.alt (.one 6 (.alt (.one 3 (.alt (.one 5 (.one 7 (.one 8 (.one 9 (.done))))) (.one 7 (.one 5 (.one 8 (.one 9 (.done))))))) (.one 7 (.one 3 (.one 5 (.one 8 (.one 9 (.done)))))))) (.one 7 (.alt (.one 3 (.alt (.one 5 (.one 6 (.one 8 (.one 9 (.done))))) (.one 6 (.one 5 (.one 8 (.one 9 (.done))))))) (.one 6 (.one 3 (.one 5 (.one 8 (.one 9 (.done))))))))))) (.alt (.one 3 (.alt (.one 2 (.alt (.one 5 (.alt (.one 6 (.one 7 (.one 8 (.one 9 (.done))))) (.one 7 (.one 6 (.one 8 (.one 9 (.done))))))) (.alt (.one 6 (.alt (.one 5 (.one 7 (.one 8 (.one 9 (.done))))) (.one 7 (.one 5 (.one 8 (.one 9 (.done))))))) (.one 7 (.alt (.one 5 (.one 6 (.one 8 (.one 9 (.done))))) (.one 6 (.one 5 (.one 8 (.one 9 (.done)))))))))) (.alt (.one 6 (.alt (.one 2 (.alt (.one 5 (.one 7 (.one 8 (.one 9 (.done))))) (.one 7 (.one 5 (.one 8 (.one 9 (.done))))))) (.one 7 (.one 2 (.one 5 (.one 8 (.one 9 (.done)))))))) (.one 7 (.alt (.one 2 (.alt (.one 5 (.one 6 (.one 8 (.one 9 (.done))))) (.one 6 (.one 5 (.one 8 (.one 9 (.done))))))) (.one 6 (.one 2 (.one 5 (.one 8 (.one 9 (.done))))))))))) (.alt (.one 6 (.alt (.one 2 (.alt (.one 3 (.alt (.one 5 (.one 7 (.one 8 (.one 9 (.done))))) (.one 7 (.one 5 (.one 8 (.one 9 (.done))))))) (.one 7 (.one 3 (.one 5 (.one 8 (.one 9 (.done)))))))) (.alt (.one 3 (.alt (.one 2 (.alt (.one 5 (.one 7 (.one 8 (.one 9 (.done))))) (.one 7 (.one 5 (.one 8 (.one 9 (.done))))))) (.one 7 (.one 2 (.one 5 (.one 8 (.one 9 (.done)))))))) (.one 7 (.alt (.one 2 (.one 3 (.one 5 (.one 8 (.one 9 (.done)))))) (.one 3 (.one 2 (.one 5 (.one 8 (.one 9 (.done))))))))))) (.one 7 (.alt (.one 2 (.alt (.one 3 (.alt (.one 5 (.one 6 (.one 8 (.one 9 (.done))))) (.one 6 (.one 5 (.one 8 (.one 9 (.done))))))) (.one 6 (.one 3 (.one 5 (.one 8 (.one 9 (.done)))))))) (.alt (.one 3 (.alt (.one 2 (.alt (.one 5 (.one 6 (.one 8 (.one 9 (.done))))) (.one 6 (.one 5 (.one 8 (.one 9 (.done))))))) (.one 6 (.one 2 (.one 5 (.one 8 (.one 9 (.done)))))))) (.one 6 (.alt (.one 2 (.one 3 (.one 5 (.one 8 (.one 9 (.done)))))) (.one 3 (.one 2 (.one 5 (.one 8 (.one 9 (.done))))))))))))))) (.alt (.one 3 (.alt (.one 0 (.alt (.one 2 (.alt (.one 5 (.alt (.one 6 (.one 7 (.one 8 (.one 9 (.done))))) (.one 7 (.one 6 (.one 8 (.one 9 (.done))))))) (.alt (.one 6 (.alt (.one 5 (.one 7 (.one 8 (.one 9 (.done))))) (.one 7 (.one 5 (.one 8 (.one 9 (.done))))))) (.one 7 (.alt (.one 5 (.one 6 (.one 8 (.one 9 (.done))))) (.one 6 (.one 5 (.one 8 (.one 9 (.done)))))))))) (.alt (.one 6 (.alt (.one 2 (.alt (.one 5 (.one 7 (.one 8 (.one 9 (.done))))) (.one 7 (.one 5 (.one 8 (.one 9 (.done))))))) (.one 7 (.one 2 (.one 5 (.one 8 (.one 9 (.done)))))))) (.one 7 (.alt (.one 2 (.alt (.one 5 (.one 6 (.one 8 (.one 9 (.done))))) (.one 6 (.one 5 (.one 8 (.one 9 (.done))))))) (.one 6 (.one 2 (.one 5 (.one 8 (.one 9 (.done))))))))))) (.alt (.one 6 (.alt (.one 0 (.alt (.one 2 (.alt (.one 5 (.one 7 (.one 8 (.one 9 (.done))))) (.one 7 (.one 5 (.one 8 (.one 9 (.done))))))) (.one 7 (.one 2 (.one 5 (.one 8 (.one 9 (.done)))))))) (.one 7 (.one 0 (.one 2 (.one 5 (.one 8 (.one 9 (.done))))))))) (.one 7 (.alt (.one 0 (.alt (.one 2 (.alt (.one 5 (.one 6 (.one 8 (.one 9 (.done))))) (.one 6 (.one 5 (.one 8 (.one 9 (.done))))))) (.one 6 (.one 2 (.one 5 (.one 8 (.one 9 (.done)))))))) (.one 6 (.one 0 (.one 2 (.one 5 (.one 8 (.one 9 (.done)))))))))))) (.alt (.one 6 (.alt (.one 0 (.alt (.one 2 (.alt (.one 3 (.alt (.one 5 (.one 7 (.one 8 (.one 9 (.done))))) (.one 7 (.one 5 (.one 8 (.one 9 (.done))))))) (.one 7 (.one 3 (.one 5 (.one 8 (.one 9 (.done)))))))) (.alt (.one 3 (.alt (.one 2 (.alt (.one 5 (.one 7 (.one 8 (.one 9 (.done))))) (.one 7 (.one 5 (.one 8 (.one 9 (.done))))))) (.one 7 (.one 2 (.one 5 (.one 8 (.one 9 (.done)))))))) (.one 7 (.alt (.one 2 (.one 3 (.one 5 (.one 8 (.one 9 (.done)))))) (.one 3 (.one 2 (.one 5 (.one 8 (.one 9 (.done))))))))))) (.alt (.one 3 (.alt (.one 0 (.alt (.one 2 (.alt (.one 5 (.one 7 (.one 8 (.one 9 (.done))))) (.one 7 (.one 5 (.one 8 (.one 9 (.done))))))) (.one 7 (.one 2 (.one 5 (.one 8 (.one 9 (.done)))))))) (.one 7 (.one 0 (.one 2 (.one 5 (.one 8 (.one 9 (.done))))))))) (.one 7 (.one 0 (.alt (.one 2 (.one 3 (.one 5 (.one 8 (.one 9 (.done)))))) (.one 3 (.one 2 (.one 5 (.one 8 (.one 9 (.done)))))))))))) (.one 7 (.alt (.one 0 (.alt (.one 2 (.alt (.one 3 (.alt (.one 5 (.one 6 (.one 8 (.one 9 (.done))))) (.one 6 (.one 5 (.one 8 (.one 9 (.done))))))) (.one 6 (.one 3 (.one 5 (.one 8 (.one 9 (.done)))))))) (.alt (.one 3 (.alt (.one 2 (.alt (.one 5 (.one 6 (.one 8 (.one 9 (.done))))) (.one 6 (.one 5 (.one 8 (.one 9 (.done))))))) (.one 6 (.one 2 (.one 5 (.one 8 (.one 9 (.done)))))))) (.one 6 (.alt (.one 2 (.one 3 (.one 5 (.one 8 (.one 9 (.done)))))) (.one 3 (.one 2 (.one 5 (.one 8 (.one 9 (.done))))))))))) (.alt (.one 3 (.alt (.one 0 (.alt (.one 2 (.alt (.one 5 (.one 6 (.one 8 (.one 9 (.done))))) (.one 6 (.one 5 (.one 8 (.one 9 (.done))))))) (.one 6 (.one 2 (.one 5 (.one 8 (.one 9 (.done)))))))) (.one 6 (.one 0 (.one 2 (.one 5 (.one 8 (.one 9 (.done))))))))) (.one 6 (.one 0 (.alt (.one 2 (.one 3 (.one 5 (.one 8 (.one 9 (.done)))))) (.one 3 (.one 2 (.one 5 (.one 8 (.one 9 (.done)))))))))))))))) := rfl
theorem O43_4 : O43 4 = .one 0 (.one 1 (.one 4 (.alt (.one 2 (.one 3 (.one 5 (.one 6 (.done))))) (.one 3 (.one 2 (.one 5 (.one 6 (.done)))))))) := rfl
theorem O43_5 : O43 5 = .one 0 (.one 1 (.one 4 (.alt (.one 2 (.one 3 (.one 5 (.one 6 (.one 7 (.done)))))) (.one 3 (.one 2 (.one 5 (.one 6 (.one 7 (.done))))))))) := rfl
theorem ho43 : Tryd.f43.body.map (okO O43) = some true := by kernel_rfl
def Cf43 : Nat → List AV → (AV → List AV → Sto → Prop) → Kt → List AV → Sto → Prop := fun f args K Q e s => match f with
  | 44 => ent44 args K e s
  | 64 => ent64 args K e s
  | _ => False
def Ct43 : CT := { f := Cf43, y := noYld, z := fun d => false }
theorem ctz43 {d : Nat} : CT.z Ct43 d = (false) := id rfl
theorem Ct43_ok : Ct43.ok Tryd.prog := ok_of_f (fun f args K Q e s h => by
  have h : Cf43 f args K Q e s := h
  unfold Cf43 at h; split at h
  · exact ent44_ok h
  · exact ent64_ok h
  · exact h.elim) (fun _ _ _ _ _ _ _ _ _ h => h)
theorem x43_44 {l : Lea} {t : Int} {KK : AV → List AV → Sto → Prop} {QQ : Kt} {ii : At KK} {jj : At QQ} {ee : List AV} {ss : Sto} : xC Ct43 44 [.d (.agg l.c), .d (.i t)] KK QQ ii jj ee ss = ((gsOk l.games) ∧ KK (.d (.agg (stF l.games t).c)) ee ss) := eq44
theorem x43_64 {l : Lea} {t : Int} {KK : AV → List AV → Sto → Prop} {QQ : Kt} {ii : At KK} {jj : At QQ} {ee : List AV} {ss : Sto} : xC Ct43 64 [.d (.agg l.c), .d (.i t)] KK QQ ii jj ee ss = ((gsOk l.games) ∧ KK (.d (.i (amF l.games t))) ee ss) := eq64
theorem c43 : callable Tryd.prog 43 = true := by kernel_rfl
theorem pf43 (l : Lea) (a b : Int) (h : gsOk l.games) : PF Tryd.prog 43 [.agg l.c, .i a, .i b] (fun zz => zz = .ret (.b (ahB l.games a b))) := by
  have ha := stF_b (t := a) h
  have hb := stF_b (t := b) h
  unfold StB at ha hb
  unfold ahB
  by_cases d1 : (stF l.games a).pts = (stF l.games b).pts
  case neg =>
    have d1b : ((stF l.games a).pts != (stF l.games b).pts) = true := by simpa using d1
    rw [if_neg d1]
    refine PF_nil (PF_start (O := O43) Ct43_ok hmix ho43 Tryd.func43 c43 rfl Tryd.ntmps43 Tryd.results43 ?_)
    simp (maxSteps := 4000000) +contextual (disch := first | omega | exact qdb_ok (by kernel_rfl) | exact okb_ok (by kernel_rfl)) only [bw1,bw2,bw3,bw4,bw5,bw6,bw7,bc0,bc1,bc2,bc3,bc4,bc5,bc6,bc7,bb0,setPs,AV.owns,AV.datF,AV.frz,AV.cpy,ifV,isEqB,nilV,nilX,AV.isNilS,AV.isNoRows,wk,dclo,datOf,binIs,addF,AV.isPtr,idxV,AV.isSl,AV.isSlice,AV.rows,ps,pv,extV,extS,AV.outs,AV.outF,packD,AV.dl,fieldV,fieldS,AV.cells?,AV.upr,AV.menc,AV.one,D.one,Value.oneCell',tagOf,AV.isApp,strV,strS,bolV,bolS,slcV,AV.isSlD,asrtS,AV.dcells,D.cells?,stcV,stcS,leafOk,eqDs,eqD,packA,D.val?,↓reduceIte,reduceCtorEq,Nat.reduceAdd,Nat.reduceSub,Nat.reduceMul,List.reduceReplicate,Nat.reduceLeDiff,Nat.reduceLT,Nat.reduceBEq,Nat.reduceEqDiff,Int.reduceNeg,Int.reduceEq,Int.reduceLE,Int.reduceLT,tfb,ctz43,O43_1,O43_4,O43_5,x43_44,x43_64,h, d1b]
    try (and_intros <;> rfl)
  have d1b : ((stF l.games a).pts != (stF l.games b).pts) = false := by simpa using d1
  rw [if_pos d1]
  by_cases d2 : amF l.games a = amF l.games b
  case neg =>
    have d2b : (amF l.games a != amF l.games b) = true := by simpa using d2
    rw [if_neg d2]
    refine PF_nil (PF_start (O := O43) Ct43_ok hmix ho43 Tryd.func43 c43 rfl Tryd.ntmps43 Tryd.results43 ?_)
    simp (maxSteps := 4000000) +contextual (disch := first | omega | exact qdb_ok (by kernel_rfl) | exact okb_ok (by kernel_rfl)) only [bw1,bw2,bw3,bw4,bw5,bw6,bw7,bc0,bc1,bc2,bc3,bc4,bc5,bc6,bc7,bb0,setPs,AV.owns,AV.datF,AV.frz,AV.cpy,ifV,isEqB,nilV,nilX,AV.isNilS,AV.isNoRows,wk,dclo,datOf,binIs,addF,AV.isPtr,idxV,AV.isSl,AV.isSlice,AV.rows,ps,pv,extV,extS,AV.outs,AV.outF,packD,AV.dl,fieldV,fieldS,AV.cells?,AV.upr,AV.menc,AV.one,D.one,Value.oneCell',tagOf,AV.isApp,strV,strS,bolV,bolS,slcV,AV.isSlD,asrtS,AV.dcells,D.cells?,stcV,stcS,leafOk,eqDs,eqD,packA,D.val?,↓reduceIte,reduceCtorEq,Nat.reduceAdd,Nat.reduceSub,Nat.reduceMul,List.reduceReplicate,Nat.reduceLeDiff,Nat.reduceLT,Nat.reduceBEq,Nat.reduceEqDiff,Int.reduceNeg,Int.reduceEq,Int.reduceLE,Int.reduceLT,tfb,ctz43,O43_1,O43_4,O43_5,x43_44,x43_64,h, d1b, d2b]
    try (and_intros <;> rfl)
  have d2b : (amF l.games a != amF l.games b) = false := by simpa using d2
  rw [if_pos d2]
  by_cases d3 : (stF l.games a).gf - (stF l.games a).ga = (stF l.games b).gf - (stF l.games b).ga
  case neg =>
    have d3b : ((stF l.games a).gf - (stF l.games a).ga != (stF l.games b).gf - (stF l.games b).ga) = true := by simpa using d3
    rw [if_neg d3]
    refine PF_nil (PF_start (O := O43) Ct43_ok hmix ho43 Tryd.func43 c43 rfl Tryd.ntmps43 Tryd.results43 ?_)
    simp (maxSteps := 4000000) +contextual (disch := first | omega | exact qdb_ok (by kernel_rfl) | exact okb_ok (by kernel_rfl)) only [bw1,bw2,bw3,bw4,bw5,bw6,bw7,bc0,bc1,bc2,bc3,bc4,bc5,bc6,bc7,bb0,setPs,AV.owns,AV.datF,AV.frz,AV.cpy,ifV,isEqB,nilV,nilX,AV.isNilS,AV.isNoRows,wk,dclo,datOf,binIs,addF,AV.isPtr,idxV,AV.isSl,AV.isSlice,AV.rows,ps,pv,extV,extS,AV.outs,AV.outF,packD,AV.dl,fieldV,fieldS,AV.cells?,AV.upr,AV.menc,AV.one,D.one,Value.oneCell',tagOf,AV.isApp,strV,strS,bolV,bolS,slcV,AV.isSlD,asrtS,AV.dcells,D.cells?,stcV,stcS,leafOk,eqDs,eqD,packA,D.val?,↓reduceIte,reduceCtorEq,Nat.reduceAdd,Nat.reduceSub,Nat.reduceMul,List.reduceReplicate,Nat.reduceLeDiff,Nat.reduceLT,Nat.reduceBEq,Nat.reduceEqDiff,Int.reduceNeg,Int.reduceEq,Int.reduceLE,Int.reduceLT,tfb,ctz43,O43_1,O43_4,O43_5,x43_44,x43_64,h, d1b, d2b, d3b]
    try (and_intros <;> first | omega | rfl)
  have d3b : ((stF l.games a).gf - (stF l.games a).ga != (stF l.games b).gf - (stF l.games b).ga) = false := by simpa using d3
  rw [if_pos d3]
  by_cases d4 : (stF l.games a).gf = (stF l.games b).gf
  case neg =>
    have d4b : ((stF l.games a).gf != (stF l.games b).gf) = true := by simpa using d4
    rw [if_neg d4]
    refine PF_nil (PF_start (O := O43) Ct43_ok hmix ho43 Tryd.func43 c43 rfl Tryd.ntmps43 Tryd.results43 ?_)
    simp (maxSteps := 4000000) +contextual (disch := first | omega | exact qdb_ok (by kernel_rfl) | exact okb_ok (by kernel_rfl)) only [bw1,bw2,bw3,bw4,bw5,bw6,bw7,bc0,bc1,bc2,bc3,bc4,bc5,bc6,bc7,bb0,setPs,AV.owns,AV.datF,AV.frz,AV.cpy,ifV,isEqB,nilV,nilX,AV.isNilS,AV.isNoRows,wk,dclo,datOf,binIs,addF,AV.isPtr,idxV,AV.isSl,AV.isSlice,AV.rows,ps,pv,extV,extS,AV.outs,AV.outF,packD,AV.dl,fieldV,fieldS,AV.cells?,AV.upr,AV.menc,AV.one,D.one,Value.oneCell',tagOf,AV.isApp,strV,strS,bolV,bolS,slcV,AV.isSlD,asrtS,AV.dcells,D.cells?,stcV,stcS,leafOk,eqDs,eqD,packA,D.val?,↓reduceIte,reduceCtorEq,Nat.reduceAdd,Nat.reduceSub,Nat.reduceMul,List.reduceReplicate,Nat.reduceLeDiff,Nat.reduceLT,Nat.reduceBEq,Nat.reduceEqDiff,Int.reduceNeg,Int.reduceEq,Int.reduceLE,Int.reduceLT,tfb,ctz43,O43_1,O43_4,O43_5,x43_44,x43_64,h, d1b, d2b, d3b, d4b]
    try (and_intros <;> first | omega | rfl)
  have d4b : ((stF l.games a).gf != (stF l.games b).gf) = false := by simpa using d4
  rw [if_pos d4]
  refine PF_nil (PF_start (O := O43) Ct43_ok hmix ho43 Tryd.func43 c43 rfl Tryd.ntmps43 Tryd.results43 ?_)
  simp (maxSteps := 4000000) +contextual (disch := first | omega | exact qdb_ok (by kernel_rfl) | exact okb_ok (by kernel_rfl)) only [bw1,bw2,bw3,bw4,bw5,bw6,bw7,bc0,bc1,bc2,bc3,bc4,bc5,bc6,bc7,bb0,setPs,AV.owns,AV.datF,AV.frz,AV.cpy,ifV,isEqB,nilV,nilX,AV.isNilS,AV.isNoRows,wk,dclo,datOf,binIs,addF,AV.isPtr,idxV,AV.isSl,AV.isSlice,AV.rows,ps,pv,extV,extS,AV.outs,AV.outF,packD,AV.dl,fieldV,fieldS,AV.cells?,AV.upr,AV.menc,AV.one,D.one,Value.oneCell',tagOf,AV.isApp,strV,strS,bolV,bolS,slcV,AV.isSlD,asrtS,AV.dcells,D.cells?,stcV,stcS,leafOk,eqDs,eqD,packA,D.val?,↓reduceIte,reduceCtorEq,Nat.reduceAdd,Nat.reduceSub,Nat.reduceMul,List.reduceReplicate,Nat.reduceLeDiff,Nat.reduceLT,Nat.reduceBEq,Nat.reduceEqDiff,Int.reduceNeg,Int.reduceEq,Int.reduceLE,Int.reduceLT,tfb,ctz43,O43_1,O43_4,O43_5,x43_44,x43_64,h, d1b, d2b, d3b, d4b]
  try (and_intros <;> first | omega | rfl)
def ent43 (args : List AV) (K : AV → List AV → Sto → Prop) (e : List AV) (s : Sto) : Prop := ent (α := (Lea) × (Int) × (Int)) (fun aa => [.agg aa.1.c, .i aa.2.1, .i aa.2.2]) (fun aa => gsOk aa.1.games) (fun aa => .b (ahB aa.1.games aa.2.1 aa.2.2)) args K e s
theorem ent43_ok {args : List AV} {K : AV → List AV → Sto → Prop} {Q : Kt} {e : List AV} {s : Sto} (h : ent43 args K e s) : pcall Tryd.prog 43 args K Q e s := ent_ok (fun aa h => pf43 aa.1 aa.2.1 aa.2.2 h) h
theorem eq43 {l : Lea} {a : Int} {b : Int} {KK : AV → List AV → Sto → Prop} {ee : List AV} {ss : Sto} : ent43 [.d (.agg l.c), .d (.i a), .d (.i b)] KK ee ss = ((gsOk l.games) ∧ KK (.d (.b (ahB l.games a b))) ee ss) := by
  unfold ent43; rw [ent_iff (l, a, b) (by intro b h; simpa [Prod.ext_iff, and_assoc, Int.ofNat_inj, ints_inj, gams_inj, fars_inj, gam_inj, lea_inj, Int.ofNat_inj, ints_inj, gams_inj, fars_inj, gam_inj, lea_inj, stds_inj, std_inj] using h) rfl]; simp
end Go.Proofs.YtmajlffglplcnaaDoor
