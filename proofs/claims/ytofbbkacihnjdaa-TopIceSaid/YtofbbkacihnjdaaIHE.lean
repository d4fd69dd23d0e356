/- A part of the proof that the last text ends: what functions of the program do, told by plain data. -/
import Derived.Test.YtofbbkacihnjdaaIHD
set_option linter.unusedVariables false
set_option linter.unusedSimpArgs false
namespace Go.Proofs.Ytofbbkacihnjdaa
open Go Go.E Go.Maps
set_option maxRecDepth 100000
set_option maxHeartbeats 16000000
def cmpN (x y : List Int) : Nat → Nat → Int
  | 0, _ => 0
  | k + 1, i => if y.getD i default < x.getD i default then 1 else if x.getD i default < y.getD i default then -1 else cmpN x y k (i + 1)
def cmpL (x y : List Int) : Int := cmpN x y x.length 0
def O47 : Nat → Sch := fun id => .done
theorem ho47 : Try.f47.body.map (okO O47) = some true := by kernel_rfl
def Cf47 : Nat → List AV → (AV → List AV → Sto → Prop) → Kt → List AV → Sto → Prop := fun f args K Q e s => match f with
  | 60 => ent60 args K e s
  | _ => False
def Ct47 : CT := { f := Cf47, y := noYld, z := fun d => false }
theorem ctz47 {d : Nat} : CT.z Ct47 d = (false) := id rfl
theorem Ct47_ok : Ct47.ok Try.prog := ok_of_f (fun f args K Q e s h => by
  have h : Cf47 f args K Q e s := h
  unfold Cf47 at h; split at h
  · exact ent60_ok h
  · exact h.elim) (fun _ _ _ _ _ _ _ _ _ h => h)
theorem x47_60 {a : Int} {b : Int} {KK : AV → List AV → Sto → Prop} {QQ : Kt} {ii : At KK} {jj : At QQ} {ee : List AV} {ss : Sto} : xC Ct47 60 [.d (.i a), .d (.i b)] KK QQ ii jj ee ss = (KK (.d (.i (cmpI a b))) ee ss) := eq60
theorem c47 : callable Try.prog 47 = true := by kernel_rfl
theorem pf47 (x y : List Int) (h : x.length ≤ 1000 ∧ y.length = x.length) : PF Try.prog 47 [.sl 1 (x.map ic), .sl 1 (y.map ic)] (fun zz => zz = .ret (.i (cmpL x y))) := by
  obtain ⟨hla, hlb⟩ := h
  obtain ⟨W, hW⟩ : ∃ W, W = cmpL x y := ⟨_, rfl⟩
  rw [← hW]
  unfold cmpL at hW
  refine PF_nil (PF_start (O := O47) Ct47_ok hmix ho47 Try.func47 c47 rfl Try.ntmps47 Try.results47 ?_)
  simp (maxSteps := 4000000) +contextual (disch := first | omega | exact qdb_ok (by kernel_rfl) | exact okb_ok (by kernel_rfl)) only [bw1,bw2,bw3,bw4,bw5,bw6,bw7,bc0,bc1,bc2,bc3,bc4,bc5,bc6,bc7,bb0,setPs,AV.owns,AV.datF,AV.frz,AV.cpy,ifV,isEqB,nilV,nilX,AV.isNilS,AV.isNoRows,wk,dclo,datOf,binIs,addF,AV.isPtr,idxV,AV.isSl,AV.isSlice,AV.rows,ps,pv,extV,extS,AV.outs,AV.outF,packD,AV.dl,fieldV,fieldS,AV.cells?,AV.upr,AV.menc,AV.one,D.one,Value.oneCell',tagOf,AV.isApp,strV,strS,bolV,bolS,slcV,AV.isSlD,asrtS,AV.dcells,D.cells?,stcV,stcS,leafOk,eqDs,eqD,packA,D.val?,↓reduceIte,reduceCtorEq,Nat.reduceAdd,Nat.reduceSub,Nat.reduceMul,List.reduceReplicate,Nat.reduceLeDiff,Nat.reduceLT,Nat.reduceBEq,Nat.reduceEqDiff,Int.reduceNeg,Int.reduceEq,Int.reduceLE,Int.reduceLT,tfb,n_retn,n_retr,n_retp,qd_Rn,AV.outN,D.flat,D.flats,ctz47,x47_60]
  refine loop_xu (O := O47) (tb := 0) Ct47_ok hmix (by kernel_rfl) (σ := Nat) (fun k => [(11, .i k), (5, .any), (6, .any), (7, .any), (8, .any)]) (fun _ => []) (fun k => k ≤ x.length ∧ cmpN x y (x.length - k) k = W) (fun k => x.length - k) 0 ⟨Nat.zero_le _, hW.symm⟩ ?_ ?_
  · simp (maxSteps := 4000000) +contextual (disch := first | omega | exact qdb_ok (by kernel_rfl) | exact okb_ok (by kernel_rfl)) only [bw1,bw2,bw3,bw4,bw5,bw6,bw7,bc0,bc1,bc2,bc3,bc4,bc5,bc6,bc7,bb0,setPs,AV.owns,AV.datF,AV.frz,AV.cpy,ifV,isEqB,nilV,nilX,AV.isNilS,AV.isNoRows,wk,dclo,datOf,binIs,addF,AV.isPtr,idxV,AV.isSl,AV.isSlice,AV.rows,ps,pv,extV,extS,AV.outs,AV.outF,packD,AV.dl,fieldV,fieldS,AV.cells?,AV.upr,AV.menc,AV.one,D.one,Value.oneCell',tagOf,AV.isApp,strV,strS,bolV,bolS,slcV,AV.isSlD,asrtS,AV.dcells,D.cells?,stcV,stcS,leafOk,eqDs,eqD,packA,D.val?,↓reduceIte,reduceCtorEq,Nat.reduceAdd,Nat.reduceSub,Nat.reduceMul,List.reduceReplicate,Nat.reduceLeDiff,Nat.reduceLT,Nat.reduceBEq,Nat.reduceEqDiff,Int.reduceNeg,Int.reduceEq,Int.reduceLE,Int.reduceLT,tfb,n_retn,n_retr,n_retp,qd_Rn,AV.outN,D.flat,D.flats,ctz47,x47_60,eq_self]
    try rfl
  rintro k ⟨hk, hw⟩
  by_cases hlt : k < x.length
  · have hlt' : (k : Int) < x.length := by omega
    have hlt2 : (k : Int) < y.length := by omega
    have hlt3 : ¬ (y.length : Int) ≤ k := by omega
    have hk0 : (0 : Int) ≤ k := by omega
    rw [show x.length - k = (x.length - (k + 1)) + 1 by omega, cmpN] at hw
    by_cases d1 : y.getD k default < x.getD k default
    · have hc : cmpI (x.getD k default) (y.getD k default) = 1 := by unfold cmpI; rw [if_neg (by omega), if_pos d1]
      have hne : ((1 : Int) != 0) = true := rfl
      rw [if_pos d1] at hw
      simp (maxSteps := 4000000) +contextual (disch := first | omega | exact qdb_ok (by kernel_rfl) | exact okb_ok (by kernel_rfl)) only [bw1,bw2,bw3,bw4,bw5,bw6,bw7,bc0,bc1,bc2,bc3,bc4,bc5,bc6,bc7,bb0,setPs,AV.owns,AV.datF,AV.frz,AV.cpy,ifV,isEqB,nilV,nilX,AV.isNilS,AV.isNoRows,wk,dclo,datOf,binIs,addF,AV.isPtr,idxV,AV.isSl,AV.isSlice,AV.rows,ps,pv,extV,extS,AV.outs,AV.outF,packD,AV.dl,fieldV,fieldS,AV.cells?,AV.upr,AV.menc,AV.one,D.one,Value.oneCell',tagOf,AV.isApp,strV,strS,bolV,bolS,slcV,AV.isSlD,asrtS,AV.dcells,D.cells?,stcV,stcS,leafOk,eqDs,eqD,packA,D.val?,↓reduceIte,reduceCtorEq,Nat.reduceAdd,Nat.reduceSub,Nat.reduceMul,List.reduceReplicate,Nat.reduceLeDiff,Nat.reduceLT,Nat.reduceBEq,Nat.reduceEqDiff,Int.reduceNeg,Int.reduceEq,Int.reduceLE,Int.reduceLT,tfb,n_retn,n_retr,n_retp,qd_Rn,AV.outN,D.flat,D.flats,ctz47,x47_60,eq_self, hlt', hlt2, hlt3, hk0, hc, hne, ← hw]
      try (and_intros <;> first | omega | rfl)
    rw [if_neg d1] at hw
    by_cases d2 : x.getD k default < y.getD k default
    · have hc : cmpI (x.getD k default) (y.getD k default) = -1 := by unfold cmpI; rw [if_pos d2]
      have hne : ((-1 : Int) != 0) = true := rfl
      rw [if_pos d2] at hw
      simp (maxSteps := 4000000) +contextual (disch := first | omega | exact qdb_ok (by kernel_rfl) | exact okb_ok (by kernel_rfl)) only [bw1,bw2,bw3,bw4,bw5,bw6,bw7,bc0,bc1,bc2,bc3,bc4,bc5,bc6,bc7,bb0,setPs,AV.owns,AV.datF,AV.frz,AV.cpy,ifV,isEqB,nilV,nilX,AV.isNilS,AV.isNoRows,wk,dclo,datOf,binIs,addF,AV.isPtr,idxV,AV.isSl,AV.isSlice,AV.rows,ps,pv,extV,extS,AV.outs,AV.outF,packD,AV.dl,fieldV,fieldS,AV.cells?,AV.upr,AV.menc,AV.one,D.one,Value.oneCell',tagOf,AV.isApp,strV,strS,bolV,bolS,slcV,AV.isSlD,asrtS,AV.dcells,D.cells?,stcV,stcS,leafOk,eqDs,eqD,packA,D.val?,↓reduceIte,reduceCtorEq,Nat.reduceAdd,Nat.reduceSub,Nat.reduceMul,List.reduceReplicate,Nat.reduceLeDiff,Nat.reduceLT,Nat.reduceBEq,Nat.reduceEqDiff,Int.reduceNeg,Int.reduceEq,Int.reduceLE,Int.reduceLT,tfb,n_retn,n_retr,n_retp,qd_Rn,AV.outN,D.flat,D.flats,ctz47,x47_60,eq_self, hlt', hlt2, hlt3, hk0, hc, hne, ← hw]
      try (and_intros <;> first | omega | rfl)
    rw [if_neg d2] at hw
    have hc : cmpI (x.getD k default) (y.getD k default) = 0 := by unfold cmpI; rw [if_neg d2, if_neg d1]
    have hne : ((0 : Int) != 0) = false := rfl
    simp (maxSteps := 4000000) +contextual (disch := first | omega | exact qdb_ok (by kernel_rfl) | exact okb_ok (by kernel_rfl)) only [bw1,bw2,bw3,bw4,bw5,bw6,bw7,bc0,bc1,bc2,bc3,bc4,bc5,bc6,bc7,bb0,setPs,AV.owns,AV.datF,AV.frz,AV.cpy,ifV,isEqB,nilV,nilX,AV.isNilS,AV.isNoRows,wk,dclo,datOf,binIs,addF,AV.isPtr,idxV,AV.isSl,AV.isSlice,AV.rows,ps,pv,extV,extS,AV.outs,AV.outF,packD,AV.dl,fieldV,fieldS,AV.cells?,AV.upr,AV.menc,AV.one,D.one,Value.oneCell',tagOf,AV.isApp,strV,strS,bolV,bolS,slcV,AV.isSlD,asrtS,AV.dcells,D.cells?,stcV,stcS,leafOk,eqDs,eqD,packA,D.val?,↓reduceIte,reduceCtorEq,Nat.reduceAdd,Nat.reduceSub,Nat.reduceMul,List.reduceReplicate,Nat.reduceLeDiff,Nat.reduceLT,Nat.reduceBEq,Nat.reduceEqDiff,Int.reduceNeg,Int.reduceEq,Int.reduceLE,Int.reduceLT,tfb,n_retn,n_retr,n_retp,qd_Rn,AV.outN,D.flat,D.flats,ctz47,x47_60,eq_self, hlt', hlt2, hlt3, hk0, hc, hne]
    repeat (refine And.intro (by omega) ?_)
    exact ⟨k + 1, ⟨⟨by omega, hw⟩, by omega⟩, rfl⟩
  obtain rfl : k = x.length := by omega
  rw [Nat.sub_self, cmpN] at hw
  have hyx : ¬ (x.length : Int) < y.length := by omega
  simp (maxSteps := 4000000) +contextual (disch := first | omega | exact qdb_ok (by kernel_rfl) | exact okb_ok (by kernel_rfl)) only [bw1,bw2,bw3,bw4,bw5,bw6,bw7,bc0,bc1,bc2,bc3,bc4,bc5,bc6,bc7,bb0,setPs,AV.owns,AV.datF,AV.frz,AV.cpy,ifV,isEqB,nilV,nilX,AV.isNilS,AV.isNoRows,wk,dclo,datOf,binIs,addF,AV.isPtr,idxV,AV.isSl,AV.isSlice,AV.rows,ps,pv,extV,extS,AV.outs,AV.outF,packD,AV.dl,fieldV,fieldS,AV.cells?,AV.upr,AV.menc,AV.one,D.one,Value.oneCell',tagOf,AV.isApp,strV,strS,bolV,bolS,slcV,AV.isSlD,asrtS,AV.dcells,D.cells?,stcV,stcS,leafOk,eqDs,eqD,packA,D.val?,↓reduceIte,reduceCtorEq,Nat.reduceAdd,Nat.reduceSub,Nat.reduceMul,List.reduceReplicate,Nat.reduceLeDiff,Nat.reduceLT,Nat.reduceBEq,Nat.reduceEqDiff,Int.reduceNeg,Int.reduceEq,Int.reduceLE,Int.reduceLT,tfb,n_retn,n_retr,n_retp,qd_Rn,AV.outN,D.flat,D.flats,ctz47,x47_60,eq_self, Int.lt_irrefl, hyx, ← hw]
  try rfl
def ent47 (args : List AV) (K : AV → List AV → Sto → Prop) (e : List AV) (s : Sto) : Prop := ent (α := (List Int) × (List Int)) (fun aa => [.sl 1 (aa.1.map ic), .sl 1 (aa.2.map ic)]) (fun aa => aa.1.length ≤ 1000 ∧ aa.2.length = aa.1.length) (fun aa => .i (cmpL aa.1 aa.2)) args K e s
theorem ent47_ok {args : List AV} {K : AV → List AV → Sto → Prop} {Q : Kt} {e : List AV} {s : Sto} (h : ent47 args K e s) : pcall Try.prog 47 args K Q e s := ent_ok (fun aa h => pf47 aa.1 aa.2 h) h
theorem eq47 {x : List Int} {y : List Int} {KK : AV → List AV → Sto → Prop} {ee : List AV} {ss : Sto} : ent47 [.d (.sl 1 (x.map ic)), .d (.sl 1 (y.map ic))] KK ee ss = ((x.length ≤ 1000 ∧ y.length = x.length) ∧ KK (.d (.i (cmpL x y))) ee ss) := by
  unfold ent47; rw [ent_iff (x, y) (by intro b h; simpa [Prod.ext_iff, and_assoc, Int.ofNat_inj, ints_inj, hrs_inj, grs_inj, hr_inj, gr_inj, tt_inj] using h) rfl]; simp
theorem eqo47 {x : List Int} {y : List Int} {g1 el1 : Nat} {g2 el2 : Nat} {KK : AV → List AV → Sto → Prop} {ee : List AV} {ss : Sto} : ent47 [.own g1 el1 1 (x.map ic), .own g2 el2 1 (y.map ic)] KK ee ss = ((x.length ≤ 1000 ∧ y.length = x.length) ∧ (.i (cmpL x y) : D).flat = true ∧ KK (.d (.i (cmpL x y))) ee ss) := by
  unfold ent47; rw [ent_iff (x, y) (by intro b h; simpa [Prod.ext_iff, and_assoc, Int.ofNat_inj, ints_inj, hrs_inj, grs_inj, hr_inj, gr_inj, tt_inj] using h) rfl]; simp
end Go.Proofs.Ytofbbkacihnjdaa
