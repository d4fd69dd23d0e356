/- A part of the proof that the last text ends: what functions of the program do, told by plain data. -/
import Derived.Test.YtofbbkacihnjdaaDoorHG
set_option linter.unusedVariables false
set_option linter.unusedSimpArgs false
namespace Go.Proofs.YtofbbkacihnjdaaDoor
open Go Go.E Go.Maps
set_option maxRecDepth 100000
set_option maxHeartbeats 16000000
abbrev bc (b : Int) : List D := [.v (.int .u8 b)]
theorem bcs_inj {a b : List Int} : (a.map bc = b.map bc) = (a = b) := inj_map fun _ _ h => by simpa using h
def otG (t : Tt) (bs : List Int) (k : Nat) : Int := bs.getD (k % bs.length) default % ((t.groups.length : Int) + 1)
def otN (t : Tt) (bs : List Int) : Nat → List Int
  | 0 => []
  | k + 1 => if otG t bs k = t.groups.length ∨ ¬ goodB t (padL (otN t bs k ++ [otG t bs k]) t.hours.length) = true then otN t bs k ++ [-1] else otN t bs k ++ [otG t bs k]
theorem otN_len {t : Tt} {bs : List Int} : ∀ k, (otN t bs k).length = k
  | 0 => rfl
  | k + 1 => by
    unfold otN
    split <;> simp [otN_len k]
theorem padL_len {p : List Int} {n : Nat} (h : p.length ≤ n) : (padL p n).length = n := by simp [padL]; omega
def O23 : Nat → Sch := fun id => if id = 5 then .one 0 (.one 1 (.one 2 (.one 3 (.one 4 (.one 5 (.one 6 (.one 7 (.one 8 (.one 9 (.one 10 (.one 11 (.one 12 (.one 13 (.done)))))))))))))) else if id = 7 then .one 0 (.one 1 (.one 2 (.one 3 (.one 4 (.one 5 (.one 7 (.one 8 (.one 9 (.one 10 (.alt (.one 6 (.one 11 (.one 12 (.one 13 (.one 14 (.done)))))) (.one 11 (.one 6 (.one 12 (.one 13 (.one 14 (.done)))))))))))))))) else .done
theorem O23_5 : O23 5 = .one 0 (.one 1 (.one 2 (.one 3 (.one 4 (.one 5 (.one 6 (.one 7 (.one 8 (.one 9 (.one 10 (.one 11 (.one 12 (.one 13 (.done)))))))))))))) := rfl
theorem O23_7 : O23 7 = .one 0 (.one 1 (.one 2 (.one 3 (.one 4 (.one 5 (.one 7 (.one 8 (.one 9 (.one 10 (.alt (.one 6 (.one 11 (.one 12 (.one 13 (.one 14 (.done)))))) (.one 11 (.one 6 (.one 12 (.one 13 (.one 14 (.done)))))))))))))))) := rfl
theorem ho23 : Tryd.f23.body.map (okO O23) = some true := by kernel_rfl
def Cf23 : Nat → List AV → (AV → List AV → Sto → Prop) → Kt → List AV → Sto → Prop := fun f args K Q e s => match f with
  | 22 => ent22 args K e s
  | 28 => ent28 args K e s
  | _ => False
def Ct23 : CT := { f := Cf23, y := noYld, z := fun d => false }
theorem ctz23 {d : Nat} : CT.z Ct23 d = (false) := id rfl
theorem Ct23_ok : Ct23.ok Tryd.prog := ok_of_f (fun f args K Q e s h => by
  have h : Cf23 f args K Q e s := h
  unfold Cf23 at h; split at h
  · exact ent22_ok h
  · exact ent28_ok h
  · exact h.elim) (fun _ _ _ _ _ _ _ _ _ h => h)
theorem x23_22 {t : Tt} {p : List Int} {KK : AV → List AV → Sto → Prop} {QQ : Kt} {ii : At KK} {jj : At QQ} {ee : List AV} {ss : Sto} : xC Ct23 22 [.d (.agg t.c), .d (.sl 1 (p.map ic))] KK QQ ii jj ee ss = ((ttOk t = true ∧ p.length ≤ 1000) ∧ KK (.d (.b (goodB t p))) ee ss) := eq22
theorem x23_22_m1 {t : Tt} {p : List Int} {g1 el1 : Nat} {KK : AV → List AV → Sto → Prop} {QQ : Kt} {ii : At KK} {jj : At QQ} {ee : List AV} {ss : Sto} : xC Ct23 22 [.d (.agg t.c), .own g1 el1 1 (p.map ic)] KK QQ ii jj ee ss = ((ttOk t = true ∧ p.length ≤ 1000) ∧ (.b (goodB t p) : D).flat = true ∧ KK (.d (.b (goodB t p))) ee ss) := eqo22
theorem x23_28 {p : List Int} {n : Nat} {KK : AV → List AV → Sto → Prop} {QQ : Kt} {ii : At KK} {jj : At QQ} {ee : List AV} {ss : Sto} : xC Ct23 28 [.d (.sl 1 (p.map ic)), .d (.i (n : Int))] KK QQ ii jj ee ss = ((p.length ≤ 1000 ∧ n ≤ 1000) ∧ KK (.d (.sl 1 ((padL p n).map ic))) ee ss) := eq28
theorem x23_28_m1 {p : List Int} {n : Nat} {g1 el1 : Nat} {KK : AV → List AV → Sto → Prop} {QQ : Kt} {ii : At KK} {jj : At QQ} {ee : List AV} {ss : Sto} : xC Ct23 28 [.own g1 el1 1 (p.map ic), .d (.i (n : Int))] KK QQ ii jj ee ss = ((p.length ≤ 1000 ∧ n ≤ 1000) ∧ KK (.d (.sl 1 ((padL p n).map ic))) ee ss) := eqo28
theorem c23 : callable Tryd.prog 23 = true := by kernel_rfl
theorem pf23 (t : Tt) (bs : List Int) (h : ttOk t = true ∧ 0 < bs.length ∧ ∀ b ∈ bs, 0 ≤ b ∧ b ≤ 255) : PFn Tryd.prog 23 [.agg t.c, .sl 1 (bs.map bc)] (fun zz => zz = .ret (.sl 1 ((otN t bs t.hours.length).map ic))) := by
  obtain ⟨ht, hb0, hb⟩ := h
  have hbig := tt_hours ht
  have hz0 : (otN t bs 0).map ic = [] := rfl
  refine PFn_nil (PFn_start (O := O23) Ct23_ok hmix ho23 Tryd.func23 c23 rfl Tryd.ntmps23 Tryd.results23 ?_)
  simp (maxSteps := 4000000) +contextual (disch := first | omega | exact qdb_ok (by kernel_rfl) | exact okb_ok (by kernel_rfl)) only [bw1,bw2,bw3,bw4,bw5,bw6,bw7,bc0,bc1,bc2,bc3,bc4,bc5,bc6,bc7,bb0,setPs,AV.owns,AV.datF,AV.frz,AV.cpy,ifV,isEqB,nilV,nilX,AV.isNilS,AV.isNoRows,wk,dclo,datOf,binIs,addF,AV.isPtr,idxV,AV.isSl,AV.isSlice,AV.rows,ps,pv,extV,extS,AV.outs,AV.outF,packD,AV.dl,fieldV,fieldS,AV.cells?,AV.upr,AV.menc,AV.one,D.one,Value.oneCell',tagOf,AV.isApp,strV,strS,bolV,bolS,slcV,AV.isSlD,asrtS,AV.dcells,D.cells?,stcV,stcS,leafOk,eqDs,eqD,packA,D.val?,↓reduceIte,reduceCtorEq,Nat.reduceAdd,Nat.reduceSub,Nat.reduceMul,List.reduceReplicate,Nat.reduceLeDiff,Nat.reduceLT,Nat.reduceBEq,Nat.reduceEqDiff,Int.reduceNeg,Int.reduceEq,Int.reduceLE,Int.reduceLT,tfb,n_retn,n_retr,n_retp,qd_Rn,AV.outN,D.flat,D.flats,ctz23,O23_5,O23_7,x23_22,x23_22_m1,x23_28,x23_28_m1]
  refine loop_xu (O := O23) (tb := 0) Ct23_ok hmix (by kernel_rfl) (σ := Nat) (fun k => [(5, .own 9 3 1 ((otN t bs k).map ic)), (6, .i k), (7, .any), (8, .any)]) (fun _ => []) (fun k => k ≤ t.hours.length) (fun k => t.hours.length - k) 0 (Nat.zero_le _) ?_ ?_
  · simp (maxSteps := 4000000) +contextual (disch := first | omega | exact qdb_ok (by kernel_rfl) | exact okb_ok (by kernel_rfl)) only [bw1,bw2,bw3,bw4,bw5,bw6,bw7,bc0,bc1,bc2,bc3,bc4,bc5,bc6,bc7,bb0,setPs,AV.owns,AV.datF,AV.frz,AV.cpy,ifV,isEqB,nilV,nilX,AV.isNilS,AV.isNoRows,wk,dclo,datOf,binIs,addF,AV.isPtr,idxV,AV.isSl,AV.isSlice,AV.rows,ps,pv,extV,extS,AV.outs,AV.outF,packD,AV.dl,fieldV,fieldS,AV.cells?,AV.upr,AV.menc,AV.one,D.one,Value.oneCell',tagOf,AV.isApp,strV,strS,bolV,bolS,slcV,AV.isSlD,asrtS,AV.dcells,D.cells?,stcV,stcS,leafOk,eqDs,eqD,packA,D.val?,↓reduceIte,reduceCtorEq,Nat.reduceAdd,Nat.reduceSub,Nat.reduceMul,List.reduceReplicate,Nat.reduceLeDiff,Nat.reduceLT,Nat.reduceBEq,Nat.reduceEqDiff,Int.reduceNeg,Int.reduceEq,Int.reduceLE,Int.reduceLT,tfb,n_retn,n_retr,n_retp,qd_Rn,AV.outN,D.flat,D.flats,ctz23,O23_5,O23_7,x23_22,x23_22_m1,x23_28,x23_28_m1,eq_self, hz0]
    try rfl
  rintro k hk
  have hol := otN_len (t := t) (bs := bs) k
  by_cases hlt : k < t.hours.length
  · have hlt' : (k : Int) < t.hours.length := by omega
    have hk0 : (0 : Int) ≤ k := by omega
    have hbz : ¬ (bs.length : Int) = 0 := by omega
    have hmj : k % bs.length < bs.length := Nat.mod_lt _ hb0
    have hm1 : (((k : Nat) : Int) % (bs.length : Int)).toNat = k % bs.length := by omega
    have hm2 : 0 ≤ ((k : Nat) : Int) % (bs.length : Int) ∧ ((k : Nat) : Int) % (bs.length : Int) < bs.length := by omega
    have hrb : (bs.map bc).getD (k % bs.length) [] = bc (bs.getD (k % bs.length) default) := Go.E.row_at hmj
    have hbb := hb (bs.getD (k % bs.length) default) (by rw [at_lt hmj]; exact List.getElem_mem _)
    have hgz : ¬ (t.groups.length : Int) + 1 = 0 := by omega
    have hog : bs.getD (k % bs.length) default % ((t.groups.length : Int) + 1) = otG t bs k := rfl
    have hogb : 0 ≤ otG t bs k ∧ otG t bs k ≤ t.groups.length := by
      have h1 : 0 ≤ otG t bs k := Int.emod_nonneg _ (by omega)
      have h2 : otG t bs k < (t.groups.length : Int) + 1 := Int.emod_lt_of_pos _ (by omega)
      omega
    have hcl : (otN t bs k ++ [otG t bs k]).length = k + 1 := by simp [hol]
    have hpl : (padL (otN t bs k ++ [otG t bs k]) t.hours.length).length = t.hours.length := padL_len (by omega)
    have hap : (otN t bs k).map ic ++ [[D.v (Value.int .i64 (otG t bs k))]] = (otN t bs k ++ [otG t bs k]).map ic := by rw [List.map_append]; rfl
    have hset : ((otN t bs k ++ [otG t bs k]).map ic).set k [D.v (Value.int .i64 (-1))] = (otN t bs k ++ [-1]).map ic := by
      rw [show [D.v (Value.int .i64 (-1))] = ic (-1) from rfl, ← List.map_set]
      congr 1
      have h1 : k = (otN t bs k).length := hol.symm
      rw [List.set_append_right _ _ (by omega), hol, Nat.sub_self]; rfl
    have hs : otN t bs (k + 1) = if otG t bs k = t.groups.length ∨ ¬ goodB t (padL (otN t bs k ++ [otG t bs k]) t.hours.length) = true then otN t bs k ++ [-1] else otN t bs k ++ [otG t bs k] := rfl
    by_cases d1 : otG t bs k = t.groups.length
    · have d1b : (otG t bs k == (t.groups.length : Int)) = true := by simpa using d1
      rw [if_pos (.inl d1)] at hs
      simp (maxSteps := 4000000) +contextual (disch := first | omega | exact qdb_ok (by kernel_rfl) | exact okb_ok (by kernel_rfl)) only [bw1,bw2,bw3,bw4,bw5,bw6,bw7,bc0,bc1,bc2,bc3,bc4,bc5,bc6,bc7,bb0,setPs,AV.owns,AV.datF,AV.frz,AV.cpy,ifV,isEqB,nilV,nilX,AV.isNilS,AV.isNoRows,wk,dclo,datOf,binIs,addF,AV.isPtr,idxV,AV.isSl,AV.isSlice,AV.rows,ps,pv,extV,extS,AV.outs,AV.outF,packD,AV.dl,fieldV,fieldS,AV.cells?,AV.upr,AV.menc,AV.one,D.one,Value.oneCell',tagOf,AV.isApp,strV,strS,bolV,bolS,slcV,AV.isSlD,asrtS,AV.dcells,D.cells?,stcV,stcS,leafOk,eqDs,eqD,packA,D.val?,↓reduceIte,reduceCtorEq,Nat.reduceAdd,Nat.reduceSub,Nat.reduceMul,List.reduceReplicate,Nat.reduceLeDiff,Nat.reduceLT,Nat.reduceBEq,Nat.reduceEqDiff,Int.reduceNeg,Int.reduceEq,Int.reduceLE,Int.reduceLT,tfb,n_retn,n_retr,n_retp,qd_Rn,AV.outN,D.flat,D.flats,ctz23,O23_5,O23_7,x23_22,x23_22_m1,x23_28,x23_28_m1,eq_self, hlt', hk0, hbz, hm1, hm2, hrb, hgz, hog, hap, hcl, d1b, hset, hol]
      repeat (refine And.intro (by omega) ?_)
      exact ⟨k + 1, ⟨by omega, by omega⟩, by rw [hs], rfl⟩
    have d1b : (otG t bs k == (t.groups.length : Int)) = false := by simpa using d1
    by_cases d2 : goodB t (padL (otN t bs k ++ [otG t bs k]) t.hours.length) = true
    · rw [if_neg (fun h => h.elim d1 (fun h => h d2))] at hs
      simp (maxSteps := 4000000) +contextual (disch := first | omega | exact qdb_ok (by kernel_rfl) | exact okb_ok (by kernel_rfl)) only [bw1,bw2,bw3,bw4,bw5,bw6,bw7,bc0,bc1,bc2,bc3,bc4,bc5,bc6,bc7,bb0,setPs,AV.owns,AV.datF,AV.frz,AV.cpy,ifV,isEqB,nilV,nilX,AV.isNilS,AV.isNoRows,wk,dclo,datOf,binIs,addF,AV.isPtr,idxV,AV.isSl,AV.isSlice,AV.rows,ps,pv,extV,extS,AV.outs,AV.outF,packD,AV.dl,fieldV,fieldS,AV.cells?,AV.upr,AV.menc,AV.one,D.one,Value.oneCell',tagOf,AV.isApp,strV,strS,bolV,bolS,slcV,AV.isSlD,asrtS,AV.dcells,D.cells?,stcV,stcS,leafOk,eqDs,eqD,packA,D.val?,↓reduceIte,reduceCtorEq,Nat.reduceAdd,Nat.reduceSub,Nat.reduceMul,List.reduceReplicate,Nat.reduceLeDiff,Nat.reduceLT,Nat.reduceBEq,Nat.reduceEqDiff,Int.reduceNeg,Int.reduceEq,Int.reduceLE,Int.reduceLT,tfb,n_retn,n_retr,n_retp,qd_Rn,AV.outN,D.flat,D.flats,ctz23,O23_5,O23_7,x23_22,x23_22_m1,x23_28,x23_28_m1,eq_self, hlt', hk0, hbz, hm1, hm2, hrb, hgz, hog, hap, hcl, d1b, hset, hol, ht, hpl, d2]
      repeat (refine And.intro (by omega) ?_)
      exact ⟨k + 1, ⟨by omega, by omega⟩, by rw [hs], rfl⟩
    · rw [if_pos (.inr d2)] at hs
      simp (maxSteps := 4000000) +contextual (disch := first | omega | exact qdb_ok (by kernel_rfl) | exact okb_ok (by kernel_rfl)) only [bw1,bw2,bw3,bw4,bw5,bw6,bw7,bc0,bc1,bc2,bc3,bc4,bc5,bc6,bc7,bb0,setPs,AV.owns,AV.datF,AV.frz,AV.cpy,ifV,isEqB,nilV,nilX,AV.isNilS,AV.isNoRows,wk,dclo,datOf,binIs,addF,AV.isPtr,idxV,AV.isSl,AV.isSlice,AV.rows,ps,pv,extV,extS,AV.outs,AV.outF,packD,AV.dl,fieldV,fieldS,AV.cells?,AV.upr,AV.menc,AV.one,D.one,Value.oneCell',tagOf,AV.isApp,strV,strS,bolV,bolS,slcV,AV.isSlD,asrtS,AV.dcells,D.cells?,stcV,stcS,leafOk,eqDs,eqD,packA,D.val?,↓reduceIte,reduceCtorEq,Nat.reduceAdd,Nat.reduceSub,Nat.reduceMul,List.reduceReplicate,Nat.reduceLeDiff,Nat.reduceLT,Nat.reduceBEq,Nat.reduceEqDiff,Int.reduceNeg,Int.reduceEq,Int.reduceLE,Int.reduceLT,tfb,n_retn,n_retr,n_retp,qd_Rn,AV.outN,D.flat,D.flats,ctz23,O23_5,O23_7,x23_22,x23_22_m1,x23_28,x23_28_m1,eq_self, hlt', hk0, hbz, hm1, hm2, hrb, hgz, hog, hap, hcl, d1b, hset, hol, ht, hpl, d2]
      repeat (refine And.intro (by omega) ?_)
      exact ⟨k + 1, ⟨by omega, by omega⟩, by rw [hs], rfl⟩
  obtain rfl : k = t.hours.length := by omega
  have hfl := ics_flat (otN t bs t.hours.length)
  simp (maxSteps := 4000000) +contextual (disch := first | omega | exact qdb_ok (by kernel_rfl) | exact okb_ok (by kernel_rfl)) only [bw1,bw2,bw3,bw4,bw5,bw6,bw7,bc0,bc1,bc2,bc3,bc4,bc5,bc6,bc7,bb0,setPs,AV.owns,AV.datF,AV.frz,AV.cpy,ifV,isEqB,nilV,nilX,AV.isNilS,AV.isNoRows,wk,dclo,datOf,binIs,addF,AV.isPtr,idxV,AV.isSl,AV.isSlice,AV.rows,ps,pv,extV,extS,AV.outs,AV.outF,packD,AV.dl,fieldV,fieldS,AV.cells?,AV.upr,AV.menc,AV.one,D.one,Value.oneCell',tagOf,AV.isApp,strV,strS,bolV,bolS,slcV,AV.isSlD,asrtS,AV.dcells,D.cells?,stcV,stcS,leafOk,eqDs,eqD,packA,D.val?,↓reduceIte,reduceCtorEq,Nat.reduceAdd,Nat.reduceSub,Nat.reduceMul,List.reduceReplicate,Nat.reduceLeDiff,Nat.reduceLT,Nat.reduceBEq,Nat.reduceEqDiff,Int.reduceNeg,Int.reduceEq,Int.reduceLE,Int.reduceLT,tfb,n_retn,n_retr,n_retp,qd_Rn,AV.outN,D.flat,D.flats,ctz23,O23_5,O23_7,x23_22,x23_22_m1,x23_28,x23_28_m1,eq_self, Int.lt_irrefl, hol, hfl]
def ent23 (args : List AV) (K : AV → List AV → Sto → Prop) (e : List AV) (s : Sto) : Prop := entn (α := (Tt) × (List Int)) (fun aa => [.agg aa.1.c, .sl 1 (aa.2.map bc)]) (fun aa => ttOk aa.1 = true ∧ 0 < aa.2.length ∧ ∀ b ∈ aa.2, 0 ≤ b ∧ b ≤ 255) (fun aa => .sl 1 ((otN aa.1 aa.2 aa.1.hours.length).map ic)) args K e s
theorem ent23_ok {args : List AV} {K : AV → List AV → Sto → Prop} {Q : Kt} {e : List AV} {s : Sto} (h : ent23 args K e s) : pcall Tryd.prog 23 args K Q e s := entn_ok (fun aa h => pf23 aa.1 aa.2 h) h
theorem eq23 {t : Tt} {bs : List Int} {KK : AV → List AV → Sto → Prop} {ee : List AV} {ss : Sto} : ent23 [.d (.agg t.c), .d (.sl 1 (bs.map bc))] KK ee ss = ((ttOk t = true ∧ 0 < bs.length ∧ ∀ b ∈ bs, 0 ≤ b ∧ b ≤ 255) ∧ KK (.d (.sl 1 ((otN t bs t.hours.length).map ic))) ee ss) := by
  unfold ent23; rw [entn_iff (t, bs) (by intro b h; simpa [Prod.ext_iff, and_assoc, Int.ofNat_inj, ints_inj, hrs_inj, grs_inj, hr_inj, gr_inj, tt_inj, bcs_inj] using h) rfl] <;> simp
theorem eqo23 {t : Tt} {bs : List Int} {g1 el1 : Nat} {KK : AV → List AV → Sto → Prop} {ee : List AV} {ss : Sto} : ent23 [.d (.agg t.c), .own g1 el1 1 (bs.map bc)] KK ee ss = ((ttOk t = true ∧ 0 < bs.length ∧ ∀ b ∈ bs, 0 ≤ b ∧ b ≤ 255) ∧ KK (.d (.sl 1 ((otN t bs t.hours.length).map ic))) ee ss) := by
  unfold ent23; rw [entn_iff (t, bs) (by intro b h; simpa [Prod.ext_iff, and_assoc, Int.ofNat_inj, ints_inj, hrs_inj, grs_inj, hr_inj, gr_inj, tt_inj, bcs_inj] using h) rfl] <;> simp
end Go.Proofs.YtofbbkacihnjdaaDoor
