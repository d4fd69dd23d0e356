/- A part of the proof that the last text ends: what functions of the program do, told by plain data. -/
import Derived.Test.YtohkngiflfkjjaaLD
import Derived.Test.YtohkngiflfkjjaaQJ0
set_option linter.unusedVariables false
set_option linter.unusedSimpArgs false
namespace Go.Proofs.Ytohkngiflfkjjaa
open Go Go.E
set_option maxRecDepth 100000
set_option maxHeartbeats 16000000
/-! ### What the document fixes of both -/
theorem eqa13_0 {l : Lea} {g1 el1 g2 el2 : Nat} {KK : AV → List AV → Sto → Prop} {ee : List AV} {ss : Sto} : ent13 [.agg [.own g1 el1 1 (l.far.map pc), .own g2 el2 6 (l.games.map Gam.c)]] KK ee ss = ((l.far.length ≤ 1000) ∧ (.tup [.i (lgR l).1, .i (lgR l).2] : D).flat = true ∧ KK (.d (.tup [.i (lgR l).1, .i (lgR l).2])) ee ss) := by
  unfold ent13; rw [ent_iff l (by intro b h; simpa [Prod.ext_iff, and_assoc, Int.ofNat_inj, ints_inj, evs_inj, mems_inj, ev_inj, mem_inj, st_inj, Int.ofNat_inj, ints_inj, evs_inj, mems_inj, ev_inj, mem_inj, st_inj, gams_inj, fars_inj, gam_inj, lea_inj, Int.ofNat_inj, ints_inj, evs_inj, mems_inj, ev_inj, mem_inj, st_inj, gams_inj, fars_inj, gam_inj, lea_inj] using h) rfl]; simp
def lfar : List (List Int) := [[0, 10], [10, 0]]
def lgam : List Gam := [⟨1, 0, 1, 1, 3, 1⟩]
theorem lsmp_run : lgR ⟨lfar, lgam⟩ = (1, 0) := by kernel_rfl
theorem lfar_len : lfar.length ≤ 1000 := by decide
def rsmp : List Ev := [⟨1, 0, 7, 1, []⟩, ⟨1, 1, 7, 1, []⟩, ⟨2, 6, 0, 1, []⟩]
def rmem : List Mem := [⟨7, 1, 0, 0, 0⟩]
theorem rsmp_ok : ShsOk rsmp := by refine ⟨by decide, ?_⟩; decide
theorem rsmp_run : playR rsmp = (rmem, 3, 0) := by kernel_rfl
theorem rmem_len : rmem.length = 1 := id rfl
theorem far_fold : ([[.sl 1 [[.v (.int .i64 0)], [.v (.int .i64 10)]]], [.sl 1 [[.v (.int .i64 10)], [.v (.int .i64 0)]]]] : List (List D)) = lfar.map pc := id rfl
theorem gam_fold : ([[.v (.int .i64 1), .v (.int .i64 0), .v (.int .i64 1), .v (.int .i64 1), .v (.int .i64 3), .v (.int .i64 1)]] : List (List D)) = lgam.map Gam.c := id rfl
theorem rsmp_deep : NilRs [evN 1 0 7 1, evN 1 1 7 1, evN 2 6 0 1] (rsmp.map Ev.c) := .cons evN_deep (.cons evN_deep (.cons evN_deep (.refl _)))
def O11 : Nat → Sch := fun id => .done
theorem ho11 : Try.f11.body.map (okO O11) = some true := by kernel_rfl
def Cf11 : Nat → List AV → (AV → List AV → Sto → Prop) → Kt → List AV → Sto → Prop := fun f args K Q e s => match f with
  | 12 => sp12 args K e s
  | 13 => ent13 args K e s
  | _ => False
def Ct11 : CT := { f := Cf11, y := noYld, z := fun d => d == 10 }
theorem ctz11 {d : Nat} : CT.z Ct11 d = (d == 10) := id rfl
theorem Ct11_ok : Ct11.ok Try.prog := ok_of_f (fun f args K Q e s h => by
  have h : Cf11 f args K Q e s := h
  unfold Cf11 at h; split at h
  · exact sp12_ok h
  · exact ent13_ok h
  · exact h.elim) (fun _ _ _ _ _ _ _ _ _ h => h)
theorem x11_13 {l : Lea} {KK : AV → List AV → Sto → Prop} {QQ : Kt} {ii : At KK} {jj : At QQ} {ee : List AV} {ss : Sto} : xC Ct11 13 [.d (.agg l.c)] KK QQ ii jj ee ss = ((l.far.length ≤ 1000) ∧ KK (.d (.tup [.i (lgR l).1, .i (lgR l).2])) ee ss) := eq13
theorem x11_13a0 {l : Lea} {g1 el1 g2 el2 : Nat} {KK : AV → List AV → Sto → Prop} {QQ : Kt} {ii : At KK} {jj : At QQ} {ee : List AV} {ss : Sto} : xC Ct11 13 [.agg [.own g1 el1 1 (l.far.map pc), .own g2 el2 6 (l.games.map Gam.c)]] KK QQ ii jj ee ss = ((l.far.length ≤ 1000) ∧ (.tup [.i (lgR l).1, .i (lgR l).2] : D).flat = true ∧ KK (.d (.tup [.i (lgR l).1, .i (lgR l).2])) ee ss) := eqa13_0
theorem c11 : callable Try.prog 11 = true := by kernel_rfl
theorem pf11  : PF Try.prog 11 [] (fun zz => zz = .ret (.b true)) := by
  have hx12 : ∀ {args : List AV} {KK : AV → List AV → Sto → Prop} {QQ : Kt} {ii : At KK} {jj : At QQ} {ee : List AV} {ss : Sto}, xC Ct11 12 args KK QQ ii jj ee ss = sp12 args KK ee ss := id rfl
  have hx13 := @x11_13a0 ⟨lfar, lgam⟩
  dsimp only at hx13
  refine PF_nil (PF_start (O := O11) Ct11_ok hmix ho11 Try.func11 c11 rfl Try.ntmps11 Try.results11 ?_)
  simp (maxSteps := 4000000) +contextual (disch := first | omega | exact qdb_ok (by kernel_rfl) | exact okb_ok (by kernel_rfl)) only [bw1,bw2,bw3,bw4,bw5,bw6,bw7,bc0,bc1,bc2,bc3,bc4,bc5,bc6,bc7,bb0,setPs,AV.owns,AV.datF,AV.frz,AV.cpy,ifV,isEqB,nilV,nilX,AV.isNilS,AV.isNoRows,wk,dclo,datOf,binIs,addF,AV.isPtr,idxV,AV.isSl,AV.isSlice,AV.rows,ps,pv,extV,extS,AV.outs,AV.outF,packD,AV.dl,fieldV,fieldS,AV.cells?,AV.upr,AV.menc,AV.one,D.one,Value.oneCell',tagOf,AV.isApp,strV,strS,bolV,bolS,slcV,AV.isSlD,asrtS,AV.dcells,D.cells?,stcV,stcS,leafOk,eqDs,eqD,packA,D.val?,↓reduceIte,reduceCtorEq,Nat.reduceAdd,Nat.reduceSub,Nat.reduceMul,List.reduceReplicate,Nat.reduceLeDiff,Nat.reduceLT,Nat.reduceBEq,Nat.reduceEqDiff,Int.reduceNeg,Int.reduceEq,Int.reduceLE,Int.reduceLT,tfb,ctz11,x11_13,x11_13a0,eq_self, far_fold, gam_fold, lsmp_run, lfar_len, hx12, hx13, D.flat, D.flats, Bool.and_self]
  refine ⟨(_, rsmp), rfl, ⟨rsmp_deep, rsmp_ok⟩, ?_⟩
  have hrow : (rmem.map Mem.c).getD (Int.toNat 0) [] = [.v (.int .i64 7), .v (.int .i64 1), .v (.int .i64 0), .v (.int .i64 0), .v (.int .i64 0)] := rfl
  simp (maxSteps := 4000000) +contextual (disch := first | omega | exact qdb_ok (by kernel_rfl) | exact okb_ok (by kernel_rfl)) only [bw1,bw2,bw3,bw4,bw5,bw6,bw7,bc0,bc1,bc2,bc3,bc4,bc5,bc6,bc7,bb0,setPs,AV.owns,AV.datF,AV.frz,AV.cpy,ifV,isEqB,nilV,nilX,AV.isNilS,AV.isNoRows,wk,dclo,datOf,binIs,addF,AV.isPtr,idxV,AV.isSl,AV.isSlice,AV.rows,ps,pv,extV,extS,AV.outs,AV.outF,packD,AV.dl,fieldV,fieldS,AV.cells?,AV.upr,AV.menc,AV.one,D.one,Value.oneCell',tagOf,AV.isApp,strV,strS,bolV,bolS,slcV,AV.isSlD,asrtS,AV.dcells,D.cells?,stcV,stcS,leafOk,eqDs,eqD,packA,D.val?,↓reduceIte,reduceCtorEq,Nat.reduceAdd,Nat.reduceSub,Nat.reduceMul,List.reduceReplicate,Nat.reduceLeDiff,Nat.reduceLT,Nat.reduceBEq,Nat.reduceEqDiff,Int.reduceNeg,Int.reduceEq,Int.reduceLE,Int.reduceLT,tfb,ctz11,x11_13,x11_13a0,eq_self, rsmp_run, rmem_len, Int.reduceBEq, beq_self_eq_true, hrow, Int.reduceAdd]
def ent11 (args : List AV) (K : AV → List AV → Sto → Prop) (e : List AV) (s : Sto) : Prop := ent (α := Unit) (fun aa => []) (fun aa => True) (fun aa => .b true) args K e s
theorem ent11_ok {args : List AV} {K : AV → List AV → Sto → Prop} {Q : Kt} {e : List AV} {s : Sto} (h : ent11 args K e s) : pcall Try.prog 11 args K Q e s := ent_ok (fun aa h => pf11 ) h
theorem eq11  {KK : AV → List AV → Sto → Prop} {ee : List AV} {ss : Sto} : ent11 [] KK ee ss = (KK (.d (.b true)) ee ss) := by
  unfold ent11; rw [ent_iff () (by intro b h; cases b; rfl) rfl]; simp
def O16 : Nat → Sch := fun id => if id = 1 then .one 1 (.alt (.one 0 (.alt (.one 2 (.one 3 (.one 4 (.one 5 (.one 6 (.one 7 (.one 8 (.one 9 (.one 10 (.one 11 (.one 12 (.one 13 (.done))))))))))))) (.one 3 (.alt (.one 2 (.one 4 (.one 5 (.one 6 (.one 7 (.one 8 (.one 9 (.one 10 (.one 11 (.one 12 (.one 13 (.done)))))))))))) (.one 4 (.one 2 (.one 5 (.one 6 (.one 7 (.one 8 (.one 9 (.one 10 (.one 11 (.one 12 (.one 13 (.done)))))))))))))))) (.one 3 (.alt (.one 0 (.alt (.one 2 (.one 4 (.one 5 (.one 6 (.one 7 (.one 8 (.one 9 (.one 10 (.one 11 (.one 12 (.one 13 (.done)))))))))))) (.one 4 (.one 2 (.one 5 (.one 6 (.one 7 (.one 8 (.one 9 (.one 10 (.one 11 (.one 12 (.one 13 (.done)))))))))))))) (.one 4 (.one 0 (.one 2 (.one 5 (.one 6 (.one 7 (.one 8 (.one 9 (.one 10 (.one 11 (.one 12 (.one 13 (.done)))))))))))))))) else .done
theorem O16_1 : O16 1 = .one 1 (.alt (.one 0 (.alt (.one 2 (.one 3 (.one 4 (.one 5 (.one 6 (.one 7 (.one 8 (.one 9 (.one 10 (.one 11 (.one 12 (.one 13 (.done))))))))))))) (.one 3 (.alt (.one 2 (.one 4 (.one 5 (.one 6 (.one 7 (.one 8 (.one 9 (.one 10 (.one 11 (.one 12 (.one 13 (.done)))))))))))) (.one 4 (.one 2 (.one 5 (.one 6 (.one 7 (.one 8 (.one 9 (.one 10 (.one 11 (.one 12 (.one 13 (.done)))))))))))))))) (.one 3 (.alt (.one 0 (.alt (.one 2 (.one 4 (.one 5 (.one 6 (.one 7 (.one 8 (.one 9 (.one 10 (.one 11 (.one 12 (.one 13 (.done)))))))))))) (.one 4 (.one 2 (.one 5 (.one 6 (.one 7 (.one 8 (.one 9 (.one 10 (.one 11 (.one 12 (.one 13 (.done)))))))))))))) (.one 4 (.one 0 (.one 2 (.one 5 (.one 6 (.one 7 (.one 8 (.one 9 (.one 10 (.one 11 (.one 12 (.one 13 (.done)))))))))))))))) := rfl
theorem ho16 : Try.f16.body.map (okO O16) = some true := by kernel_rfl
def Cf16 : Nat → List AV → (AV → List AV → Sto → Prop) → Kt → List AV → Sto → Prop := fun f args K Q e s => match f with
  | 12 => sp12 args K e s
  | _ => False
def Ct16 : CT := { f := Cf16, y := noYld, z := fun d => false }
theorem ctz16 {d : Nat} : CT.z Ct16 d = (false) := id rfl
theorem Ct16_ok : Ct16.ok Try.prog := ok_of_f (fun f args K Q e s h => by
  have h : Cf16 f args K Q e s := h
  unfold Cf16 at h; split at h
  · exact sp12_ok h
  · exact h.elim) (fun _ _ _ _ _ _ _ _ _ h => h)
theorem c16 : callable Try.prog 16 = true := by kernel_rfl
theorem pf16 (l : List Ev) (x : Ev) (h : ShsOk l ∧ l.length ≤ 1000 ∧ x.sheet.length ≤ 100) : PF Try.prog 16 [.sl 5 (l.map Ev.c), .agg x.c] (fun zz => zz = .ret (.b (decide ((runR (l ++ [x])).2.2 = 0)))) := by
  obtain ⟨hl, hln, hx⟩ := h
  have hx12 : ∀ {args : List AV} {KK : AV → List AV → Sto → Prop} {QQ : Kt} {ii : At KK} {jj : At QQ} {ee : List AV} {ss : Sto}, xC Ct16 12 args KK QQ ii jj ee ss = sp12 args KK ee ss := id rfl
  have hp3 : (playR (l ++ [x])).2.2 = (runR (l ++ [x])).2.2 := by
    unfold playR
    split
    · rename_i h; rw [h]
    · rfl
  refine PF_nil (PF_start (O := O16) Ct16_ok hmix ho16 Try.func16 c16 rfl Try.ntmps16 Try.results16 ?_)
  have hb : ((runR (l ++ [x])).2.2 == 0) = decide ((runR (l ++ [x])).2.2 = 0) := rfl
  simp (maxSteps := 4000000) +contextual (disch := first | omega | exact qdb_ok (by kernel_rfl) | exact okb_ok (by kernel_rfl)) only [bw1,bw2,bw3,bw4,bw5,bw6,bw7,bc0,bc1,bc2,bc3,bc4,bc5,bc6,bc7,bb0,setPs,AV.owns,AV.datF,AV.frz,AV.cpy,ifV,isEqB,nilV,nilX,AV.isNilS,AV.isNoRows,wk,dclo,datOf,binIs,addF,AV.isPtr,idxV,AV.isSl,AV.isSlice,AV.rows,ps,pv,extV,extS,AV.outs,AV.outF,packD,AV.dl,fieldV,fieldS,AV.cells?,AV.upr,AV.menc,AV.one,D.one,Value.oneCell',tagOf,AV.isApp,strV,strS,bolV,bolS,slcV,AV.isSlD,asrtS,AV.dcells,D.cells?,stcV,stcS,leafOk,eqDs,eqD,packA,D.val?,↓reduceIte,reduceCtorEq,Nat.reduceAdd,Nat.reduceSub,Nat.reduceMul,List.reduceReplicate,Nat.reduceLeDiff,Nat.reduceLT,Nat.reduceBEq,Nat.reduceEqDiff,Int.reduceNeg,Int.reduceEq,Int.reduceLE,Int.reduceLT,tfb,ctz16,O16_1,hx12]
  refine ⟨by omega, by omega, by omega, by omega, ?_⟩
  refine ⟨(_, l ++ ([x] : List Ev)), rfl, ⟨by rw [List.map_append]; exact .refl _, shs_app hl (by simp) (by intro y hy; simp at hy; rw [hy]; exact hx)⟩, ?_⟩
  simp (maxSteps := 4000000) +contextual (disch := first | omega | exact qdb_ok (by kernel_rfl) | exact okb_ok (by kernel_rfl)) only [bw1,bw2,bw3,bw4,bw5,bw6,bw7,bc0,bc1,bc2,bc3,bc4,bc5,bc6,bc7,bb0,setPs,AV.owns,AV.datF,AV.frz,AV.cpy,ifV,isEqB,nilV,nilX,AV.isNilS,AV.isNoRows,wk,dclo,datOf,binIs,addF,AV.isPtr,idxV,AV.isSl,AV.isSlice,AV.rows,ps,pv,extV,extS,AV.outs,AV.outF,packD,AV.dl,fieldV,fieldS,AV.cells?,AV.upr,AV.menc,AV.one,D.one,Value.oneCell',tagOf,AV.isApp,strV,strS,bolV,bolS,slcV,AV.isSlD,asrtS,AV.dcells,D.cells?,stcV,stcS,leafOk,eqDs,eqD,packA,D.val?,↓reduceIte,reduceCtorEq,Nat.reduceAdd,Nat.reduceSub,Nat.reduceMul,List.reduceReplicate,Nat.reduceLeDiff,Nat.reduceLT,Nat.reduceBEq,Nat.reduceEqDiff,Int.reduceNeg,Int.reduceEq,Int.reduceLE,Int.reduceLT,tfb,ctz16,O16_1,hp3, hb, eq_self]
def ent16 (args : List AV) (K : AV → List AV → Sto → Prop) (e : List AV) (s : Sto) : Prop := ent (α := (List Ev) × (Ev)) (fun aa => [.sl 5 (aa.1.map Ev.c), .agg aa.2.c]) (fun aa => ShsOk aa.1 ∧ aa.1.length ≤ 1000 ∧ aa.2.sheet.length ≤ 100) (fun aa => .b (decide ((runR (aa.1 ++ [aa.2])).2.2 = 0))) args K e s
theorem ent16_ok {args : List AV} {K : AV → List AV → Sto → Prop} {Q : Kt} {e : List AV} {s : Sto} (h : ent16 args K e s) : pcall Try.prog 16 args K Q e s := ent_ok (fun aa h => pf16 aa.1 aa.2 h) h
theorem eq16 {l : List Ev} {x : Ev} {KK : AV → List AV → Sto → Prop} {ee : List AV} {ss : Sto} : ent16 [.d (.sl 5 (l.map Ev.c)), .d (.agg x.c)] KK ee ss = ((ShsOk l ∧ l.length ≤ 1000 ∧ x.sheet.length ≤ 100) ∧ KK (.d (.b (decide ((runR (l ++ [x])).2.2 = 0)))) ee ss) := by
  unfold ent16; rw [ent_iff (l, x) (by intro b h; simpa [Prod.ext_iff, and_assoc, Int.ofNat_inj, ints_inj, evs_inj, mems_inj, ev_inj, mem_inj, st_inj, Int.ofNat_inj, ints_inj, evs_inj, mems_inj, ev_inj, mem_inj, st_inj, gams_inj, fars_inj, gam_inj, lea_inj, Int.ofNat_inj, ints_inj, evs_inj, mems_inj, ev_inj, mem_inj, st_inj, gams_inj, fars_inj, gam_inj, lea_inj] using h) rfl]; simp
theorem eqo16 {l : List Ev} {x : Ev} {g1 el1 : Nat} {KK : AV → List AV → Sto → Prop} {ee : List AV} {ss : Sto} : ent16 [.own g1 el1 5 (l.map Ev.c), .d (.agg x.c)] KK ee ss = ((ShsOk l ∧ l.length ≤ 1000 ∧ x.sheet.length ≤ 100) ∧ (.b (decide ((runR (l ++ [x])).2.2 = 0)) : D).flat = true ∧ KK (.d (.b (decide ((runR (l ++ [x])).2.2 = 0)))) ee ss) := by
  unfold ent16; rw [ent_iff (l, x) (by intro b h; simpa [Prod.ext_iff, and_assoc, Int.ofNat_inj, ints_inj, evs_inj, mems_inj, ev_inj, mem_inj, st_inj, Int.ofNat_inj, ints_inj, evs_inj, mems_inj, ev_inj, mem_inj, st_inj, gams_inj, fars_inj, gam_inj, lea_inj, Int.ofNat_inj, ints_inj, evs_inj, mems_inj, ev_inj, mem_inj, st_inj, gams_inj, fars_inj, gam_inj, lea_inj] using h) rfl]; simp
end Go.Proofs.Ytohkngiflfkjjaa
