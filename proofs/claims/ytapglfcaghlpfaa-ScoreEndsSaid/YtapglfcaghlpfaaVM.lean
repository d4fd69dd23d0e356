/- A part of the proof that the last text ends: what functions of the program do, told by plain data. -/
import Derived.Test.YtapglfcaghlpfaaVJ
import Derived.Test.YtapglfcaghlpfaaVL
set_option linter.unusedVariables false
set_option linter.unusedSimpArgs false
namespace Go.Proofs.Ytapglfcaghlpfaa
open Go Go.E Go.Maps
set_option maxRecDepth 100000
set_option maxHeartbeats 16000000
/-! ### ScoreEnds -/
theorem giv_valid {r : Rul} {s : Ska} {n : Int} (hv : Valid r s n) {j : Nat} {g q : Int} (hg : -5 ≤ g ∧ g ≤ 5) (hq : 0 ≤ q ∧ q ≤ 40) : Valid r (givR s j g q) n := by
  refine ⟨hv.bases, hv.base, hv.factor, hv.most, hv.jn, by unfold givR; simp only [List.length_map]; exact hv.calls, by unfold givR; simp only [List.length_map]; exact hv.parts, hv.over, fun x hx => ?_, fun p hp => ?_⟩
  · unfold givR at hx
    obtain ⟨c, hc, rfl⟩ := List.mem_map.1 hx
    obtain ⟨d1, d2, d3, d4, d5⟩ := hv.call c hc
    refine ⟨d1, d2, d3, by unfold setC; simp only [List.length_set]; exact d4, fun y hy => ?_⟩
    unfold setC at hy
    rcases List.mem_or_eq_of_mem_set hy with hy | rfl
    · exact d5 y hy
    · exact hg
  · unfold givR at hp
    obtain ⟨c, hc, rfl⟩ := List.mem_map.1 hp
    obtain ⟨d1, d2⟩ := hv.part c hc
    refine ⟨by unfold setP; rw [List.length_set]; exact d1, fun y hy => ?_⟩
    unfold setP at hy
    rcases List.mem_or_eq_of_mem_set hy with hy | rfl
    · exact d2 y hy
    · exact hq
theorem giv_ok {r : Rul} {l : List Ska} (h : conOk r l = true) {s : Ska} (hs : s ∈ l) {j : Nat} {g q : Int} (hg : -5 ≤ g ∧ g ≤ 5) (hq : 0 ≤ q ∧ q ≤ 40) : conOk r (one (givR s j g q)) = true := by
  refine conOk_mk (con_ok h) (giv_valid (con_valid h hs) hg hq) ?_
  have e : (givR s j g q).calls.map Cal.place = s.calls.map Cal.place := by
    unfold givR; simp only [List.map_map]; rfl
  rw [e]; exact con_dup h hs
theorem giv_prog {r : Rul} {l : List Ska} (h : conOk r l = true) {s : Ska} (hs : s ∈ l) {j : Nat} {g q : Int} (hg : -5 ≤ g ∧ g ≤ 5) (hq : 0 ≤ q ∧ q ≤ 40) : progG r (givR s j g q) = (progR r (givR s j g q), 0) := by
  unfold progG; rw [if_pos (giv_ok h hs hg hq)]
theorem giv_i64 {r : Rul} {l : List Ska} (h : conOk r l = true) {s : Ska} (hs : s ∈ l) {j : Nat} {g q : Int} (hg : -5 ≤ g ∧ g ≤ 5) (hq : 0 ≤ q ∧ q ≤ 40) : ∀ x ∈ (givR s j g q).calls, i64 x.place := fun x hx => by
  have := (giv_valid (con_valid h hs) (j := j) hg hq).call x hx
  unfold i64; omega
def enE (r : Rul) (j w : Nat) (best : Bool) (i : Nat) (s : Ska) : Sco := if best = decide ((i : Int) = (w : Int)) then endS r j 5 40 s else endS r j (-5) 0 s
def allE (r : Rul) (l : List Ska) (j w : Nat) (best : Bool) (k : Nat) : List Sco := (List.range k).map fun i => enE r j w best i (l.getD i default)
theorem allE_succ {r : Rul} {l : List Ska} {j w : Nat} {best : Bool} {k : Nat} : allE r l j w best (k + 1) = allE r l j w best k ++ [enE r j w best k (l.getD k default)] := by
  unfold allE; rw [List.range_succ, List.map_append]; rfl
theorem allE_len {r : Rul} {l : List Ska} {j w : Nat} {best : Bool} {k : Nat} : (allE r l j w best k).length = k := by unfold allE; rw [List.length_map, List.length_range]
def plR (r : Rul) (l : List Ska) (j w : Nat) (best : Bool) : Int := (rkR (allE r l j w best l.length) l.length).getD w default
def O27 : Nat → Sch := fun id => if id = 8 then .one 3 (.one 4 (.alt (.one 0 (.alt (.one 1 (.alt (.one 2 (.alt (.one 5 (.alt (.one 6 (.one 7 (.one 8 (.one 9 (.one 10 (.one 11 (.one 12 (.done)))))))) (.one 10 (.one 6 (.one 7 (.one 8 (.one 9 (.one 11 (.one 12 (.done)))))))))) (.one 10 (.one 5 (.one 6 (.one 7 (.one 8 (.one 9 (.one 11 (.one 12 (.done))))))))))) (.one 10 (.one 2 (.one 5 (.one 6 (.one 7 (.one 8 (.one 9 (.one 11 (.one 12 (.done)))))))))))) (.alt (.one 2 (.alt (.one 1 (.alt (.one 5 (.alt (.one 6 (.one 7 (.one 8 (.one 9 (.one 10 (.one 11 (.one 12 (.done)))))))) (.one 10 (.one 6 (.one 7 (.one 8 (.one 9 (.one 11 (.one 12 (.done)))))))))) (.one 10 (.one 5 (.one 6 (.one 7 (.one 8 (.one 9 (.one 11 (.one 12 (.done))))))))))) (.one 10 (.one 1 (.one 5 (.one 6 (.one 7 (.one 8 (.one 9 (.one 11 (.one 12 (.done)))))))))))) (.one 10 (.one 1 (.one 2 (.one 5 (.one 6 (.one 7 (.one 8 (.one 9 (.one 11 (.one 12 (.done)))))))))))))) (.alt (.one 1 (.alt (.one 0 (.alt (.one 2 (.alt (.one 5 (.alt (.one 6 (.one 7 (.one 8 (.one 9 (.one 10 (.one 11 (.one 12 (.done)))))))) (.one 10 (.one 6 (.one 7 (.one 8 (.one 9 (.one 11 (.one 12 (.done)))))))))) (.one 10 (.one 5 (.one 6 (.one 7 (.one 8 (.one 9 (.one 11 (.one 12 (.done))))))))))) (.one 10 (.one 2 (.one 5 (.one 6 (.one 7 (.one 8 (.one 9 (.one 11 (.one 12 (.done)))))))))))) (.alt (.one 2 (.alt (.one 0 (.alt (.one 5 (.alt (.one 6 (.one 7 (.one 8 (.one 9 (.one 10 (.one 11 (.one 12 (.done)))))))) (.one 10 (.one 6 (.one 7 (.one 8 (.one 9 (.one 11 (.one 12 (.done)))))))))) (.one 10 (.one 5 (.one 6 (.one 7 (.one 8 (.one 9 (.one 11 (.one 12 (.done))))))))))) (.alt (.one 5 (.alt (.one 0 (.alt (.one 6 (.one 7 (.one 8 (.one 9 (.one 10 (.one 11 (.one 12 (.done)))))))) (.one 10 (.one 6 (.one 7 (.one 8 (.one 9 (.one 11 (.one 12 (.done)))))))))) (.one 10 (.one 0 (.one 6 (.one 7 (.one 8 (.one 9 (.one 11 (.one 12 (.done))))))))))) (.one 10 (.alt (.one 0 (.one 5 (.one 6 (.one 7 (.one 8 (.one 9 (.one 11 (.one 12 (.done))))))))) (.one 5 (.one 0 (.one 6 (.one 7 (.one 8 (.one 9 (.one 11 (.one 12 (.done)))))))))))))) (.one 10 (.one 2 (.alt (.one 0 (.one 5 (.one 6 (.one 7 (.one 8 (.one 9 (.one 11 (.one 12 (.done))))))))) (.one 5 (.one 0 (.one 6 (.one 7 (.one 8 (.one 9 (.one 11 (.one 12 (.done))))))))))))))) (.alt (.one 2 (.alt (.one 0 (.alt (.one 1 (.alt (.one 5 (.alt (.one 6 (.one 7 (.one 8 (.one 9 (.one 10 (.one 11 (.one 12 (.done)))))))) (.one 10 (.one 6 (.one 7 (.one 8 (.one 9 (.one 11 (.one 12 (.done)))))))))) (.one 10 (.one 5 (.one 6 (.one 7 (.one 8 (.one 9 (.one 11 (.one 12 (.done))))))))))) (.one 10 (.one 1 (.one 5 (.one 6 (.one 7 (.one 8 (.one 9 (.one 11 (.one 12 (.done)))))))))))) (.alt (.one 1 (.alt (.one 0 (.alt (.one 5 (.alt (.one 6 (.one 7 (.one 8 (.one 9 (.one 10 (.one 11 (.one 12 (.done)))))))) (.one 10 (.one 6 (.one 7 (.one 8 (.one 9 (.one 11 (.one 12 (.done)))))))))) (.one 10 (.one 5 (.one 6 (.one 7 (.one 8 (.one 9 (.one 11 (.one 12 (.done))))))))))) (.alt (.one 5 (.alt (.one 0 (.alt (.one 6 (.one 7 (.one 8 (.one 9 (.one 10 (.one 11 (.one 12 (.done)))))))) (.one 10 (.one 6 (.one 7 (.one 8 (.one 9 (.one 11 (.one 12 (.done)))))))))) (.one 10 (.one 0 (.one 6 (.one 7 (.one 8 (.one 9 (.one 11 (.one 12 (.done))))))))))) (.one 10 (.alt (.one 0 (.one 5 (.one 6 (.one 7 (.one 8 (.one 9 (.one 11 (.one 12 (.done))))))))) (.one 5 (.one 0 (.one 6 (.one 7 (.one 8 (.one 9 (.one 11 (.one 12 (.done)))))))))))))) (.one 10 (.one 1 (.alt (.one 0 (.one 5 (.one 6 (.one 7 (.one 8 (.one 9 (.one 11 (.one 12 (.done))))))))) (.one 5 (.one 0 (.one 6 (.one 7 (.one 8 (.one 9 (.one 11 (.one 12 (.done))))))))))))))) (.one 10 (.one 1 (.one 2 (.alt (.one 0 (.one 5 (.one 6 (.one 7 (.one 8 (.one 9 (.one 11 (.one 12 (.done))))))))) (.one 5 (.one 0 (.one 6 (.one 7 (.one 8 (.one 9 (.one 11 (.one 12 (.done))))))))))))))))) else .done
theorem O27_8 : O27 8 = .one 3 (.one 4 (.alt (.one 0 (.alt (.one 1 (.alt (.one 2 (.alt (.one 5 (.alt (.one 6 (.one 7 (.one 8 (.one 9 (.one 10 (.one 11 (.one 12 (.done)))))))) (.one 10 (.one 6 (.one 7 (.one 8 (.one 9 (.one 11 (.one 12 (.done)))))))))) (.one 10 (.one 5 (.one 6 (.one 7 (.one 8 (.one 9 (.one 11 (.one 12 (.done))))))))))) (.one 10 (.one 2 (.one 5 (.one 6 (.one 7 (.one 8 (.one 9 (.one 11 (.one 12 (.done)))))))))))) (.alt (.one 2 (.alt (.one 1 (.alt (.one 5 (.alt (.one 6 (.one 7 (.one 8 (.one 9 (.one 10 (.one 11 (.one 12 (.done)))))))) (.one 10 (.one 6 (.one 7 (.one 8 (.one 9 (.one 11 (.one 12 (.done)))))))))) (.one 10 (.one 5 (.one 6 (.one 7 (.one 8 (.one 9 (.one 11 (.one 12 (.done))))))))))) (.one 10 (.one 1 (.one 5 (.one 6 (.one 7 (.one 8 (.one 9 (.one 11 (.one 12 (.done)))))))))))) (.one 10 (.one 1 (.one 2 (.one 5 (.one 6 (.one 7 (.one 8 (.one 9 (.one 11 (.one 12 (.done)))))))))))))) (.alt (.one 1 (.alt (.one 0 (.alt (.one 2 (.alt (.one 5 (.alt (.one 6 (.one 7 (.one 8 (.one 9 (.one 10 (.one 11 (.one 12 (.done)))))))) (.one 10 (.one 6 (.one 7 (.one 8 (.one 9 (.one 11 (.one 12 (.done)))))))))) (.one 10 (.one 5 (.one 6 (.one 7 (.one 8 (.one 9 (.one 11 (.one 12 (.done))))))))))) (.one 10 (.one 2 (.one 5 (.one 6 (.one 7 (.one 8 (.one 9 (.one 11 (.one 12 (.done)))))))))))) (.alt (.one 2 (.alt (.one 0 (.alt (.one 5 (.alt (.one 6 (.one 7 (.one 8 (.one 9 (.one 10 (.one 11 (.one 12 (.done)))))))) (.one 10 (.one 6 (.one 7 (.one 8 (.one 9 (.one 11 (.one 12 (.done)))))))))) (.one 10 (.one 5 (.one 6 (.one 7 (.one 8 (.one 9 (.one 11 (.one 12 (.done))))))))))) (.alt (.one 5 (.alt (.one 0 (.alt (.one 6 (.one 7 (.one 8 (.one 9 (.one 10 (.one 11 (.one 12 (.done)))))))) (.one 10 (.one 6 (.one 7 (.one 8 (.one 9 (.one 11 (.one 12 (.done)))))))))) (.one 10 (.one 0 (.one 6 (.one 7 (.one 8 (.one 9 (.one 11 (.one 12 (.done))))))))))) (.one 10 (.alt (.one 0 (.one 5 (.one 6 (.one 7 (.one 8 (.one 9 (.one 11 (.one 12 (.done))))))))) (.one 5 (.one 0 (.one 6 (.one 7 (.one 8 (.one 9 (.one 11 (.one 12 (.done)))))))))))))) (.one 10 (.one 2 (.alt (.one 0 (.one 5 (.one 6 (.one 7 (.one 8 (.one 9 (.one 11 (.one 12 (.done))))))))) (.one 5 (.one 0 (.one 6 (.one 7 (.one 8 (.one 9 (.one 11 (.one 12 (.done))))))))))))))) (.alt (.one 2 (.alt (.one 0 (.alt (.one 1 (.alt (.one 5 (.alt (.one 6 (.one 7 (.one 8 (.one 9 (.one 10 (.one 11 (.one 12 (.done)))))))) (.one 10 (.one 6 (.one 7 (.one 8 (.one 9 (.one 11 (.one 12 (.done)))))))))) (.one 10 (.one 5 (.one 6 (.one 7 (.one 8 (.one 9 (.one 11 (.one 12 (.done))))))))))) (.one 10 (.one 1 (.one 5 (.one 6 (.one 7 (.one 8 (.one 9 (.one 11 (.one 12 (.done)))))))))))) (.alt (.one 1 (.alt (.one 0 (.alt (.one 5 (.alt (.one 6 (.one 7 (.one 8 (.one 9 (.one 10 (.one 11 (.one 12 (.done)))))))) (.one 10 (.one 6 (.one 7 (.one 8 (.one 9 (.one 11 (.one 12 (.done)))))))))) (.one 10 (.one 5 (.one 6 (.one 7 (.one 8 (.one 9 (.one 11 (.one 12 (.done))))))))))) (.alt (.one 5 (.alt (.one 0 (.alt (.one 6 (.one 7 (.one 8 (.one 9 (.one 10 (.one 11 (.one 12 (.done)))))))) (.one 10 (.one 6 (.one 7 (.one 8 (.one 9 (.one 11 (.one 12 (.done)))))))))) (.one 10 (.one 0 (.one 6 (.one 7 (.one 8 (.one 9 (.one 11 (.one 12 (.done))))))))))) (.one 10 (.alt (.one 0 (.one 5 (.one 6 (.one 7 (.one 8 (.one 9 (.one 11 (.one 12 (.done))))))))) (.one 5 (.one 0 (.one 6 (.one 7 (.one 8 (.one 9 (.one 11 (.one 12 (.done)))))))))))))) (.one 10 (.one 1 (.alt (.one 0 (.one 5 (.one 6 (.one 7 (.one 8 (.one 9 (.one 11 (.one 12 (.done))))))))) (.one 5 (.one 0 (.one 6 (.one 7 (.one 8 (.one 9 (.one 11 (.one 12 (.done))))))))))))))) (.one 10 (.one 1 (.one 2 (.alt (.one 0 (.one 5 (.one 6 (.one 7 (.one 8 (.one 9 (.one 11 (.one 12 (.done))))))))) (.one 5 (.one 0 (.one 6 (.one 7 (.one 8 (.one 9 (.one 11 (.one 12 (.done))))))))))))))))) := rfl
theorem ho27 : Try.f27.body.map (okO O27) = some true := by kernel_rfl
def Cf27 : Nat → List AV → (AV → List AV → Sto → Prop) → Kt → List AV → Sto → Prop := fun f args K Q e s => match f with
  | 17 => ent17 args K e s
  | 28 => ent28 args K e s
  | 29 => ent29 args K e s
  | _ => False
def Ct27 : CT := { f := Cf27, y := noYld, z := fun d => false }
theorem ctz27 {d : Nat} : CT.z Ct27 d = (false) := id rfl
theorem Ct27_ok : Ct27.ok Try.prog := ok_of_f (fun f args K Q e s h => by
  have h : Cf27 f args K Q e s := h
  unfold Cf27 at h; split at h
  · exact ent17_ok h
  · exact ent28_ok h
  · exact ent29_ok h
  · exact h.elim) (fun _ _ _ _ _ _ _ _ _ h => h)
theorem x27_17 {r : Rul} {s : Ska} {KK : AV → List AV → Sto → Prop} {QQ : Kt} {ii : At KK} {jj : At QQ} {ee : List AV} {ss : Sto} : xC Ct27 17 [.d (r.d), .d (.agg s.c)] KK QQ ii jj ee ss = ((∀ x ∈ s.calls, i64 x.place) ∧ KK (.d (.tup [.agg (progG r s).1.c, .i (progG r s).2])) ee ss) := eq17
theorem x27_28 {s : Ska} {j : Nat} {g : Int} {q : Int} {KK : AV → List AV → Sto → Prop} {QQ : Kt} {ii : At KK} {jj : At QQ} {ee : List AV} {ss : Sto} : xC Ct27 28 [.d (.agg s.c), .d (.i (j : Int)), .d (.i g), .d (.i q)] KK QQ ii jj ee ss = (((s.calls.length ≤ 1000 ∧ s.parts.length ≤ 1000) ∧ (∀ c ∈ s.calls, j < c.marks.length ∧ c.marks.length ≤ 1000) ∧ ∀ p ∈ s.parts, j < p.length ∧ p.length ≤ 1000) ∧ KK (.d (.agg (givR s j g q).c)) ee ss) := eq28
theorem x27_29 {l : List Sco} {KK : AV → List AV → Sto → Prop} {QQ : Kt} {ii : At KK} {jj : At QQ} {ee : List AV} {ss : Sto} : xC Ct27 29 [.d (.sl 4 (l.map Sco.c))] KK QQ ii jj ee ss = ((l.length ≤ 1000000) ∧ KK (.d (.tup [.sl 1 ((rkG l).1.map ic), .i (rkG l).2])) ee ss) := eq29
theorem x27_29_m1 {l : List Sco} {g1 el1 : Nat} {KK : AV → List AV → Sto → Prop} {QQ : Kt} {ii : At KK} {jj : At QQ} {ee : List AV} {ss : Sto} : xC Ct27 29 [.own g1 el1 4 (l.map Sco.c)] KK QQ ii jj ee ss = ((l.length ≤ 1000000) ∧ KK (.d (.tup [.sl 1 ((rkG l).1.map ic), .i (rkG l).2])) ee ss) := eqo29
theorem c27 : callable Try.prog 27 = true := by kernel_rfl
theorem pf27 (best : Bool) (l : List Ska) (w : Nat) (r : Rul) (j : Nat) (h : (conOk r l = true ∧ l.length ≤ 40) ∧ (j : Int) < (jud l).1 ∧ w < l.length) : PF Try.prog 27 [.b best, .ptr [.sl 3 (l.map Ska.c)] 0, .ptr [.i (w : Int)] 0, .ptr [.sl 1 (r.bases.map ic), .i r.factor, .i r.most] 0, .ptr [.i (j : Int)] 0] (fun zz => zz = .ret (.i (plR r l j w best))) := by
  obtain ⟨⟨hc, hl⟩, hj, hw⟩ := h
  have k0 : allE r l j w best 0 = [] := rfl
  have k1 := fun k => allE_succ (r := r) (l := l) (j := j) (w := w) (best := best) (k := k)
  have kl := fun k => allE_len (r := r) (l := l) (j := j) (w := w) (best := best) (k := k)
  have hvg := con_vg hc hj
  refine PF_nil (PF_start (O := O27) Ct27_ok hmix ho27 Try.func27 c27 rfl Try.ntmps27 Try.results27 ?_)
  simp (maxSteps := 4000000) +contextual (disch := first | omega | exact qdb_ok (by kernel_rfl) | exact okb_ok (by kernel_rfl)) only [bw1,bw2,bw3,bw4,bw5,bw6,bw7,bc0,bc1,bc2,bc3,bc4,bc5,bc6,bc7,setPs,AV.owns,AV.datF,AV.frz,AV.cpy,ifV,isEqB,nilV,nilX,AV.isNilS,AV.isNoRows,wk,dclo,datOf,binIs,addF,AV.isPtr,idxV,AV.isSl,AV.isSlice,AV.rows,ps,pv,extV,extS,AV.outs,AV.outF,packD,AV.dl,fieldV,fieldS,AV.cells?,AV.upr,AV.menc,AV.one,D.one,Value.oneCell',tagOf,AV.isApp,strV,strS,bolV,bolS,slcV,AV.isSlD,asrtS,AV.dcells,D.cells?,stcV,stcS,leafOk,eqDs,eqD,packA,D.val?,↓reduceIte,reduceCtorEq,Nat.reduceAdd,Nat.reduceSub,Nat.reduceMul,List.reduceReplicate,Nat.reduceLeDiff,Nat.reduceLT,Nat.reduceBEq,Nat.reduceEqDiff,Int.reduceNeg,Int.reduceEq,Int.reduceLE,Int.reduceLT,tfb,ctz27,O27_8,x27_17,x27_28,x27_29,x27_29_m1]
  refine seed (m1 := mk _) (m2 := mk _) 7 44 40 4 (by decide) rfl rfl (by simp [Sto.mens, AV.mens, AV.men]) rfl ?_
  refine loop_u (O := O27) (tb := 0) Ct27_ok hmix (by kernel_rfl) (σ := Nat) (fun k => [(7, .own 44 40 4 ((allE r l j w best k).map Sco.c)), (18, .i k)]) (fun k => []) (fun k => k ≤ l.length) (fun k => l.length - k) (fun k => k + 1) 0 (by omega) ?_ ?_
  · simp (maxSteps := 4000000) +contextual (disch := first | omega | exact qdb_ok (by kernel_rfl) | exact okb_ok (by kernel_rfl)) only [bw1,bw2,bw3,bw4,bw5,bw6,bw7,bc0,bc1,bc2,bc3,bc4,bc5,bc6,bc7,setPs,AV.owns,AV.datF,AV.frz,AV.cpy,ifV,isEqB,nilV,nilX,AV.isNilS,AV.isNoRows,wk,dclo,datOf,binIs,addF,AV.isPtr,idxV,AV.isSl,AV.isSlice,AV.rows,ps,pv,extV,extS,AV.outs,AV.outF,packD,AV.dl,fieldV,fieldS,AV.cells?,AV.upr,AV.menc,AV.one,D.one,Value.oneCell',tagOf,AV.isApp,strV,strS,bolV,bolS,slcV,AV.isSlD,asrtS,AV.dcells,D.cells?,stcV,stcS,leafOk,eqDs,eqD,packA,D.val?,↓reduceIte,reduceCtorEq,Nat.reduceAdd,Nat.reduceSub,Nat.reduceMul,List.reduceReplicate,Nat.reduceLeDiff,Nat.reduceLT,Nat.reduceBEq,Nat.reduceEqDiff,Int.reduceNeg,Int.reduceEq,Int.reduceLE,Int.reduceLT,tfb,ctz27,O27_8,x27_17,x27_28,x27_29,x27_29_m1,eq_self, k0]
  intro k hk
  by_cases hlt : k < l.length
  · have hlt' : (k : Int) < l.length := by omega
    have hmem : l.getD k default ∈ l := by rw [at_lt hlt]; exact List.getElem_mem _
    have hv := con_valid hc hmem
    have hvk := hvg _ hmem
    have hcl := hv.calls
    have hpl := hv.parts
    have hpre : ((l.getD k default).calls.length ≤ 1000 ∧ (l.getD k default).parts.length ≤ 1000) ∧ (∀ c ∈ (l.getD k default).calls, j < c.marks.length ∧ c.marks.length ≤ 1000) ∧ ∀ p ∈ (l.getD k default).parts, j < p.length ∧ p.length ≤ 1000 := ⟨⟨by omega, by omega⟩, hvk.call, hvk.part⟩
    have g1 := giv_prog hc hmem (j := j) (g := 5) (q := 40) (by omega) (by omega)
    have g2 := giv_prog hc hmem (j := j) (g := -5) (q := 0) (by omega) (by omega)
    have i1 := giv_i64 hc hmem (j := j) (g := 5) (q := 40) (by omega) (by omega)
    have i2 := giv_i64 hc hmem (j := j) (g := -5) (q := 0) (by omega) (by omega)
    have k1k := k1 k
    have e2 : ((k : Int) == (w : Int)) = decide ((k : Int) = (w : Int)) := by by_cases h : (k : Int) = w <;> simp [h]
    by_cases d : best = decide ((k : Int) = (w : Int))
    · have e : enE r j w best k (l.getD k default) = progR r (givR (l.getD k default) j 5 40) := by unfold enE endS; rw [if_pos d]
      rw [e] at k1k
      have d' : (best = ((k : Int) == (w : Int))) = True := eq_true (d.trans e2.symm)
      simp (maxSteps := 4000000) +contextual (disch := first | omega | exact qdb_ok (by kernel_rfl) | exact okb_ok (by kernel_rfl)) only [bw1,bw2,bw3,bw4,bw5,bw6,bw7,bc0,bc1,bc2,bc3,bc4,bc5,bc6,bc7,setPs,AV.owns,AV.datF,AV.frz,AV.cpy,ifV,isEqB,nilV,nilX,AV.isNilS,AV.isNoRows,wk,dclo,datOf,binIs,addF,AV.isPtr,idxV,AV.isSl,AV.isSlice,AV.rows,ps,pv,extV,extS,AV.outs,AV.outF,packD,AV.dl,fieldV,fieldS,AV.cells?,AV.upr,AV.menc,AV.one,D.one,Value.oneCell',tagOf,AV.isApp,strV,strS,bolV,bolS,slcV,AV.isSlD,asrtS,AV.dcells,D.cells?,stcV,stcS,leafOk,eqDs,eqD,packA,D.val?,↓reduceIte,reduceCtorEq,Nat.reduceAdd,Nat.reduceSub,Nat.reduceMul,List.reduceReplicate,Nat.reduceLeDiff,Nat.reduceLT,Nat.reduceBEq,Nat.reduceEqDiff,Int.reduceNeg,Int.reduceEq,Int.reduceLE,Int.reduceLT,tfb,ctz27,O27_8,x27_17,x27_28,x27_29,x27_29_m1,eq_self, hlt', hpre, g1, d', kl, List.length_map]
      refine ⟨by omega, ⟨fun _ _ => trivial, fun _ _ => trivial⟩, i1, by omega, by omega, by omega, ?_⟩
      rw [k1k, List.map_append]; rfl
    · have e : enE r j w best k (l.getD k default) = progR r (givR (l.getD k default) j (-5) 0) := by unfold enE endS; rw [if_neg d]
      rw [e] at k1k
      have d' : (best = ((k : Int) == (w : Int))) = False := eq_false (fun h => d (h.trans e2))
      simp (maxSteps := 4000000) +contextual (disch := first | omega | exact qdb_ok (by kernel_rfl) | exact okb_ok (by kernel_rfl)) only [bw1,bw2,bw3,bw4,bw5,bw6,bw7,bc0,bc1,bc2,bc3,bc4,bc5,bc6,bc7,setPs,AV.owns,AV.datF,AV.frz,AV.cpy,ifV,isEqB,nilV,nilX,AV.isNilS,AV.isNoRows,wk,dclo,datOf,binIs,addF,AV.isPtr,idxV,AV.isSl,AV.isSlice,AV.rows,ps,pv,extV,extS,AV.outs,AV.outF,packD,AV.dl,fieldV,fieldS,AV.cells?,AV.upr,AV.menc,AV.one,D.one,Value.oneCell',tagOf,AV.isApp,strV,strS,bolV,bolS,slcV,AV.isSlD,asrtS,AV.dcells,D.cells?,stcV,stcS,leafOk,eqDs,eqD,packA,D.val?,↓reduceIte,reduceCtorEq,Nat.reduceAdd,Nat.reduceSub,Nat.reduceMul,List.reduceReplicate,Nat.reduceLeDiff,Nat.reduceLT,Nat.reduceBEq,Nat.reduceEqDiff,Int.reduceNeg,Int.reduceEq,Int.reduceLE,Int.reduceLT,tfb,ctz27,O27_8,x27_17,x27_28,x27_29,x27_29_m1,eq_self, hlt', hpre, g2, d', kl, List.length_map]
      refine ⟨by omega, ⟨fun _ _ => trivial, fun _ _ => trivial⟩, i2, by omega, by omega, by omega, ?_⟩
      rw [k1k, List.map_append]; rfl
  have hlt' : ¬ (k : Int) < l.length := by omega
  obtain rfl : k = l.length := by omega
  have hr : rkG (allE r l j w best l.length) = (rkR (allE r l j w best l.length) l.length, 0) := by
    unfold rkG; rw [kl, if_neg (by omega)]
  have hrl := rkR_len (l := allE r l j w best l.length) (k := l.length)
  have hw' : (w : Int) < l.length := by omega
  simp (maxSteps := 4000000) +contextual (disch := first | omega | exact qdb_ok (by kernel_rfl) | exact okb_ok (by kernel_rfl)) only [bw1,bw2,bw3,bw4,bw5,bw6,bw7,bc0,bc1,bc2,bc3,bc4,bc5,bc6,bc7,setPs,AV.owns,AV.datF,AV.frz,AV.cpy,ifV,isEqB,nilV,nilX,AV.isNilS,AV.isNoRows,wk,dclo,datOf,binIs,addF,AV.isPtr,idxV,AV.isSl,AV.isSlice,AV.rows,ps,pv,extV,extS,AV.outs,AV.outF,packD,AV.dl,fieldV,fieldS,AV.cells?,AV.upr,AV.menc,AV.one,D.one,Value.oneCell',tagOf,AV.isApp,strV,strS,bolV,bolS,slcV,AV.isSlD,asrtS,AV.dcells,D.cells?,stcV,stcS,leafOk,eqDs,eqD,packA,D.val?,↓reduceIte,reduceCtorEq,Nat.reduceAdd,Nat.reduceSub,Nat.reduceMul,List.reduceReplicate,Nat.reduceLeDiff,Nat.reduceLT,Nat.reduceBEq,Nat.reduceEqDiff,Int.reduceNeg,Int.reduceEq,Int.reduceLE,Int.reduceLT,tfb,ctz27,O27_8,x27_17,x27_28,x27_29,x27_29_m1,eq_self, hlt', Int.lt_irrefl, hr, hrl, hw', kl, List.length_map, bne_self_eq_false]
  trace_state
  exact ⟨by omega, by omega, rfl⟩
theorem cLo_bC {X Y A : List Sco} {w n : Nat} (hw : A.getD w default = Y.getD w default) (hk : ∀ k, k < n → k ≠ w → A.getD k default = X.getD k default) : ∀ k, k ≤ n → cLo X Y w k = 1 + bC A (Y.getD w default) k
  | 0, _ => rfl
  | k + 1, h => by
    have ih := cLo_bC hw hk k (by omega)
    unfold cLo bC
    rw [ih]
    by_cases c : k = w
    · subst c
      rw [hw, if_neg (fun h => h.1 rfl)]
      unfold beN
      rw [better_self]; simp
    · rw [hk k (by omega) c]
      unfold beN
      by_cases d : better (X.getD k default) (Y.getD w default) = true
      · rw [if_pos ⟨c, d⟩, if_pos d]; omega
      · rw [if_neg (fun h => d h.2), if_neg d]; omega
theorem allE_at {r : Rul} {l : List Ska} {j w : Nat} {best : Bool} {n k : Nat} (h : k < n) : (allE r l j w best n).getD k default = enE r j w best k (l.getD k default) := by
  unfold allE
  rw [at_lt (by rw [List.length_map, List.length_range]; exact h), List.getElem_map, List.getElem_range]
theorem map_at {r : Rul} {l : List Ska} {f : Ska → Sco} {k : Nat} (h : k < l.length) : (l.map f).getD k default = f (l.getD k default) := by
  rw [at_lt (by rw [List.length_map]; exact h), List.getElem_map, at_lt h]
theorem plR_eq {r : Rul} {l : List Ska} {j w : Nat} {best : Bool} (hw : w < l.length) : plR r l j w best = 1 + bC (allE r l j w best l.length) ((allE r l j w best l.length).getD w default) l.length := by
  unfold plR rkR
  rw [at_lt (by rw [List.length_map, List.length_range]; exact hw), List.getElem_map, List.getElem_range, allE_len]
theorem swR_at {r : Rul} {l : List Ska} {j w : Nat} (hw : w < l.length) : (swR r l j).getD w default = spn (l.map (endS r j (-5) 0)) (l.map (endS r j 5 40)) w l.length := by
  unfold swR
  rw [at_lt (by rw [List.length_map, List.length_range]; exact hw), List.getElem_map, List.getElem_range]
theorem pl_lo {r : Rul} {l : List Ska} {j w : Nat} (hw : w < l.length) : plR r l j w true = ((swR r l j).getD w default).lo := by
  rw [plR_eq hw, swR_at hw]
  have e : (allE r l j w true l.length).getD w default = (l.map (endS r j 5 40)).getD w default := by
    rw [allE_at hw, map_at (r := r) hw]; unfold enE; rw [if_pos (by simp)]
  show _ = cLo (l.map (endS r j (-5) 0)) (l.map (endS r j 5 40)) w l.length
  rw [cLo_bC e (fun k hk hne => by
    rw [allE_at hk, map_at (r := r) hk]; unfold enE
    rw [if_neg (by simp; omega)]) l.length (Nat.le_refl _), e]
theorem pl_hi {r : Rul} {l : List Ska} {j w : Nat} (hw : w < l.length) : plR r l j w false = ((swR r l j).getD w default).hi := by
  rw [plR_eq hw, swR_at hw]
  have e : (allE r l j w false l.length).getD w default = (l.map (endS r j (-5) 0)).getD w default := by
    rw [allE_at hw, map_at (r := r) hw]; unfold enE; rw [if_neg (by simp)]
  show _ = cLo (l.map (endS r j 5 40)) (l.map (endS r j (-5) 0)) w l.length
  rw [cLo_bC e (fun k hk hne => by
    rw [allE_at hk, map_at (r := r) hk]; unfold enE
    rw [if_pos (by simp; omega)]) l.length (Nat.le_refl _), e]
def ent27 (o : Option (List D)) (K : AV → List AV → Sto → Prop) (i : At K) (e : List AV) (s : Sto) : Prop := entS (α := (Bool) × (List Ska) × (Nat) × (Rul) × (Nat)) (fun aa => [.b aa.1, .ptr [.sl 3 (aa.2.1.map Ska.c)] 0, .ptr [.i (aa.2.2.1 : Int)] 0, .ptr [.sl 1 (aa.2.2.2.1.bases.map ic), .i aa.2.2.2.1.factor, .i aa.2.2.2.1.most] 0, .ptr [.i (aa.2.2.2.2 : Int)] 0]) (fun aa => (conOk aa.2.2.2.1 aa.2.1 = true ∧ aa.2.1.length ≤ 40) ∧ (aa.2.2.2.2 : Int) < (jud aa.2.1).1 ∧ aa.2.2.1 < aa.2.1.length) (fun aa => .i (plR aa.2.2.2.1 aa.2.1 aa.2.2.2.2 aa.2.2.1 aa.1)) o K i e s
theorem ent27_ok {args : List AV} {K : AV → List AV → Sto → Prop} {Q : Kt} {e : List AV} {s : Sto} (h : ent27 (AV.outs s args) K (mk _) e s) : pcall Try.prog 27 args K Q e s := entS_ok (fun aa h => pf27 aa.1 aa.2.1 aa.2.2.1 aa.2.2.2.1 aa.2.2.2.2 h) h
theorem eq27 {best : Bool} {l : List Ska} {w : Nat} {r : Rul} {j : Nat} {KK : AV → List AV → Sto → Prop} {ii : At KK} {ee : List AV} {ss : Sto} : ent27 (some [.b best, .ptr [.sl 3 (l.map Ska.c)] 0, .ptr [.i (w : Int)] 0, .ptr [.sl 1 (r.bases.map ic), .i r.factor, .i r.most] 0, .ptr [.i (j : Int)] 0]) KK ii ee ss = (((conOk r l = true ∧ l.length ≤ 40) ∧ (j : Int) < (jud l).1 ∧ w < l.length) ∧ (.i (plR r l j w best) : D).flat = true ∧ KK (.d (.i (plR r l j w best))) ee ss) := by
  unfold ent27; rw [entS_iff (best, l, w, r, j) (by intro b h; simpa [Prod.ext_iff, and_assoc, Int.ofNat_inj, ints_inj, cals_inj, pcs_inj, skas_inj, scos_inj, ska_inj, rul_inj, sco_inj, cal_inj, ods_inj, od_inj, spns_inj, Int.ofNat_inj, ints_inj, cals_inj, pcs_inj, skas_inj, scos_inj, ska_inj, rul_inj, sco_inj, cal_inj, Int.ofNat_inj, ints_inj, cals_inj, pcs_inj, skas_inj, scos_inj, ska_inj, rul_inj, sco_inj, cal_inj, ods_inj, od_inj, spns_inj] using h)] <;> simp
end Go.Proofs.Ytapglfcaghlpfaa
