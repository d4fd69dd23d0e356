/- A part of the proof that the last text ends: what functions of the program do, told by plain data. -/
import Derived.Test.YtapglfcaghlpfaaUE
import Derived.Test.YtapglfcaghlpfaaVE
import Derived.Test.YtapglfcaghlpfaaEc
set_option linter.unusedVariables false
set_option linter.unusedSimpArgs false
namespace Go.Proofs.Ytapglfcaghlpfaa
open Go Go.E Go.Maps
set_option maxRecDepth 100000
set_option maxHeartbeats 16000000
/-! ### Lists, turned -/
def rotN {α : Type} [Inhabited α] (l : List α) (t k : Nat) : List α := (List.range k).map fun i => l.getD ((i + t) % l.length) default
theorem rotN_succ {α : Type} [Inhabited α] {l : List α} {t k : Nat} : rotN l t (k + 1) = rotN l t k ++ [l.getD ((k + t) % l.length) default] := by
  unfold rotN; rw [List.range_succ, List.map_append]; rfl
theorem rotN_len {α : Type} [Inhabited α] {l : List α} {t k : Nat} : (rotN l t k).length = k := by unfold rotN; rw [List.length_map, List.length_range]
def O25 : Nat → Sch := fun id => .done
theorem ho25 : Try.f25.body.map (okO O25) = some true := by kernel_rfl
def Cf25 : Nat → List AV → (AV → List AV → Sto → Prop) → Kt → List AV → Sto → Prop := fun f args K Q e s => match f with
  | _ => False
def Ct25 : CT := { f := Cf25, y := noYld, z := fun d => false }
theorem ctz25 {d : Nat} : CT.z Ct25 d = (false) := id rfl
theorem Ct25_ok : Ct25.ok Try.prog := ok_of_f (fun f args K Q e s h => by
  have h : Cf25 f args K Q e s := h
  unfold Cf25 at h; split at h
  · exact h.elim) (fun _ _ _ _ _ _ _ _ _ h => h)
theorem c25 : callable Try.prog 25 = true := by kernel_rfl
theorem pf25 (l : List Int) (t : Nat) (h : l.length ≤ 1000 ∧ t ≤ 1000) : PF Try.prog 25 [.sl 1 (l.map ic), .i (t : Int)] (fun zz => zz = .ret (.sl 1 ((rotN l t l.length).map ic))) := by
  obtain ⟨h1, h2⟩ := h
  have k0 : rotN l t 0 = [] := rfl
  have k1 := fun k => rotN_succ (l := l) (t := t) (k := k)
  have kl := fun k => rotN_len (l := l) (t := t) (k := k)
  refine PF_nil (PF_start (O := O25) Ct25_ok hmix ho25 Try.func25 c25 rfl Try.ntmps25 Try.results25 ?_)
  simp (maxSteps := 4000000) +contextual (disch := first | omega | exact qdb_ok (by kernel_rfl) | exact okb_ok (by kernel_rfl)) only [bw1,bw2,bw3,bw4,bw5,bw6,bw7,bc0,bc1,bc2,bc3,bc4,bc5,bc6,bc7,setPs,AV.owns,AV.datF,AV.frz,AV.cpy,ifV,isEqB,nilV,nilX,AV.isNilS,AV.isNoRows,wk,dclo,datOf,binIs,addF,AV.isPtr,idxV,AV.isSl,AV.isSlice,AV.rows,ps,pv,extV,extS,AV.outs,AV.outF,packD,AV.dl,fieldV,fieldS,AV.cells?,AV.upr,AV.menc,AV.one,D.one,Value.oneCell',tagOf,AV.isApp,strV,strS,bolV,bolS,slcV,AV.isSlD,asrtS,AV.dcells,D.cells?,stcV,stcS,leafOk,eqDs,eqD,packA,D.val?,↓reduceIte,reduceCtorEq,Nat.reduceAdd,Nat.reduceSub,Nat.reduceMul,List.reduceReplicate,Nat.reduceLeDiff,Nat.reduceLT,Nat.reduceBEq,Nat.reduceEqDiff,Int.reduceNeg,Int.reduceEq,Int.reduceLE,Int.reduceLT,tfb,ctz25]
  refine seed (m1 := mk _) (m2 := mk _) 5 24 3 1 (by decide) rfl rfl (by simp [Sto.mens, AV.mens, AV.men]) rfl ?_
  refine loop_u (O := O25) (tb := 0) Ct25_ok hmix (by kernel_rfl) (σ := Nat) (fun k => [(5, .own 24 3 1 ((rotN l t k).map ic)), (9, .i k)]) (fun k => []) (fun k => k ≤ l.length) (fun k => l.length - k) (fun k => k + 1) 0 (by omega) ?_ ?_
  · simp (maxSteps := 4000000) +contextual (disch := first | omega | exact qdb_ok (by kernel_rfl) | exact okb_ok (by kernel_rfl)) only [bw1,bw2,bw3,bw4,bw5,bw6,bw7,bc0,bc1,bc2,bc3,bc4,bc5,bc6,bc7,setPs,AV.owns,AV.datF,AV.frz,AV.cpy,ifV,isEqB,nilV,nilX,AV.isNilS,AV.isNoRows,wk,dclo,datOf,binIs,addF,AV.isPtr,idxV,AV.isSl,AV.isSlice,AV.rows,ps,pv,extV,extS,AV.outs,AV.outF,packD,AV.dl,fieldV,fieldS,AV.cells?,AV.upr,AV.menc,AV.one,D.one,Value.oneCell',tagOf,AV.isApp,strV,strS,bolV,bolS,slcV,AV.isSlD,asrtS,AV.dcells,D.cells?,stcV,stcS,leafOk,eqDs,eqD,packA,D.val?,↓reduceIte,reduceCtorEq,Nat.reduceAdd,Nat.reduceSub,Nat.reduceMul,List.reduceReplicate,Nat.reduceLeDiff,Nat.reduceLT,Nat.reduceBEq,Nat.reduceEqDiff,Int.reduceNeg,Int.reduceEq,Int.reduceLE,Int.reduceLT,tfb,ctz25,eq_self, k0]
  intro k hk
  by_cases hlt : k < l.length
  · have hlt' : (k : Int) < l.length := by omega
    have hlz : ¬ (l.length : Int) = 0 := by omega
    have k1k := k1 k
    obtain ⟨m, hm⟩ : ∃ m : Nat, m = (k + t) % l.length := ⟨_, rfl⟩
    have hml : m < l.length := by rw [hm]; exact Nat.mod_lt _ (by omega)
    have hml' : (m : Int) < l.length := by omega
    rw [← hm] at k1k
    have hm1 : ((k : Int) + (t : Int)) % (l.length : Int) = m := by rw [hm, Int.natCast_emod]; rfl
    have hwr : IntKind.i64.wrap ((k : Int) + (t : Int)) = (k : Int) + t := wrap_ok (by omega) (by omega)
    simp (maxSteps := 4000000) +contextual (disch := first | omega | exact qdb_ok (by kernel_rfl) | exact okb_ok (by kernel_rfl)) only [bw1,bw2,bw3,bw4,bw5,bw6,bw7,bc0,bc1,bc2,bc3,bc4,bc5,bc6,bc7,setPs,AV.owns,AV.datF,AV.frz,AV.cpy,ifV,isEqB,nilV,nilX,AV.isNilS,AV.isNoRows,wk,dclo,datOf,binIs,addF,AV.isPtr,idxV,AV.isSl,AV.isSlice,AV.rows,ps,pv,extV,extS,AV.outs,AV.outF,packD,AV.dl,fieldV,fieldS,AV.cells?,AV.upr,AV.menc,AV.one,D.one,Value.oneCell',tagOf,AV.isApp,strV,strS,bolV,bolS,slcV,AV.isSlD,asrtS,AV.dcells,D.cells?,stcV,stcS,leafOk,eqDs,eqD,packA,D.val?,↓reduceIte,reduceCtorEq,Nat.reduceAdd,Nat.reduceSub,Nat.reduceMul,List.reduceReplicate,Nat.reduceLeDiff,Nat.reduceLT,Nat.reduceBEq,Nat.reduceEqDiff,Int.reduceNeg,Int.reduceEq,Int.reduceLE,Int.reduceLT,tfb,ctz25,eq_self, hlt', hwr, hlz, hm1, hml', kl, List.length_map]
    refine ⟨by omega, by omega, by omega, by omega, ?_⟩
    rw [k1k, List.map_append]; rfl
  have hlt' : ¬ (k : Int) < l.length := by omega
  obtain rfl : k = l.length := by omega
  simp (maxSteps := 4000000) +contextual (disch := first | omega | exact qdb_ok (by kernel_rfl) | exact okb_ok (by kernel_rfl)) only [bw1,bw2,bw3,bw4,bw5,bw6,bw7,bc0,bc1,bc2,bc3,bc4,bc5,bc6,bc7,setPs,AV.owns,AV.datF,AV.frz,AV.cpy,ifV,isEqB,nilV,nilX,AV.isNilS,AV.isNoRows,wk,dclo,datOf,binIs,addF,AV.isPtr,idxV,AV.isSl,AV.isSlice,AV.rows,ps,pv,extV,extS,AV.outs,AV.outF,packD,AV.dl,fieldV,fieldS,AV.cells?,AV.upr,AV.menc,AV.one,D.one,Value.oneCell',tagOf,AV.isApp,strV,strS,bolV,bolS,slcV,AV.isSlD,asrtS,AV.dcells,D.cells?,stcV,stcS,leafOk,eqDs,eqD,packA,D.val?,↓reduceIte,reduceCtorEq,Nat.reduceAdd,Nat.reduceSub,Nat.reduceMul,List.reduceReplicate,Nat.reduceLeDiff,Nat.reduceLT,Nat.reduceBEq,Nat.reduceEqDiff,Int.reduceNeg,Int.reduceEq,Int.reduceLE,Int.reduceLT,tfb,ctz25,eq_self, hlt', Int.lt_irrefl]
/-! ### What a judge gives, by remainders -/
abbrev bc (b : Int) : List D := [.v (.int .u8 b)]
theorem bcs_inj {a b : List Int} : (a.map bc = b.map bc) = (a = b) := inj_map fun _ _ h => by simpa using h
def ent25 (args : List AV) (K : AV → List AV → Sto → Prop) (e : List AV) (s : Sto) : Prop := ent (α := (List Int) × (Nat)) (fun aa => [.sl 1 (aa.1.map ic), .i (aa.2 : Int)]) (fun aa => aa.1.length ≤ 1000 ∧ aa.2 ≤ 1000) (fun aa => .sl 1 ((rotN aa.1 aa.2 aa.1.length).map ic)) args K e s
theorem ent25_ok {args : List AV} {K : AV → List AV → Sto → Prop} {Q : Kt} {e : List AV} {s : Sto} (h : ent25 args K e s) : pcall Try.prog 25 args K Q e s := ent_ok (fun aa h => pf25 aa.1 aa.2 h) h
theorem eq25 {l : List Int} {t : Nat} {KK : AV → List AV → Sto → Prop} {ee : List AV} {ss : Sto} : ent25 [.d (.sl 1 (l.map ic)), .d (.i (t : Int))] KK ee ss = ((l.length ≤ 1000 ∧ t ≤ 1000) ∧ KK (.d (.sl 1 ((rotN l t l.length).map ic))) ee ss) := by
  unfold ent25; rw [ent_iff (l, t) (by intro b h; simpa [Prod.ext_iff, and_assoc, Int.ofNat_inj, ints_inj, cals_inj, pcs_inj, skas_inj, scos_inj, ska_inj, rul_inj, sco_inj, cal_inj, ods_inj, od_inj, spns_inj, bcs_inj] using h) rfl]; simp
theorem eqo25 {l : List Int} {t : Nat} {g1 el1 : Nat} {KK : AV → List AV → Sto → Prop} {ee : List AV} {ss : Sto} : ent25 [.own g1 el1 1 (l.map ic), .d (.i (t : Int))] KK ee ss = ((l.length ≤ 1000 ∧ t ≤ 1000) ∧ (.sl 1 ((rotN l t l.length).map ic) : D).flat = true ∧ KK (.d (.sl 1 ((rotN l t l.length).map ic))) ee ss) := by
  unfold ent25; rw [ent_iff (l, t) (by intro b h; simpa [Prod.ext_iff, and_assoc, Int.ofNat_inj, ints_inj, cals_inj, pcs_inj, skas_inj, scos_inj, ska_inj, rul_inj, sco_inj, cal_inj, ods_inj, od_inj, spns_inj, bcs_inj] using h) rfl]; simp
end Go.Proofs.Ytapglfcaghlpfaa
