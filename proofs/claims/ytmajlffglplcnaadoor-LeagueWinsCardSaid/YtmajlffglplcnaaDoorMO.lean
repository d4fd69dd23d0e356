/- A part of the proof that the last text ends: what functions of the program do, told by plain data. -/
import Derived.Test.YtmajlffglplcnaaDoorMN2
set_option linter.unusedVariables false
set_option linter.unusedSimpArgs false
namespace Go.Proofs.YtmajlffglplcnaaDoor
open Go Go.E
set_option maxRecDepth 100000
set_option maxHeartbeats 16000000
theorem wk_self : ∀ c : List AV, wk c c
  | [] => trivial
  | _ :: c => ⟨.inr (.inl rfl), wk_self c⟩
abbrev tv (T : List Int) : List D := T.map fun n => D.i n
abbrev ta (T : List Int) : List AV := (tv T).map .d
theorem ta_len {T : List Int} : (ta T).length = T.length := by simp
theorem ta_get {T : List Int} {i : Nat} (h : i < T.length) : (ta T).getD i .any = .i (T.getD i default) := by
  simp [List.getD, h]
theorem tv_inj {a b : List Int} : (tv a = tv b) = (a = b) := by
  apply propext
  constructor
  · intro h
    exact (List.map_inj_right (fun x y h => by simpa using h)).1 h
  · rintro rfl; rfl
theorem ta_mens {g : Nat} {T : List Int} : AV.mens g (ta T) = false := by
  induction T with
  | nil => rfl
  | cons x T ih => simpa [AV.mens, AV.men] using ih
theorem ta_mencs {g : Nat} {T : List Int} : AV.mencs g (ta T) = false := by
  induction T with
  | nil => rfl
  | cons x T ih => simpa [AV.mencs, AV.menc] using ih
theorem ta_kill {g : Nat} {T : List Int} : (ta T).map (AV.kill g) = ta T := by
  simp [AV.kill, AV.men]
theorem ta_one {T : List Int} : (ta T).all AV.one = true := by simp [AV.one, D.one, Value.oneCell']
def cnT (T : List Int) (t m : Int) (n : Nat) : Nat := cnN (fun i => T.getD i default) t m n
def O47 : Nat → Sch := fun id => .done
theorem ho47 : Tryd.f47.body.map (okO O47) = some true := by kernel_rfl
def Cf47 : Nat → List AV → (AV → List AV → Sto → Prop) → Kt → List AV → Sto → Prop := fun f args K Q e s => match f with
  | _ => False
def Ct47 : CT := { f := Cf47, y := noYld, z := fun d => false }
theorem ctz47 {d : Nat} : CT.z Ct47 d = (false) := id rfl
theorem Ct47_ok : Ct47.ok Tryd.prog := ok_of_f (fun f args K Q e s h => by
  have h : Cf47 f args K Q e s := h
  unfold Cf47 at h; split at h
  · exact h.elim) (fun _ _ _ _ _ _ _ _ _ h => h)
theorem c47 : callable Tryd.prog 47 = true := by kernel_rfl
theorem pf47 (T : List Int) (t : Int) (n : Nat) (m : Int) (h : T.length = 6 ∧ n ≤ 6) : PF Tryd.prog 47 [.agg (tv T), .i t, .i (n : Int), .i m] (fun zz => zz = .ret (.i (cnT T t m n : Int))) := by
  obtain ⟨hT, hn⟩ := h
  have hlen : (ta T).length = 6 := by rw [ta_len]; exact hT
  refine PF_nil (PF_start (O := O47) Ct47_ok hmix ho47 Tryd.func47 c47 rfl Tryd.ntmps47 Tryd.results47 ?_)
  simp (maxSteps := 4000000) +contextual (disch := first | omega | exact qdb_ok (by kernel_rfl) | exact okb_ok (by kernel_rfl)) only [bw1,bw2,bw3,bw4,bw5,bw6,bw7,bc0,bc1,bc2,bc3,bc4,bc5,bc6,bc7,bb0,setPs,AV.owns,AV.datF,AV.frz,AV.cpy,ifV,isEqB,nilV,nilX,AV.isNilS,AV.isNoRows,wk,dclo,datOf,binIs,addF,AV.isPtr,idxV,AV.isSl,AV.isSlice,AV.rows,ps,pv,extV,extS,AV.outs,AV.outF,packD,AV.dl,fieldV,fieldS,AV.cells?,AV.upr,AV.menc,AV.one,D.one,Value.oneCell',tagOf,AV.isApp,strV,strS,bolV,bolS,slcV,AV.isSlD,asrtS,AV.dcells,D.cells?,stcV,stcS,leafOk,eqDs,eqD,packA,D.val?,↓reduceIte,reduceCtorEq,Nat.reduceAdd,Nat.reduceSub,Nat.reduceMul,List.reduceReplicate,Nat.reduceLeDiff,Nat.reduceLT,Nat.reduceBEq,Nat.reduceEqDiff,Int.reduceNeg,Int.reduceEq,Int.reduceLE,Int.reduceLT,tfb,D.flat,D.flats,ctz47,ta_mens]
  trace_state
  refine loop_xu (O := O47) (tb := 0) Ct47_ok hmix (by kernel_rfl) (σ := Nat) (fun k => [(9, .i (cnT T t m k : Int)), (10, .any), (12, .i k)]) (fun _ => []) (fun k => k ≤ n) (fun k => n - k) 0 (Nat.zero_le _) ?_ ?_
  · have hz : (cnT T t m 0 : Int) = 0 := rfl
    simp (maxSteps := 4000000) +contextual (disch := first | omega | exact qdb_ok (by kernel_rfl) | exact okb_ok (by kernel_rfl)) only [bw1,bw2,bw3,bw4,bw5,bw6,bw7,bc0,bc1,bc2,bc3,bc4,bc5,bc6,bc7,bb0,setPs,AV.owns,AV.datF,AV.frz,AV.cpy,ifV,isEqB,nilV,nilX,AV.isNilS,AV.isNoRows,wk,dclo,datOf,binIs,addF,AV.isPtr,idxV,AV.isSl,AV.isSlice,AV.rows,ps,pv,extV,extS,AV.outs,AV.outF,packD,AV.dl,fieldV,fieldS,AV.cells?,AV.upr,AV.menc,AV.one,D.one,Value.oneCell',tagOf,AV.isApp,strV,strS,bolV,bolS,slcV,AV.isSlD,asrtS,AV.dcells,D.cells?,stcV,stcS,leafOk,eqDs,eqD,packA,D.val?,↓reduceIte,reduceCtorEq,Nat.reduceAdd,Nat.reduceSub,Nat.reduceMul,List.reduceReplicate,Nat.reduceLeDiff,Nat.reduceLT,Nat.reduceBEq,Nat.reduceEqDiff,Int.reduceNeg,Int.reduceEq,Int.reduceLE,Int.reduceLT,tfb,D.flat,D.flats,ctz47,eq_self, hz]
    trace_state
    exact wk_self _
  rintro k hk
  have hle : cnT T t m k ≤ k := cnN_le
  by_cases hlt : k < n
  case neg =>
    obtain rfl : k = n := by omega
    simp (maxSteps := 4000000) +contextual (disch := first | omega | exact qdb_ok (by kernel_rfl) | exact okb_ok (by kernel_rfl)) only [bw1,bw2,bw3,bw4,bw5,bw6,bw7,bc0,bc1,bc2,bc3,bc4,bc5,bc6,bc7,bb0,setPs,AV.owns,AV.datF,AV.frz,AV.cpy,ifV,isEqB,nilV,nilX,AV.isNilS,AV.isNoRows,wk,dclo,datOf,binIs,addF,AV.isPtr,idxV,AV.isSl,AV.isSlice,AV.rows,ps,pv,extV,extS,AV.outs,AV.outF,packD,AV.dl,fieldV,fieldS,AV.cells?,AV.upr,AV.menc,AV.one,D.one,Value.oneCell',tagOf,AV.isApp,strV,strS,bolV,bolS,slcV,AV.isSlD,asrtS,AV.dcells,D.cells?,stcV,stcS,leafOk,eqDs,eqD,packA,D.val?,↓reduceIte,reduceCtorEq,Nat.reduceAdd,Nat.reduceSub,Nat.reduceMul,List.reduceReplicate,Nat.reduceLeDiff,Nat.reduceLT,Nat.reduceBEq,Nat.reduceEqDiff,Int.reduceNeg,Int.reduceEq,Int.reduceLE,Int.reduceLT,tfb,D.flat,D.flats,ctz47,eq_self, Int.lt_irrefl]
  have hlt' : (k : Int) < n := by omega
  by_cases d1 : (k : Int) = t
  · have d1b : ((k : Int) != t) = false := by simpa using d1
    have hs : cnT T t m (k + 1) = cnT T t m k := cnN_no (cnB_self d1)
    simp (maxSteps := 4000000) +contextual (disch := first | omega | exact qdb_ok (by kernel_rfl) | exact okb_ok (by kernel_rfl)) only [bw1,bw2,bw3,bw4,bw5,bw6,bw7,bc0,bc1,bc2,bc3,bc4,bc5,bc6,bc7,bb0,setPs,AV.owns,AV.datF,AV.frz,AV.cpy,ifV,isEqB,nilV,nilX,AV.isNilS,AV.isNoRows,wk,dclo,datOf,binIs,addF,AV.isPtr,idxV,AV.isSl,AV.isSlice,AV.rows,ps,pv,extV,extS,AV.outs,AV.outF,packD,AV.dl,fieldV,fieldS,AV.cells?,AV.upr,AV.menc,AV.one,D.one,Value.oneCell',tagOf,AV.isApp,strV,strS,bolV,bolS,slcV,AV.isSlD,asrtS,AV.dcells,D.cells?,stcV,stcS,leafOk,eqDs,eqD,packA,D.val?,↓reduceIte,reduceCtorEq,Nat.reduceAdd,Nat.reduceSub,Nat.reduceMul,List.reduceReplicate,Nat.reduceLeDiff,Nat.reduceLT,Nat.reduceBEq,Nat.reduceEqDiff,Int.reduceNeg,Int.reduceEq,Int.reduceLE,Int.reduceLT,tfb,D.flat,D.flats,ctz47,eq_self, hlt', d1b]
    repeat (refine And.intro (by omega) ?_)
    exact ⟨k + 1, ⟨by omega, by omega⟩, ⟨by rw [hs], rfl⟩, wk_self _⟩
  have d1b : ((k : Int) != t) = true := by simpa using d1
  have hk6 : (k : Int) < 6 := by omega
  have hget := ta_get (T := T) (i := k) (by omega)
  by_cases d2 : m ≤ T.getD k default
  · have hs : cnT T t m (k + 1) = cnT T t m k + 1 := cnN_yes (cnB_yes d1 d2)
    simp (maxSteps := 4000000) +contextual (disch := first | omega | exact qdb_ok (by kernel_rfl) | exact okb_ok (by kernel_rfl)) only [bw1,bw2,bw3,bw4,bw5,bw6,bw7,bc0,bc1,bc2,bc3,bc4,bc5,bc6,bc7,bb0,setPs,AV.owns,AV.datF,AV.frz,AV.cpy,ifV,isEqB,nilV,nilX,AV.isNilS,AV.isNoRows,wk,dclo,datOf,binIs,addF,AV.isPtr,idxV,AV.isSl,AV.isSlice,AV.rows,ps,pv,extV,extS,AV.outs,AV.outF,packD,AV.dl,fieldV,fieldS,AV.cells?,AV.upr,AV.menc,AV.one,D.one,Value.oneCell',tagOf,AV.isApp,strV,strS,bolV,bolS,slcV,AV.isSlD,asrtS,AV.dcells,D.cells?,stcV,stcS,leafOk,eqDs,eqD,packA,D.val?,↓reduceIte,reduceCtorEq,Nat.reduceAdd,Nat.reduceSub,Nat.reduceMul,List.reduceReplicate,Nat.reduceLeDiff,Nat.reduceLT,Nat.reduceBEq,Nat.reduceEqDiff,Int.reduceNeg,Int.reduceEq,Int.reduceLE,Int.reduceLT,tfb,D.flat,D.flats,ctz47,eq_self, hlt', d1b, hk6, hlen, hget, d2, Nat.mul_one]
    trace_state
    repeat (refine And.intro (by omega) ?_)
    exact ⟨k + 1, ⟨by omega, by omega⟩, ⟨by rw [hs]; rfl, rfl⟩, wk_self _⟩
  · have hs : cnT T t m (k + 1) = cnT T t m k := cnN_no (cnB_no d1 d2)
    simp (maxSteps := 4000000) +contextual (disch := first | omega | exact qdb_ok (by kernel_rfl) | exact okb_ok (by kernel_rfl)) only [bw1,bw2,bw3,bw4,bw5,bw6,bw7,bc0,bc1,bc2,bc3,bc4,bc5,bc6,bc7,bb0,setPs,AV.owns,AV.datF,AV.frz,AV.cpy,ifV,isEqB,nilV,nilX,AV.isNilS,AV.isNoRows,wk,dclo,datOf,binIs,addF,AV.isPtr,idxV,AV.isSl,AV.isSlice,AV.rows,ps,pv,extV,extS,AV.outs,AV.outF,packD,AV.dl,fieldV,fieldS,AV.cells?,AV.upr,AV.menc,AV.one,D.one,Value.oneCell',tagOf,AV.isApp,strV,strS,bolV,bolS,slcV,AV.isSlD,asrtS,AV.dcells,D.cells?,stcV,stcS,leafOk,eqDs,eqD,packA,D.val?,↓reduceIte,reduceCtorEq,Nat.reduceAdd,Nat.reduceSub,Nat.reduceMul,List.reduceReplicate,Nat.reduceLeDiff,Nat.reduceLT,Nat.reduceBEq,Nat.reduceEqDiff,Int.reduceNeg,Int.reduceEq,Int.reduceLE,Int.reduceLT,tfb,D.flat,D.flats,ctz47,eq_self, hlt', d1b, hk6, hlen, hget, d2, Nat.mul_one]
    repeat (refine And.intro (by omega) ?_)
    exact ⟨k + 1, ⟨by omega, by omega⟩, ⟨by rw [hs], rfl⟩, wk_self _⟩
def ent47 (args : List AV) (K : AV → List AV → Sto → Prop) (e : List AV) (s : Sto) : Prop := ent (α := (List Int) × (Int) × (Nat) × (Int)) (fun aa => [.agg (tv aa.1), .i aa.2.1, .i (aa.2.2.1 : Int), .i aa.2.2.2]) (fun aa => aa.1.length = 6 ∧ aa.2.2.1 ≤ 6) (fun aa => .i (cnT aa.1 aa.2.1 aa.2.2.2 aa.2.2.1 : Int)) args K e s
theorem ent47_ok {args : List AV} {K : AV → List AV → Sto → Prop} {Q : Kt} {e : List AV} {s : Sto} (h : ent47 args K e s) : pcall Tryd.prog 47 args K Q e s := ent_ok (fun aa h => pf47 aa.1 aa.2.1 aa.2.2.1 aa.2.2.2 h) h
theorem eq47 {T : List Int} {t : Int} {n : Nat} {m : Int} {KK : AV → List AV → Sto → Prop} {ee : List AV} {ss : Sto} : ent47 [.d (.agg (tv T)), .d (.i t), .d (.i (n : Int)), .d (.i m)] KK ee ss = ((T.length = 6 ∧ n ≤ 6) ∧ KK (.d (.i (cnT T t m n : Int))) ee ss) := by
  unfold ent47; rw [ent_iff (T, t, n, m) (by intro b h; simpa [Prod.ext_iff, and_assoc, Int.ofNat_inj, ints_inj, gams_inj, fars_inj, gam_inj, lea_inj, Int.ofNat_inj, ints_inj, gams_inj, fars_inj, gam_inj, lea_inj, stds_inj, std_inj, Int.ofNat_inj, ints_inj, gams_inj, fars_inj, gam_inj, lea_inj, tv_inj] using h) rfl]; simp
end Go.Proofs.YtmajlffglplcnaaDoor
