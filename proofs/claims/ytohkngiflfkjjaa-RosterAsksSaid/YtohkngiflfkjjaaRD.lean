/- A part of the proof that the last text ends: what functions of the program do, told by plain data. -/
import Derived.Test.YtohkngiflfkjjaaRC
set_option linter.unusedVariables false
set_option linter.unusedSimpArgs false
namespace Go.Proofs.Ytohkngiflfkjjaa
open Go Go.E
set_option maxRecDepth 100000
set_option maxHeartbeats 8000000
/-! ### The document: who there is, who has played -/
section
variable {α : Type} [Inhabited α] {q : α → Bool} {l : List α}
theorem any_no (h : ∀ j, j < l.length → q (l.getD j default) = false) : l.any q = false := by
  rw [List.any_eq_false]
  intro x hx
  obtain ⟨j, hj, rfl⟩ := List.getElem_of_mem hx
  have := h j hj
  rw [at_lt hj] at this
  simp [this]
theorem any_yes {j : Nat} (hj : j < l.length) (h : q (l.getD j default) = true) : l.any q = true := by
  rw [List.any_eq_true]
  exact ⟨_, List.getElem_mem hj, by rw [← at_lt hj]; exact h⟩
theorem upto_succ {p : Nat → Prop} {i : Nat} (h : ∀ j, j < i → p j) (h2 : p i) : ∀ j, j < i + 1 → p j := fun j hj => by
  rcases Nat.lt_or_ge j i with h3 | h3
  · exact h j h3
  · rw [show j = i by omega]; exact h2
end
def fndN (l : List Mem) (p : Int) : Nat → Nat → Int
  | 0, _ => -1
  | k + 1, i => if (l.getD i default).person = p then (i : Int) else fndN l p k (i + 1)
def fnd (l : List Mem) (p : Int) : Int := fndN l p l.length 0
def hitE (p d : Int) (x : Ev) : Bool := decide (x.kind = 6) && decide (x.day = d) && x.sheet.any fun y => decide (y = p)
def plB (l : List Ev) (p d : Int) : Bool := l.any (hitE p d)
def why (l : List Ev) (m : Mem) (d : Int) : List Int := (if 0 < m.ban then [1] else []) ++ ((if 0 < m.stage then [2] else []) ++ (if plB l m.person d = true then [3] else []))
structure St where
  mem : List Mem
  evs : List Ev
  deriving Inhabited, DecidableEq
abbrev St.c (s : St) : List D := [.sl 5 (s.mem.map Mem.c), .sl 5 (s.evs.map Ev.c)]
theorem st_inj {a b : St} : (a.mem = b.mem ∧ a.evs = b.evs) = (a = b) := by cases a; cases b; simp
def oneR (m : Mem) (x : Ev) : Mem × Int :=
  if x.kind = 1 then ({ m with ban := m.ban + x.n }, 0)
  else if x.kind = 2 then ({ m with stage := 1, since := x.day }, 0)
  else if x.kind = 3 then (if m.stage = 0 then (m, 6) else ({ m with stage := 1, since := x.day }, 0))
  else if x.kind = 4 then (if m.stage = 0 ∨ m.stage = 6 then (m, 6) else if x.day ≤ m.since then (m, 11) else ({ m with stage := m.stage + 1, since := x.day }, 0))
  else if ¬ m.stage = 6 then (m, 6) else if x.day ≤ m.since then (m, 11) else ({ m with stage := 0, since := x.day }, 0)
def EvsOk (l : List Ev) : Prop := l.length ≤ 1000 ∧ ∀ x ∈ l, x.sheet.length ≤ 100000
def O38 : Nat → Sch := fun id => .done
theorem ho38 : Try.f38.body.map (okO O38) = some true := by kernel_rfl
def Cf38 : Nat → List AV → (AV → List AV → Sto → Prop) → Kt → List AV → Sto → Prop := fun f args K Q e s => match f with
  | _ => False
def Ct38 : CT := { f := Cf38, y := noYld, z := fun d => false }
theorem ctz38 {d : Nat} : CT.z Ct38 d = (false) := id rfl
theorem Ct38_ok : Ct38.ok Try.prog := ok_of_f (fun f args K Q e s h => by
  have h : Cf38 f args K Q e s := h
  unfold Cf38 at h; split at h
  · exact h.elim) (fun _ _ _ _ _ _ _ _ _ h => h)
theorem c38 : callable Try.prog 38 = true := by kernel_rfl
theorem pf38 (l : List Mem) (p : Int) (h : l.length ≤ 100000) : PF Try.prog 38 [.sl 5 (l.map Mem.c), .i p] (fun zz => zz = .ret (.i (fnd l p))) := by
  refine PF_nil (PF_start (O := O38) Ct38_ok hmix ho38 Try.func38 c38 rfl Try.ntmps38 Try.results38 ?_)
  simp (maxSteps := 4000000) +contextual (disch := first | omega | exact qdb_ok (by kernel_rfl) | exact okb_ok (by kernel_rfl)) only [bw1,bw2,bw3,bw4,bw5,bw6,bw7,bc0,bc1,bc2,bc3,bc4,bc5,bc6,bc7,bb0,setPs,AV.owns,AV.datF,AV.frz,AV.cpy,ifV,isEqB,nilV,nilX,AV.isNilS,AV.isNoRows,wk,dclo,datOf,binIs,addF,AV.isPtr,idxV,AV.isSl,AV.isSlice,AV.rows,ps,pv,extV,extS,AV.outs,AV.outF,packD,AV.dl,fieldV,fieldS,AV.cells?,AV.upr,AV.menc,AV.one,D.one,Value.oneCell',tagOf,AV.isApp,strV,strS,bolV,bolS,slcV,AV.isSlD,asrtS,AV.dcells,D.cells?,stcV,stcS,leafOk,eqDs,eqD,packA,D.val?,↓reduceIte,reduceCtorEq,Nat.reduceAdd,Nat.reduceSub,Nat.reduceMul,List.reduceReplicate,Nat.reduceLeDiff,Nat.reduceLT,Nat.reduceBEq,Nat.reduceEqDiff,Int.reduceNeg,Int.reduceEq,Int.reduceLE,Int.reduceLT,tfb,ctz38]
  refine loop_s (O := O38) (tb := 0) Ct38_ok hmix (by kernel_rfl) (σ := Nat) (fun i => [(5, .i i)]) (fun i => i ≤ l.length ∧ fndN l p (l.length - i) i = fndN l p l.length 0) (fun i => l.length - i) (fun i => i + 1) 0 ⟨by omega, rfl⟩ ?_ ?_
  · simp (maxSteps := 4000000) +contextual (disch := first | omega | exact qdb_ok (by kernel_rfl) | exact okb_ok (by kernel_rfl)) only [bw1,bw2,bw3,bw4,bw5,bw6,bw7,bc0,bc1,bc2,bc3,bc4,bc5,bc6,bc7,bb0,setPs,AV.owns,AV.datF,AV.frz,AV.cpy,ifV,isEqB,nilV,nilX,AV.isNilS,AV.isNoRows,wk,dclo,datOf,binIs,addF,AV.isPtr,idxV,AV.isSl,AV.isSlice,AV.rows,ps,pv,extV,extS,AV.outs,AV.outF,packD,AV.dl,fieldV,fieldS,AV.cells?,AV.upr,AV.menc,AV.one,D.one,Value.oneCell',tagOf,AV.isApp,strV,strS,bolV,bolS,slcV,AV.isSlD,asrtS,AV.dcells,D.cells?,stcV,stcS,leafOk,eqDs,eqD,packA,D.val?,↓reduceIte,reduceCtorEq,Nat.reduceAdd,Nat.reduceSub,Nat.reduceMul,List.reduceReplicate,Nat.reduceLeDiff,Nat.reduceLT,Nat.reduceBEq,Nat.reduceEqDiff,Int.reduceNeg,Int.reduceEq,Int.reduceLE,Int.reduceLT,tfb,ctz38]
  rintro i ⟨hi, hw⟩
  by_cases hlt : i < l.length
  · have hlt' : (i : Int) < l.length := by omega
    rw [show l.length - i = (l.length - (i + 1)) + 1 by omega, fndN] at hw
    by_cases c : (l.getD i default).person = p
    · rw [if_pos c] at hw
      simp (maxSteps := 4000000) +contextual (disch := first | omega | exact qdb_ok (by kernel_rfl) | exact okb_ok (by kernel_rfl)) only [bw1,bw2,bw3,bw4,bw5,bw6,bw7,bc0,bc1,bc2,bc3,bc4,bc5,bc6,bc7,bb0,setPs,AV.owns,AV.datF,AV.frz,AV.cpy,ifV,isEqB,nilV,nilX,AV.isNilS,AV.isNoRows,wk,dclo,datOf,binIs,addF,AV.isPtr,idxV,AV.isSl,AV.isSlice,AV.rows,ps,pv,extV,extS,AV.outs,AV.outF,packD,AV.dl,fieldV,fieldS,AV.cells?,AV.upr,AV.menc,AV.one,D.one,Value.oneCell',tagOf,AV.isApp,strV,strS,bolV,bolS,slcV,AV.isSlD,asrtS,AV.dcells,D.cells?,stcV,stcS,leafOk,eqDs,eqD,packA,D.val?,↓reduceIte,reduceCtorEq,Nat.reduceAdd,Nat.reduceSub,Nat.reduceMul,List.reduceReplicate,Nat.reduceLeDiff,Nat.reduceLT,Nat.reduceBEq,Nat.reduceEqDiff,Int.reduceNeg,Int.reduceEq,Int.reduceLE,Int.reduceLT,tfb,ctz38,eq_self, hlt', c, ← hw, fnd]
      try omega
    · rw [if_neg c] at hw
      simp (maxSteps := 4000000) +contextual (disch := first | omega | exact qdb_ok (by kernel_rfl) | exact okb_ok (by kernel_rfl)) only [bw1,bw2,bw3,bw4,bw5,bw6,bw7,bc0,bc1,bc2,bc3,bc4,bc5,bc6,bc7,bb0,setPs,AV.owns,AV.datF,AV.frz,AV.cpy,ifV,isEqB,nilV,nilX,AV.isNilS,AV.isNoRows,wk,dclo,datOf,binIs,addF,AV.isPtr,idxV,AV.isSl,AV.isSlice,AV.rows,ps,pv,extV,extS,AV.outs,AV.outF,packD,AV.dl,fieldV,fieldS,AV.cells?,AV.upr,AV.menc,AV.one,D.one,Value.oneCell',tagOf,AV.isApp,strV,strS,bolV,bolS,slcV,AV.isSlD,asrtS,AV.dcells,D.cells?,stcV,stcS,leafOk,eqDs,eqD,packA,D.val?,↓reduceIte,reduceCtorEq,Nat.reduceAdd,Nat.reduceSub,Nat.reduceMul,List.reduceReplicate,Nat.reduceLeDiff,Nat.reduceLT,Nat.reduceBEq,Nat.reduceEqDiff,Int.reduceNeg,Int.reduceEq,Int.reduceLE,Int.reduceLT,tfb,ctz38,eq_self, hlt', c]
      and_intros <;> first | omega | exact hw
  · have hlt' : ¬ (i : Int) < l.length := by omega
    rw [show l.length - i = 0 by omega, fndN] at hw
    unfold fnd
    rw [← hw]
    simp (maxSteps := 4000000) +contextual (disch := first | omega | exact qdb_ok (by kernel_rfl) | exact okb_ok (by kernel_rfl)) only [bw1,bw2,bw3,bw4,bw5,bw6,bw7,bc0,bc1,bc2,bc3,bc4,bc5,bc6,bc7,bb0,setPs,AV.owns,AV.datF,AV.frz,AV.cpy,ifV,isEqB,nilV,nilX,AV.isNilS,AV.isNoRows,wk,dclo,datOf,binIs,addF,AV.isPtr,idxV,AV.isSl,AV.isSlice,AV.rows,ps,pv,extV,extS,AV.outs,AV.outF,packD,AV.dl,fieldV,fieldS,AV.cells?,AV.upr,AV.menc,AV.one,D.one,Value.oneCell',tagOf,AV.isApp,strV,strS,bolV,bolS,slcV,AV.isSlD,asrtS,AV.dcells,D.cells?,stcV,stcS,leafOk,eqDs,eqD,packA,D.val?,↓reduceIte,reduceCtorEq,Nat.reduceAdd,Nat.reduceSub,Nat.reduceMul,List.reduceReplicate,Nat.reduceLeDiff,Nat.reduceLT,Nat.reduceBEq,Nat.reduceEqDiff,Int.reduceNeg,Int.reduceEq,Int.reduceLE,Int.reduceLT,tfb,ctz38,eq_self, hlt']
def ent38 (args : List AV) (K : AV → List AV → Sto → Prop) (e : List AV) (s : Sto) : Prop := ent (α := (List Mem) × (Int)) (fun aa => [.sl 5 (aa.1.map Mem.c), .i aa.2]) (fun aa => aa.1.length ≤ 100000) (fun aa => .i (fnd aa.1 aa.2)) args K e s
theorem ent38_ok {args : List AV} {K : AV → List AV → Sto → Prop} {Q : Kt} {e : List AV} {s : Sto} (h : ent38 args K e s) : pcall Try.prog 38 args K Q e s := ent_ok (fun aa h => pf38 aa.1 aa.2 h) h
theorem eq38 {l : List Mem} {p : Int} {KK : AV → List AV → Sto → Prop} {ee : List AV} {ss : Sto} : ent38 [.d (.sl 5 (l.map Mem.c)), .d (.i p)] KK ee ss = ((l.length ≤ 100000) ∧ KK (.d (.i (fnd l p))) ee ss) := by
  unfold ent38; rw [ent_iff (l, p) (by intro b h; simpa [Prod.ext_iff, and_assoc, Int.ofNat_inj, ints_inj, evs_inj, mems_inj, ev_inj, mem_inj, st_inj] using h) rfl]; simp
theorem eqo38 {l : List Mem} {p : Int} {g1 el1 : Nat} {KK : AV → List AV → Sto → Prop} {ee : List AV} {ss : Sto} : ent38 [.own g1 el1 5 (l.map Mem.c), .d (.i p)] KK ee ss = ((l.length ≤ 100000) ∧ (.i (fnd l p) : D).flat = true ∧ KK (.d (.i (fnd l p))) ee ss) := by
  unfold ent38; rw [ent_iff (l, p) (by intro b h; simpa [Prod.ext_iff, and_assoc, Int.ofNat_inj, ints_inj, evs_inj, mems_inj, ev_inj, mem_inj, st_inj] using h) rfl]; simp
def O59 : Nat → Sch := fun id => .done
theorem ho59 : Try.f59.body.map (okO O59) = some true := by kernel_rfl
def Cf59 : Nat → List AV → (AV → List AV → Sto → Prop) → Kt → List AV → Sto → Prop := fun f args K Q e s => match f with
  | _ => False
def Ct59 : CT := { f := Cf59, y := noYld, z := fun d => false }
theorem ctz59 {d : Nat} : CT.z Ct59 d = (false) := id rfl
theorem Ct59_ok : Ct59.ok Try.prog := ok_of_f (fun f args K Q e s h => by
  have h : Cf59 f args K Q e s := h
  unfold Cf59 at h; split at h
  · exact h.elim) (fun _ _ _ _ _ _ _ _ _ h => h)
theorem c59 : callable Try.prog 59 = true := by kernel_rfl
theorem pf59 (s : St) (p d : Int) (h : EvsOk s.evs) : PF Try.prog 59 [.agg s.c, .i p, .i d] (fun zz => zz = .ret (.b (plB s.evs p d))) := by
  obtain ⟨h1, h2⟩ := h
  obtain ⟨mem, l⟩ := s
  simp only at h1 h2 ⊢
  refine PF_nil (PF_start (O := O59) Ct59_ok hmix ho59 Try.func59 c59 rfl Try.ntmps59 Try.results59 ?_)
  simp (maxSteps := 4000000) +contextual (disch := first | omega | exact qdb_ok (by kernel_rfl) | exact okb_ok (by kernel_rfl)) only [bw1,bw2,bw3,bw4,bw5,bw6,bw7,bc0,bc1,bc2,bc3,bc4,bc5,bc6,bc7,bb0,setPs,AV.owns,AV.datF,AV.frz,AV.cpy,ifV,isEqB,nilV,nilX,AV.isNilS,AV.isNoRows,wk,dclo,datOf,binIs,addF,AV.isPtr,idxV,AV.isSl,AV.isSlice,AV.rows,ps,pv,extV,extS,AV.outs,AV.outF,packD,AV.dl,fieldV,fieldS,AV.cells?,AV.upr,AV.menc,AV.one,D.one,Value.oneCell',tagOf,AV.isApp,strV,strS,bolV,bolS,slcV,AV.isSlD,asrtS,AV.dcells,D.cells?,stcV,stcS,leafOk,eqDs,eqD,packA,D.val?,↓reduceIte,reduceCtorEq,Nat.reduceAdd,Nat.reduceSub,Nat.reduceMul,List.reduceReplicate,Nat.reduceLeDiff,Nat.reduceLT,Nat.reduceBEq,Nat.reduceEqDiff,Int.reduceNeg,Int.reduceEq,Int.reduceLE,Int.reduceLT,tfb,ctz59]
  refine loop_u (O := O59) (tb := 0) Ct59_ok hmix (by kernel_rfl) (σ := Nat) (fun i => [(8, .any), (9, .any), (7, .i i)]) (fun i => [(4, [.d (.sl 5 (mem.map Mem.c)), .d (.sl 5 (l.map Ev.c))])]) (fun i => i ≤ l.length ∧ ∀ j, j < i → hitE p d (l.getD j default) = false) (fun i => l.length - i) (fun i => i + 1) 0 ⟨by omega, fun j h => by omega⟩ ?_ ?_
  · simp (maxSteps := 4000000) +contextual (disch := first | omega | exact qdb_ok (by kernel_rfl) | exact okb_ok (by kernel_rfl)) only [bw1,bw2,bw3,bw4,bw5,bw6,bw7,bc0,bc1,bc2,bc3,bc4,bc5,bc6,bc7,bb0,setPs,AV.owns,AV.datF,AV.frz,AV.cpy,ifV,isEqB,nilV,nilX,AV.isNilS,AV.isNoRows,wk,dclo,datOf,binIs,addF,AV.isPtr,idxV,AV.isSl,AV.isSlice,AV.rows,ps,pv,extV,extS,AV.outs,AV.outF,packD,AV.dl,fieldV,fieldS,AV.cells?,AV.upr,AV.menc,AV.one,D.one,Value.oneCell',tagOf,AV.isApp,strV,strS,bolV,bolS,slcV,AV.isSlD,asrtS,AV.dcells,D.cells?,stcV,stcS,leafOk,eqDs,eqD,packA,D.val?,↓reduceIte,reduceCtorEq,Nat.reduceAdd,Nat.reduceSub,Nat.reduceMul,List.reduceReplicate,Nat.reduceLeDiff,Nat.reduceLT,Nat.reduceBEq,Nat.reduceEqDiff,Int.reduceNeg,Int.reduceEq,Int.reduceLE,Int.reduceLT,tfb,ctz59]
  rintro i ⟨hi, hw⟩
  by_cases hlt : i < l.length
  · have hlt' : (i : Int) < l.length := by omega
    have hx := h2 (l.getD i default) (by rw [at_lt hlt]; exact List.getElem_mem _)
    generalize hxe : l.getD i default = x at hx
    have hrow : (l.map Ev.c).getD i [] = Ev.c x := by rw [row_at hlt, hxe]
    by_cases k6 : x.kind = 6
    case neg =>
      have k6b : (x.kind != 6) = true := by simpa using k6
      have hno : hitE p d (l.getD i default) = false := by rw [hxe]; unfold hitE; rw [decide_eq_false k6]; rfl
      simp (maxSteps := 4000000) +contextual (disch := first | omega | exact qdb_ok (by kernel_rfl) | exact okb_ok (by kernel_rfl)) only [bw1,bw2,bw3,bw4,bw5,bw6,bw7,bc0,bc1,bc2,bc3,bc4,bc5,bc6,bc7,bb0,setPs,AV.owns,AV.datF,AV.frz,AV.cpy,ifV,isEqB,nilV,nilX,AV.isNilS,AV.isNoRows,wk,dclo,datOf,binIs,addF,AV.isPtr,idxV,AV.isSl,AV.isSlice,AV.rows,ps,pv,extV,extS,AV.outs,AV.outF,packD,AV.dl,fieldV,fieldS,AV.cells?,AV.upr,AV.menc,AV.one,D.one,Value.oneCell',tagOf,AV.isApp,strV,strS,bolV,bolS,slcV,AV.isSlD,asrtS,AV.dcells,D.cells?,stcV,stcS,leafOk,eqDs,eqD,packA,D.val?,↓reduceIte,reduceCtorEq,Nat.reduceAdd,Nat.reduceSub,Nat.reduceMul,List.reduceReplicate,Nat.reduceLeDiff,Nat.reduceLT,Nat.reduceBEq,Nat.reduceEqDiff,Int.reduceNeg,Int.reduceEq,Int.reduceLE,Int.reduceLT,tfb,ctz59,eq_self, hlt', hrow, k6, k6b]
      and_intros <;> first | omega | exact upto_succ hw hno
    have k6b : (x.kind != 6) = false := by simpa using k6
    by_cases kd : x.day = d
    case neg =>
      have kdb : (x.day != d) = true := by simpa using kd
      have hno : hitE p d (l.getD i default) = false := by rw [hxe]; unfold hitE; rw [decide_eq_false kd]; simp
      simp (maxSteps := 4000000) +contextual (disch := first | omega | exact qdb_ok (by kernel_rfl) | exact okb_ok (by kernel_rfl)) only [bw1,bw2,bw3,bw4,bw5,bw6,bw7,bc0,bc1,bc2,bc3,bc4,bc5,bc6,bc7,bb0,setPs,AV.owns,AV.datF,AV.frz,AV.cpy,ifV,isEqB,nilV,nilX,AV.isNilS,AV.isNoRows,wk,dclo,datOf,binIs,addF,AV.isPtr,idxV,AV.isSl,AV.isSlice,AV.rows,ps,pv,extV,extS,AV.outs,AV.outF,packD,AV.dl,fieldV,fieldS,AV.cells?,AV.upr,AV.menc,AV.one,D.one,Value.oneCell',tagOf,AV.isApp,strV,strS,bolV,bolS,slcV,AV.isSlD,asrtS,AV.dcells,D.cells?,stcV,stcS,leafOk,eqDs,eqD,packA,D.val?,↓reduceIte,reduceCtorEq,Nat.reduceAdd,Nat.reduceSub,Nat.reduceMul,List.reduceReplicate,Nat.reduceLeDiff,Nat.reduceLT,Nat.reduceBEq,Nat.reduceEqDiff,Int.reduceNeg,Int.reduceEq,Int.reduceLE,Int.reduceLT,tfb,ctz59,eq_self, hlt', hrow, k6, k6b, kd, kdb]
      and_intros <;> first | omega | exact upto_succ hw hno
    have kdb : (x.day != d) = false := by simpa using kd
    obtain ⟨day, kind, person, n, sh⟩ := x
    simp only at k6 kd k6b kdb hx
    subst k6; subst kd
    simp (maxSteps := 4000000) +contextual (disch := first | omega | exact qdb_ok (by kernel_rfl) | exact okb_ok (by kernel_rfl)) only [bw1,bw2,bw3,bw4,bw5,bw6,bw7,bc0,bc1,bc2,bc3,bc4,bc5,bc6,bc7,bb0,setPs,AV.owns,AV.datF,AV.frz,AV.cpy,ifV,isEqB,nilV,nilX,AV.isNilS,AV.isNoRows,wk,dclo,datOf,binIs,addF,AV.isPtr,idxV,AV.isSl,AV.isSlice,AV.rows,ps,pv,extV,extS,AV.outs,AV.outF,packD,AV.dl,fieldV,fieldS,AV.cells?,AV.upr,AV.menc,AV.one,D.one,Value.oneCell',tagOf,AV.isApp,strV,strS,bolV,bolS,slcV,AV.isSlD,asrtS,AV.dcells,D.cells?,stcV,stcS,leafOk,eqDs,eqD,packA,D.val?,↓reduceIte,reduceCtorEq,Nat.reduceAdd,Nat.reduceSub,Nat.reduceMul,List.reduceReplicate,Nat.reduceLeDiff,Nat.reduceLT,Nat.reduceBEq,Nat.reduceEqDiff,Int.reduceNeg,Int.reduceEq,Int.reduceLE,Int.reduceLT,tfb,ctz59,eq_self, hlt', hrow, bne_self_eq_false]
    refine ⟨by omega, ?_⟩
    refine loop_u (O := O59) (tb := 0) Ct59_ok hmix (by kernel_rfl) (σ := Nat) (fun k => [(9, .i k)]) (fun k => [(4, [.d (.sl 5 (mem.map Mem.c)), .d (.sl 5 (l.map Ev.c))]), (9, [.d (.i day), .d (.i 6), .d (.i person), .d (.i n), .d (.sl 1 (sh.map ic))])]) (fun k => k ≤ sh.length ∧ ∀ j, j < k → decide (sh.getD j default = p) = false) (fun k => sh.length - k) (fun k => k + 1) 0 ⟨by omega, fun j h => by omega⟩ ?_ ?_
    · simp (maxSteps := 4000000) +contextual (disch := first | omega | exact qdb_ok (by kernel_rfl) | exact okb_ok (by kernel_rfl)) only [bw1,bw2,bw3,bw4,bw5,bw6,bw7,bc0,bc1,bc2,bc3,bc4,bc5,bc6,bc7,bb0,setPs,AV.owns,AV.datF,AV.frz,AV.cpy,ifV,isEqB,nilV,nilX,AV.isNilS,AV.isNoRows,wk,dclo,datOf,binIs,addF,AV.isPtr,idxV,AV.isSl,AV.isSlice,AV.rows,ps,pv,extV,extS,AV.outs,AV.outF,packD,AV.dl,fieldV,fieldS,AV.cells?,AV.upr,AV.menc,AV.one,D.one,Value.oneCell',tagOf,AV.isApp,strV,strS,bolV,bolS,slcV,AV.isSlD,asrtS,AV.dcells,D.cells?,stcV,stcS,leafOk,eqDs,eqD,packA,D.val?,↓reduceIte,reduceCtorEq,Nat.reduceAdd,Nat.reduceSub,Nat.reduceMul,List.reduceReplicate,Nat.reduceLeDiff,Nat.reduceLT,Nat.reduceBEq,Nat.reduceEqDiff,Int.reduceNeg,Int.reduceEq,Int.reduceLE,Int.reduceLT,tfb,ctz59]
    rintro k ⟨hk, hwk⟩
    by_cases hkl : k < sh.length
    · have hkl' : (k : Int) < sh.length := by omega
      by_cases c : sh.getD k default = p
      · have hyes : hitE p day (l.getD i default) = true := by
          rw [hxe]
          unfold hitE
          simp only [decide_true, Bool.true_and]
          exact any_yes hkl (decide_eq_true c)
        have hpl : plB l p day = true := any_yes hlt hyes
        rw [hpl]
        simp (maxSteps := 4000000) +contextual (disch := first | omega | exact qdb_ok (by kernel_rfl) | exact okb_ok (by kernel_rfl)) only [bw1,bw2,bw3,bw4,bw5,bw6,bw7,bc0,bc1,bc2,bc3,bc4,bc5,bc6,bc7,bb0,setPs,AV.owns,AV.datF,AV.frz,AV.cpy,ifV,isEqB,nilV,nilX,AV.isNilS,AV.isNoRows,wk,dclo,datOf,binIs,addF,AV.isPtr,idxV,AV.isSl,AV.isSlice,AV.rows,ps,pv,extV,extS,AV.outs,AV.outF,packD,AV.dl,fieldV,fieldS,AV.cells?,AV.upr,AV.menc,AV.one,D.one,Value.oneCell',tagOf,AV.isApp,strV,strS,bolV,bolS,slcV,AV.isSlD,asrtS,AV.dcells,D.cells?,stcV,stcS,leafOk,eqDs,eqD,packA,D.val?,↓reduceIte,reduceCtorEq,Nat.reduceAdd,Nat.reduceSub,Nat.reduceMul,List.reduceReplicate,Nat.reduceLeDiff,Nat.reduceLT,Nat.reduceBEq,Nat.reduceEqDiff,Int.reduceNeg,Int.reduceEq,Int.reduceLE,Int.reduceLT,tfb,ctz59,eq_self, hkl', c]
        try omega
      · simp (maxSteps := 4000000) +contextual (disch := first | omega | exact qdb_ok (by kernel_rfl) | exact okb_ok (by kernel_rfl)) only [bw1,bw2,bw3,bw4,bw5,bw6,bw7,bc0,bc1,bc2,bc3,bc4,bc5,bc6,bc7,bb0,setPs,AV.owns,AV.datF,AV.frz,AV.cpy,ifV,isEqB,nilV,nilX,AV.isNilS,AV.isNoRows,wk,dclo,datOf,binIs,addF,AV.isPtr,idxV,AV.isSl,AV.isSlice,AV.rows,ps,pv,extV,extS,AV.outs,AV.outF,packD,AV.dl,fieldV,fieldS,AV.cells?,AV.upr,AV.menc,AV.one,D.one,Value.oneCell',tagOf,AV.isApp,strV,strS,bolV,bolS,slcV,AV.isSlD,asrtS,AV.dcells,D.cells?,stcV,stcS,leafOk,eqDs,eqD,packA,D.val?,↓reduceIte,reduceCtorEq,Nat.reduceAdd,Nat.reduceSub,Nat.reduceMul,List.reduceReplicate,Nat.reduceLeDiff,Nat.reduceLT,Nat.reduceBEq,Nat.reduceEqDiff,Int.reduceNeg,Int.reduceEq,Int.reduceLE,Int.reduceLT,tfb,ctz59,eq_self, hkl', c]
        and_intros <;> first | omega | exact upto_succ hwk (decide_eq_false c)
    · have hkl' : ¬ (k : Int) < sh.length := by omega
      have hno : hitE p day (l.getD i default) = false := by
        rw [hxe]
        unfold hitE
        simp only [decide_true, Bool.true_and]
        exact any_no fun j hj => hwk j (by omega)
      simp (maxSteps := 4000000) +contextual (disch := first | omega | exact qdb_ok (by kernel_rfl) | exact okb_ok (by kernel_rfl)) only [bw1,bw2,bw3,bw4,bw5,bw6,bw7,bc0,bc1,bc2,bc3,bc4,bc5,bc6,bc7,bb0,setPs,AV.owns,AV.datF,AV.frz,AV.cpy,ifV,isEqB,nilV,nilX,AV.isNilS,AV.isNoRows,wk,dclo,datOf,binIs,addF,AV.isPtr,idxV,AV.isSl,AV.isSlice,AV.rows,ps,pv,extV,extS,AV.outs,AV.outF,packD,AV.dl,fieldV,fieldS,AV.cells?,AV.upr,AV.menc,AV.one,D.one,Value.oneCell',tagOf,AV.isApp,strV,strS,bolV,bolS,slcV,AV.isSlD,asrtS,AV.dcells,D.cells?,stcV,stcS,leafOk,eqDs,eqD,packA,D.val?,↓reduceIte,reduceCtorEq,Nat.reduceAdd,Nat.reduceSub,Nat.reduceMul,List.reduceReplicate,Nat.reduceLeDiff,Nat.reduceLT,Nat.reduceBEq,Nat.reduceEqDiff,Int.reduceNeg,Int.reduceEq,Int.reduceLE,Int.reduceLT,tfb,ctz59,eq_self, hkl']
      and_intros <;> first | omega | exact upto_succ hw hno
  · have hlt' : ¬ (i : Int) < l.length := by omega
    have hn : plB l p d = false := any_no fun j hj => hw j (by omega)
    rw [hn]
    simp (maxSteps := 4000000) +contextual (disch := first | omega | exact qdb_ok (by kernel_rfl) | exact okb_ok (by kernel_rfl)) only [bw1,bw2,bw3,bw4,bw5,bw6,bw7,bc0,bc1,bc2,bc3,bc4,bc5,bc6,bc7,bb0,setPs,AV.owns,AV.datF,AV.frz,AV.cpy,ifV,isEqB,nilV,nilX,AV.isNilS,AV.isNoRows,wk,dclo,datOf,binIs,addF,AV.isPtr,idxV,AV.isSl,AV.isSlice,AV.rows,ps,pv,extV,extS,AV.outs,AV.outF,packD,AV.dl,fieldV,fieldS,AV.cells?,AV.upr,AV.menc,AV.one,D.one,Value.oneCell',tagOf,AV.isApp,strV,strS,bolV,bolS,slcV,AV.isSlD,asrtS,AV.dcells,D.cells?,stcV,stcS,leafOk,eqDs,eqD,packA,D.val?,↓reduceIte,reduceCtorEq,Nat.reduceAdd,Nat.reduceSub,Nat.reduceMul,List.reduceReplicate,Nat.reduceLeDiff,Nat.reduceLT,Nat.reduceBEq,Nat.reduceEqDiff,Int.reduceNeg,Int.reduceEq,Int.reduceLE,Int.reduceLT,tfb,ctz59,eq_self, hlt']
def ent59 (args : List AV) (K : AV → List AV → Sto → Prop) (e : List AV) (s : Sto) : Prop := ent (α := (St) × (Int) × (Int)) (fun aa => [.agg aa.1.c, .i aa.2.1, .i aa.2.2]) (fun aa => EvsOk aa.1.evs) (fun aa => .b (plB aa.1.evs aa.2.1 aa.2.2)) args K e s
theorem ent59_ok {args : List AV} {K : AV → List AV → Sto → Prop} {Q : Kt} {e : List AV} {s : Sto} (h : ent59 args K e s) : pcall Try.prog 59 args K Q e s := ent_ok (fun aa h => pf59 aa.1 aa.2.1 aa.2.2 h) h
theorem eq59 {s : St} {p : Int} {d : Int} {KK : AV → List AV → Sto → Prop} {ee : List AV} {ss : Sto} : ent59 [.d (.agg s.c), .d (.i p), .d (.i d)] KK ee ss = ((EvsOk s.evs) ∧ KK (.d (.b (plB s.evs p d))) ee ss) := by
  unfold ent59; rw [ent_iff (s, p, d) (by intro b h; simpa [Prod.ext_iff, and_assoc, Int.ofNat_inj, ints_inj, evs_inj, mems_inj, ev_inj, mem_inj, st_inj] using h) rfl]; simp
def O40 : Nat → Sch := fun id => .done
theorem ho40 : Try.f40.body.map (okO O40) = some true := by kernel_rfl
def Cf40 : Nat → List AV → (AV → List AV → Sto → Prop) → Kt → List AV → Sto → Prop := fun f args K Q e s => match f with
  | 59 => ent59 args K e s
  | _ => False
def Ct40 : CT := { f := Cf40, y := noYld, z := fun d => false }
theorem ctz40 {d : Nat} : CT.z Ct40 d = (false) := id rfl
theorem Ct40_ok : Ct40.ok Try.prog := ok_of_f (fun f args K Q e s h => by
  have h : Cf40 f args K Q e s := h
  unfold Cf40 at h; split at h
  · exact ent59_ok h
  · exact h.elim) (fun _ _ _ _ _ _ _ _ _ h => h)
theorem x40_59 {s : St} {p : Int} {d : Int} {KK : AV → List AV → Sto → Prop} {QQ : Kt} {ii : At KK} {jj : At QQ} {ee : List AV} {ss : Sto} : xC Ct40 59 [.d (.agg s.c), .d (.i p), .d (.i d)] KK QQ ii jj ee ss = ((EvsOk s.evs) ∧ KK (.d (.b (plB s.evs p d))) ee ss) := eq59
theorem c40 : callable Try.prog 40 = true := by kernel_rfl
theorem pf40 (s : St) (m : Mem) (d : Int) (h : EvsOk s.evs) : PF Try.prog 40 [.agg s.c, .agg m.c, .i d] (fun zz => zz = .ret (.sl 1 ((why s.evs m d).map ic))) := by
  refine PF_nil (PF_start (O := O40) Ct40_ok hmix ho40 Try.func40 c40 rfl Try.ntmps40 Try.results40 ?_)
  unfold why
  by_cases c1 : 0 < m.ban <;> by_cases c2 : 0 < m.stage <;> by_cases c3 : plB s.evs m.person d = true
  all_goals simp (maxSteps := 4000000) +contextual (disch := first | omega | exact qdb_ok (by kernel_rfl) | exact okb_ok (by kernel_rfl)) only [bw1,bw2,bw3,bw4,bw5,bw6,bw7,bc0,bc1,bc2,bc3,bc4,bc5,bc6,bc7,bb0,setPs,AV.owns,AV.datF,AV.frz,AV.cpy,ifV,isEqB,nilV,nilX,AV.isNilS,AV.isNoRows,wk,dclo,datOf,binIs,addF,AV.isPtr,idxV,AV.isSl,AV.isSlice,AV.rows,ps,pv,extV,extS,AV.outs,AV.outF,packD,AV.dl,fieldV,fieldS,AV.cells?,AV.upr,AV.menc,AV.one,D.one,Value.oneCell',tagOf,AV.isApp,strV,strS,bolV,bolS,slcV,AV.isSlD,asrtS,AV.dcells,D.cells?,stcV,stcS,leafOk,eqDs,eqD,packA,D.val?,↓reduceIte,reduceCtorEq,Nat.reduceAdd,Nat.reduceSub,Nat.reduceMul,List.reduceReplicate,Nat.reduceLeDiff,Nat.reduceLT,Nat.reduceBEq,Nat.reduceEqDiff,Int.reduceNeg,Int.reduceEq,Int.reduceLE,Int.reduceLT,tfb,ctz40,x40_59,h, c1, c2, c3]
  all_goals try rfl
def ent40 (args : List AV) (K : AV → List AV → Sto → Prop) (e : List AV) (s : Sto) : Prop := ent (α := (St) × (Mem) × (Int)) (fun aa => [.agg aa.1.c, .agg aa.2.1.c, .i aa.2.2]) (fun aa => EvsOk aa.1.evs) (fun aa => .sl 1 ((why aa.1.evs aa.2.1 aa.2.2).map ic)) args K e s
theorem ent40_ok {args : List AV} {K : AV → List AV → Sto → Prop} {Q : Kt} {e : List AV} {s : Sto} (h : ent40 args K e s) : pcall Try.prog 40 args K Q e s := ent_ok (fun aa h => pf40 aa.1 aa.2.1 aa.2.2 h) h
theorem eq40 {s : St} {m : Mem} {d : Int} {KK : AV → List AV → Sto → Prop} {ee : List AV} {ss : Sto} : ent40 [.d (.agg s.c), .d (.agg m.c), .d (.i d)] KK ee ss = ((EvsOk s.evs) ∧ KK (.d (.sl 1 ((why s.evs m d).map ic))) ee ss) := by
  unfold ent40; rw [ent_iff (s, m, d) (by intro b h; simpa [Prod.ext_iff, and_assoc, Int.ofNat_inj, ints_inj, evs_inj, mems_inj, ev_inj, mem_inj, st_inj] using h) rfl]; simp
def O79 : Nat → Sch := fun id => .done
theorem ho79 : Try.f79.body.map (okO O79) = some true := by kernel_rfl
def Cf79 : Nat → List AV → (AV → List AV → Sto → Prop) → Kt → List AV → Sto → Prop := fun f args K Q e s => match f with
  | _ => False
def Ct79 : CT := { f := Cf79, y := noYld, z := fun d => false }
theorem ctz79 {d : Nat} : CT.z Ct79 d = (false) := id rfl
theorem Ct79_ok : Ct79.ok Try.prog := ok_of_f (fun f args K Q e s h => by
  have h : Cf79 f args K Q e s := h
  unfold Cf79 at h; split at h
  · exact h.elim) (fun _ _ _ _ _ _ _ _ _ h => h)
theorem c79 : callable Try.prog 79 = true := by kernel_rfl
theorem pf79 (m : Mem) (x : Ev) (h : (-100000 ≤ m.ban ∧ m.ban ≤ 1000000 ∧ -1000 ≤ m.stage ∧ m.stage ≤ 1000) ∧ (0 ≤ x.n ∧ x.n ≤ 1000)) : PF Try.prog 79 [.agg m.c, .agg x.c] (fun zz => zz = .ret (.tup [.agg (oneR m x).1.c, .i (oneR m x).2])) := by
  obtain ⟨⟨h1, h2, h3, h4⟩, h5, h6⟩ := h
  refine PF_nil (PF_start (O := O79) Ct79_ok hmix ho79 Try.func79 c79 rfl Try.ntmps79 Try.results79 ?_)
  unfold oneR
  by_cases k1 : x.kind = 1
  · simp (maxSteps := 4000000) +contextual (disch := first | omega | exact qdb_ok (by kernel_rfl) | exact okb_ok (by kernel_rfl)) only [bw1,bw2,bw3,bw4,bw5,bw6,bw7,bc0,bc1,bc2,bc3,bc4,bc5,bc6,bc7,bb0,setPs,AV.owns,AV.datF,AV.frz,AV.cpy,ifV,isEqB,nilV,nilX,AV.isNilS,AV.isNoRows,wk,dclo,datOf,binIs,addF,AV.isPtr,idxV,AV.isSl,AV.isSlice,AV.rows,ps,pv,extV,extS,AV.outs,AV.outF,packD,AV.dl,fieldV,fieldS,AV.cells?,AV.upr,AV.menc,AV.one,D.one,Value.oneCell',tagOf,AV.isApp,strV,strS,bolV,bolS,slcV,AV.isSlD,asrtS,AV.dcells,D.cells?,stcV,stcS,leafOk,eqDs,eqD,packA,D.val?,↓reduceIte,reduceCtorEq,Nat.reduceAdd,Nat.reduceSub,Nat.reduceMul,List.reduceReplicate,Nat.reduceLeDiff,Nat.reduceLT,Nat.reduceBEq,Nat.reduceEqDiff,Int.reduceNeg,Int.reduceEq,Int.reduceLE,Int.reduceLT,tfb,ctz79,k1]
    try rfl
  by_cases k2 : x.kind = 2
  · simp (maxSteps := 4000000) +contextual (disch := first | omega | exact qdb_ok (by kernel_rfl) | exact okb_ok (by kernel_rfl)) only [bw1,bw2,bw3,bw4,bw5,bw6,bw7,bc0,bc1,bc2,bc3,bc4,bc5,bc6,bc7,bb0,setPs,AV.owns,AV.datF,AV.frz,AV.cpy,ifV,isEqB,nilV,nilX,AV.isNilS,AV.isNoRows,wk,dclo,datOf,binIs,addF,AV.isPtr,idxV,AV.isSl,AV.isSlice,AV.rows,ps,pv,extV,extS,AV.outs,AV.outF,packD,AV.dl,fieldV,fieldS,AV.cells?,AV.upr,AV.menc,AV.one,D.one,Value.oneCell',tagOf,AV.isApp,strV,strS,bolV,bolS,slcV,AV.isSlD,asrtS,AV.dcells,D.cells?,stcV,stcS,leafOk,eqDs,eqD,packA,D.val?,↓reduceIte,reduceCtorEq,Nat.reduceAdd,Nat.reduceSub,Nat.reduceMul,List.reduceReplicate,Nat.reduceLeDiff,Nat.reduceLT,Nat.reduceBEq,Nat.reduceEqDiff,Int.reduceNeg,Int.reduceEq,Int.reduceLE,Int.reduceLT,tfb,ctz79,k1, k2]
    try rfl
  by_cases k3 : x.kind = 3
  · by_cases c : m.stage = 0
    · simp (maxSteps := 4000000) +contextual (disch := first | omega | exact qdb_ok (by kernel_rfl) | exact okb_ok (by kernel_rfl)) only [bw1,bw2,bw3,bw4,bw5,bw6,bw7,bc0,bc1,bc2,bc3,bc4,bc5,bc6,bc7,bb0,setPs,AV.owns,AV.datF,AV.frz,AV.cpy,ifV,isEqB,nilV,nilX,AV.isNilS,AV.isNoRows,wk,dclo,datOf,binIs,addF,AV.isPtr,idxV,AV.isSl,AV.isSlice,AV.rows,ps,pv,extV,extS,AV.outs,AV.outF,packD,AV.dl,fieldV,fieldS,AV.cells?,AV.upr,AV.menc,AV.one,D.one,Value.oneCell',tagOf,AV.isApp,strV,strS,bolV,bolS,slcV,AV.isSlD,asrtS,AV.dcells,D.cells?,stcV,stcS,leafOk,eqDs,eqD,packA,D.val?,↓reduceIte,reduceCtorEq,Nat.reduceAdd,Nat.reduceSub,Nat.reduceMul,List.reduceReplicate,Nat.reduceLeDiff,Nat.reduceLT,Nat.reduceBEq,Nat.reduceEqDiff,Int.reduceNeg,Int.reduceEq,Int.reduceLE,Int.reduceLT,tfb,ctz79,k1, k2, k3, c]
      try rfl
    · simp (maxSteps := 4000000) +contextual (disch := first | omega | exact qdb_ok (by kernel_rfl) | exact okb_ok (by kernel_rfl)) only [bw1,bw2,bw3,bw4,bw5,bw6,bw7,bc0,bc1,bc2,bc3,bc4,bc5,bc6,bc7,bb0,setPs,AV.owns,AV.datF,AV.frz,AV.cpy,ifV,isEqB,nilV,nilX,AV.isNilS,AV.isNoRows,wk,dclo,datOf,binIs,addF,AV.isPtr,idxV,AV.isSl,AV.isSlice,AV.rows,ps,pv,extV,extS,AV.outs,AV.outF,packD,AV.dl,fieldV,fieldS,AV.cells?,AV.upr,AV.menc,AV.one,D.one,Value.oneCell',tagOf,AV.isApp,strV,strS,bolV,bolS,slcV,AV.isSlD,asrtS,AV.dcells,D.cells?,stcV,stcS,leafOk,eqDs,eqD,packA,D.val?,↓reduceIte,reduceCtorEq,Nat.reduceAdd,Nat.reduceSub,Nat.reduceMul,List.reduceReplicate,Nat.reduceLeDiff,Nat.reduceLT,Nat.reduceBEq,Nat.reduceEqDiff,Int.reduceNeg,Int.reduceEq,Int.reduceLE,Int.reduceLT,tfb,ctz79,k1, k2, k3, c]
      try rfl
  by_cases k4 : x.kind = 4
  · by_cases c : m.stage = 0
    · simp (maxSteps := 4000000) +contextual (disch := first | omega | exact qdb_ok (by kernel_rfl) | exact okb_ok (by kernel_rfl)) only [bw1,bw2,bw3,bw4,bw5,bw6,bw7,bc0,bc1,bc2,bc3,bc4,bc5,bc6,bc7,bb0,setPs,AV.owns,AV.datF,AV.frz,AV.cpy,ifV,isEqB,nilV,nilX,AV.isNilS,AV.isNoRows,wk,dclo,datOf,binIs,addF,AV.isPtr,idxV,AV.isSl,AV.isSlice,AV.rows,ps,pv,extV,extS,AV.outs,AV.outF,packD,AV.dl,fieldV,fieldS,AV.cells?,AV.upr,AV.menc,AV.one,D.one,Value.oneCell',tagOf,AV.isApp,strV,strS,bolV,bolS,slcV,AV.isSlD,asrtS,AV.dcells,D.cells?,stcV,stcS,leafOk,eqDs,eqD,packA,D.val?,↓reduceIte,reduceCtorEq,Nat.reduceAdd,Nat.reduceSub,Nat.reduceMul,List.reduceReplicate,Nat.reduceLeDiff,Nat.reduceLT,Nat.reduceBEq,Nat.reduceEqDiff,Int.reduceNeg,Int.reduceEq,Int.reduceLE,Int.reduceLT,tfb,ctz79,k1, k2, k3, k4, c]
      try rfl
    have cb : (m.stage == 0) = false := by simpa using c
    by_cases c6 : m.stage = 6
    · simp (maxSteps := 4000000) +contextual (disch := first | omega | exact qdb_ok (by kernel_rfl) | exact okb_ok (by kernel_rfl)) only [bw1,bw2,bw3,bw4,bw5,bw6,bw7,bc0,bc1,bc2,bc3,bc4,bc5,bc6,bc7,bb0,setPs,AV.owns,AV.datF,AV.frz,AV.cpy,ifV,isEqB,nilV,nilX,AV.isNilS,AV.isNoRows,wk,dclo,datOf,binIs,addF,AV.isPtr,idxV,AV.isSl,AV.isSlice,AV.rows,ps,pv,extV,extS,AV.outs,AV.outF,packD,AV.dl,fieldV,fieldS,AV.cells?,AV.upr,AV.menc,AV.one,D.one,Value.oneCell',tagOf,AV.isApp,strV,strS,bolV,bolS,slcV,AV.isSlD,asrtS,AV.dcells,D.cells?,stcV,stcS,leafOk,eqDs,eqD,packA,D.val?,↓reduceIte,reduceCtorEq,Nat.reduceAdd,Nat.reduceSub,Nat.reduceMul,List.reduceReplicate,Nat.reduceLeDiff,Nat.reduceLT,Nat.reduceBEq,Nat.reduceEqDiff,Int.reduceNeg,Int.reduceEq,Int.reduceLE,Int.reduceLT,tfb,ctz79,k1, k2, k3, k4, c, cb, c6]
      try rfl
    have c6b : (m.stage == 6) = false := by simpa using c6
    by_cases cd : x.day ≤ m.since
    · simp (maxSteps := 4000000) +contextual (disch := first | omega | exact qdb_ok (by kernel_rfl) | exact okb_ok (by kernel_rfl)) only [bw1,bw2,bw3,bw4,bw5,bw6,bw7,bc0,bc1,bc2,bc3,bc4,bc5,bc6,bc7,bb0,setPs,AV.owns,AV.datF,AV.frz,AV.cpy,ifV,isEqB,nilV,nilX,AV.isNilS,AV.isNoRows,wk,dclo,datOf,binIs,addF,AV.isPtr,idxV,AV.isSl,AV.isSlice,AV.rows,ps,pv,extV,extS,AV.outs,AV.outF,packD,AV.dl,fieldV,fieldS,AV.cells?,AV.upr,AV.menc,AV.one,D.one,Value.oneCell',tagOf,AV.isApp,strV,strS,bolV,bolS,slcV,AV.isSlD,asrtS,AV.dcells,D.cells?,stcV,stcS,leafOk,eqDs,eqD,packA,D.val?,↓reduceIte,reduceCtorEq,Nat.reduceAdd,Nat.reduceSub,Nat.reduceMul,List.reduceReplicate,Nat.reduceLeDiff,Nat.reduceLT,Nat.reduceBEq,Nat.reduceEqDiff,Int.reduceNeg,Int.reduceEq,Int.reduceLE,Int.reduceLT,tfb,ctz79,k1, k2, k3, k4, c, cb, c6, c6b, cd]
      try rfl
    · simp (maxSteps := 4000000) +contextual (disch := first | omega | exact qdb_ok (by kernel_rfl) | exact okb_ok (by kernel_rfl)) only [bw1,bw2,bw3,bw4,bw5,bw6,bw7,bc0,bc1,bc2,bc3,bc4,bc5,bc6,bc7,bb0,setPs,AV.owns,AV.datF,AV.frz,AV.cpy,ifV,isEqB,nilV,nilX,AV.isNilS,AV.isNoRows,wk,dclo,datOf,binIs,addF,AV.isPtr,idxV,AV.isSl,AV.isSlice,AV.rows,ps,pv,extV,extS,AV.outs,AV.outF,packD,AV.dl,fieldV,fieldS,AV.cells?,AV.upr,AV.menc,AV.one,D.one,Value.oneCell',tagOf,AV.isApp,strV,strS,bolV,bolS,slcV,AV.isSlD,asrtS,AV.dcells,D.cells?,stcV,stcS,leafOk,eqDs,eqD,packA,D.val?,↓reduceIte,reduceCtorEq,Nat.reduceAdd,Nat.reduceSub,Nat.reduceMul,List.reduceReplicate,Nat.reduceLeDiff,Nat.reduceLT,Nat.reduceBEq,Nat.reduceEqDiff,Int.reduceNeg,Int.reduceEq,Int.reduceLE,Int.reduceLT,tfb,ctz79,k1, k2, k3, k4, c, cb, c6, c6b, cd]
      try rfl
  by_cases c6 : m.stage = 6
  · by_cases cd : x.day ≤ m.since
    · simp (maxSteps := 4000000) +contextual (disch := first | omega | exact qdb_ok (by kernel_rfl) | exact okb_ok (by kernel_rfl)) only [bw1,bw2,bw3,bw4,bw5,bw6,bw7,bc0,bc1,bc2,bc3,bc4,bc5,bc6,bc7,bb0,setPs,AV.owns,AV.datF,AV.frz,AV.cpy,ifV,isEqB,nilV,nilX,AV.isNilS,AV.isNoRows,wk,dclo,datOf,binIs,addF,AV.isPtr,idxV,AV.isSl,AV.isSlice,AV.rows,ps,pv,extV,extS,AV.outs,AV.outF,packD,AV.dl,fieldV,fieldS,AV.cells?,AV.upr,AV.menc,AV.one,D.one,Value.oneCell',tagOf,AV.isApp,strV,strS,bolV,bolS,slcV,AV.isSlD,asrtS,AV.dcells,D.cells?,stcV,stcS,leafOk,eqDs,eqD,packA,D.val?,↓reduceIte,reduceCtorEq,Nat.reduceAdd,Nat.reduceSub,Nat.reduceMul,List.reduceReplicate,Nat.reduceLeDiff,Nat.reduceLT,Nat.reduceBEq,Nat.reduceEqDiff,Int.reduceNeg,Int.reduceEq,Int.reduceLE,Int.reduceLT,tfb,ctz79,k1, k2, k3, k4, c6, cd]
      try rfl
    · simp (maxSteps := 4000000) +contextual (disch := first | omega | exact qdb_ok (by kernel_rfl) | exact okb_ok (by kernel_rfl)) only [bw1,bw2,bw3,bw4,bw5,bw6,bw7,bc0,bc1,bc2,bc3,bc4,bc5,bc6,bc7,bb0,setPs,AV.owns,AV.datF,AV.frz,AV.cpy,ifV,isEqB,nilV,nilX,AV.isNilS,AV.isNoRows,wk,dclo,datOf,binIs,addF,AV.isPtr,idxV,AV.isSl,AV.isSlice,AV.rows,ps,pv,extV,extS,AV.outs,AV.outF,packD,AV.dl,fieldV,fieldS,AV.cells?,AV.upr,AV.menc,AV.one,D.one,Value.oneCell',tagOf,AV.isApp,strV,strS,bolV,bolS,slcV,AV.isSlD,asrtS,AV.dcells,D.cells?,stcV,stcS,leafOk,eqDs,eqD,packA,D.val?,↓reduceIte,reduceCtorEq,Nat.reduceAdd,Nat.reduceSub,Nat.reduceMul,List.reduceReplicate,Nat.reduceLeDiff,Nat.reduceLT,Nat.reduceBEq,Nat.reduceEqDiff,Int.reduceNeg,Int.reduceEq,Int.reduceLE,Int.reduceLT,tfb,ctz79,k1, k2, k3, k4, c6, cd]
      try rfl
  · have c6b : (m.stage != 6) = true := by simpa using c6
    simp (maxSteps := 4000000) +contextual (disch := first | omega | exact qdb_ok (by kernel_rfl) | exact okb_ok (by kernel_rfl)) only [bw1,bw2,bw3,bw4,bw5,bw6,bw7,bc0,bc1,bc2,bc3,bc4,bc5,bc6,bc7,bb0,setPs,AV.owns,AV.datF,AV.frz,AV.cpy,ifV,isEqB,nilV,nilX,AV.isNilS,AV.isNoRows,wk,dclo,datOf,binIs,addF,AV.isPtr,idxV,AV.isSl,AV.isSlice,AV.rows,ps,pv,extV,extS,AV.outs,AV.outF,packD,AV.dl,fieldV,fieldS,AV.cells?,AV.upr,AV.menc,AV.one,D.one,Value.oneCell',tagOf,AV.isApp,strV,strS,bolV,bolS,slcV,AV.isSlD,asrtS,AV.dcells,D.cells?,stcV,stcS,leafOk,eqDs,eqD,packA,D.val?,↓reduceIte,reduceCtorEq,Nat.reduceAdd,Nat.reduceSub,Nat.reduceMul,List.reduceReplicate,Nat.reduceLeDiff,Nat.reduceLT,Nat.reduceBEq,Nat.reduceEqDiff,Int.reduceNeg,Int.reduceEq,Int.reduceLE,Int.reduceLT,tfb,ctz79,k1, k2, k3, k4, c6, c6b]
    try rfl
def ent79 (args : List AV) (K : AV → List AV → Sto → Prop) (e : List AV) (s : Sto) : Prop := ent (α := (Mem) × (Ev)) (fun aa => [.agg aa.1.c, .agg aa.2.c]) (fun aa => (-100000 ≤ aa.1.ban ∧ aa.1.ban ≤ 1000000 ∧ -1000 ≤ aa.1.stage ∧ aa.1.stage ≤ 1000) ∧ (0 ≤ aa.2.n ∧ aa.2.n ≤ 1000)) (fun aa => .tup [.agg (oneR aa.1 aa.2).1.c, .i (oneR aa.1 aa.2).2]) args K e s
theorem ent79_ok {args : List AV} {K : AV → List AV → Sto → Prop} {Q : Kt} {e : List AV} {s : Sto} (h : ent79 args K e s) : pcall Try.prog 79 args K Q e s := ent_ok (fun aa h => pf79 aa.1 aa.2 h) h
theorem eq79 {m : Mem} {x : Ev} {KK : AV → List AV → Sto → Prop} {ee : List AV} {ss : Sto} : ent79 [.d (.agg m.c), .d (.agg x.c)] KK ee ss = (((-100000 ≤ m.ban ∧ m.ban ≤ 1000000 ∧ -1000 ≤ m.stage ∧ m.stage ≤ 1000) ∧ (0 ≤ x.n ∧ x.n ≤ 1000)) ∧ KK (.d (.tup [.agg (oneR m x).1.c, .i (oneR m x).2])) ee ss) := by
  unfold ent79; rw [ent_iff (m, x) (by intro b h; simpa [Prod.ext_iff, and_assoc, Int.ofNat_inj, ints_inj, evs_inj, mems_inj, ev_inj, mem_inj, st_inj] using h) rfl]; simp
end Go.Proofs.Ytohkngiflfkjjaa
