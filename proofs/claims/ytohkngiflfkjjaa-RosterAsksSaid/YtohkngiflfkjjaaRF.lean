/- A part of the proof that the last text ends: what functions of the program do, told by plain data. -/
import Derived.Test.YtohkngiflfkjjaaRE
set_option linter.unusedVariables false
set_option linter.unusedSimpArgs false
namespace Go.Proofs.Ytohkngiflfkjjaa
open Go Go.E
set_option maxRecDepth 100000
set_option maxHeartbeats 16000000
/-! ### The document: who comes -/
theorem fndN_cases {l : List Mem} {p : Int} : ∀ (k i : Nat), i + k = l.length → (fndN l p k i = -1 ∧ ∀ j, i ≤ j → j < l.length → (l.getD j default).person ≠ p) ∨ ∃ j : Nat, j < l.length ∧ fndN l p k i = (j : Int) ∧ (l.getD j default).person = p
  | 0, i, h => .inl ⟨rfl, fun j h1 h2 => absurd h2 (by omega : ¬ j < l.length)⟩
  | k + 1, i, h => by
    unfold fndN
    by_cases c : (l.getD i default).person = p
    · rw [if_pos c]; exact .inr ⟨i, (by omega : i < l.length), rfl, c⟩
    · rw [if_neg c]
      rcases fndN_cases (l := l) (p := p) k (i + 1) (by omega) with ⟨h1, h2⟩ | h1
      · refine .inl ⟨h1, fun j h3 h4 => ?_⟩
        rcases Nat.eq_or_lt_of_le h3 with h5 | h5
        · rw [← h5]; exact c
        · exact h2 j h5 h4
      · exact .inr h1
theorem fnd_cases (l : List Mem) (p : Int) : (fnd l p = -1 ∧ ∀ m ∈ l, m.person ≠ p) ∨ ∃ j : Nat, j < l.length ∧ fnd l p = (j : Int) ∧ (l.getD j default).person = p := by
  rcases fndN_cases (l := l) (p := p) l.length 0 (by omega) with ⟨h1, h2⟩ | h1
  · refine .inl ⟨h1, fun m hm => ?_⟩
    obtain ⟨j, hj, rfl⟩ := List.getElem_of_mem hm
    have := h2 j (by omega) hj
    rwa [at_lt hj] at this
  · exact .inr h1
def clubN (l : List Mem) (c : Int) (k : Nat) : Nat := (l.take k).countP fun m => decide (m.club = c)
theorem clubN_yes {l : List Mem} {c : Int} {k : Nat} (h : k < l.length) (hc : (l.getD k default).club = c) : clubN l c (k + 1) = clubN l c k + 1 := by
  unfold clubN; rw [take_succ h, List.countP_append, List.countP_singleton, decide_eq_true hc]; rfl
theorem clubN_no {l : List Mem} {c : Int} {k : Nat} (h : k < l.length) (hc : ¬ (l.getD k default).club = c) : clubN l c (k + 1) = clubN l c k := by
  unfold clubN; rw [take_succ h, List.countP_append, List.countP_singleton, decide_eq_false hc]; rfl
theorem clubN_le {l : List Mem} {c : Int} {k : Nat} (h : k ≤ l.length) : clubN l c k ≤ k := by
  unfold clubN; exact Nat.le_trans List.countP_le_length (by simp; omega)
def joinR (s : St) (x : Ev) : List Mem × Int :=
  if 0 ≤ fnd s.mem x.person then ([], 5) else if 25 ≤ clubN s.mem x.n s.mem.length then ([], 9) else (insM s.mem ⟨x.person, x.n, 0, 0, 0⟩, 0)
def O77 : Nat → Sch := fun id => if id = 7 then .one 0 (.one 1 (.one 2 (.one 3 (.one 4 (.one 5 (.one 6 (.one 7 (.one 8 (.done))))))))) else .done
theorem O77_7 : O77 7 = .one 0 (.one 1 (.one 2 (.one 3 (.one 4 (.one 5 (.one 6 (.one 7 (.one 8 (.done))))))))) := rfl
theorem ho77 : Try.f77.body.map (okO O77) = some true := by kernel_rfl
def Cf77 : Nat → List AV → (AV → List AV → Sto → Prop) → Kt → List AV → Sto → Prop := fun f args K Q e s => match f with
  | 38 => ent38 args K e s
  | 83 => ent83 args K e s
  | _ => False
def Ct77 : CT := { f := Cf77, y := noYld, z := fun d => false }
theorem ctz77 {d : Nat} : CT.z Ct77 d = (false) := id rfl
theorem Ct77_ok : Ct77.ok Try.prog := ok_of_f (fun f args K Q e s h => by
  have h : Cf77 f args K Q e s := h
  unfold Cf77 at h; split at h
  · exact ent38_ok h
  · exact ent83_ok h
  · exact h.elim) (fun _ _ _ _ _ _ _ _ _ h => h)
theorem x77_38 {l : List Mem} {p : Int} {KK : AV → List AV → Sto → Prop} {QQ : Kt} {ii : At KK} {jj : At QQ} {ee : List AV} {ss : Sto} : xC Ct77 38 [.d (.sl 5 (l.map Mem.c)), .d (.i p)] KK QQ ii jj ee ss = ((l.length ≤ 100000) ∧ KK (.d (.i (fnd l p))) ee ss) := eq38
theorem x77_38_m1 {l : List Mem} {p : Int} {g1 el1 : Nat} {KK : AV → List AV → Sto → Prop} {QQ : Kt} {ii : At KK} {jj : At QQ} {ee : List AV} {ss : Sto} : xC Ct77 38 [.own g1 el1 5 (l.map Mem.c), .d (.i p)] KK QQ ii jj ee ss = ((l.length ≤ 100000) ∧ (.i (fnd l p) : D).flat = true ∧ KK (.d (.i (fnd l p))) ee ss) := eqo38
theorem x77_83 {l : List Mem} {m : Mem} {KK : AV → List AV → Sto → Prop} {QQ : Kt} {ii : At KK} {jj : At QQ} {ee : List AV} {ss : Sto} : xC Ct77 83 [.d (.sl 5 (l.map Mem.c)), .d (.agg m.c)] KK QQ ii jj ee ss = ((l.length ≤ 1000) ∧ KK (.d (.sl 5 ((insM l m).map Mem.c))) ee ss) := eq83
theorem x77_83_m1 {l : List Mem} {m : Mem} {g1 el1 : Nat} {KK : AV → List AV → Sto → Prop} {QQ : Kt} {ii : At KK} {jj : At QQ} {ee : List AV} {ss : Sto} : xC Ct77 83 [.own g1 el1 5 (l.map Mem.c), .d (.agg m.c)] KK QQ ii jj ee ss = ((l.length ≤ 1000) ∧ (.sl 5 ((insM l m).map Mem.c) : D).flat = true ∧ KK (.d (.sl 5 ((insM l m).map Mem.c))) ee ss) := eqo83
theorem c77 : callable Try.prog 77 = true := by kernel_rfl
theorem pf77 (s : St) (x : Ev) (h : s.mem.length ≤ 1000) : PF Try.prog 77 [.agg s.c, .agg x.c] (fun zz => zz = .ret (.tup [.sl 5 ((joinR s x).1.map Mem.c), .i (joinR s x).2])) := by
  obtain ⟨l, evs⟩ := s
  simp only at h
  have h' : l.length ≤ 100000 := by omega
  have hcl := fun k (hk : k ≤ l.length) => clubN_le (l := l) (c := x.n) hk
  unfold joinR
  simp only
  have c0 : clubN l x.n 0 = 0 := rfl
  have cy := fun k => clubN_yes (l := l) (c := x.n) (k := k)
  have cn := fun k => clubN_no (l := l) (c := x.n) (k := k)
  generalize clubN l x.n = N at hcl c0 cy cn ⊢
  refine PF_nil (PF_start (O := O77) Ct77_ok hmix ho77 Try.func77 c77 rfl Try.ntmps77 Try.results77 ?_)
  by_cases c1 : 0 ≤ fnd l x.person
  · simp (maxSteps := 4000000) +contextual (disch := first | omega | exact qdb_ok (by kernel_rfl) | exact okb_ok (by kernel_rfl)) only [bw1,bw2,bw3,bw4,bw5,bw6,bw7,bc0,bc1,bc2,bc3,bc4,bc5,bc6,bc7,bb0,setPs,AV.owns,AV.datF,AV.frz,AV.cpy,ifV,isEqB,nilV,nilX,AV.isNilS,AV.isNoRows,wk,dclo,datOf,binIs,addF,AV.isPtr,idxV,AV.isSl,AV.isSlice,AV.rows,ps,pv,extV,extS,AV.outs,AV.outF,packD,AV.dl,fieldV,fieldS,AV.cells?,AV.upr,AV.menc,AV.one,D.one,Value.oneCell',tagOf,AV.isApp,strV,strS,bolV,bolS,slcV,AV.isSlD,asrtS,AV.dcells,D.cells?,stcV,stcS,leafOk,eqDs,eqD,packA,D.val?,↓reduceIte,reduceCtorEq,Nat.reduceAdd,Nat.reduceSub,Nat.reduceMul,List.reduceReplicate,Nat.reduceLeDiff,Nat.reduceLT,Nat.reduceBEq,Nat.reduceEqDiff,Int.reduceNeg,Int.reduceEq,Int.reduceLE,Int.reduceLT,tfb,ctz77,O77_7,x77_38,x77_38_m1,x77_83,x77_83_m1,h', c1]
  rw [if_neg c1]
  simp (maxSteps := 4000000) +contextual (disch := first | omega | exact qdb_ok (by kernel_rfl) | exact okb_ok (by kernel_rfl)) only [bw1,bw2,bw3,bw4,bw5,bw6,bw7,bc0,bc1,bc2,bc3,bc4,bc5,bc6,bc7,bb0,setPs,AV.owns,AV.datF,AV.frz,AV.cpy,ifV,isEqB,nilV,nilX,AV.isNilS,AV.isNoRows,wk,dclo,datOf,binIs,addF,AV.isPtr,idxV,AV.isSl,AV.isSlice,AV.rows,ps,pv,extV,extS,AV.outs,AV.outF,packD,AV.dl,fieldV,fieldS,AV.cells?,AV.upr,AV.menc,AV.one,D.one,Value.oneCell',tagOf,AV.isApp,strV,strS,bolV,bolS,slcV,AV.isSlD,asrtS,AV.dcells,D.cells?,stcV,stcS,leafOk,eqDs,eqD,packA,D.val?,↓reduceIte,reduceCtorEq,Nat.reduceAdd,Nat.reduceSub,Nat.reduceMul,List.reduceReplicate,Nat.reduceLeDiff,Nat.reduceLT,Nat.reduceBEq,Nat.reduceEqDiff,Int.reduceNeg,Int.reduceEq,Int.reduceLE,Int.reduceLT,tfb,ctz77,O77_7,x77_38,x77_38_m1,x77_83,x77_83_m1,h', c1]
  refine loop_u (O := O77) (tb := 0) Ct77_ok hmix (by kernel_rfl) (σ := Nat) (fun k => [(7, .i k), (6, .i (N k : Int))]) (fun k => [(3, [.d (.sl 5 (l.map Mem.c)), .d (.sl 5 (evs.map Ev.c))]), (4, (x.c).map .d)]) (fun k => k ≤ l.length) (fun k => l.length - k) (fun k => k + 1) 0 (by omega) ?_ ?_
  · simp (maxSteps := 4000000) +contextual (disch := first | omega | exact qdb_ok (by kernel_rfl) | exact okb_ok (by kernel_rfl)) only [bw1,bw2,bw3,bw4,bw5,bw6,bw7,bc0,bc1,bc2,bc3,bc4,bc5,bc6,bc7,bb0,setPs,AV.owns,AV.datF,AV.frz,AV.cpy,ifV,isEqB,nilV,nilX,AV.isNilS,AV.isNoRows,wk,dclo,datOf,binIs,addF,AV.isPtr,idxV,AV.isSl,AV.isSlice,AV.rows,ps,pv,extV,extS,AV.outs,AV.outF,packD,AV.dl,fieldV,fieldS,AV.cells?,AV.upr,AV.menc,AV.one,D.one,Value.oneCell',tagOf,AV.isApp,strV,strS,bolV,bolS,slcV,AV.isSlD,asrtS,AV.dcells,D.cells?,stcV,stcS,leafOk,eqDs,eqD,packA,D.val?,↓reduceIte,reduceCtorEq,Nat.reduceAdd,Nat.reduceSub,Nat.reduceMul,List.reduceReplicate,Nat.reduceLeDiff,Nat.reduceLT,Nat.reduceBEq,Nat.reduceEqDiff,Int.reduceNeg,Int.reduceEq,Int.reduceLE,Int.reduceLT,tfb,ctz77,O77_7,x77_38,x77_38_m1,x77_83,x77_83_m1,eq_self, c0]
  intro k hk
  have hclk := hcl k hk
  by_cases hlt : k < l.length
  · have hlt' : (k : Int) < l.length := by omega
    by_cases cc : (l.getD k default).club = x.n
    · have hy := cy k hlt cc
      simp (maxSteps := 4000000) +contextual (disch := first | omega | exact qdb_ok (by kernel_rfl) | exact okb_ok (by kernel_rfl)) only [bw1,bw2,bw3,bw4,bw5,bw6,bw7,bc0,bc1,bc2,bc3,bc4,bc5,bc6,bc7,bb0,setPs,AV.owns,AV.datF,AV.frz,AV.cpy,ifV,isEqB,nilV,nilX,AV.isNilS,AV.isNoRows,wk,dclo,datOf,binIs,addF,AV.isPtr,idxV,AV.isSl,AV.isSlice,AV.rows,ps,pv,extV,extS,AV.outs,AV.outF,packD,AV.dl,fieldV,fieldS,AV.cells?,AV.upr,AV.menc,AV.one,D.one,Value.oneCell',tagOf,AV.isApp,strV,strS,bolV,bolS,slcV,AV.isSlD,asrtS,AV.dcells,D.cells?,stcV,stcS,leafOk,eqDs,eqD,packA,D.val?,↓reduceIte,reduceCtorEq,Nat.reduceAdd,Nat.reduceSub,Nat.reduceMul,List.reduceReplicate,Nat.reduceLeDiff,Nat.reduceLT,Nat.reduceBEq,Nat.reduceEqDiff,Int.reduceNeg,Int.reduceEq,Int.reduceLE,Int.reduceLT,tfb,ctz77,O77_7,x77_38,x77_38_m1,x77_83,x77_83_m1,eq_self, hlt', cc]
      and_intros <;> first | omega | (rw [hy]; rfl)
    · have hy := cn k hlt cc
      simp (maxSteps := 4000000) +contextual (disch := first | omega | exact qdb_ok (by kernel_rfl) | exact okb_ok (by kernel_rfl)) only [bw1,bw2,bw3,bw4,bw5,bw6,bw7,bc0,bc1,bc2,bc3,bc4,bc5,bc6,bc7,bb0,setPs,AV.owns,AV.datF,AV.frz,AV.cpy,ifV,isEqB,nilV,nilX,AV.isNilS,AV.isNoRows,wk,dclo,datOf,binIs,addF,AV.isPtr,idxV,AV.isSl,AV.isSlice,AV.rows,ps,pv,extV,extS,AV.outs,AV.outF,packD,AV.dl,fieldV,fieldS,AV.cells?,AV.upr,AV.menc,AV.one,D.one,Value.oneCell',tagOf,AV.isApp,strV,strS,bolV,bolS,slcV,AV.isSlD,asrtS,AV.dcells,D.cells?,stcV,stcS,leafOk,eqDs,eqD,packA,D.val?,↓reduceIte,reduceCtorEq,Nat.reduceAdd,Nat.reduceSub,Nat.reduceMul,List.reduceReplicate,Nat.reduceLeDiff,Nat.reduceLT,Nat.reduceBEq,Nat.reduceEqDiff,Int.reduceNeg,Int.reduceEq,Int.reduceLE,Int.reduceLT,tfb,ctz77,O77_7,x77_38,x77_38_m1,x77_83,x77_83_m1,eq_self, hlt', cc, hy]
      and_intros <;> omega
  · have hlt' : ¬ (k : Int) < l.length := by omega
    obtain rfl : k = l.length := by omega
    by_cases c2 : 25 ≤ N l.length
    · have c2' : (25 : Int) ≤ N l.length := by omega
      simp (maxSteps := 4000000) +contextual (disch := first | omega | exact qdb_ok (by kernel_rfl) | exact okb_ok (by kernel_rfl)) only [bw1,bw2,bw3,bw4,bw5,bw6,bw7,bc0,bc1,bc2,bc3,bc4,bc5,bc6,bc7,bb0,setPs,AV.owns,AV.datF,AV.frz,AV.cpy,ifV,isEqB,nilV,nilX,AV.isNilS,AV.isNoRows,wk,dclo,datOf,binIs,addF,AV.isPtr,idxV,AV.isSl,AV.isSlice,AV.rows,ps,pv,extV,extS,AV.outs,AV.outF,packD,AV.dl,fieldV,fieldS,AV.cells?,AV.upr,AV.menc,AV.one,D.one,Value.oneCell',tagOf,AV.isApp,strV,strS,bolV,bolS,slcV,AV.isSlD,asrtS,AV.dcells,D.cells?,stcV,stcS,leafOk,eqDs,eqD,packA,D.val?,↓reduceIte,reduceCtorEq,Nat.reduceAdd,Nat.reduceSub,Nat.reduceMul,List.reduceReplicate,Nat.reduceLeDiff,Nat.reduceLT,Nat.reduceBEq,Nat.reduceEqDiff,Int.reduceNeg,Int.reduceEq,Int.reduceLE,Int.reduceLT,tfb,ctz77,O77_7,x77_38,x77_38_m1,x77_83,x77_83_m1,eq_self, Int.lt_irrefl, c2, c2']
    · have c2' : ¬ (25 : Int) ≤ N l.length := by omega
      have hx : ∀ {KK : AV → List AV → Sto → Prop} {QQ : Kt} {ii : At KK} {jj : At QQ} {ee : List AV} {ss : Sto}, xC Ct77 83 [.d (.sl 5 (l.map Mem.c)), .d (.agg [.i x.person, .i x.n, .i 0, .i 0, .i 0])] KK QQ ii jj ee ss = KK (.d (.sl 5 ((insM l ⟨x.person, x.n, 0, 0, 0⟩).map Mem.c))) ee ss := by
        intro KK QQ ii jj ee ss
        have := x77_83 (l := l) (m := ⟨x.person, x.n, 0, 0, 0⟩) (KK := KK) (QQ := QQ) (ii := ii) (jj := jj) (ee := ee) (ss := ss)
        exact this.trans (propext ⟨fun h => h.2, fun k => ⟨h, k⟩⟩)
      simp (maxSteps := 4000000) +contextual (disch := first | omega | exact qdb_ok (by kernel_rfl) | exact okb_ok (by kernel_rfl)) only [bw1,bw2,bw3,bw4,bw5,bw6,bw7,bc0,bc1,bc2,bc3,bc4,bc5,bc6,bc7,bb0,setPs,AV.owns,AV.datF,AV.frz,AV.cpy,ifV,isEqB,nilV,nilX,AV.isNilS,AV.isNoRows,wk,dclo,datOf,binIs,addF,AV.isPtr,idxV,AV.isSl,AV.isSlice,AV.rows,ps,pv,extV,extS,AV.outs,AV.outF,packD,AV.dl,fieldV,fieldS,AV.cells?,AV.upr,AV.menc,AV.one,D.one,Value.oneCell',tagOf,AV.isApp,strV,strS,bolV,bolS,slcV,AV.isSlD,asrtS,AV.dcells,D.cells?,stcV,stcS,leafOk,eqDs,eqD,packA,D.val?,↓reduceIte,reduceCtorEq,Nat.reduceAdd,Nat.reduceSub,Nat.reduceMul,List.reduceReplicate,Nat.reduceLeDiff,Nat.reduceLT,Nat.reduceBEq,Nat.reduceEqDiff,Int.reduceNeg,Int.reduceEq,Int.reduceLE,Int.reduceLT,tfb,ctz77,O77_7,x77_38,x77_38_m1,x77_83,x77_83_m1,eq_self, Int.lt_irrefl, c2, c2', h, hx]
def ent77 (args : List AV) (K : AV → List AV → Sto → Prop) (e : List AV) (s : Sto) : Prop := ent (α := (St) × (Ev)) (fun aa => [.agg aa.1.c, .agg aa.2.c]) (fun aa => aa.1.mem.length ≤ 1000) (fun aa => .tup [.sl 5 ((joinR aa.1 aa.2).1.map Mem.c), .i (joinR aa.1 aa.2).2]) args K e s
theorem ent77_ok {args : List AV} {K : AV → List AV → Sto → Prop} {Q : Kt} {e : List AV} {s : Sto} (h : ent77 args K e s) : pcall Try.prog 77 args K Q e s := ent_ok (fun aa h => pf77 aa.1 aa.2 h) h
theorem eq77 {s : St} {x : Ev} {KK : AV → List AV → Sto → Prop} {ee : List AV} {ss : Sto} : ent77 [.d (.agg s.c), .d (.agg x.c)] KK ee ss = ((s.mem.length ≤ 1000) ∧ KK (.d (.tup [.sl 5 ((joinR s x).1.map Mem.c), .i (joinR s x).2])) ee ss) := by
  unfold ent77; rw [ent_iff (s, x) (by intro b h; simpa [Prod.ext_iff, and_assoc, Int.ofNat_inj, ints_inj, evs_inj, mems_inj, ev_inj, mem_inj, st_inj] using h) rfl]; simp
end Go.Proofs.Ytohkngiflfkjjaa
