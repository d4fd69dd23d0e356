/- A part of the proof that the last text ends: what functions of the program do, told by plain data. -/
import Derived.Test.YtohkngiflfkjjaaRH
set_option linter.unusedVariables false
set_option linter.unusedSimpArgs false
namespace Go.Proofs.Ytohkngiflfkjjaa
open Go Go.E
set_option maxRecDepth 100000
set_option maxHeartbeats 16000000
/-! ### The document: all events -/
def MOk (b : Int) (m : Mem) : Prop := (0 ≤ m.ban ∧ m.ban ≤ b) ∧ (0 ≤ m.stage ∧ m.stage ≤ 6) ∧ 0 ≤ m.since ∧ m.since ≤ 16384
def InvR (i : Nat) (s : St) : Prop := (s.mem.length ≤ i ∧ s.evs.length = i) ∧ (∀ m ∈ s.mem, MOk (20 * (i : Int)) m) ∧ ∀ y ∈ s.evs, y.sheet.length ≤ 100000
theorem InvR.ms {i : Nat} {s : St} (h : InvR i s) (hi : i ≤ 1000) : MemsOk s.mem := by
  obtain ⟨⟨h1, h2⟩, h3, h4⟩ := h
  refine ⟨by omega, fun m hm => ?_⟩
  have := h3 m hm
  unfold MOk at this
  omega
theorem InvR.es {i : Nat} {s : St} (h : InvR i s) (hi : i ≤ 1000) : EvsOk s.evs := ⟨by rw [h.1.2]; exact hi, h.2.2⟩
theorem InvR.zero : InvR 0 ⟨[], []⟩ := ⟨⟨by simp, by simp⟩, by simp, by simp⟩
theorem finR_inv {i : Nat} {s : St} {x : Ev} {r : List Mem × Int} (h : InvR i s) (hx : x.sheet.length ≤ 100000) (h0 : (finR s x r).2 = 0) (hr : r.2 = 0 → r.1.length ≤ i + 1 ∧ ∀ m ∈ r.1, MOk (20 * ((i + 1 : Nat) : Int)) m) : InvR (i + 1) (finR s x r).1 := by
  unfold finR at h0 ⊢
  split at h0
  · rename_i hz
    rw [if_pos hz]
    obtain ⟨k1, k2⟩ := hr hz
    refine ⟨⟨k1, by simp [h.1.2]⟩, k2, fun y hy => ?_⟩
    rcases List.mem_append.1 hy with hy | hy
    · exact h.2.2 y hy
    · simp at hy; rw [hy]; exact hx
  · rename_i hz; exact absurd h0 hz
theorem ev_day {x : Ev} (h : evOk x = true) : 0 ≤ x.day ∧ x.day ≤ 16384 := by
  unfold evOk at h
  simp only [Bool.and_eq_true] at h
  exact inB_iff.1 h.1.1
theorem ev_rng {x : Ev} (h : evOk x = true) : 0 ≤ x.n ∧ x.n ≤ 255 ∧ (x.kind = 1 → x.n ≤ 20) := by
  unfold evOk at h
  simp only [Bool.and_eq_true] at h
  obtain ⟨⟨_, hk⟩, h⟩ := h
  rw [inB_iff] at hk
  split at h
  · simp only [Bool.and_eq_true, inB_iff] at h
    obtain ⟨⟨_, h⟩, _⟩ := h
    exact ⟨h.1, h.2, fun k => by omega⟩
  · simp only [Bool.and_eq_true] at h
    obtain ⟨_, h⟩ := h
    split at h
    · rw [inB_iff] at h; exact ⟨h.1, h.2, fun k => by omega⟩
    · split at h
      · rw [inB_iff] at h; exact ⟨by omega, by omega, fun k => h.2⟩
      · have := of_decide_eq_true h; exact ⟨by omega, by omega, fun k => by omega⟩
theorem mem_insM {l : List Mem} {m a : Mem} : a ∈ insM l m ↔ a = m ∨ a ∈ l := by
  unfold insM
  rw [List.mem_append, List.mem_cons, ← List.takeWhile_append_dropWhile (p := fun y => decide (y.person < m.person)) (l := l), List.mem_append]
  rw [List.takeWhile_append_dropWhile]
  constructor
  · rintro (h | h | h)
    · exact .inr (.inl h)
    · exact .inl h
    · exact .inr (.inr h)
  · rintro (h | h | h)
    · exact .inr (.inl h)
    · exact .inl h
    · exact .inr (.inr h)
theorem len_insM {l : List Mem} {m : Mem} : (insM l m).length = l.length + 1 := by
  unfold insM
  rw [List.length_append, List.length_cons, ← Nat.add_assoc, ← List.length_append, List.takeWhile_append_dropWhile]
theorem one_inv {m : Mem} {x : Ev} {b : Int} (h : MOk b m) (hx : 0 ≤ x.n ∧ (x.kind = 1 → x.n ≤ 20)) (hd : 0 ≤ x.day ∧ x.day ≤ 16384) : MOk (b + 20) (oneR m x).1 := by
  unfold MOk at h ⊢
  unfold oneR
  split
  · rename_i k; have := hx.2 k; simp only; omega
  split
  · simp only; omega
  split
  · split <;> simp only <;> omega
  split
  · split
    · simp only; omega
    · split
      · simp only; omega
      · simp only; omega
  split
  · simp only; omega
  · split <;> simp only <;> omega
theorem doR_inv {i : Nat} {s : St} {x : Ev} (h : InvR i s) (hk : evOk x = true) (hx : x.sheet.length ≤ 100000) (h0 : (doR s x).2 = 0) : InvR (i + 1) (doR s x).1 := by
  obtain ⟨n1, n2, n3⟩ := ev_rng hk
  have hd := ev_day hk
  unfold doR at h0 ⊢
  split
  · rename_i k
    rw [if_pos k] at h0
    refine finR_inv h hx h0 fun hz => ?_
    unfold joinR at hz ⊢
    split
    · rename_i c; rw [if_pos c] at hz; simp at hz
    · rename_i c
      rw [if_neg c] at hz
      split
      · rename_i c; rw [if_pos c] at hz; simp at hz
      · refine ⟨by simp only [len_insM]; have := h.1.1; omega, fun m hm => ?_⟩
        rcases mem_insM.1 hm with rfl | hm
        · unfold MOk; simp only; omega
        · have := h.2.1 m hm; unfold MOk at this ⊢; omega
  rename_i k
  rw [if_neg k] at h0
  split
  · rename_i k6
    rw [if_pos k6] at h0
    refine finR_inv h hx h0 fun hz => ?_
    unfold matchR at hz ⊢
    split
    · rename_i c; rw [if_pos c] at hz; simp at hz
    · rename_i c
      rw [if_neg c] at hz
      split
      · rename_i c; rw [if_pos c] at hz; simp only at hz; omega
      · refine ⟨by simp only [List.length_map]; have := h.1.1; omega, fun m hm => ?_⟩
        simp only [List.mem_map] at hm
        obtain ⟨a, ha, rfl⟩ := hm
        have := h.2.1 a ha
        unfold MOk at this ⊢
        unfold gam
        split
        · simp only; omega
        · omega
  rename_i k6
  rw [if_neg k6] at h0
  split
  · rename_i c; rw [if_pos c] at h0; simp at h0
  rename_i c
  rw [if_neg c] at h0
  refine finR_inv h hx h0 fun hz => ⟨by simp only [List.length_set]; have := h.1.1; omega, fun m hm => ?_⟩
  rcases List.mem_or_eq_of_mem_set hm with hm | rfl
  · have := h.2.1 m hm; unfold MOk at this ⊢; omega
  · rcases fnd_cases s.mem x.person with ⟨h1, _⟩ | ⟨j, hj, h1, _⟩
    · omega
    · rw [h1, Int.toNat_natCast]
      have := one_inv (x := x) (h.2.1 (s.mem.getD j default) (by rw [at_lt hj]; exact List.getElem_mem _)) ⟨n1, n3⟩ hd
      unfold MOk at this ⊢
      omega
def runN (l : List Ev) : Nat → Nat → St → St × Nat × Int
  | 0, i, s => (s, i, 0)
  | k + 1, i, s => if evOk (l.getD i default) = true then (if 0 < i ∧ (l.getD i default).day < (l.getD (i - 1) default).day then (s, i, 7) else if (doR s (l.getD i default)).2 = 0 then runN l k (i + 1) (doR s (l.getD i default)).1 else (s, i, (doR s (l.getD i default)).2)) else (s, i, 1)
def runR (l : List Ev) : St × Nat × Int := if 256 < l.length then (⟨[], []⟩, 0, 3) else runN l l.length 0 ⟨[], []⟩
def ShsOk (l : List Ev) : Prop := l.length ≤ 100000 ∧ ∀ x ∈ l, x.sheet.length ≤ 100000
theorem runN_inv {l : List Ev} (hl : ∀ x ∈ l, x.sheet.length ≤ 100000) : ∀ (k i : Nat) (s : St), i + k = l.length → InvR i s → ∃ j, j ≤ l.length ∧ InvR j (runN l k i s).1
  | 0, i, s, h, hI => ⟨i, by omega, hI⟩
  | k + 1, i, s, h, hI => by
    unfold runN
    have hlt : i < l.length := by omega
    split
    · rename_i c1
      split
      · exact ⟨i, by omega, hI⟩
      · split
        · rename_i c3
          exact runN_inv hl k (i + 1) _ (by omega) (doR_inv hI c1 (hl _ (by rw [at_lt hlt]; exact List.getElem_mem _)) c3)
        · exact ⟨i, by omega, hI⟩
    · exact ⟨i, by omega, hI⟩
theorem runR_inv {l : List Ev} (h : ShsOk l) : ∃ j, j ≤ 256 ∧ InvR j (runR l).1 := by
  unfold runR
  split
  · exact ⟨0, by omega, InvR.zero⟩
  · obtain ⟨j, h1, h2⟩ := runN_inv h.2 l.length 0 ⟨[], []⟩ (by omega) InvR.zero
    exact ⟨j, by omega, h2⟩
attribute [local irreducible] InvR
def O37 : Nat → Sch := fun id => if id = 9 then .one 0 (.one 1 (.one 2 (.one 3 (.one 4 (.one 5 (.one 6 (.one 7 (.one 8 (.one 9 (.one 10 (.one 11 (.one 12 (.one 13 (.one 14 (.one 15 (.done)))))))))))))))) else if id = 11 then .one 1 (.one 2 (.one 3 (.alt (.one 0 (.alt (.one 4 (.alt (.one 5 (.one 6 (.one 7 (.one 8 (.one 9 (.one 10 (.one 11 (.done)))))))) (.one 9 (.one 5 (.one 6 (.one 7 (.one 8 (.one 10 (.one 11 (.done)))))))))) (.one 9 (.one 4 (.one 5 (.one 6 (.one 7 (.one 8 (.one 10 (.one 11 (.done))))))))))) (.alt (.one 4 (.alt (.one 0 (.alt (.one 5 (.one 6 (.one 7 (.one 8 (.one 9 (.one 10 (.one 11 (.done)))))))) (.one 9 (.one 5 (.one 6 (.one 7 (.one 8 (.one 10 (.one 11 (.done)))))))))) (.one 9 (.one 0 (.one 5 (.one 6 (.one 7 (.one 8 (.one 10 (.one 11 (.done))))))))))) (.one 9 (.one 0 (.one 4 (.one 5 (.one 6 (.one 7 (.one 8 (.one 10 (.one 11 (.done)))))))))))))) else .done
theorem O37_9 : O37 9 = .one 0 (.one 1 (.one 2 (.one 3 (.one 4 (.one 5 (.one 6 (.one 7 (.one 8 (.one 9 (.one 10 (.one 11 (.one 12 (.one 13 (.one 14 (.one 15 (.done)))))))))))))))) := rfl
theorem O37_11 : O37 11 = .one 1 (.one 2 (.one 3 (.alt (.one 0 (.alt (.one 4 (.alt (.one 5 (.one 6 (.one 7 (.one 8 (.one 9 (.one 10 (.one 11 (.done)))))))) (.one 9 (.one 5 (.one 6 (.one 7 (.one 8 (.one 10 (.one 11 (.done)))))))))) (.one 9 (.one 4 (.one 5 (.one 6 (.one 7 (.one 8 (.one 10 (.one 11 (.done))))))))))) (.alt (.one 4 (.alt (.one 0 (.alt (.one 5 (.one 6 (.one 7 (.one 8 (.one 9 (.one 10 (.one 11 (.done)))))))) (.one 9 (.one 5 (.one 6 (.one 7 (.one 8 (.one 10 (.one 11 (.done)))))))))) (.one 9 (.one 0 (.one 5 (.one 6 (.one 7 (.one 8 (.one 10 (.one 11 (.done))))))))))) (.one 9 (.one 0 (.one 4 (.one 5 (.one 6 (.one 7 (.one 8 (.one 10 (.one 11 (.done)))))))))))))) := rfl
theorem ho37 : Try.f37.body.map (okO O37) = some true := by kernel_rfl
def Cf37 : Nat → List AV → (AV → List AV → Sto → Prop) → Kt → List AV → Sto → Prop := fun f args K Q e s => match f with
  | 57 => ent57 args K e s
  | 58 => ent58 args K e s
  | _ => False
def Ct37 : CT := { f := Cf37, y := noYld, z := fun d => false }
theorem ctz37 {d : Nat} : CT.z Ct37 d = (false) := id rfl
theorem Ct37_ok : Ct37.ok Try.prog := ok_of_f (fun f args K Q e s h => by
  have h : Cf37 f args K Q e s := h
  unfold Cf37 at h; split at h
  · exact ent57_ok h
  · exact ent58_ok h
  · exact h.elim) (fun _ _ _ _ _ _ _ _ _ h => h)
theorem x37_57 {x : Ev} {KK : AV → List AV → Sto → Prop} {QQ : Kt} {ii : At KK} {jj : At QQ} {ee : List AV} {ss : Sto} : xC Ct37 57 [.d (.agg x.c)] KK QQ ii jj ee ss = ((x.sheet.length ≤ 100000) ∧ KK (.d (.b (evOk x))) ee ss) := eq57
theorem x37_58 {s : St} {x : Ev} {KK : AV → List AV → Sto → Prop} {QQ : Kt} {ii : At KK} {jj : At QQ} {ee : List AV} {ss : Sto} : xC Ct37 58 [.d (.agg s.c), .d (.agg x.c)] KK QQ ii jj ee ss = ((MemsOk s.mem ∧ EvsOk s.evs ∧ x.sheet.length ≤ 100000 ∧ 0 ≤ x.n ∧ x.n ≤ 1000) ∧ KK (.d (.tup [.agg (doR s x).1.c, .i (doR s x).2])) ee ss) := eq58
theorem c37 : callable Try.prog 37 = true := by kernel_rfl
theorem pf37 (l : List Ev) (h : ShsOk l) : PF Try.prog 37 [.sl 5 (l.map Ev.c)] (fun zz => zz = .ret (.tup [.agg (runR l).1.c, .i ((runR l).2.1 : Int), .i (runR l).2.2])) := by
  obtain ⟨h1, h2⟩ := h
  unfold runR
  by_cases c0 : 256 < l.length
  · rw [if_pos c0]
    have c0' : (256 : Int) < l.length := by omega
    refine PF_nil (PF_start (O := O37) Ct37_ok hmix ho37 Try.func37 c37 rfl Try.ntmps37 Try.results37 ?_)
    simp (maxSteps := 4000000) +contextual (disch := first | omega | exact qdb_ok (by kernel_rfl) | exact okb_ok (by kernel_rfl)) only [bw1,bw2,bw3,bw4,bw5,bw6,bw7,bc0,bc1,bc2,bc3,bc4,bc5,bc6,bc7,bb0,setPs,AV.owns,AV.datF,AV.frz,AV.cpy,ifV,isEqB,nilV,nilX,AV.isNilS,AV.isNoRows,wk,dclo,datOf,binIs,addF,AV.isPtr,idxV,AV.isSl,AV.isSlice,AV.rows,ps,pv,extV,extS,AV.outs,AV.outF,packD,AV.dl,fieldV,fieldS,AV.cells?,AV.upr,AV.menc,AV.one,D.one,Value.oneCell',tagOf,AV.isApp,strV,strS,bolV,bolS,slcV,AV.isSlD,asrtS,AV.dcells,D.cells?,stcV,stcS,leafOk,eqDs,eqD,packA,D.val?,↓reduceIte,reduceCtorEq,Nat.reduceAdd,Nat.reduceSub,Nat.reduceMul,List.reduceReplicate,Nat.reduceLeDiff,Nat.reduceLT,Nat.reduceBEq,Nat.reduceEqDiff,Int.reduceNeg,Int.reduceEq,Int.reduceLE,Int.reduceLT,tfb,ctz37,O37_9,O37_11,x37_57,x37_58,c0']
    try rfl
  rw [if_neg c0]
  have c0' : ¬ (256 : Int) < l.length := by omega
  refine PF_nil (PF_start (O := O37) Ct37_ok hmix ho37 Try.func37 c37 rfl Try.ntmps37 Try.results37 ?_)
  simp (maxSteps := 4000000) +contextual (disch := first | omega | exact qdb_ok (by kernel_rfl) | exact okb_ok (by kernel_rfl)) only [bw1,bw2,bw3,bw4,bw5,bw6,bw7,bc0,bc1,bc2,bc3,bc4,bc5,bc6,bc7,bb0,setPs,AV.owns,AV.datF,AV.frz,AV.cpy,ifV,isEqB,nilV,nilX,AV.isNilS,AV.isNoRows,wk,dclo,datOf,binIs,addF,AV.isPtr,idxV,AV.isSl,AV.isSlice,AV.rows,ps,pv,extV,extS,AV.outs,AV.outF,packD,AV.dl,fieldV,fieldS,AV.cells?,AV.upr,AV.menc,AV.one,D.one,Value.oneCell',tagOf,AV.isApp,strV,strS,bolV,bolS,slcV,AV.isSlD,asrtS,AV.dcells,D.cells?,stcV,stcS,leafOk,eqDs,eqD,packA,D.val?,↓reduceIte,reduceCtorEq,Nat.reduceAdd,Nat.reduceSub,Nat.reduceMul,List.reduceReplicate,Nat.reduceLeDiff,Nat.reduceLT,Nat.reduceBEq,Nat.reduceEqDiff,Int.reduceNeg,Int.reduceEq,Int.reduceLE,Int.reduceLT,tfb,ctz37,O37_9,O37_11,x37_57,x37_58,c0']
  refine loop_u (O := O37) (tb := 0) Ct37_ok hmix (by kernel_rfl) (σ := Nat × St) (fun x => [(7, .any), (8, .any), (6, .i x.1)]) (fun x => [(3, [.d (.v (.slice none 0 0)), .d (.v (.slice none 0 0))]), (6, [.d (.sl 5 (x.2.mem.map Mem.c)), .d (.sl 5 (x.2.evs.map Ev.c))])]) (fun x => x.1 ≤ l.length ∧ InvR x.1 x.2 ∧ runN l (l.length - x.1) x.1 x.2 = runN l l.length 0 ⟨[], []⟩) (fun x => l.length - x.1) (fun x => (x.1 + 1, (doR x.2 (l.getD x.1 default)).1)) (0, ⟨[], []⟩) ⟨by simp, InvR.zero, rfl⟩ ?_ ?_
  · simp (maxSteps := 4000000) +contextual (disch := first | omega | exact qdb_ok (by kernel_rfl) | exact okb_ok (by kernel_rfl)) only [bw1,bw2,bw3,bw4,bw5,bw6,bw7,bc0,bc1,bc2,bc3,bc4,bc5,bc6,bc7,bb0,setPs,AV.owns,AV.datF,AV.frz,AV.cpy,ifV,isEqB,nilV,nilX,AV.isNilS,AV.isNoRows,wk,dclo,datOf,binIs,addF,AV.isPtr,idxV,AV.isSl,AV.isSlice,AV.rows,ps,pv,extV,extS,AV.outs,AV.outF,packD,AV.dl,fieldV,fieldS,AV.cells?,AV.upr,AV.menc,AV.one,D.one,Value.oneCell',tagOf,AV.isApp,strV,strS,bolV,bolS,slcV,AV.isSlD,asrtS,AV.dcells,D.cells?,stcV,stcS,leafOk,eqDs,eqD,packA,D.val?,↓reduceIte,reduceCtorEq,Nat.reduceAdd,Nat.reduceSub,Nat.reduceMul,List.reduceReplicate,Nat.reduceLeDiff,Nat.reduceLT,Nat.reduceBEq,Nat.reduceEqDiff,Int.reduceNeg,Int.reduceEq,Int.reduceLE,Int.reduceLT,tfb,ctz37,O37_9,O37_11,x37_57,x37_58]
  rintro ⟨i, s⟩ ⟨hi, hI, hw⟩
  simp only at hi hI hw
  by_cases hlt : i < l.length
  · have hlt' : (i : Int) < l.length := by omega
    have hx := h2 (l.getD i default) (by rw [at_lt hlt]; exact List.getElem_mem _)
    have hms := hI.ms (by omega)
    have hes := hI.es (by omega)
    rw [show l.length - i = (l.length - (i + 1)) + 1 by omega, runN] at hw
    by_cases c1 : evOk (l.getD i default) = true
    case neg =>
      rw [if_neg c1] at hw
      rw [← hw]
      simp (maxSteps := 4000000) +contextual (disch := first | omega | exact qdb_ok (by kernel_rfl) | exact okb_ok (by kernel_rfl)) only [bw1,bw2,bw3,bw4,bw5,bw6,bw7,bc0,bc1,bc2,bc3,bc4,bc5,bc6,bc7,bb0,setPs,AV.owns,AV.datF,AV.frz,AV.cpy,ifV,isEqB,nilV,nilX,AV.isNilS,AV.isNoRows,wk,dclo,datOf,binIs,addF,AV.isPtr,idxV,AV.isSl,AV.isSlice,AV.rows,ps,pv,extV,extS,AV.outs,AV.outF,packD,AV.dl,fieldV,fieldS,AV.cells?,AV.upr,AV.menc,AV.one,D.one,Value.oneCell',tagOf,AV.isApp,strV,strS,bolV,bolS,slcV,AV.isSlD,asrtS,AV.dcells,D.cells?,stcV,stcS,leafOk,eqDs,eqD,packA,D.val?,↓reduceIte,reduceCtorEq,Nat.reduceAdd,Nat.reduceSub,Nat.reduceMul,List.reduceReplicate,Nat.reduceLeDiff,Nat.reduceLT,Nat.reduceBEq,Nat.reduceEqDiff,Int.reduceNeg,Int.reduceEq,Int.reduceLE,Int.reduceLT,tfb,ctz37,O37_9,O37_11,x37_57,x37_58,eq_self, hlt', hx, c1]
      try omega
    rw [if_pos c1] at hw
    obtain ⟨n1, n2, _⟩ := ev_rng c1
    have n3 : (l.getD i default).n ≤ 1000 := by omega
    have hx58 : ∀ {KK : AV → List AV → Sto → Prop} {QQ : Kt} {ii : At KK} {jj : At QQ} {ee : List AV} {ss : Sto}, xC Ct37 58 [.d (.agg [.sl 5 (s.mem.map Mem.c), .sl 5 (s.evs.map Ev.c)]), .d (.agg (l.getD i default).c)] KK QQ ii jj ee ss = KK (.d (.tup [.agg (doR s (l.getD i default)).1.c, .i (doR s (l.getD i default)).2])) ee ss := by
      intro KK QQ ii jj ee ss
      have := x37_58 (s := s) (x := l.getD i default) (KK := KK) (QQ := QQ) (ii := ii) (jj := jj) (ee := ee) (ss := ss)
      exact this.trans (propext ⟨fun h => h.2, fun k => ⟨⟨hms, hes, hx, n1, n3⟩, k⟩⟩)
    by_cases z : 0 < i
    case' pos =>
      have z' : (0 : Int) < i := by omega
      have e1 : (i : Int) - 1 = ((i - 1 : Nat) : Int) := by omega
      by_cases c2 : (l.getD i default).day < (l.getD (i - 1) default).day
      case pos =>
        rw [if_pos ⟨z, c2⟩] at hw
        rw [← hw]
        simp (maxSteps := 4000000) +contextual (disch := first | omega | exact qdb_ok (by kernel_rfl) | exact okb_ok (by kernel_rfl)) only [bw1,bw2,bw3,bw4,bw5,bw6,bw7,bc0,bc1,bc2,bc3,bc4,bc5,bc6,bc7,bb0,setPs,AV.owns,AV.datF,AV.frz,AV.cpy,ifV,isEqB,nilV,nilX,AV.isNilS,AV.isNoRows,wk,dclo,datOf,binIs,addF,AV.isPtr,idxV,AV.isSl,AV.isSlice,AV.rows,ps,pv,extV,extS,AV.outs,AV.outF,packD,AV.dl,fieldV,fieldS,AV.cells?,AV.upr,AV.menc,AV.one,D.one,Value.oneCell',tagOf,AV.isApp,strV,strS,bolV,bolS,slcV,AV.isSlD,asrtS,AV.dcells,D.cells?,stcV,stcS,leafOk,eqDs,eqD,packA,D.val?,↓reduceIte,reduceCtorEq,Nat.reduceAdd,Nat.reduceSub,Nat.reduceMul,List.reduceReplicate,Nat.reduceLeDiff,Nat.reduceLT,Nat.reduceBEq,Nat.reduceEqDiff,Int.reduceNeg,Int.reduceEq,Int.reduceLE,Int.reduceLT,tfb,ctz37,O37_9,O37_11,x37_57,x37_58,eq_self, hlt', hx, c1, z', e1, c2]
        and_intros <;> first | omega | rfl
      rw [if_neg (fun h => c2 h.2)] at hw
    case' neg =>
      have z' : ¬ (0 : Int) < i := by omega
      have c2 := z'
      have e1 := z'
      rw [if_neg (fun h => z h.1)] at hw
    all_goals
      by_cases c3 : (doR s (l.getD i default)).2 = 0
      · rw [if_pos c3] at hw
        have hI2 := doR_inv hI c1 hx c3
        simp (maxSteps := 4000000) +contextual (disch := first | omega | exact qdb_ok (by kernel_rfl) | exact okb_ok (by kernel_rfl)) only [bw1,bw2,bw3,bw4,bw5,bw6,bw7,bc0,bc1,bc2,bc3,bc4,bc5,bc6,bc7,bb0,setPs,AV.owns,AV.datF,AV.frz,AV.cpy,ifV,isEqB,nilV,nilX,AV.isNilS,AV.isNoRows,wk,dclo,datOf,binIs,addF,AV.isPtr,idxV,AV.isSl,AV.isSlice,AV.rows,ps,pv,extV,extS,AV.outs,AV.outF,packD,AV.dl,fieldV,fieldS,AV.cells?,AV.upr,AV.menc,AV.one,D.one,Value.oneCell',tagOf,AV.isApp,strV,strS,bolV,bolS,slcV,AV.isSlD,asrtS,AV.dcells,D.cells?,stcV,stcS,leafOk,eqDs,eqD,packA,D.val?,↓reduceIte,reduceCtorEq,Nat.reduceAdd,Nat.reduceSub,Nat.reduceMul,List.reduceReplicate,Nat.reduceLeDiff,Nat.reduceLT,Nat.reduceBEq,Nat.reduceEqDiff,Int.reduceNeg,Int.reduceEq,Int.reduceLE,Int.reduceLT,tfb,ctz37,O37_9,O37_11,x37_57,x37_58,eq_self, hlt', hx, c1, z', e1, c2, hx58, c3, bne_self_eq_false]
        and_intros <;> first | omega | exact hI2 | exact hw
      · rw [if_neg c3] at hw
        rw [← hw]
        have c3b : ((doR s (l.getD i default)).2 != 0) = true := by simpa using c3
        simp (maxSteps := 4000000) +contextual (disch := first | omega | exact qdb_ok (by kernel_rfl) | exact okb_ok (by kernel_rfl)) only [bw1,bw2,bw3,bw4,bw5,bw6,bw7,bc0,bc1,bc2,bc3,bc4,bc5,bc6,bc7,bb0,setPs,AV.owns,AV.datF,AV.frz,AV.cpy,ifV,isEqB,nilV,nilX,AV.isNilS,AV.isNoRows,wk,dclo,datOf,binIs,addF,AV.isPtr,idxV,AV.isSl,AV.isSlice,AV.rows,ps,pv,extV,extS,AV.outs,AV.outF,packD,AV.dl,fieldV,fieldS,AV.cells?,AV.upr,AV.menc,AV.one,D.one,Value.oneCell',tagOf,AV.isApp,strV,strS,bolV,bolS,slcV,AV.isSlD,asrtS,AV.dcells,D.cells?,stcV,stcS,leafOk,eqDs,eqD,packA,D.val?,↓reduceIte,reduceCtorEq,Nat.reduceAdd,Nat.reduceSub,Nat.reduceMul,List.reduceReplicate,Nat.reduceLeDiff,Nat.reduceLT,Nat.reduceBEq,Nat.reduceEqDiff,Int.reduceNeg,Int.reduceEq,Int.reduceLE,Int.reduceLT,tfb,ctz37,O37_9,O37_11,x37_57,x37_58,eq_self, hlt', hx, c1, z', e1, c2, hx58, c3, c3b]
        try (and_intros <;> first | omega | rfl)
  have hlt' : ¬ (i : Int) < l.length := by omega
  obtain rfl : i = l.length := by omega
  rw [Nat.sub_self, runN] at hw
  rw [← hw]
  simp (maxSteps := 4000000) +contextual (disch := first | omega | exact qdb_ok (by kernel_rfl) | exact okb_ok (by kernel_rfl)) only [bw1,bw2,bw3,bw4,bw5,bw6,bw7,bc0,bc1,bc2,bc3,bc4,bc5,bc6,bc7,bb0,setPs,AV.owns,AV.datF,AV.frz,AV.cpy,ifV,isEqB,nilV,nilX,AV.isNilS,AV.isNoRows,wk,dclo,datOf,binIs,addF,AV.isPtr,idxV,AV.isSl,AV.isSlice,AV.rows,ps,pv,extV,extS,AV.outs,AV.outF,packD,AV.dl,fieldV,fieldS,AV.cells?,AV.upr,AV.menc,AV.one,D.one,Value.oneCell',tagOf,AV.isApp,strV,strS,bolV,bolS,slcV,AV.isSlD,asrtS,AV.dcells,D.cells?,stcV,stcS,leafOk,eqDs,eqD,packA,D.val?,↓reduceIte,reduceCtorEq,Nat.reduceAdd,Nat.reduceSub,Nat.reduceMul,List.reduceReplicate,Nat.reduceLeDiff,Nat.reduceLT,Nat.reduceBEq,Nat.reduceEqDiff,Int.reduceNeg,Int.reduceEq,Int.reduceLE,Int.reduceLT,tfb,ctz37,O37_9,O37_11,x37_57,x37_58,eq_self, Int.lt_irrefl]
def ent37 (args : List AV) (K : AV → List AV → Sto → Prop) (e : List AV) (s : Sto) : Prop := ent (α := (List Ev)) (fun aa => [.sl 5 (aa.map Ev.c)]) (fun aa => ShsOk aa) (fun aa => .tup [.agg (runR aa).1.c, .i ((runR aa).2.1 : Int), .i (runR aa).2.2]) args K e s
theorem ent37_ok {args : List AV} {K : AV → List AV → Sto → Prop} {Q : Kt} {e : List AV} {s : Sto} (h : ent37 args K e s) : pcall Try.prog 37 args K Q e s := ent_ok (fun aa h => pf37 aa h) h
theorem eq37 {l : List Ev} {KK : AV → List AV → Sto → Prop} {ee : List AV} {ss : Sto} : ent37 [.d (.sl 5 (l.map Ev.c))] KK ee ss = ((ShsOk l) ∧ KK (.d (.tup [.agg (runR l).1.c, .i ((runR l).2.1 : Int), .i (runR l).2.2])) ee ss) := by
  unfold ent37; rw [ent_iff l (by intro b h; simpa [Prod.ext_iff, and_assoc, Int.ofNat_inj, ints_inj, evs_inj, mems_inj, ev_inj, mem_inj, st_inj] using h) rfl]; simp
theorem eqo37 {l : List Ev} {g1 el1 : Nat} {KK : AV → List AV → Sto → Prop} {ee : List AV} {ss : Sto} : ent37 [.own g1 el1 5 (l.map Ev.c)] KK ee ss = ((ShsOk l) ∧ (.tup [.agg (runR l).1.c, .i ((runR l).2.1 : Int), .i (runR l).2.2] : D).flat = true ∧ KK (.d (.tup [.agg (runR l).1.c, .i ((runR l).2.1 : Int), .i (runR l).2.2])) ee ss) := by
  unfold ent37; rw [ent_iff l (by intro b h; simpa [Prod.ext_iff, and_assoc, Int.ofNat_inj, ints_inj, evs_inj, mems_inj, ev_inj, mem_inj, st_inj] using h) rfl]; simp
end Go.Proofs.Ytohkngiflfkjjaa
