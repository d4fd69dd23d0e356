/- A part of the proof that the last text ends: what functions of the program do, told by plain data. -/
import Derived.Test.YtohkngiflfkjjaaRM
set_option linter.unusedVariables false
set_option linter.unusedSimpArgs false
namespace Go.Proofs.Ytohkngiflfkjjaa
open Go Go.E Go.Maps
set_option maxRecDepth 100000
set_option maxHeartbeats 16000000
/-! ### The program: who comes -/
theorem kill_itc {g h n : Nat} (hg : h ≠ g) {x : List Nat} : (itc h n x).map (AV.kill g) = itc h n x := by simp [itc, AV.kill, AV.men, hg, Ne.symm hg]
theorem nd_le : ∀ (n : Nat) (x : List Nat), x.Nodup → (∀ i ∈ x, i < n) → x.length ≤ n
  | 0, x, _, h => by
    rcases x with _ | ⟨a, x⟩
    · simp
    · exact absurd (h a (by simp)) (by omega)
  | n + 1, x, hd, h => by
    have h1 : (x.erase n).Nodup := hd.erase n
    have h2 := nd_le n (x.erase n) h1 fun i hi => by
      have := (hd.mem_erase_iff).1 hi
      have := h i this.2
      omega
    have h3 := List.length_erase (a := n) (l := x)
    split at h3 <;> omega
theorem seen_lt {n i : Nat} {x : List Nat} (hd : x.Nodup) (h : ∀ i ∈ x, i < n) (hi : i < n) (hs : i ∉ x) : x.length < n ∧ (x ++ [i]).Nodup ∧ ∀ k ∈ x ++ [i], k < n := by
  have h1 : (i :: x).Nodup := List.nodup_cons.2 ⟨hs, hd⟩
  have h2 : ∀ k ∈ i :: x, k < n := fun k hk => by
    rcases List.mem_cons.1 hk with rfl | hk
    · exact hi
    · exact h k hk
  have h3 := nd_le _ _ h1 h2
  refine ⟨by rw [List.length_cons] at h3; omega, ?_, fun k hk => h2 k (by simpa [or_comm] using hk)⟩
  exact (List.perm_append_comm (l₁ := [i]) (l₂ := x)).nodup_iff.1 h1
theorem seen_all {α : Type} [Inhabited α] {l : List α} {x : List Nat} (hd : x.Nodup) (h : ∀ i ∈ x, i < l.length) (ha : ∀ i, i < l.length → i ∈ x) : (x.map fun i => l.getD i default).Perm l := by
  have h1 : x.Perm (List.range l.length) := (List.perm_ext_iff_of_nodup hd List.nodup_range).2 fun i => by rw [List.mem_range]; exact ⟨h i, ha i⟩
  refine (h1.map _).trans ?_
  refine List.Perm.of_eq (List.ext_getElem (by simp) fun i h1 h2 => ?_)
  simp [List.getD, h2]
theorem wk_ents : ∀ l : List AV, wk l l
  | [] => trivial
  | _ :: c => ⟨.inr (.inl rfl), wk_ents c⟩
def cntS (PM : PMem) (c : Int) (seen : List Nat) : Nat := (seen.map fun i => PM.getD i default).countP fun p => decide (p.2.club = c)
theorem cntS_yes {PM : PMem} {c : Int} {seen : List Nat} {i : Nat} (h : (PM.getD i default).2.club = c) : cntS PM c (seen ++ [i]) = cntS PM c seen + 1 := by
  unfold cntS; rw [List.map_append, List.countP_append, List.map_singleton, List.countP_singleton, decide_eq_true h]; rfl
theorem cntS_no {PM : PMem} {c : Int} {seen : List Nat} {i : Nat} (h : ¬ (PM.getD i default).2.club = c) : cntS PM c (seen ++ [i]) = cntS PM c seen := by
  unfold cntS; rw [List.map_append, List.countP_append, List.map_singleton, List.countP_singleton, decide_eq_false h]; rfl
theorem cntS_le {PM : PMem} {c : Int} {seen : List Nat} : cntS PM c seen ≤ seen.length := by
  unfold cntS; exact Nat.le_trans List.countP_le_length (by simp)
theorem cntS_all {PM : PMem} {M1 M2 : PSet} {s : St} (hR : Rl PM M1 M2 s) {c : Int} {seen : List Nat} (hd : seen.Nodup) (h : ∀ i ∈ seen, i < PM.length) (ha : ∀ i, i < PM.length → i ∈ seen) : cntS PM c seen = clubN s.mem c s.mem.length := by
  unfold cntS clubN
  rw [List.take_length, (seen_all hd h ha).countP_eq, ← hR.perm.countP_eq, List.countP_map]
  rfl
theorem Rl.len {PM : PMem} {M1 M2 : PSet} {s : St} (hR : Rl PM M1 M2 s) : PM.length = s.mem.length := by rw [← hR.perm.length_eq, List.length_map]
theorem doR_j1 {s : St} {x : Ev} (h0 : x.kind = 0) (h : 0 ≤ fnd s.mem x.person) : doR s x = (s, 5) := by
  unfold doR joinR finR; rw [if_pos h0, if_pos h]; simp
theorem doR_j2 {s : St} {x : Ev} (h0 : x.kind = 0) (h : ¬ 0 ≤ fnd s.mem x.person) (h2 : 25 ≤ clubN s.mem x.n s.mem.length) : doR s x = (s, 9) := by
  unfold doR joinR finR; rw [if_pos h0, if_neg h, if_pos h2]; simp
theorem doR_j3 {s : St} {x : Ev} (h0 : x.kind = 0) (h : ¬ 0 ≤ fnd s.mem x.person) (h2 : ¬ 25 ≤ clubN s.mem x.n s.mem.length) : doR s x = (⟨insM s.mem ⟨x.person, x.n, 0, 0, 0⟩, s.evs ++ [x]⟩, 0) := by
  unfold doR joinR finR; rw [if_pos h0, if_neg h, if_neg h2]; simp
def O60 : Nat → Sch := fun id => if id = 1 then .one 0 (.one 1 (.one 2 (.one 3 (.one 4 (.one 5 (.one 6 (.one 7 (.one 8 (.one 9 (.one 10 (.one 11 (.done)))))))))))) else if id = 7 then .one 0 (.one 1 (.one 2 (.one 3 (.one 4 (.one 5 (.one 6 (.done))))))) else if id = 10 then .one 0 (.one 1 (.one 2 (.one 4 (.one 6 (.one 7 (.one 8 (.one 9 (.one 10 (.alt (.one 3 (.alt (.one 5 (.one 11 (.one 12 (.done)))) (.one 11 (.one 5 (.one 12 (.done)))))) (.alt (.one 5 (.alt (.one 3 (.one 11 (.one 12 (.done)))) (.one 11 (.one 3 (.one 12 (.done)))))) (.one 11 (.one 3 (.one 5 (.one 12 (.done))))))))))))))) else .done
theorem O60_1 : O60 1 = .one 0 (.one 1 (.one 2 (.one 3 (.one 4 (.one 5 (.one 6 (.one 7 (.one 8 (.one 9 (.one 10 (.one 11 (.done)))))))))))) := rfl
theorem O60_7 : O60 7 = .one 0 (.one 1 (.one 2 (.one 3 (.one 4 (.one 5 (.one 6 (.done))))))) := rfl
theorem O60_10 : O60 10 = .one 0 (.one 1 (.one 2 (.one 4 (.one 6 (.one 7 (.one 8 (.one 9 (.one 10 (.alt (.one 3 (.alt (.one 5 (.one 11 (.one 12 (.done)))) (.one 11 (.one 5 (.one 12 (.done)))))) (.alt (.one 5 (.alt (.one 3 (.one 11 (.one 12 (.done)))) (.one 11 (.one 3 (.one 12 (.done)))))) (.one 11 (.one 3 (.one 5 (.one 12 (.done))))))))))))))) := rfl
theorem ho60 : Try.f60.body.map (okO O60) = some true := by kernel_rfl
def Cf60 : Nat → List AV → (AV → List AV → Sto → Prop) → Kt → List AV → Sto → Prop := fun f args K Q e s => match f with
  | 44 => inlE Try.prog Ct44 O44 44000 44 args K Q e s
  | _ => False
def Ct60 : CT := { f := Cf60, y := noYld, z := fun d => false }
theorem ctz60 {d : Nat} : CT.z Ct60 d = (false) := id rfl
theorem Ct60_ok : Ct60.ok Try.prog := ok_of_f (fun f args K Q e s h => by
  have h : Cf60 f args K Q e s := h
  unfold Cf60 at h; split at h
  · exact inlE_ok Ct44_ok hmix ho44 h
  · exact h.elim) (fun _ _ _ _ _ _ _ _ _ h => h)
theorem z60_44 : type_of% (@xinl Try.prog Ct60 Ct44 O44 44000 44 _ _ _ _ rfl c44 Try.func44 rfl Try.ntmps44 Try.results44) := @xinl Try.prog Ct60 Ct44 O44 44000 44 _ _ _ _ rfl c44 Try.func44 rfl Try.ntmps44 Try.results44
theorem c60 : callable Try.prog 60 = true := by kernel_rfl
theorem deed60 {i : Nat} {s : St} {x : Ev} {PM : PMem} {M1 M2 : PSet} (hi : i ≤ 256) (hI : InvR i s) (hR : Rl PM M1 M2 s) (hx : evOk x = true) (hk : x.kind = 0) : Deed 60 s x PM M1 M2 := by
  unfold Deed
  have h6 : x.kind ≠ 6 := by omega
  have hp := keyOf3 (i64_of (a := x.person) (by have := ev_person hx h6; omega))
  have hbm := bm_ok (gb := 4000100011) hR.rg
  rcases hR.look x.person with ⟨h1, h2⟩ | ⟨a, j, m, h1, h2, h3, h4, h5, hm, h7⟩
  case inr =>
    have hd := doR_j1 (s := s) hk (by omega)
    have hlk := fun {R : Option Nat → Prop} {m : At R} => xLkB_at (gb := 4000100011) h1 h7 (R := R) (m := m)
    refine pcall_start (O := O60) (tb := 60000) Ct60_ok hmix ho60 Try.func60 c60 rfl Try.ntmps60 Try.results60 ?_
    simp (maxSteps := 4000000) +contextual (disch := first | omega | exact qdb_ok (by kernel_rfl) | exact okb_ok (by kernel_rfl)) only [bw1,bw2,bw3,bw4,bw5,bw6,bw7,bc0,bc1,bc2,bc3,bc4,bc5,bc6,bc7,bb0,setPs,AV.owns,AV.datF,AV.frz,AV.cpy,ifV,isEqB,nilV,nilX,AV.isNilS,AV.isNoRows,wk,dclo,datOf,binIs,addF,AV.isPtr,idxV,AV.isSl,AV.isSlice,AV.rows,ps,pv,extV,extS,AV.outs,AV.outF,packD,AV.dl,fieldV,fieldS,AV.cells?,AV.upr,AV.menc,AV.one,D.one,Value.oneCell',tagOf,AV.isApp,strV,strS,bolV,bolS,slcV,AV.isSlD,asrtS,AV.dcells,D.cells?,stcV,stcS,leafOk,eqDs,eqD,packA,D.val?,↓reduceIte,reduceCtorEq,Nat.reduceAdd,Nat.reduceSub,Nat.reduceMul,List.reduceReplicate,Nat.reduceLeDiff,Nat.reduceLT,Nat.reduceBEq,Nat.reduceEqDiff,Int.reduceNeg,Int.reduceEq,Int.reduceLE,Int.reduceLT,tfb,boxAt,key3',key99',mencs_bxs,mencs_ents,kill_bxs,kill_ents,en_bxs,bxs_len,false_implies,ctz60,O60_1,O60_7,O60_10,z60_44,ctz44,hlk, hbm, hp]
    exact ⟨by rw [hd]; rfl, by rw [hd]; simp, PM, M1, M2, ⟨rfl, rfl, rfl, rfl⟩⟩
  have hlk := fun {R : Option Nat → Prop} {m : At R} => xLkB_no (gb := 4000100011) h2 (R := R) (m := m)
  have hlen := hR.len
  have hl1 := hI.1.1
  have hf : ¬ 0 ≤ fnd s.mem x.person := by omega
  refine pcall_start (O := O60) (tb := 60000) Ct60_ok hmix ho60 Try.func60 c60 rfl Try.ntmps60 Try.results60 ?_
  simp (maxSteps := 4000000) +contextual (disch := first | omega | exact qdb_ok (by kernel_rfl) | exact okb_ok (by kernel_rfl)) only [bw1,bw2,bw3,bw4,bw5,bw6,bw7,bc0,bc1,bc2,bc3,bc4,bc5,bc6,bc7,bb0,setPs,AV.owns,AV.datF,AV.frz,AV.cpy,ifV,isEqB,nilV,nilX,AV.isNilS,AV.isNoRows,wk,dclo,datOf,binIs,addF,AV.isPtr,idxV,AV.isSl,AV.isSlice,AV.rows,ps,pv,extV,extS,AV.outs,AV.outF,packD,AV.dl,fieldV,fieldS,AV.cells?,AV.upr,AV.menc,AV.one,D.one,Value.oneCell',tagOf,AV.isApp,strV,strS,bolV,bolS,slcV,AV.isSlD,asrtS,AV.dcells,D.cells?,stcV,stcS,leafOk,eqDs,eqD,packA,D.val?,↓reduceIte,reduceCtorEq,Nat.reduceAdd,Nat.reduceSub,Nat.reduceMul,List.reduceReplicate,Nat.reduceLeDiff,Nat.reduceLT,Nat.reduceBEq,Nat.reduceEqDiff,Int.reduceNeg,Int.reduceEq,Int.reduceLE,Int.reduceLT,tfb,boxAt,key3',key99',mencs_bxs,mencs_ents,kill_bxs,kill_ents,en_bxs,bxs_len,false_implies,ctz60,O60_1,O60_7,O60_10,z60_44,ctz44,hlk, hbm, hp]
  refine loop_xu (O := O60) (tb := 60000) Ct60_ok hmix (by kernel_rfl) (σ := List Nat) (fun y => [(6, .i (cntS PM x.n y : Int))]) (fun y => [(2000060026, itc 3000100011 PM.length y)]) (fun y => y.Nodup ∧ ∀ k ∈ y, k < PM.length) (fun y => PM.length - y.length) [] ⟨by simp, by simp⟩ ?_ ?_
  · simp (maxSteps := 4000000) +contextual (disch := first | omega | exact qdb_ok (by kernel_rfl) | exact okb_ok (by kernel_rfl)) only [bw1,bw2,bw3,bw4,bw5,bw6,bw7,bc0,bc1,bc2,bc3,bc4,bc5,bc6,bc7,bb0,setPs,AV.owns,AV.datF,AV.frz,AV.cpy,ifV,isEqB,nilV,nilX,AV.isNilS,AV.isNoRows,wk,dclo,datOf,binIs,addF,AV.isPtr,idxV,AV.isSl,AV.isSlice,AV.rows,ps,pv,extV,extS,AV.outs,AV.outF,packD,AV.dl,fieldV,fieldS,AV.cells?,AV.upr,AV.menc,AV.one,D.one,Value.oneCell',tagOf,AV.isApp,strV,strS,bolV,bolS,slcV,AV.isSlD,asrtS,AV.dcells,D.cells?,stcV,stcS,leafOk,eqDs,eqD,packA,D.val?,↓reduceIte,reduceCtorEq,Nat.reduceAdd,Nat.reduceSub,Nat.reduceMul,List.reduceReplicate,Nat.reduceLeDiff,Nat.reduceLT,Nat.reduceBEq,Nat.reduceEqDiff,Int.reduceNeg,Int.reduceEq,Int.reduceLE,Int.reduceLT,tfb,boxAt,key3',key99',mencs_bxs,mencs_ents,kill_bxs,kill_ents,en_bxs,bxs_len,false_implies,ctz60,O60_1,O60_7,O60_10,z60_44,ctz44,eq_self]
    exact ⟨rfl, wk_ents _, wk_ents _, wk_ents _, wk_ents _⟩
  rintro seen ⟨hn1, hn2⟩
  simp (maxSteps := 4000000) +contextual (disch := first | omega | exact qdb_ok (by kernel_rfl) | exact okb_ok (by kernel_rfl)) only [bw1,bw2,bw3,bw4,bw5,bw6,bw7,bc0,bc1,bc2,bc3,bc4,bc5,bc6,bc7,bb0,setPs,AV.owns,AV.datF,AV.frz,AV.cpy,ifV,isEqB,nilV,nilX,AV.isNilS,AV.isNoRows,wk,dclo,datOf,binIs,addF,AV.isPtr,idxV,AV.isSl,AV.isSlice,AV.rows,ps,pv,extV,extS,AV.outs,AV.outF,packD,AV.dl,fieldV,fieldS,AV.cells?,AV.upr,AV.menc,AV.one,D.one,Value.oneCell',tagOf,AV.isApp,strV,strS,bolV,bolS,slcV,AV.isSlD,asrtS,AV.dcells,D.cells?,stcV,stcS,leafOk,eqDs,eqD,packA,D.val?,↓reduceIte,reduceCtorEq,Nat.reduceAdd,Nat.reduceSub,Nat.reduceMul,List.reduceReplicate,Nat.reduceLeDiff,Nat.reduceLT,Nat.reduceBEq,Nat.reduceEqDiff,Int.reduceNeg,Int.reduceEq,Int.reduceLE,Int.reduceLT,tfb,boxAt,key3',key99',mencs_bxs,mencs_ents,kill_bxs,kill_ents,en_bxs,bxs_len,false_implies,ctz60,O60_1,O60_7,O60_10,z60_44,ctz44,eq_self]
  refine nx_bxs (gb := 4000100011) (fk := fki) (fc := Mem.c) (M := PM) (G := 3000100011) rfl rfl rfl rfl (by simp [AV.mencs, AV.menc, Sto.mencs, mencs_ents, mencs_bxs, itc]) (fun hall => ?_) (fun k hi hs => ?_)
  · have hcnt := cntS_all hR (c := x.n) hn1 hn2 hall
    by_cases c : 25 ≤ clubN s.mem x.n s.mem.length
    · have hd := doR_j2 hk hf c
      have c' : ¬ (clubN s.mem x.n s.mem.length : Int) < 25 := by omega
      simp (maxSteps := 4000000) +contextual (disch := first | omega | exact qdb_ok (by kernel_rfl) | exact okb_ok (by kernel_rfl)) only [bw1,bw2,bw3,bw4,bw5,bw6,bw7,bc0,bc1,bc2,bc3,bc4,bc5,bc6,bc7,bb0,setPs,AV.owns,AV.datF,AV.frz,AV.cpy,ifV,isEqB,nilV,nilX,AV.isNilS,AV.isNoRows,wk,dclo,datOf,binIs,addF,AV.isPtr,idxV,AV.isSl,AV.isSlice,AV.rows,ps,pv,extV,extS,AV.outs,AV.outF,packD,AV.dl,fieldV,fieldS,AV.cells?,AV.upr,AV.menc,AV.one,D.one,Value.oneCell',tagOf,AV.isApp,strV,strS,bolV,bolS,slcV,AV.isSlD,asrtS,AV.dcells,D.cells?,stcV,stcS,leafOk,eqDs,eqD,packA,D.val?,↓reduceIte,reduceCtorEq,Nat.reduceAdd,Nat.reduceSub,Nat.reduceMul,List.reduceReplicate,Nat.reduceLeDiff,Nat.reduceLT,Nat.reduceBEq,Nat.reduceEqDiff,Int.reduceNeg,Int.reduceEq,Int.reduceLE,Int.reduceLT,tfb,boxAt,key3',key99',mencs_bxs,mencs_ents,kill_bxs,kill_ents,en_bxs,bxs_len,false_implies,ctz60,O60_1,O60_7,O60_10,z60_44,ctz44,hcnt, c']
      exact ⟨by rw [hd]; rfl, by rw [hd]; simp, PM, M1, M2, ⟨rfl, rfl, rfl, rfl⟩⟩
    · have hd := doR_j3 hk hf c
      have c' : (clubN s.mem x.n s.mem.length : Int) < 25 := by omega
      have hnew : ∀ (i : Nat) (kd' : D) (cs : List D), (bxs 4000100011 fki Mem.c PM)[i]? = some (bxE 4000100011 i kd' cs) → kd'.val? ≠ some (.int .i64 x.person) := bxs_new (fkv := fun n => Value.int .i64 n) (k := x.person) fki_val fki_inj (fun z hz => by
        obtain ⟨j, hj⟩ := List.getElem?_of_mem hz
        exact h2 j z hj)
      have happ : bxs 4000100011 fki Mem.c PM ++ [.tup [.d (.i x.person), .bx 4000100011 PM.length 0, .d (.agg [.i x.person, .i x.n, .i 0, .i 0, .i 0])]] = bxs 4000100011 fki Mem.c (PM ++ [(x.person, ⟨x.person, x.n, 0, 0, 0⟩)]) := bxs_app (z := (x.person, (⟨x.person, x.n, 0, 0, 0⟩ : Mem)))
      simp (maxSteps := 4000000) +contextual (disch := first | omega | exact qdb_ok (by kernel_rfl) | exact okb_ok (by kernel_rfl)) only [bw1,bw2,bw3,bw4,bw5,bw6,bw7,bc0,bc1,bc2,bc3,bc4,bc5,bc6,bc7,bb0,setPs,AV.owns,AV.datF,AV.frz,AV.cpy,ifV,isEqB,nilV,nilX,AV.isNilS,AV.isNoRows,wk,dclo,datOf,binIs,addF,AV.isPtr,idxV,AV.isSl,AV.isSlice,AV.rows,ps,pv,extV,extS,AV.outs,AV.outF,packD,AV.dl,fieldV,fieldS,AV.cells?,AV.upr,AV.menc,AV.one,D.one,Value.oneCell',tagOf,AV.isApp,strV,strS,bolV,bolS,slcV,AV.isSlD,asrtS,AV.dcells,D.cells?,stcV,stcS,leafOk,eqDs,eqD,packA,D.val?,↓reduceIte,reduceCtorEq,Nat.reduceAdd,Nat.reduceSub,Nat.reduceMul,List.reduceReplicate,Nat.reduceLeDiff,Nat.reduceLT,Nat.reduceBEq,Nat.reduceEqDiff,Int.reduceNeg,Int.reduceEq,Int.reduceLE,Int.reduceLT,tfb,boxAt,key3',key99',mencs_bxs,mencs_ents,kill_bxs,kill_ents,en_bxs,bxs_len,false_implies,ctz60,O60_1,O60_7,O60_10,z60_44,ctz44,hcnt, c', hbm, hp, allD, happ, List.length_append]
      have hpi := i64_of (a := x.person) (by have := ev_person hx h6; omega)
      exact ⟨by rw [kill_itc (by decide)]; rfl, hnew, by rw [hd], _, M1, M2, by rw [hd]; exact hR.join (m := ⟨x.person, x.n, 0, 0, 0⟩) h1 h6 hpi, ⟨rfl, rfl, rfl, rfl⟩⟩
  · obtain ⟨hs1, hs2, hs3⟩ := seen_lt hn1 hn2 hi hs
    have hat := bxAt_bxs (gb := 4000100011) (fk := fki) (fc := Mem.c) (M := PM) hi
    have hcl := cntS_le (PM := PM) (c := x.n) (seen := seen)
    by_cases c : (PM.getD k default).2.club = x.n
    · have cb : ((PM.getD k default).2.club == x.n) = true := by simpa using c
      have hy := cntS_yes (seen := seen) c
      simp (maxSteps := 4000000) +contextual (disch := first | omega | exact qdb_ok (by kernel_rfl) | exact okb_ok (by kernel_rfl)) only [bw1,bw2,bw3,bw4,bw5,bw6,bw7,bc0,bc1,bc2,bc3,bc4,bc5,bc6,bc7,bb0,setPs,AV.owns,AV.datF,AV.frz,AV.cpy,ifV,isEqB,nilV,nilX,AV.isNilS,AV.isNoRows,wk,dclo,datOf,binIs,addF,AV.isPtr,idxV,AV.isSl,AV.isSlice,AV.rows,ps,pv,extV,extS,AV.outs,AV.outF,packD,AV.dl,fieldV,fieldS,AV.cells?,AV.upr,AV.menc,AV.one,D.one,Value.oneCell',tagOf,AV.isApp,strV,strS,bolV,bolS,slcV,AV.isSlD,asrtS,AV.dcells,D.cells?,stcV,stcS,leafOk,eqDs,eqD,packA,D.val?,↓reduceIte,reduceCtorEq,Nat.reduceAdd,Nat.reduceSub,Nat.reduceMul,List.reduceReplicate,Nat.reduceLeDiff,Nat.reduceLT,Nat.reduceBEq,Nat.reduceEqDiff,Int.reduceNeg,Int.reduceEq,Int.reduceLE,Int.reduceLT,tfb,boxAt,key3',key99',mencs_bxs,mencs_ents,kill_bxs,kill_ents,en_bxs,bxs_len,false_implies,ctz60,O60_1,O60_7,O60_10,z60_44,ctz44,eq_self, hat, cb]
      exact ⟨hi, seen ++ [k], ⟨⟨hs2, hs3⟩, by rw [List.length_append]; simp only [List.length_cons, List.length_nil]; omega⟩, by rw [hy]; rfl, wk_ents _, wk_ents _, wk_ents _, wk_ents _⟩
    · have cb : ((PM.getD k default).2.club == x.n) = false := by simpa using c
      have hy := cntS_no (seen := seen) c
      simp (maxSteps := 4000000) +contextual (disch := first | omega | exact qdb_ok (by kernel_rfl) | exact okb_ok (by kernel_rfl)) only [bw1,bw2,bw3,bw4,bw5,bw6,bw7,bc0,bc1,bc2,bc3,bc4,bc5,bc6,bc7,bb0,setPs,AV.owns,AV.datF,AV.frz,AV.cpy,ifV,isEqB,nilV,nilX,AV.isNilS,AV.isNoRows,wk,dclo,datOf,binIs,addF,AV.isPtr,idxV,AV.isSl,AV.isSlice,AV.rows,ps,pv,extV,extS,AV.outs,AV.outF,packD,AV.dl,fieldV,fieldS,AV.cells?,AV.upr,AV.menc,AV.one,D.one,Value.oneCell',tagOf,AV.isApp,strV,strS,bolV,bolS,slcV,AV.isSlD,asrtS,AV.dcells,D.cells?,stcV,stcS,leafOk,eqDs,eqD,packA,D.val?,↓reduceIte,reduceCtorEq,Nat.reduceAdd,Nat.reduceSub,Nat.reduceMul,List.reduceReplicate,Nat.reduceLeDiff,Nat.reduceLT,Nat.reduceBEq,Nat.reduceEqDiff,Int.reduceNeg,Int.reduceEq,Int.reduceLE,Int.reduceLT,tfb,boxAt,key3',key99',mencs_bxs,mencs_ents,kill_bxs,kill_ents,en_bxs,bxs_len,false_implies,ctz60,O60_1,O60_7,O60_10,z60_44,ctz44,eq_self, hat, cb]
      exact ⟨hi, seen ++ [k], ⟨⟨hs2, hs3⟩, by rw [List.length_append]; simp only [List.length_cons, List.length_nil]; omega⟩, by rw [hy], wk_ents _, wk_ents _, wk_ents _, wk_ents _⟩
end Go.Proofs.Ytohkngiflfkjjaa
