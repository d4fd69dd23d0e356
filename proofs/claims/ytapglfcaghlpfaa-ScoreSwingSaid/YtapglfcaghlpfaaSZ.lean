/- A part of the proof that the last text ends: what functions of the program do, told by plain data. -/
import Derived.Test.YtapglfcaghlpfaaSY
set_option linter.unusedVariables false
set_option linter.unusedSimpArgs false
namespace Go.Proofs.Ytapglfcaghlpfaa
open Go Go.E Go.Maps
set_option maxRecDepth 100000
set_option maxHeartbeats 16000000
theorem okN_dup {r : Rul} {n : Int} {l : List Cal} : ∀ k i, okN r n l k i = true → ∀ j, i ≤ j → j < i + k → dupB l j = false
  | 0, i, _, j, h1, h2 => by omega
  | k + 1, i, h, j, h1, h2 => by
    unfold okN at h
    split at h
    · cases h
    · rename_i h4
      split at h
      · rcases Nat.lt_or_ge i j with h5 | h5
        · exact okN_dup k (i + 1) h j (by omega) (by omega)
        · rw [show j = i by omega]; simpa using h4
      · cases h
theorem dup_nodup {l : List Cal} (h : ∀ j, j < l.length → dupB l j = false) : (l.map Cal.place).Nodup := by
  refine List.pairwise_iff_getElem.2 fun i j hi hj hij he => ?_
  simp only [List.length_map] at hi hj
  rw [List.getElem_map, List.getElem_map] at he
  have := h j hj
  unfold dupB at this
  rw [List.any_eq_false] at this
  refine this l[i] (List.mem_take_iff_getElem.2 ⟨i, by omega, rfl⟩) ?_
  rw [at_lt hj]; simpa using he
theorem ska_ok {r : Rul} {l : List Ska} (h : conOk r l = true) {s : Ska} (hs : s ∈ l) : skaOk r s (jud l).1 = true := by
  unfold conOk at h
  simp only [Bool.and_eq_true] at h
  exact List.all_eq_true.1 h.2 s hs
theorem vk_of {r : Rul} {s : Ska} (h : conOk r (one s) = true) : VK r s := by
  obtain ⟨n, hv⟩ := valid_of h
  have hk := ska_ok h (s := s) (by simp [one])
  unfold skaOk at hk
  simp only [Bool.and_eq_true] at hk
  have hd := fun j hj => okN_dup _ _ hk.1.2 j (Nat.zero_le j) (by rw [Nat.zero_add]; exact hj)
  have hbl := hv.bases
  have hjn := hv.jn
  refine ⟨⟨hv.calls, fun c hc => ?_, dup_nodup hd, by have := hv.most; omega⟩, ⟨n, hv⟩, hv.parts, fun p hp => ?_, hv.over⟩
  · obtain ⟨h1, h2, h3, h4, h5⟩ := hv.call c hc
    exact ⟨by omega, hv.base, h2, h3, ⟨h4.2, by omega⟩, h5⟩
  · obtain ⟨h1, h2⟩ := hv.part p hp
    exact ⟨hv.factor, ⟨h1.2, by omega⟩, h2⟩
theorem one_i64 {s : Ska} (h : ∀ x ∈ s.calls, i64 x.place) : ∀ z ∈ one s, ∀ x ∈ z.calls, i64 x.place := fun z hz => by
  simp [one] at hz; subst hz; exact h
def O17 : Nat → Sch := fun id => .done
theorem ho17 : Try.f17.body.map (okO O17) = some true := by kernel_rfl
def Cf17 : Nat → List AV → (AV → List AV → Sto → Prop) → Kt → List AV → Sto → Prop := fun f args K Q e s => match f with
  | 37 => ent37 args K e s
  | 38 => ent38 args K e s
  | _ => False
def Ct17 : CT := { f := Cf17, y := noYld, z := fun d => false }
theorem ctz17 {d : Nat} : CT.z Ct17 d = (false) := id rfl
theorem Ct17_ok : Ct17.ok Try.prog := ok_of_f (fun f args K Q e s h => by
  have h : Cf17 f args K Q e s := h
  unfold Cf17 at h; split at h
  · exact ent37_ok h
  · exact ent38_ok h
  · exact h.elim) (fun _ _ _ _ _ _ _ _ _ h => h)
theorem x17_37 {r : Rul} {l : List Ska} {KK : AV → List AV → Sto → Prop} {QQ : Kt} {ii : At KK} {jj : At QQ} {ee : List AV} {ss : Sto} : xC Ct17 37 [.d (r.d), .d (.sl 3 (l.map Ska.c))] KK QQ ii jj ee ss = ((l.length ≤ 1000 ∧ ∀ s ∈ l, ∀ x ∈ s.calls, i64 x.place) ∧ KK (.d (.b (conOk r l))) ee ss) := eq37
theorem x17_37_m1 {r : Rul} {l : List Ska} {g1 el1 : Nat} {KK : AV → List AV → Sto → Prop} {QQ : Kt} {ii : At KK} {jj : At QQ} {ee : List AV} {ss : Sto} : xC Ct17 37 [.d (r.d), .own g1 el1 3 (l.map Ska.c)] KK QQ ii jj ee ss = ((l.length ≤ 1000 ∧ ∀ s ∈ l, ∀ x ∈ s.calls, i64 x.place) ∧ (.b (conOk r l) : D).flat = true ∧ KK (.d (.b (conOk r l))) ee ss) := eqo37
theorem x17_38 {r : Rul} {s : Ska} {KK : AV → List AV → Sto → Prop} {QQ : Kt} {ii : At KK} {jj : At QQ} {ee : List AV} {ss : Sto} : xC Ct17 38 [.d (r.d), .d (.agg s.c)] KK QQ ii jj ee ss = ((VK r s) ∧ KK (.d (.agg (progR r s).c)) ee ss) := eq38
theorem c17 : callable Try.prog 17 = true := by kernel_rfl
theorem pf17 (r : Rul) (s : Ska) (h : ∀ x ∈ s.calls, i64 x.place) : PF Try.prog 17 [r.d, .agg s.c] (fun zz => zz = .ret (.tup [.agg (progG r s).1.c, .i (progG r s).2])) := by
  have h1 := one_i64 h
  by_cases c : conOk r (one s) = true
  · have hw : progG r s = (progR r s, 0) := by unfold progG; rw [if_pos c]
    have hv := vk_of c
    rw [hw]
    refine PF_nil (PF_start (O := O17) Ct17_ok hmix ho17 Try.func17 c17 rfl Try.ntmps17 Try.results17 ?_)
    simp (maxSteps := 4000000) +contextual (disch := first | omega | exact qdb_ok (by kernel_rfl) | exact okb_ok (by kernel_rfl)) only [bw1,bw2,bw3,bw4,bw5,bw6,bw7,bc0,bc1,bc2,bc3,bc4,bc5,bc6,bc7,setPs,AV.owns,AV.datF,AV.frz,AV.cpy,ifV,isEqB,nilV,nilX,AV.isNilS,AV.isNoRows,wk,dclo,datOf,binIs,addF,AV.isPtr,idxV,AV.isSl,AV.isSlice,AV.rows,ps,pv,extV,extS,AV.outs,AV.outF,packD,AV.dl,fieldV,fieldS,AV.cells?,AV.upr,AV.menc,AV.one,D.one,Value.oneCell',tagOf,AV.isApp,strV,strS,bolV,bolS,slcV,AV.isSlD,asrtS,AV.dcells,D.cells?,stcV,stcS,leafOk,eqDs,eqD,packA,D.val?,↓reduceIte,reduceCtorEq,Nat.reduceAdd,Nat.reduceSub,Nat.reduceMul,List.reduceReplicate,Nat.reduceLeDiff,Nat.reduceLT,Nat.reduceBEq,Nat.reduceEqDiff,Int.reduceNeg,Int.reduceEq,Int.reduceLE,Int.reduceLT,tfb,ctz17,x17_37,x17_37_m1,x17_38,one_rows, one_len, c, hv]
    exact ⟨h1, rfl⟩
  · have hw : progG r s = (⟨0, 0, 0, 0⟩, 1) := by unfold progG; rw [if_neg c]
    rw [hw]
    refine PF_nil (PF_start (O := O17) Ct17_ok hmix ho17 Try.func17 c17 rfl Try.ntmps17 Try.results17 ?_)
    simp (maxSteps := 4000000) +contextual (disch := first | omega | exact qdb_ok (by kernel_rfl) | exact okb_ok (by kernel_rfl)) only [bw1,bw2,bw3,bw4,bw5,bw6,bw7,bc0,bc1,bc2,bc3,bc4,bc5,bc6,bc7,setPs,AV.owns,AV.datF,AV.frz,AV.cpy,ifV,isEqB,nilV,nilX,AV.isNilS,AV.isNoRows,wk,dclo,datOf,binIs,addF,AV.isPtr,idxV,AV.isSl,AV.isSlice,AV.rows,ps,pv,extV,extS,AV.outs,AV.outF,packD,AV.dl,fieldV,fieldS,AV.cells?,AV.upr,AV.menc,AV.one,D.one,Value.oneCell',tagOf,AV.isApp,strV,strS,bolV,bolS,slcV,AV.isSlD,asrtS,AV.dcells,D.cells?,stcV,stcS,leafOk,eqDs,eqD,packA,D.val?,↓reduceIte,reduceCtorEq,Nat.reduceAdd,Nat.reduceSub,Nat.reduceMul,List.reduceReplicate,Nat.reduceLeDiff,Nat.reduceLT,Nat.reduceBEq,Nat.reduceEqDiff,Int.reduceNeg,Int.reduceEq,Int.reduceLE,Int.reduceLT,tfb,ctz17,x17_37,x17_37_m1,x17_38,one_rows, one_len, c]
    exact ⟨h1, rfl⟩
def ent17 (args : List AV) (K : AV → List AV → Sto → Prop) (e : List AV) (s : Sto) : Prop := ent (α := (Rul) × (Ska)) (fun aa => [aa.1.d, .agg aa.2.c]) (fun aa => ∀ x ∈ aa.2.calls, i64 x.place) (fun aa => .tup [.agg (progG aa.1 aa.2).1.c, .i (progG aa.1 aa.2).2]) args K e s
theorem ent17_ok {args : List AV} {K : AV → List AV → Sto → Prop} {Q : Kt} {e : List AV} {s : Sto} (h : ent17 args K e s) : pcall Try.prog 17 args K Q e s := ent_ok (fun aa h => pf17 aa.1 aa.2 h) h
theorem eq17 {r : Rul} {s : Ska} {KK : AV → List AV → Sto → Prop} {ee : List AV} {ss : Sto} : ent17 [.d (r.d), .d (.agg s.c)] KK ee ss = ((∀ x ∈ s.calls, i64 x.place) ∧ KK (.d (.tup [.agg (progG r s).1.c, .i (progG r s).2])) ee ss) := by
  unfold ent17; rw [ent_iff (r, s) (by intro b h; simpa [Prod.ext_iff, and_assoc, Int.ofNat_inj, ints_inj, cals_inj, pcs_inj, skas_inj, scos_inj, ska_inj, rul_inj, sco_inj, cal_inj, ods_inj, od_inj] using h) rfl]; simp
end Go.Proofs.Ytapglfcaghlpfaa
