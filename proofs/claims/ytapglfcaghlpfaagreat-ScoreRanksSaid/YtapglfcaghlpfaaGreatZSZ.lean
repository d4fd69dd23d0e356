/- A part of the proof that the last text ends: what functions of the program do, told by plain data. -/
import Derived.Test.YtapglfcaghlpfaaGreatZSY
set_option linter.unusedVariables false
set_option linter.unusedSimpArgs false
namespace Go.Proofs.YtapglfcaghlpfaaGreat
open Go Go.E Go.Maps
set_option maxRecDepth 100000
set_option maxHeartbeats 16000000
theorem okN_dup {r : Rul} {n : Int} {l : List Cal} : ∀ k i, okN r n l k i = true → ∀ j, i ≤ j → j < i + k → dupB l j = false
  | 0, i, _, j, h1, h2 => by omega
  | k + 1, i, h, j, h1, h2 => by
    unfold okN at h
    split at h
    · cases h
    · rename_i h4
      split at h
      · rcases Nat.lt_or_ge i j with h5 | h5
        · exact okN_dup k (i + 1) h j (by omega) (by omega)
        · rw [show j = i by omega]; simpa using h4
      · cases h
theorem dup_nodup {l : List Cal} (h : ∀ j, j < l.length → dupB l j = false) : (l.map Cal.place).Nodup := by
  refine List.pairwise_iff_getElem.2 fun i j hi hj hij he => ?_
  simp only [List.length_map] at hi hj
  rw [List.getElem_map, List.getElem_map] at he
  have := h j hj
  unfold dupB at this
  rw [List.any_eq_false] at this
  refine this l[i] (List.mem_take_iff_getElem.2 ⟨i, by omega, rfl⟩) ?_
  rw [at_lt hj]; simpa using he
theorem ska_ok {r : Rul} {l : List Ska} (h : conOk r l = true) {s : Ska} (hs : s ∈ l) : skaOk r s (jud l).1 = true := by
  unfold conOk at h
  simp only [Bool.and_eq_true] at h
  exact List.all_eq_true.1 h.2 s hs
theorem vk_of {r : Rul} {s : Ska} (h : conOk r (one s) = true) : VK r s := by
  obtain ⟨n, hv⟩ := valid_of h
  have hk := ska_ok h (s := s) (by simp [one])
  unfold skaOk at hk
  simp only [Bool.and_eq_true] at hk
  have hd := fun j hj => okN_dup _ _ hk.1.2 j (Nat.zero_le j) (by rw [Nat.zero_add]; exact hj)
  have hbl := hv.bases
  have hjn := hv.jn
  refine ⟨⟨hv.calls, fun c hc => ?_, dup_nodup hd, by have := hv.most; omega⟩, ⟨n, hv⟩, hv.parts, fun p hp => ?_, hv.over⟩
  · obtain ⟨h1, h2, h3, h4, h5⟩ := hv.call c hc
    exact ⟨by omega, hv.base, h2, h3, ⟨h4.2, by omega⟩, h5⟩
  · obtain ⟨h1, h2⟩ := hv.part p hp
    exact ⟨hv.factor, ⟨h1.2, by omega⟩, h2⟩
theorem one_i64 {s : Ska} (h : ∀ x ∈ s.calls, i64 x.place) : ∀ z ∈ one s, ∀ x ∈ z.calls, i64 x.place := fun z hz => by
  simp [one] at hz; subst hz; exact h
def O15 : Nat → Sch := fun id => .done
theorem ho15 : Tryz.f15.body.map (okO O15) = some true := by kernel_rfl
def Cf15 : Nat → List AV → (AV → List AV → Sto → Prop) → Kt → List AV → Sto → Prop := fun f args K Q e s => match f with
  | 30 => ent30 args K e s
  | 31 => ent31 args K e s
  | _ => False
def Ct15 : CT := { f := Cf15, y := noYld, z := fun d => false }
theorem ctz15 {d : Nat} : CT.z Ct15 d = (false) := id rfl
theorem Ct15_ok : Ct15.ok Tryz.prog := ok_of_f (fun f args K Q e s h => by
  have h : Cf15 f args K Q e s := h
  unfold Cf15 at h; split at h
  · exact ent30_ok h
  · exact ent31_ok h
  · exact h.elim) (fun _ _ _ _ _ _ _ _ _ h => h)
theorem x15_30_m1 {r : Rul} {l : List Ska} {g1 el1 : Nat} {KK : AV → List AV → Sto → Prop} {QQ : Kt} {ii : At KK} {jj : At QQ} {ee : List AV} {ss : Sto} : xC Ct15 30 [.d (r.d), .own g1 el1 3 (l.map Ska.c)] KK QQ ii jj ee ss = ((l.length ≤ 1000 ∧ ∀ s ∈ l, ∀ x ∈ s.calls, i64 x.place) ∧ (.b (conOk r l) : D).flat = true ∧ KK (.d (.b (conOk r l))) ee ss) := eqo30
theorem x15_31 {r : Rul} {s : Ska} {KK : AV → List AV → Sto → Prop} {QQ : Kt} {ii : At KK} {jj : At QQ} {ee : List AV} {ss : Sto} : xC Ct15 31 [.d (r.d), .d (.agg s.c)] KK QQ ii jj ee ss = ((VK r s) ∧ KK (.d (.agg (progR r s).c)) ee ss) := eq31
theorem c15 : callable Tryz.prog 15 = true := by kernel_rfl
theorem pf15 (r : Rul) (s : Ska) (h : ∀ x ∈ s.calls, i64 x.place) : PF Tryz.prog 15 [r.d, .agg s.c] (fun zz => zz = .ret (.tup [.agg (progG r s).1.c, .i (progG r s).2])) := by
  have h1 := one_i64 h
  by_cases c : conOk r (one s) = true
  · have hw : progG r s = (progR r s, 0) := by unfold progG; rw [if_pos c]
    have hv := vk_of c
    rw [hw]
    refine PF_nil (PF_start (O := O15) Ct15_ok hmix ho15 Tryz.func15 c15 rfl Tryz.ntmps15 Tryz.results15 ?_)
    simp (maxSteps := 4000000) +contextual (disch := first | omega | exact qdb_ok (by kernel_rfl) | exact okb_ok (by kernel_rfl)) only [bw1,bw2,bw3,bw5,bw6,bc1,bc2,bc3,bc4,bc5,bc6,AV.outs,AV.outF,packD,AV.dl,AV.cells?,AV.menc,AV.one,D.one,Value.oneCell',AV.dcells,D.cells?,↓reduceIte,reduceCtorEq,Nat.reduceAdd,Nat.reduceSub,Nat.reduceMul,List.reduceReplicate,Nat.reduceLeDiff,Nat.reduceLT,Nat.reduceBEq,Nat.reduceEqDiff,tfb,ctz15,x15_30_m1,x15_31,one_rows, one_len, c, hv]
    exact ⟨h1, rfl⟩
  · have hw : progG r s = (⟨0, 0, 0, 0⟩, 1) := by unfold progG; rw [if_neg c]
    rw [hw]
    refine PF_nil (PF_start (O := O15) Ct15_ok hmix ho15 Tryz.func15 c15 rfl Tryz.ntmps15 Tryz.results15 ?_)
    simp (maxSteps := 4000000) +contextual (disch := first | omega | exact qdb_ok (by kernel_rfl) | exact okb_ok (by kernel_rfl)) only [bw1,bw2,bw3,bw5,bw6,bc1,bc2,bc3,bc4,bc5,bc6,ps,pv,AV.outs,AV.outF,packD,AV.dl,AV.cells?,AV.menc,AV.one,D.one,Value.oneCell',AV.dcells,D.cells?,↓reduceIte,reduceCtorEq,Nat.reduceAdd,Nat.reduceSub,Nat.reduceMul,List.reduceReplicate,Nat.reduceLeDiff,Nat.reduceLT,Nat.reduceBEq,Nat.reduceEqDiff,tfb,ctz15,x15_30_m1,one_rows, one_len, c]
    exact ⟨h1, rfl⟩
def ent15 (args : List AV) (K : AV → List AV → Sto → Prop) (e : List AV) (s : Sto) : Prop := ent (α := (Rul) × (Ska)) (fun aa => [aa.1.d, .agg aa.2.c]) (fun aa => ∀ x ∈ aa.2.calls, i64 x.place) (fun aa => .tup [.agg (progG aa.1 aa.2).1.c, .i (progG aa.1 aa.2).2]) args K e s
theorem ent15_ok {args : List AV} {K : AV → List AV → Sto → Prop} {Q : Kt} {e : List AV} {s : Sto} (h : ent15 args K e s) : pcall Tryz.prog 15 args K Q e s := ent_ok (fun aa h => pf15 aa.1 aa.2 h) h
theorem eq15 {r : Rul} {s : Ska} {KK : AV → List AV → Sto → Prop} {ee : List AV} {ss : Sto} : ent15 [.d (r.d), .d (.agg s.c)] KK ee ss = ((∀ x ∈ s.calls, i64 x.place) ∧ KK (.d (.tup [.agg (progG r s).1.c, .i (progG r s).2])) ee ss) := by
  unfold ent15; rw [ent_iff (r, s) (by intro b h; simpa [Prod.ext_iff, and_assoc, Int.ofNat_inj, ints_inj, cals_inj, pcs_inj, skas_inj, scos_inj, ska_inj, rul_inj, sco_inj, cal_inj, ods_inj, od_inj] using h) rfl]; simp
end Go.Proofs.YtapglfcaghlpfaaGreat
