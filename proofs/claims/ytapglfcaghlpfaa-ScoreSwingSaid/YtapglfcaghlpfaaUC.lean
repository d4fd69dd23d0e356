/- A part of the proof that the last text ends: what functions of the program do, told by plain data. -/
import Derived.Test.YtapglfcaghlpfaaUB
set_option linter.unusedVariables false
set_option linter.unusedSimpArgs false
namespace Go.Proofs.Ytapglfcaghlpfaa
open Go Go.E Go.Maps
set_option maxRecDepth 100000
set_option maxHeartbeats 16000000
def errG (r : Rul) (l : List Ska) : Int := if (40 : Int) < l.length then 3 else if conOk r l = true then 0 else 1
def O42 : Nat → Sch := fun id => .done
theorem ho42 : Try.f42.body.map (okO O42) = some true := by kernel_rfl
def Cf42 : Nat → List AV → (AV → List AV → Sto → Prop) → Kt → List AV → Sto → Prop := fun f args K Q e s => match f with
  | 37 => ent37 args K e s
  | _ => False
def Ct42 : CT := { f := Cf42, y := noYld, z := fun d => false }
theorem ctz42 {d : Nat} : CT.z Ct42 d = (false) := id rfl
theorem Ct42_ok : Ct42.ok Try.prog := ok_of_f (fun f args K Q e s h => by
  have h : Cf42 f args K Q e s := h
  unfold Cf42 at h; split at h
  · exact ent37_ok h
  · exact h.elim) (fun _ _ _ _ _ _ _ _ _ h => h)
theorem x42_37 {r : Rul} {l : List Ska} {KK : AV → List AV → Sto → Prop} {QQ : Kt} {ii : At KK} {jj : At QQ} {ee : List AV} {ss : Sto} : xC Ct42 37 [.d (r.d), .d (.sl 3 (l.map Ska.c))] KK QQ ii jj ee ss = ((l.length ≤ 1000 ∧ ∀ s ∈ l, ∀ x ∈ s.calls, i64 x.place) ∧ KK (.d (.b (conOk r l))) ee ss) := eq37
theorem x42_37_m1 {r : Rul} {l : List Ska} {g1 el1 : Nat} {KK : AV → List AV → Sto → Prop} {QQ : Kt} {ii : At KK} {jj : At QQ} {ee : List AV} {ss : Sto} : xC Ct42 37 [.d (r.d), .own g1 el1 3 (l.map Ska.c)] KK QQ ii jj ee ss = ((l.length ≤ 1000 ∧ ∀ s ∈ l, ∀ x ∈ s.calls, i64 x.place) ∧ (.b (conOk r l) : D).flat = true ∧ KK (.d (.b (conOk r l))) ee ss) := eqo37
theorem c42 : callable Try.prog 42 = true := by kernel_rfl
theorem pf42 (r : Rul) (l : List Ska) (h : l.length ≤ 1000 ∧ ∀ s ∈ l, ∀ x ∈ s.calls, i64 x.place) : PF Try.prog 42 [r.d, .sl 3 (l.map Ska.c)] (fun zz => zz = .ret (.i (errG r l))) := by
  obtain ⟨h1, h2⟩ := h
  unfold errG
  by_cases c1 : (40 : Int) < l.length
  · rw [if_pos c1]
    refine PF_nil (PF_start (O := O42) Ct42_ok hmix ho42 Try.func42 c42 rfl Try.ntmps42 Try.results42 ?_)
    simp (maxSteps := 4000000) +contextual (disch := first | omega | exact qdb_ok (by kernel_rfl) | exact okb_ok (by kernel_rfl)) only [bw1,bw2,bw3,bw4,bw5,bw6,bw7,bc0,bc1,bc2,bc3,bc4,bc5,bc6,bc7,setPs,AV.owns,AV.datF,AV.frz,AV.cpy,ifV,isEqB,nilV,nilX,AV.isNilS,AV.isNoRows,wk,dclo,datOf,binIs,addF,AV.isPtr,idxV,AV.isSl,AV.isSlice,AV.rows,ps,pv,extV,extS,AV.outs,AV.outF,packD,AV.dl,fieldV,fieldS,AV.cells?,AV.upr,AV.menc,AV.one,D.one,Value.oneCell',tagOf,AV.isApp,strV,strS,bolV,bolS,slcV,AV.isSlD,asrtS,AV.dcells,D.cells?,stcV,stcS,leafOk,eqDs,eqD,packA,D.val?,↓reduceIte,reduceCtorEq,Nat.reduceAdd,Nat.reduceSub,Nat.reduceMul,List.reduceReplicate,Nat.reduceLeDiff,Nat.reduceLT,Nat.reduceBEq,Nat.reduceEqDiff,Int.reduceNeg,Int.reduceEq,Int.reduceLE,Int.reduceLT,tfb,ctz42,x42_37,x42_37_m1,c1]
    try rfl
  rw [if_neg c1]
  by_cases c2 : conOk r l = true
  · rw [if_pos c2]
    refine PF_nil (PF_start (O := O42) Ct42_ok hmix ho42 Try.func42 c42 rfl Try.ntmps42 Try.results42 ?_)
    simp (maxSteps := 4000000) +contextual (disch := first | omega | exact qdb_ok (by kernel_rfl) | exact okb_ok (by kernel_rfl)) only [bw1,bw2,bw3,bw4,bw5,bw6,bw7,bc0,bc1,bc2,bc3,bc4,bc5,bc6,bc7,setPs,AV.owns,AV.datF,AV.frz,AV.cpy,ifV,isEqB,nilV,nilX,AV.isNilS,AV.isNoRows,wk,dclo,datOf,binIs,addF,AV.isPtr,idxV,AV.isSl,AV.isSlice,AV.rows,ps,pv,extV,extS,AV.outs,AV.outF,packD,AV.dl,fieldV,fieldS,AV.cells?,AV.upr,AV.menc,AV.one,D.one,Value.oneCell',tagOf,AV.isApp,strV,strS,bolV,bolS,slcV,AV.isSlD,asrtS,AV.dcells,D.cells?,stcV,stcS,leafOk,eqDs,eqD,packA,D.val?,↓reduceIte,reduceCtorEq,Nat.reduceAdd,Nat.reduceSub,Nat.reduceMul,List.reduceReplicate,Nat.reduceLeDiff,Nat.reduceLT,Nat.reduceBEq,Nat.reduceEqDiff,Int.reduceNeg,Int.reduceEq,Int.reduceLE,Int.reduceLT,tfb,ctz42,x42_37,x42_37_m1,c1, c2, h1]
    exact h2
  · rw [if_neg c2]
    refine PF_nil (PF_start (O := O42) Ct42_ok hmix ho42 Try.func42 c42 rfl Try.ntmps42 Try.results42 ?_)
    simp (maxSteps := 4000000) +contextual (disch := first | omega | exact qdb_ok (by kernel_rfl) | exact okb_ok (by kernel_rfl)) only [bw1,bw2,bw3,bw4,bw5,bw6,bw7,bc0,bc1,bc2,bc3,bc4,bc5,bc6,bc7,setPs,AV.owns,AV.datF,AV.frz,AV.cpy,ifV,isEqB,nilV,nilX,AV.isNilS,AV.isNoRows,wk,dclo,datOf,binIs,addF,AV.isPtr,idxV,AV.isSl,AV.isSlice,AV.rows,ps,pv,extV,extS,AV.outs,AV.outF,packD,AV.dl,fieldV,fieldS,AV.cells?,AV.upr,AV.menc,AV.one,D.one,Value.oneCell',tagOf,AV.isApp,strV,strS,bolV,bolS,slcV,AV.isSlD,asrtS,AV.dcells,D.cells?,stcV,stcS,leafOk,eqDs,eqD,packA,D.val?,↓reduceIte,reduceCtorEq,Nat.reduceAdd,Nat.reduceSub,Nat.reduceMul,List.reduceReplicate,Nat.reduceLeDiff,Nat.reduceLT,Nat.reduceBEq,Nat.reduceEqDiff,Int.reduceNeg,Int.reduceEq,Int.reduceLE,Int.reduceLT,tfb,ctz42,x42_37,x42_37_m1,c1, c2, h1]
    exact h2
def swG (r : Rul) (l : List Ska) (j : Int) : List Spn × Int := if errG r l = 0 then (if inB j 0 ((jud l).1 - 1) = true then (swR r l j.toNat, 0) else ([], 2)) else ([], errG r l)
theorem judN_true {l : List Ska} : ∀ k i j, i ≤ j → j < i + k → (0 < (l.getD j default).calls.length ∨ 0 < (l.getD j default).parts.length) → (judN l k i).2 = true
  | 0, i, j, h1, h2, _ => by omega
  | k + 1, i, j, h1, h2, h3 => by
    unfold judN
    split
    · rfl
    · split
      · rfl
      · rcases Nat.lt_or_ge i j with h4 | h4
        · exact judN_true k (i + 1) j (by omega) (by omega) h3
        · obtain rfl : j = i := by omega
          omega
theorem jud_true {l : List Ska} {s : Ska} (hs : s ∈ l) (h : 0 < s.calls.length ∨ 0 < s.parts.length) : (jud l).2 = true := by
  obtain ⟨j, hj, rfl⟩ := List.getElem_of_mem hs
  exact judN_true l.length 0 j (Nat.zero_le j) (by omega) (by rw [at_lt hj]; exact h)
theorem con_jud {r : Rul} {l : List Ska} (h : conOk r l = true) : ((jud l).2 = true → 1 ≤ (jud l).1) ∧ 0 ≤ (jud l).1 ∧ (jud l).1 ≤ 9 := by
  unfold conOk at h
  simp only [Bool.and_eq_true] at h
  by_cases c : (jud l).2 = true
  · have := h.1.2
    rw [c] at this
    have := inB_iff.1 (by simpa using this)
    exact ⟨fun _ => this.1, by omega, this.2⟩
  · have := (judN_b (l := l) l.length 0).2 (Bool.eq_false_iff.2 c)
    have : (jud l).1 = 0 := this
    exact ⟨fun h => absurd h c, by omega, by omega⟩
theorem con_valid {r : Rul} {l : List Ska} (h : conOk r l = true) {s : Ska} (hs : s ∈ l) : Valid r s (jud l).1 := by
  have h3 := ska_ok h hs
  obtain ⟨hn1, hn0⟩ := con_jud h
  have hn := fun hh => hn1 (jud_true hs hh)
  unfold conOk at h
  simp only [Bool.and_eq_true] at h
  obtain ⟨⟨h1, h2⟩, _⟩ := h
  unfold Rul.ok at h1
  simp only [Bool.and_eq_true, inB_iff] at h1
  obtain ⟨⟨⟨b1, b2⟩, b3⟩, b4⟩ := h1
  generalize (jud l).1 = n at h3 hn hn0
  unfold skaOk at h3
  simp only [Bool.and_eq_true, decide_eq_true_eq, inB_iff] at h3
  obtain ⟨⟨⟨⟨c1, c2⟩, c3⟩, c4⟩, c5⟩ := h3
  refine ⟨by omega, allB_el b2, b3, b4, hn0, c1, c2, c3, fun x hx => ?_, fun p hp => ?_⟩
  · obtain ⟨j, hj, rfl⟩ := List.getElem_of_mem hx
    have := okN_all _ _ c4 j (by omega) (by omega)
    rw [at_lt hj] at this
    unfold callOk marksOk at this
    simp only [Bool.and_eq_true, inB_iff, decide_eq_true_eq] at this
    obtain ⟨d1, d2, d3, d4, d5⟩ := this
    have := hn (.inl (by omega))
    exact ⟨d1, by omega, d3, ⟨d4, by omega⟩, allB_el d5⟩
  · unfold partsOk at c5
    rw [List.all_eq_true] at c5
    have := c5 p hp
    unfold marksOk at this
    simp only [Bool.and_eq_true, decide_eq_true_eq] at this
    have h6 : 0 < s.parts.length := List.length_pos_of_mem hp
    have := hn (.inr h6)
    rename_i d
    exact ⟨⟨d.1, by omega⟩, allB_el d.2⟩
theorem con_dup {r : Rul} {l : List Ska} (h : conOk r l = true) {s : Ska} (hs : s ∈ l) : (s.calls.map Cal.place).Nodup := by
  have hk := ska_ok h hs
  unfold skaOk at hk
  simp only [Bool.and_eq_true] at hk
  exact dup_nodup fun j hj => okN_dup _ _ hk.1.2 j (Nat.zero_le j) (by rw [Nat.zero_add]; exact hj)
theorem vk_valid {r : Rul} {s : Ska} {n : Int} (hv : Valid r s n) (hd : (s.calls.map Cal.place).Nodup) : VK r s := by
  have hbl := hv.bases
  have hjn := hv.jn
  refine ⟨⟨hv.calls, fun c hc => ?_, hd, by have := hv.most; omega⟩, ⟨n, hv⟩, hv.parts, fun p hp => ?_, hv.over⟩
  · obtain ⟨h1, h2, h3, h4, h5⟩ := hv.call c hc
    exact ⟨by omega, hv.base, h2, h3, ⟨h4.2, by omega⟩, h5⟩
  · obtain ⟨h1, h2⟩ := hv.part p hp
    exact ⟨hv.factor, ⟨h1.2, by omega⟩, h2⟩
theorem con_vg {r : Rul} {l : List Ska} (h : conOk r l = true) {j : Nat} (hj : (j : Int) < (jud l).1) : ∀ s ∈ l, VG r j s := fun s hs => by
  have hv := con_valid h hs
  have := (con_jud h).2
  exact ⟨vk_valid hv (con_dup h hs), fun c hc => by have := (hv.call c hc).2.2.2.1; omega, fun p hp => by have := (hv.part p hp).1; omega⟩
theorem err_ok {r : Rul} {l : List Ska} (h : errG r l = 0) : conOk r l = true ∧ l.length ≤ 40 := by
  unfold errG at h
  split at h
  · omega
  · split at h
    · rename_i h2; exact ⟨h2, by omega⟩
    · omega
def ent42 (args : List AV) (K : AV → List AV → Sto → Prop) (e : List AV) (s : Sto) : Prop := ent (α := (Rul) × (List Ska)) (fun aa => [aa.1.d, .sl 3 (aa.2.map Ska.c)]) (fun aa => aa.2.length ≤ 1000 ∧ ∀ s ∈ aa.2, ∀ x ∈ s.calls, i64 x.place) (fun aa => .i (errG aa.1 aa.2)) args K e s
theorem ent42_ok {args : List AV} {K : AV → List AV → Sto → Prop} {Q : Kt} {e : List AV} {s : Sto} (h : ent42 args K e s) : pcall Try.prog 42 args K Q e s := ent_ok (fun aa h => pf42 aa.1 aa.2 h) h
theorem eq42 {r : Rul} {l : List Ska} {KK : AV → List AV → Sto → Prop} {ee : List AV} {ss : Sto} : ent42 [.d (r.d), .d (.sl 3 (l.map Ska.c))] KK ee ss = ((l.length ≤ 1000 ∧ ∀ s ∈ l, ∀ x ∈ s.calls, i64 x.place) ∧ KK (.d (.i (errG r l))) ee ss) := by
  unfold ent42; rw [ent_iff (r, l) (by intro b h; simpa [Prod.ext_iff, and_assoc, Int.ofNat_inj, ints_inj, cals_inj, pcs_inj, skas_inj, scos_inj, ska_inj, rul_inj, sco_inj, cal_inj, ods_inj, od_inj, spns_inj] using h) rfl]; simp
theorem eqo42 {r : Rul} {l : List Ska} {g1 el1 : Nat} {KK : AV → List AV → Sto → Prop} {ee : List AV} {ss : Sto} : ent42 [.d (r.d), .own g1 el1 3 (l.map Ska.c)] KK ee ss = ((l.length ≤ 1000 ∧ ∀ s ∈ l, ∀ x ∈ s.calls, i64 x.place) ∧ (.i (errG r l) : D).flat = true ∧ KK (.d (.i (errG r l))) ee ss) := by
  unfold ent42; rw [ent_iff (r, l) (by intro b h; simpa [Prod.ext_iff, and_assoc, Int.ofNat_inj, ints_inj, cals_inj, pcs_inj, skas_inj, scos_inj, ska_inj, rul_inj, sco_inj, cal_inj, ods_inj, od_inj, spns_inj] using h) rfl]; simp
def O26 : Nat → Sch := fun id => .done
theorem ho26 : Try.f26.body.map (okO O26) = some true := by kernel_rfl
def Cf26 : Nat → List AV → (AV → List AV → Sto → Prop) → Kt → List AV → Sto → Prop := fun f args K Q e s => match f with
  | 42 => ent42 args K e s
  | 43 => ent43 args K e s
  | 44 => ent44 args K e s
  | 45 => ent45 args K e s
  | _ => False
def Ct26 : CT := { f := Cf26, y := noYld, z := fun d => false }
theorem ctz26 {d : Nat} : CT.z Ct26 d = (false) := id rfl
theorem Ct26_ok : Ct26.ok Try.prog := ok_of_f (fun f args K Q e s h => by
  have h : Cf26 f args K Q e s := h
  unfold Cf26 at h; split at h
  · exact ent42_ok h
  · exact ent43_ok h
  · exact ent44_ok h
  · exact ent45_ok h
  · exact h.elim) (fun _ _ _ _ _ _ _ _ _ h => h)
theorem x26_42 {r : Rul} {l : List Ska} {KK : AV → List AV → Sto → Prop} {QQ : Kt} {ii : At KK} {jj : At QQ} {ee : List AV} {ss : Sto} : xC Ct26 42 [.d (r.d), .d (.sl 3 (l.map Ska.c))] KK QQ ii jj ee ss = ((l.length ≤ 1000 ∧ ∀ s ∈ l, ∀ x ∈ s.calls, i64 x.place) ∧ KK (.d (.i (errG r l))) ee ss) := eq42
theorem x26_42_m1 {r : Rul} {l : List Ska} {g1 el1 : Nat} {KK : AV → List AV → Sto → Prop} {QQ : Kt} {ii : At KK} {jj : At QQ} {ee : List AV} {ss : Sto} : xC Ct26 42 [.d (r.d), .own g1 el1 3 (l.map Ska.c)] KK QQ ii jj ee ss = ((l.length ≤ 1000 ∧ ∀ s ∈ l, ∀ x ∈ s.calls, i64 x.place) ∧ (.i (errG r l) : D).flat = true ∧ KK (.d (.i (errG r l))) ee ss) := eqo42
theorem x26_43 {l : List Ska} {KK : AV → List AV → Sto → Prop} {QQ : Kt} {ii : At KK} {jj : At QQ} {ee : List AV} {ss : Sto} : xC Ct26 43 [.d (.sl 3 (l.map Ska.c))] KK QQ ii jj ee ss = ((l.length ≤ 1000) ∧ KK (.d (.tup [.i (jud l).1, .b (jud l).2])) ee ss) := eq43
theorem x26_43_m1 {l : List Ska} {g1 el1 : Nat} {KK : AV → List AV → Sto → Prop} {QQ : Kt} {ii : At KK} {jj : At QQ} {ee : List AV} {ss : Sto} : xC Ct26 43 [.own g1 el1 3 (l.map Ska.c)] KK QQ ii jj ee ss = ((l.length ≤ 1000) ∧ (.tup [.i (jud l).1, .b (jud l).2] : D).flat = true ∧ KK (.d (.tup [.i (jud l).1, .b (jud l).2])) ee ss) := eqo43
theorem x26_44 {n : Int} {lo : Int} {hi : Int} {KK : AV → List AV → Sto → Prop} {QQ : Kt} {ii : At KK} {jj : At QQ} {ee : List AV} {ss : Sto} : xC Ct26 44 [.d (.i n), .d (.i lo), .d (.i hi)] KK QQ ii jj ee ss = (KK (.d (.b (inB n lo hi))) ee ss) := eq44
theorem x26_45 {r : Rul} {l : List Ska} {j : Nat} {KK : AV → List AV → Sto → Prop} {QQ : Kt} {ii : At KK} {jj : At QQ} {ee : List AV} {ss : Sto} : xC Ct26 45 [.d (r.d), .d (.sl 3 (l.map Ska.c)), .d (.i (j : Int))] KK QQ ii jj ee ss = ((l.length ≤ 1000 ∧ ∀ s ∈ l, VG r j s) ∧ KK (.d (.sl 2 ((swR r l j).map Spn.c))) ee ss) := eq45
theorem x26_45_m1 {r : Rul} {l : List Ska} {j : Nat} {g1 el1 : Nat} {KK : AV → List AV → Sto → Prop} {QQ : Kt} {ii : At KK} {jj : At QQ} {ee : List AV} {ss : Sto} : xC Ct26 45 [.d (r.d), .own g1 el1 3 (l.map Ska.c), .d (.i (j : Int))] KK QQ ii jj ee ss = ((l.length ≤ 1000 ∧ ∀ s ∈ l, VG r j s) ∧ (.sl 2 ((swR r l j).map Spn.c) : D).flat = true ∧ KK (.d (.sl 2 ((swR r l j).map Spn.c))) ee ss) := eqo45
theorem c26 : callable Try.prog 26 = true := by kernel_rfl
theorem pf26 (r : Rul) (l : List Ska) (j : Int) (h : l.length ≤ 1000 ∧ ∀ s ∈ l, ∀ x ∈ s.calls, i64 x.place) : PF Try.prog 26 [r.d, .sl 3 (l.map Ska.c), .i j] (fun zz => zz = .ret (.tup [.sl 2 ((swG r l j).1.map Spn.c), .i (swG r l j).2])) := by
  obtain ⟨h1, h2⟩ := h
  by_cases c1 : errG r l = 0
  case neg =>
    have hw : swG r l j = ([], errG r l) := by unfold swG; rw [if_neg c1]
    have c1' : (errG r l == 0) = false := by simpa using c1
    rw [hw]
    refine PF_nil (PF_start (O := O26) Ct26_ok hmix ho26 Try.func26 c26 rfl Try.ntmps26 Try.results26 ?_)
    simp (maxSteps := 4000000) +contextual (disch := first | omega | exact qdb_ok (by kernel_rfl) | exact okb_ok (by kernel_rfl)) only [bw1,bw2,bw3,bw4,bw5,bw6,bw7,bc0,bc1,bc2,bc3,bc4,bc5,bc6,bc7,setPs,AV.owns,AV.datF,AV.frz,AV.cpy,ifV,isEqB,nilV,nilX,AV.isNilS,AV.isNoRows,wk,dclo,datOf,binIs,addF,AV.isPtr,idxV,AV.isSl,AV.isSlice,AV.rows,ps,pv,extV,extS,AV.outs,AV.outF,packD,AV.dl,fieldV,fieldS,AV.cells?,AV.upr,AV.menc,AV.one,D.one,Value.oneCell',tagOf,AV.isApp,strV,strS,bolV,bolS,slcV,AV.isSlD,asrtS,AV.dcells,D.cells?,stcV,stcS,leafOk,eqDs,eqD,packA,D.val?,↓reduceIte,reduceCtorEq,Nat.reduceAdd,Nat.reduceSub,Nat.reduceMul,List.reduceReplicate,Nat.reduceLeDiff,Nat.reduceLT,Nat.reduceBEq,Nat.reduceEqDiff,Int.reduceNeg,Int.reduceEq,Int.reduceLE,Int.reduceLT,tfb,ctz26,x26_42,x26_42_m1,x26_43,x26_43_m1,x26_44,x26_45,x26_45_m1,c1, c1', h1]
    exact h2
  obtain ⟨hco, hl40⟩ := err_ok c1
  have hjb := (con_jud hco).2
  have hjw : IntKind.i64.wrap ((jud l).1 - 1) = (jud l).1 - 1 := wrap_ok (by omega) (by omega)
  by_cases c2 : inB j 0 ((jud l).1 - 1) = true
  case neg =>
    have hw : swG r l j = ([], 2) := by unfold swG; rw [if_pos c1, if_neg c2]
    rw [hw]
    refine PF_nil (PF_start (O := O26) Ct26_ok hmix ho26 Try.func26 c26 rfl Try.ntmps26 Try.results26 ?_)
    simp (maxSteps := 4000000) +contextual (disch := first | omega | exact qdb_ok (by kernel_rfl) | exact okb_ok (by kernel_rfl)) only [bw1,bw2,bw3,bw4,bw5,bw6,bw7,bc0,bc1,bc2,bc3,bc4,bc5,bc6,bc7,setPs,AV.owns,AV.datF,AV.frz,AV.cpy,ifV,isEqB,nilV,nilX,AV.isNilS,AV.isNoRows,wk,dclo,datOf,binIs,addF,AV.isPtr,idxV,AV.isSl,AV.isSlice,AV.rows,ps,pv,extV,extS,AV.outs,AV.outF,packD,AV.dl,fieldV,fieldS,AV.cells?,AV.upr,AV.menc,AV.one,D.one,Value.oneCell',tagOf,AV.isApp,strV,strS,bolV,bolS,slcV,AV.isSlD,asrtS,AV.dcells,D.cells?,stcV,stcS,leafOk,eqDs,eqD,packA,D.val?,↓reduceIte,reduceCtorEq,Nat.reduceAdd,Nat.reduceSub,Nat.reduceMul,List.reduceReplicate,Nat.reduceLeDiff,Nat.reduceLT,Nat.reduceBEq,Nat.reduceEqDiff,Int.reduceNeg,Int.reduceEq,Int.reduceLE,Int.reduceLT,tfb,ctz26,x26_42,x26_42_m1,x26_43,x26_43_m1,x26_44,x26_45,x26_45_m1,c1, h1, hjw, c2]
    try exact h2
  have hw : swG r l j = (swR r l j.toNat, 0) := by unfold swG; rw [if_pos c1, if_pos c2]
  obtain ⟨hj0, hj1⟩ := inB_iff.1 c2
  obtain ⟨j, rfl⟩ : ∃ k : Nat, j = k := ⟨j.toNat, by omega⟩
  have hvg := con_vg hco (j := j) (by omega)
  rw [hw]
  refine PF_nil (PF_start (O := O26) Ct26_ok hmix ho26 Try.func26 c26 rfl Try.ntmps26 Try.results26 ?_)
  simp (maxSteps := 4000000) +contextual (disch := first | omega | exact qdb_ok (by kernel_rfl) | exact okb_ok (by kernel_rfl)) only [bw1,bw2,bw3,bw4,bw5,bw6,bw7,bc0,bc1,bc2,bc3,bc4,bc5,bc6,bc7,setPs,AV.owns,AV.datF,AV.frz,AV.cpy,ifV,isEqB,nilV,nilX,AV.isNilS,AV.isNoRows,wk,dclo,datOf,binIs,addF,AV.isPtr,idxV,AV.isSl,AV.isSlice,AV.rows,ps,pv,extV,extS,AV.outs,AV.outF,packD,AV.dl,fieldV,fieldS,AV.cells?,AV.upr,AV.menc,AV.one,D.one,Value.oneCell',tagOf,AV.isApp,strV,strS,bolV,bolS,slcV,AV.isSlD,asrtS,AV.dcells,D.cells?,stcV,stcS,leafOk,eqDs,eqD,packA,D.val?,↓reduceIte,reduceCtorEq,Nat.reduceAdd,Nat.reduceSub,Nat.reduceMul,List.reduceReplicate,Nat.reduceLeDiff,Nat.reduceLT,Nat.reduceBEq,Nat.reduceEqDiff,Int.reduceNeg,Int.reduceEq,Int.reduceLE,Int.reduceLT,tfb,ctz26,x26_42,x26_42_m1,x26_43,x26_43_m1,x26_44,x26_45,x26_45_m1,c1, h1, hjw, c2]
  exact ⟨h2, hvg⟩
def ent26 (args : List AV) (K : AV → List AV → Sto → Prop) (e : List AV) (s : Sto) : Prop := ent (α := (Rul) × (List Ska) × (Int)) (fun aa => [aa.1.d, .sl 3 (aa.2.1.map Ska.c), .i aa.2.2]) (fun aa => aa.2.1.length ≤ 1000 ∧ ∀ s ∈ aa.2.1, ∀ x ∈ s.calls, i64 x.place) (fun aa => .tup [.sl 2 ((swG aa.1 aa.2.1 aa.2.2).1.map Spn.c), .i (swG aa.1 aa.2.1 aa.2.2).2]) args K e s
theorem ent26_ok {args : List AV} {K : AV → List AV → Sto → Prop} {Q : Kt} {e : List AV} {s : Sto} (h : ent26 args K e s) : pcall Try.prog 26 args K Q e s := ent_ok (fun aa h => pf26 aa.1 aa.2.1 aa.2.2 h) h
theorem eq26 {r : Rul} {l : List Ska} {j : Int} {KK : AV → List AV → Sto → Prop} {ee : List AV} {ss : Sto} : ent26 [.d (r.d), .d (.sl 3 (l.map Ska.c)), .d (.i j)] KK ee ss = ((l.length ≤ 1000 ∧ ∀ s ∈ l, ∀ x ∈ s.calls, i64 x.place) ∧ KK (.d (.tup [.sl 2 ((swG r l j).1.map Spn.c), .i (swG r l j).2])) ee ss) := by
  unfold ent26; rw [ent_iff (r, l, j) (by intro b h; simpa [Prod.ext_iff, and_assoc, Int.ofNat_inj, ints_inj, cals_inj, pcs_inj, skas_inj, scos_inj, ska_inj, rul_inj, sco_inj, cal_inj, ods_inj, od_inj, spns_inj] using h) rfl]; simp
theorem eqo26 {r : Rul} {l : List Ska} {j : Int} {g1 el1 : Nat} {KK : AV → List AV → Sto → Prop} {ee : List AV} {ss : Sto} : ent26 [.d (r.d), .own g1 el1 3 (l.map Ska.c), .d (.i j)] KK ee ss = ((l.length ≤ 1000 ∧ ∀ s ∈ l, ∀ x ∈ s.calls, i64 x.place) ∧ (.tup [.sl 2 ((swG r l j).1.map Spn.c), .i (swG r l j).2] : D).flat = true ∧ KK (.d (.tup [.sl 2 ((swG r l j).1.map Spn.c), .i (swG r l j).2])) ee ss) := by
  unfold ent26; rw [ent_iff (r, l, j) (by intro b h; simpa [Prod.ext_iff, and_assoc, Int.ofNat_inj, ints_inj, cals_inj, pcs_inj, skas_inj, scos_inj, ska_inj, rul_inj, sco_inj, cal_inj, ods_inj, od_inj, spns_inj] using h) rfl]; simp
def O32 : Nat → Sch := fun id => if id = 6 then .one 0 (.one 1 (.one 2 (.one 3 (.one 4 (.one 5 (.one 6 (.one 7 (.one 8 (.done))))))))) else .done
theorem O32_6 : O32 6 = .one 0 (.one 1 (.one 2 (.one 3 (.one 4 (.one 5 (.one 6 (.one 7 (.one 8 (.done))))))))) := rfl
theorem ho32 : Try.f32.body.map (okO O32) = some true := by kernel_rfl
def Cf32 : Nat → List AV → (AV → List AV → Sto → Prop) → Kt → List AV → Sto → Prop := fun f args K Q e s => match f with
  | _ => False
def Ct32 : CT := { f := Cf32, y := noYld, z := fun d => false }
theorem ctz32 {d : Nat} : CT.z Ct32 d = (false) := id rfl
theorem Ct32_ok : Ct32.ok Try.prog := ok_of_f (fun f args K Q e s h => by
  have h : Cf32 f args K Q e s := h
  unfold Cf32 at h; split at h
  · exact h.elim) (fun _ _ _ _ _ _ _ _ _ h => h)
theorem c32 : callable Try.prog 32 = true := by kernel_rfl
theorem pf32 (a b : List Spn) (h : a.length ≤ 1000000) : PF Try.prog 32 [.sl 2 (a.map Spn.c), .sl 2 (b.map Spn.c)] (fun zz => zz = .ret (.b (decide (a = b)))) := by
  by_cases c : a.length = b.length
  case neg =>
    have c' : ¬ (a.length : Int) = b.length := by omega
    have hw : decide (a = b) = false := decide_eq_false fun h => c (by rw [h])
    rw [hw]
    refine PF_nil (PF_start (O := O32) Ct32_ok hmix ho32 Try.func32 c32 rfl Try.ntmps32 Try.results32 ?_)
    simp (maxSteps := 4000000) +contextual (disch := first | omega | exact qdb_ok (by kernel_rfl) | exact okb_ok (by kernel_rfl)) only [bw1,bw2,bw3,bw4,bw5,bw6,bw7,bc0,bc1,bc2,bc3,bc4,bc5,bc6,bc7,setPs,AV.owns,AV.datF,AV.frz,AV.cpy,ifV,isEqB,nilV,nilX,AV.isNilS,AV.isNoRows,wk,dclo,datOf,binIs,addF,AV.isPtr,idxV,AV.isSl,AV.isSlice,AV.rows,ps,pv,extV,extS,AV.outs,AV.outF,packD,AV.dl,fieldV,fieldS,AV.cells?,AV.upr,AV.menc,AV.one,D.one,Value.oneCell',tagOf,AV.isApp,strV,strS,bolV,bolS,slcV,AV.isSlD,asrtS,AV.dcells,D.cells?,stcV,stcS,leafOk,eqDs,eqD,packA,D.val?,↓reduceIte,reduceCtorEq,Nat.reduceAdd,Nat.reduceSub,Nat.reduceMul,List.reduceReplicate,Nat.reduceLeDiff,Nat.reduceLT,Nat.reduceBEq,Nat.reduceEqDiff,Int.reduceNeg,Int.reduceEq,Int.reduceLE,Int.reduceLT,tfb,ctz32,O32_6,c']
  have c' : (a.length : Int) = b.length := by omega
  refine PF_nil (PF_start (O := O32) Ct32_ok hmix ho32 Try.func32 c32 rfl Try.ntmps32 Try.results32 ?_)
  simp (maxSteps := 4000000) +contextual (disch := first | omega | exact qdb_ok (by kernel_rfl) | exact okb_ok (by kernel_rfl)) only [bw1,bw2,bw3,bw4,bw5,bw6,bw7,bc0,bc1,bc2,bc3,bc4,bc5,bc6,bc7,setPs,AV.owns,AV.datF,AV.frz,AV.cpy,ifV,isEqB,nilV,nilX,AV.isNilS,AV.isNoRows,wk,dclo,datOf,binIs,addF,AV.isPtr,idxV,AV.isSl,AV.isSlice,AV.rows,ps,pv,extV,extS,AV.outs,AV.outF,packD,AV.dl,fieldV,fieldS,AV.cells?,AV.upr,AV.menc,AV.one,D.one,Value.oneCell',tagOf,AV.isApp,strV,strS,bolV,bolS,slcV,AV.isSlD,asrtS,AV.dcells,D.cells?,stcV,stcS,leafOk,eqDs,eqD,packA,D.val?,↓reduceIte,reduceCtorEq,Nat.reduceAdd,Nat.reduceSub,Nat.reduceMul,List.reduceReplicate,Nat.reduceLeDiff,Nat.reduceLT,Nat.reduceBEq,Nat.reduceEqDiff,Int.reduceNeg,Int.reduceEq,Int.reduceLE,Int.reduceLT,tfb,ctz32,O32_6,c']
  refine loop_s (O := O32) (tb := 0) Ct32_ok hmix (by kernel_rfl) (σ := Nat) (fun i => [(5, .i i)]) (fun i => i ≤ a.length ∧ ∀ j, j < i → a.getD j default = b.getD j default) (fun i => a.length - i) (fun i => i + 1) 0 ⟨by omega, fun j h => by omega⟩ ?_ ?_
  · simp (maxSteps := 4000000) +contextual (disch := first | omega | exact qdb_ok (by kernel_rfl) | exact okb_ok (by kernel_rfl)) only [bw1,bw2,bw3,bw4,bw5,bw6,bw7,bc0,bc1,bc2,bc3,bc4,bc5,bc6,bc7,setPs,AV.owns,AV.datF,AV.frz,AV.cpy,ifV,isEqB,nilV,nilX,AV.isNilS,AV.isNoRows,wk,dclo,datOf,binIs,addF,AV.isPtr,idxV,AV.isSl,AV.isSlice,AV.rows,ps,pv,extV,extS,AV.outs,AV.outF,packD,AV.dl,fieldV,fieldS,AV.cells?,AV.upr,AV.menc,AV.one,D.one,Value.oneCell',tagOf,AV.isApp,strV,strS,bolV,bolS,slcV,AV.isSlD,asrtS,AV.dcells,D.cells?,stcV,stcS,leafOk,eqDs,eqD,packA,D.val?,↓reduceIte,reduceCtorEq,Nat.reduceAdd,Nat.reduceSub,Nat.reduceMul,List.reduceReplicate,Nat.reduceLeDiff,Nat.reduceLT,Nat.reduceBEq,Nat.reduceEqDiff,Int.reduceNeg,Int.reduceEq,Int.reduceLE,Int.reduceLT,tfb,ctz32,O32_6]
  rintro i ⟨hi, hf⟩
  by_cases hlt : i < a.length
  · have hlt' : (i : Int) < b.length := by omega
    have hlt2 : (i : Int) < a.length := by omega
    have hsq : ∀ x y : Spn, (x.lo == y.lo && x.hi == y.hi) = decide (x = y) := fun x y => by cases x; cases y; rw [Bool.eq_iff_iff]; simp
    have hsi := hsq (a.getD i default) (b.getD i default)
    by_cases d : a.getD i default = b.getD i default
    · have hf' : ∀ j, j < i + 1 → a.getD j default = b.getD j default := fun j hj => by
        rcases Nat.lt_or_ge j i with h | h
        · exact hf j h
        · rw [show j = i by omega]; exact d
      rw [decide_eq_true d] at hsi
      simp (maxSteps := 4000000) +contextual (disch := first | omega | exact qdb_ok (by kernel_rfl) | exact okb_ok (by kernel_rfl)) only [bw1,bw2,bw3,bw4,bw5,bw6,bw7,bc0,bc1,bc2,bc3,bc4,bc5,bc6,bc7,setPs,AV.owns,AV.datF,AV.frz,AV.cpy,ifV,isEqB,nilV,nilX,AV.isNilS,AV.isNoRows,wk,dclo,datOf,binIs,addF,AV.isPtr,idxV,AV.isSl,AV.isSlice,AV.rows,ps,pv,extV,extS,AV.outs,AV.outF,packD,AV.dl,fieldV,fieldS,AV.cells?,AV.upr,AV.menc,AV.one,D.one,Value.oneCell',tagOf,AV.isApp,strV,strS,bolV,bolS,slcV,AV.isSlD,asrtS,AV.dcells,D.cells?,stcV,stcS,leafOk,eqDs,eqD,packA,D.val?,↓reduceIte,reduceCtorEq,Nat.reduceAdd,Nat.reduceSub,Nat.reduceMul,List.reduceReplicate,Nat.reduceLeDiff,Nat.reduceLT,Nat.reduceBEq,Nat.reduceEqDiff,Int.reduceNeg,Int.reduceEq,Int.reduceLE,Int.reduceLT,tfb,ctz32,O32_6,eq_self, hlt', hlt2, c', hsi]
      and_intros <;> first | omega | exact hf'
    · rw [decide_eq_false d] at hsi
      have hw : decide (a = b) = false := decide_eq_false fun h => d (by rw [h])
      simp (maxSteps := 4000000) +contextual (disch := first | omega | exact qdb_ok (by kernel_rfl) | exact okb_ok (by kernel_rfl)) only [bw1,bw2,bw3,bw4,bw5,bw6,bw7,bc0,bc1,bc2,bc3,bc4,bc5,bc6,bc7,setPs,AV.owns,AV.datF,AV.frz,AV.cpy,ifV,isEqB,nilV,nilX,AV.isNilS,AV.isNoRows,wk,dclo,datOf,binIs,addF,AV.isPtr,idxV,AV.isSl,AV.isSlice,AV.rows,ps,pv,extV,extS,AV.outs,AV.outF,packD,AV.dl,fieldV,fieldS,AV.cells?,AV.upr,AV.menc,AV.one,D.one,Value.oneCell',tagOf,AV.isApp,strV,strS,bolV,bolS,slcV,AV.isSlD,asrtS,AV.dcells,D.cells?,stcV,stcS,leafOk,eqDs,eqD,packA,D.val?,↓reduceIte,reduceCtorEq,Nat.reduceAdd,Nat.reduceSub,Nat.reduceMul,List.reduceReplicate,Nat.reduceLeDiff,Nat.reduceLT,Nat.reduceBEq,Nat.reduceEqDiff,Int.reduceNeg,Int.reduceEq,Int.reduceLE,Int.reduceLT,tfb,ctz32,O32_6,eq_self, hlt', hlt2, c', hsi, hw]
      and_intros <;> first | omega | rfl
  · have hlt' : ¬ (i : Int) < b.length := by omega
    have hlt2 : ¬ (i : Int) < a.length := by omega
    have hw : decide (a = b) = true := decide_eq_true (List.ext_getElem c fun j h1 h2 => by
      have := hf j (by omega)
      rwa [at_lt h1, at_lt h2] at this)
    simp (maxSteps := 4000000) +contextual (disch := first | omega | exact qdb_ok (by kernel_rfl) | exact okb_ok (by kernel_rfl)) only [bw1,bw2,bw3,bw4,bw5,bw6,bw7,bc0,bc1,bc2,bc3,bc4,bc5,bc6,bc7,setPs,AV.owns,AV.datF,AV.frz,AV.cpy,ifV,isEqB,nilV,nilX,AV.isNilS,AV.isNoRows,wk,dclo,datOf,binIs,addF,AV.isPtr,idxV,AV.isSl,AV.isSlice,AV.rows,ps,pv,extV,extS,AV.outs,AV.outF,packD,AV.dl,fieldV,fieldS,AV.cells?,AV.upr,AV.menc,AV.one,D.one,Value.oneCell',tagOf,AV.isApp,strV,strS,bolV,bolS,slcV,AV.isSlD,asrtS,AV.dcells,D.cells?,stcV,stcS,leafOk,eqDs,eqD,packA,D.val?,↓reduceIte,reduceCtorEq,Nat.reduceAdd,Nat.reduceSub,Nat.reduceMul,List.reduceReplicate,Nat.reduceLeDiff,Nat.reduceLT,Nat.reduceBEq,Nat.reduceEqDiff,Int.reduceNeg,Int.reduceEq,Int.reduceLE,Int.reduceLT,tfb,ctz32,O32_6,eq_self, hlt', hlt2, c', hw]
def ent32 (args : List AV) (K : AV → List AV → Sto → Prop) (e : List AV) (s : Sto) : Prop := ent (α := (List Spn) × (List Spn)) (fun aa => [.sl 2 (aa.1.map Spn.c), .sl 2 (aa.2.map Spn.c)]) (fun aa => aa.1.length ≤ 1000000) (fun aa => .b (decide (aa.1 = aa.2))) args K e s
theorem ent32_ok {args : List AV} {K : AV → List AV → Sto → Prop} {Q : Kt} {e : List AV} {s : Sto} (h : ent32 args K e s) : pcall Try.prog 32 args K Q e s := ent_ok (fun aa h => pf32 aa.1 aa.2 h) h
theorem eq32 {a : List Spn} {b : List Spn} {KK : AV → List AV → Sto → Prop} {ee : List AV} {ss : Sto} : ent32 [.d (.sl 2 (a.map Spn.c)), .d (.sl 2 (b.map Spn.c))] KK ee ss = ((a.length ≤ 1000000) ∧ KK (.d (.b (decide (a = b)))) ee ss) := by
  unfold ent32; rw [ent_iff (a, b) (by intro b h; simpa [Prod.ext_iff, and_assoc, Int.ofNat_inj, ints_inj, cals_inj, pcs_inj, skas_inj, scos_inj, ska_inj, rul_inj, sco_inj, cal_inj, ods_inj, od_inj, spns_inj] using h) rfl]; simp
theorem eqo32 {a : List Spn} {b : List Spn} {g1 el1 : Nat} {g2 el2 : Nat} {KK : AV → List AV → Sto → Prop} {ee : List AV} {ss : Sto} : ent32 [.own g1 el1 2 (a.map Spn.c), .own g2 el2 2 (b.map Spn.c)] KK ee ss = ((a.length ≤ 1000000) ∧ (.b (decide (a = b)) : D).flat = true ∧ KK (.d (.b (decide (a = b)))) ee ss) := by
  unfold ent32; rw [ent_iff (a, b) (by intro b h; simpa [Prod.ext_iff, and_assoc, Int.ofNat_inj, ints_inj, cals_inj, pcs_inj, skas_inj, scos_inj, ska_inj, rul_inj, sco_inj, cal_inj, ods_inj, od_inj, spns_inj] using h) rfl]; simp
end Go.Proofs.Ytapglfcaghlpfaa
