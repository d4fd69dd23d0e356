/- A part of the proof that the last text ends: what functions of the program do, told by plain data. -/
import Derived.Test.YtapglfcaghlpfaaGreatZVL
import Derived.Test.YtapglfcaghlpfaaGreatZVJ
import Derived.Test.YtapglfcaghlpfaaGreatEc
set_option linter.unusedVariables false
set_option linter.unusedSimpArgs false
namespace Go.Proofs.YtapglfcaghlpfaaGreat
open Go Go.E Go.Maps
set_option maxRecDepth 100000
set_option maxHeartbeats 16000000
set_option pp.deepTerms true
set_option pp.maxSteps 100000
theorem swR_at {r : Rul} {l : List Ska} {j w : Nat} (hw : w < l.length) : (swR r l j).getD w default = spn (l.map (endS r j (-5) 0)) (l.map (endS r j 5 40)) w l.length := by
  unfold swR
  rw [at_lt (by rw [List.length_map, List.length_range]; exact hw), List.getElem_map, List.getElem_range]
theorem swR_len {r : Rul} {l : List Ska} {j : Nat} : (swR r l j).length = l.length := by unfold swR; rw [List.length_map, List.length_range]
def opB (r : Rul) (l : List Ska) (first : Int) (i j : Nat) : Bool := inB first ((swR r l j).getD i default).lo (((swR r l j).getD i default).hi - 1)
def opI (r : Rul) (l : List Ska) (first : Int) (i n : Nat) : Bool := (List.range n).any fun j => opB r l first i j
def opL (r : Rul) (l : List Ska) (first : Int) : List Int := ((List.range l.length).filter fun (i : Nat) => opI r l first i (jud l).1.toNat).map fun (i : Nat) => (i : Int)
def opG (r : Rul) (l : List Ska) (first : Int) : List Int × Int := if errG r l = 0 then (if inB first 1 40 = true then (opL r l first, 0) else ([], 2)) else ([], errG r l)
theorem opI_succ {r : Rul} {l : List Ska} {first : Int} {i n : Nat} : opI r l first i (n + 1) = (opI r l first i n || opB r l first i n) := by
  unfold opI; rw [List.range_succ, List.any_append]; simp
def MO (r : Rul) (l : List Ska) (first : Int) (j i : Nat) (M : List (Int × Bool)) : Prop := (M.map Prod.fst).Nodup ∧ ∀ e v, (e, v) ∈ M ↔ v = true ∧ ∃ k : Nat, e = (k : Int) ∧ k < l.length ∧ (opI r l first k j = true ∨ (k < i ∧ opB r l first k j = true))
theorem MO.zero {r : Rul} {l : List Ska} {first : Int} : MO r l first 0 0 [] := ⟨by simp, fun e v => ⟨fun h => absurd h (List.not_mem_nil), fun ⟨_, k, _, _, h⟩ => by
  rcases h with h | h
  · simp [opI] at h
  · omega⟩⟩
theorem MO.next {r : Rul} {l : List Ska} {first : Int} {j : Nat} {M : List (Int × Bool)} (h : MO r l first j l.length M) : MO r l first (j + 1) 0 M := ⟨h.1, fun e v => by
  rw [h.2 e v]
  constructor
  · rintro ⟨h1, k, h2, h3, h4⟩
    refine ⟨h1, k, h2, h3, .inl ?_⟩
    rw [opI_succ, Bool.or_eq_true]
    rcases h4 with h4 | h4
    · exact .inl h4
    · exact .inr h4.2
  · rintro ⟨h1, k, h2, h3, h4⟩
    refine ⟨h1, k, h2, h3, ?_⟩
    rcases h4 with h4 | h4
    · rw [opI_succ, Bool.or_eq_true] at h4
      rcases h4 with h4 | h4
      · exact .inl h4
      · exact .inr ⟨h3, h4⟩
    · omega⟩
theorem MO.skip {r : Rul} {l : List Ska} {first : Int} {j i : Nat} {M : List (Int × Bool)} (h : MO r l first j i M) (hb : opB r l first i j = false) : MO r l first j (i + 1) M := ⟨h.1, fun e v => by
  rw [h.2 e v]
  constructor
  · rintro ⟨h1, k, h2, h3, h4⟩
    exact ⟨h1, k, h2, h3, h4.imp id fun q => ⟨by omega, q.2⟩⟩
  · rintro ⟨h1, k, h2, h3, h4⟩
    refine ⟨h1, k, h2, h3, h4.imp id fun q => ⟨?_, q.2⟩⟩
    rcases Nat.lt_or_ge k i with h5 | h5
    · exact h5
    · obtain rfl : k = i := by omega
      rw [hb] at q; cases q.2⟩
theorem MO.put {r : Rul} {l : List Ska} {first : Int} {j i : Nat} {M M' : List (Int × Bool)} (h : MO r l first j i M) (hi : i < l.length) (hb : opB r l first i j = true) (hn : (M'.map Prod.fst).Nodup) (hm : ∀ e w, (e, w) ∈ M' ↔ (e = (i : Int) ∧ w = true) ∨ (e ≠ (i : Int) ∧ (e, w) ∈ M)) : MO r l first j (i + 1) M' := ⟨hn, fun e v => by
  rw [hm e v, h.2 e v]
  constructor
  · rintro (⟨rfl, rfl⟩ | ⟨_, h1, k, h2, h3, h4⟩)
    · exact ⟨rfl, i, rfl, hi, .inr ⟨by omega, hb⟩⟩
    · exact ⟨h1, k, h2, h3, h4.imp id fun q => ⟨by omega, q.2⟩⟩
  · rintro ⟨h1, k, h2, h3, h4⟩
    by_cases hk : k = i
    · subst hk; exact .inl ⟨h2, h1⟩
    · refine .inr ⟨by omega, h1, k, h2, h3, h4.imp id fun q => ⟨by omega, q.2⟩⟩⟩
theorem srt_uniq {a b : List Int} (h : a.Perm b) (ha : Srt a) (hb : Srt b) : a = b := h.eq_of_pairwise (fun x y _ _ h1 h2 => Int.le_antisymm h1 h2) ha hb
theorem op_fin {r : Rul} {l : List Ska} {first : Int} {M : List (Int × Bool)} (h : MO r l first (jud l).1.toNat 0 M) {K : List Int} (hK : K.Perm (M.map Prod.fst)) : isort K = opL r l first := by
  have hs : Srt (opL r l first) := by
    unfold opL
    refine List.Pairwise.map _ (fun a b (h : a < b) => by omega) ?_
    exact List.Pairwise.filter _ List.pairwise_lt_range
  have hd : (opL r l first).Nodup := by
    unfold opL
    refine List.Pairwise.map _ (fun a b (h : a < b) => by omega) ?_
    exact List.Pairwise.filter _ List.pairwise_lt_range
  have hp : (M.map Prod.fst).Perm (opL r l first) := (List.perm_ext_iff_of_nodup h.1 hd).2 fun e => by
    unfold opL
    simp only [List.mem_map, List.mem_filter, List.mem_range]
    constructor
    · rintro ⟨⟨e', v⟩, h1, rfl⟩
      obtain ⟨_, k, h2, h3, h4⟩ := (h.2 e' v).1 h1
      refine ⟨k, ⟨h3, ?_⟩, h2.symm⟩
      rcases h4 with h4 | h4
      · exact h4
      · omega
    · rintro ⟨k, ⟨h3, h4⟩, rfl⟩
      exact ⟨((k : Int), true), (h.2 _ _).2 ⟨rfl, k, rfl, h3, .inl h4⟩, rfl⟩
  exact srt_uniq (isort_perm.trans (hK.trans hp)) isort_srt hs
theorem sw_bd {r : Rul} {l : List Ska} {j i : Nat} (hi : i < l.length) : (1 ≤ ((swR r l j).getD i default).lo ∧ ((swR r l j).getD i default).lo ≤ l.length + 1) ∧ 1 ≤ ((swR r l j).getD i default).hi ∧ ((swR r l j).getD i default).hi ≤ l.length + 1 := by
  rw [swR_at hi]
  unfold spn
  have h1 := cLo_b (l.map (endS r j (-5) 0)) (l.map (endS r j 5 40)) i l.length
  have h2 := cLo_b (l.map (endS r j 5 40)) (l.map (endS r j (-5) 0)) i l.length
  simp only
  omega
theorem okUp_ents {α β : Type} {fk : α → D} {fv : β → D} {g el sz : Nat} {rows : List (List D)} {M : List (α × β)} : okUp g el sz rows (ents fk fv M) := by
  unfold ents
  induction M with
  | nil => trivial
  | cons p M ih => exact ⟨rfl, ih⟩
theorem okUp_itc {g el sz h n : Nat} (hg : h ≠ g) {rows : List (List D)} {x : List Nat} : okUp g el sz rows (itc h n x) := ⟨by simp [okUp1, AV.men, hg, Ne.symm hg], rfl, rfl, trivial⟩
theorem kill_itc {g h n : Nat} (hg : h ≠ g) {x : List Nat} : (itc h n x).map (AV.kill g) = itc h n x := by simp [itc, AV.kill, AV.men, hg, Ne.symm hg]
theorem nd_le : ∀ (n : Nat) (x : List Nat), x.Nodup → (∀ i ∈ x, i < n) → x.length ≤ n
  | 0, x, _, h => by
    rcases x with _ | ⟨a, x⟩
    · simp
    · exact absurd (h a (by simp)) (by omega)
  | n + 1, x, hd, h => by
    have h1 : (x.erase n).Nodup := hd.erase n
    have h2 := nd_le n (x.erase n) h1 fun i hi => by
      have := (hd.mem_erase_iff).1 hi
      have := h i this.2
      omega
    have h3 := List.length_erase (a := n) (l := x)
    split at h3 <;> omega
theorem seen_lt {n i : Nat} {x : List Nat} (hd : x.Nodup) (h : ∀ i ∈ x, i < n) (hi : i < n) (hs : i ∉ x) : x.length < n ∧ (x ++ [i]).Nodup ∧ ∀ k ∈ x ++ [i], k < n := by
  have h1 : (i :: x).Nodup := List.nodup_cons.2 ⟨hs, hd⟩
  have h2 : ∀ k ∈ i :: x, k < n := fun k hk => by
    rcases List.mem_cons.1 hk with rfl | hk
    · exact hi
    · exact h k hk
  have h3 := nd_le _ _ h1 h2
  refine ⟨by rw [List.length_cons] at h3; omega, ?_, fun k hk => h2 k (by simpa [or_comm] using hk)⟩
  exact (List.perm_append_comm (l₁ := [i]) (l₂ := x)).nodup_iff.1 h1
theorem seen_all {α : Type} [Inhabited α] {l : List α} {x : List Nat} (hd : x.Nodup) (h : ∀ i ∈ x, i < l.length) (ha : ∀ i, i < l.length → i ∈ x) : (x.map fun i => l.getD i default).Perm l := by
  have h1 : x.Perm (List.range l.length) := (List.perm_ext_iff_of_nodup hd List.nodup_range).2 fun i => by rw [List.mem_range]; exact ⟨h i, ha i⟩
  refine (h1.map _).trans ?_
  refine List.Perm.of_eq (List.ext_getElem (by simp) fun i h1 h2 => ?_)
  simp [List.getD, h2]
def O10 : Nat → Sch := fun id => .done
theorem ho10 : Tryz.f10.body.map (okO O10) = some true := by kernel_rfl
def Cf10 : Nat → List AV → (AV → List AV → Sto → Prop) → Kt → List AV → Sto → Prop := fun f args K Q e s => match f with
  | 21 => ent21 args K e s
  | 22 => ent22 args K e s
  | 23 => ent23 args K e s
  | 24 => ent24 args K e s
  | 29 => ent29 args K e s
  | _ => False
def Ct10 : CT := { f := Cf10, y := noYld, z := fun d => false }
theorem ctz10 {d : Nat} : CT.z Ct10 d = (false) := id rfl
theorem Ct10_ok : Ct10.ok Tryz.prog := ok_of_f (fun f args K Q e s h => by
  have h : Cf10 f args K Q e s := h
  unfold Cf10 at h; split at h
  · exact ent21_ok h
  · exact ent22_ok h
  · exact ent23_ok h
  · exact ent24_ok h
  · exact ent29_ok h
  · exact h.elim) (fun _ _ _ _ _ _ _ _ _ h => h)
theorem x10_21 {r : Rul} {l : List Ska} {KK : AV → List AV → Sto → Prop} {QQ : Kt} {ii : At KK} {jj : At QQ} {ee : List AV} {ss : Sto} : xC Ct10 21 [.d (r.d), .d (.sl 3 (l.map Ska.c))] KK QQ ii jj ee ss = ((l.length ≤ 1000 ∧ ∀ s ∈ l, ∀ x ∈ s.calls, i64 x.place) ∧ KK (.d (.i (errG r l))) ee ss) := eq21
theorem x10_22 {l : List Ska} {KK : AV → List AV → Sto → Prop} {QQ : Kt} {ii : At KK} {jj : At QQ} {ee : List AV} {ss : Sto} : xC Ct10 22 [.d (.sl 3 (l.map Ska.c))] KK QQ ii jj ee ss = ((l.length ≤ 1000) ∧ KK (.d (.tup [.i (jud l).1, .b (jud l).2])) ee ss) := eq22
theorem x10_23 {n : Int} {lo : Int} {hi : Int} {KK : AV → List AV → Sto → Prop} {QQ : Kt} {ii : At KK} {jj : At QQ} {ee : List AV} {ss : Sto} : xC Ct10 23 [.d (.i n), .d (.i lo), .d (.i hi)] KK QQ ii jj ee ss = (KK (.d (.b (inB n lo hi))) ee ss) := eq23
theorem x10_24 {r : Rul} {l : List Ska} {j : Nat} {KK : AV → List AV → Sto → Prop} {QQ : Kt} {ii : At KK} {jj : At QQ} {ee : List AV} {ss : Sto} : xC Ct10 24 [.d (r.d), .d (.sl 3 (l.map Ska.c)), .d (.i (j : Int))] KK QQ ii jj ee ss = ((l.length ≤ 1000 ∧ ∀ s ∈ l, VG r j s) ∧ KK (.d (.sl 2 ((swR r l j).map Spn.c))) ee ss) := eq24
theorem x10_29 {l : List Int} {gg : Nat} {KK : AV → List AV → Sto → Prop} {QQ : Kt} {ii : At KK} {jj : At QQ} {ee : List AV} {ss : Sto} : xC Ct10 29 [.own gg 3 1 (l.map ic)] KK QQ ii jj ee ss = ((l.length ≤ 12) ∧ upOk gg 3 1 (l.map ic) ee ss ∧ KK (.d (.tup [])) (ee.map (AV.ups gg ((isort l).map ic))) (ss.ups gg ((isort l).map ic))) := eq29
theorem c10 : callable Tryz.prog 10 = true := by kernel_rfl
theorem pf10 (r : Rul) (l : List Ska) (first : Int) (h : (l.length ≤ 1000 ∧ (l.length ≤ 12 ∨ 40 < l.length)) ∧ (∀ s ∈ l, ∀ x ∈ s.calls, i64 x.place) ∧ i64 first) : PF Tryz.prog 10 [r.d, .sl 3 (l.map Ska.c), .i first] (fun zz => zz = .ret (.tup [.sl 1 ((opG r l first).1.map ic), .i (opG r l first).2])) := by
  obtain ⟨⟨h1, h2⟩, h3, h4⟩ := h
  by_cases c1 : errG r l = 0
  case neg =>
    have hw : opG r l first = ([], errG r l) := by unfold opG; rw [if_neg c1]
    rw [hw]
    refine PF_nil (PF_start (O := O10) Ct10_ok hmix ho10 Tryz.func10 c10 rfl Tryz.ntmps10 Tryz.results10 ?_)
    simp (maxSteps := 4000000) +contextual (disch := first | omega | exact qdb_ok (by kernel_rfl) | exact okb_ok (by kernel_rfl)) only [bw1,bw2,bw3,bw5,bw6,bc1,bc2,bc3,bc4,bc5,bc6,binIs,AV.outs,AV.outF,packD,AV.dl,AV.cells?,↓reduceIte,reduceCtorEq,Nat.reduceAdd,Nat.reduceSub,List.reduceReplicate,Nat.reduceLeDiff,Nat.reduceLT,tfb,x10_21,h1, c1]
    exact h3
  by_cases c2 : inB first 1 40 = true
  case neg =>
    have hw : opG r l first = ([], 2) := by unfold opG; rw [if_pos c1, if_neg c2]
    rw [hw]
    refine PF_nil (PF_start (O := O10) Ct10_ok hmix ho10 Tryz.func10 c10 rfl Tryz.ntmps10 Tryz.results10 ?_)
    simp (maxSteps := 4000000) +contextual (disch := first | omega | exact qdb_ok (by kernel_rfl) | exact okb_ok (by kernel_rfl)) only [bw1,bw2,bw3,bw5,bw6,bc1,bc2,bc3,bc4,bc5,bc6,binIs,AV.outs,AV.outF,packD,AV.dl,AV.cells?,↓reduceIte,reduceCtorEq,Nat.reduceAdd,Nat.reduceSub,List.reduceReplicate,Nat.reduceLeDiff,Nat.reduceLT,tfb,x10_21,x10_23,h1, c1, c2]
    exact h3
  have hw : opG r l first = (opL r l first, 0) := by unfold opG; rw [if_pos c1, if_pos c2]
  rw [hw]
  refine PF_nil (PF_start (O := O10) Ct10_ok hmix ho10 Tryz.func10 c10 rfl Tryz.ntmps10 Tryz.results10 ?_)
  obtain ⟨ck, hl40⟩ := err_ok c1
  obtain ⟨_, hj0, hj9⟩ := con_jud ck
  obtain ⟨J, hJ⟩ : ∃ J : Nat, (J : Int) = (jud l).1 := ⟨(jud l).1.toNat, by omega⟩
  have hJ' : (jud l).1 = (J : Int) := hJ.symm
  simp (maxSteps := 4000000) +contextual (disch := first | omega | exact qdb_ok (by kernel_rfl) | exact okb_ok (by kernel_rfl)) only [bw1,bw2,bw5,bw6,bc1,bc2,bc3,bc4,bc5,bc6,bb0,binIs,extV,extS,AV.dl,AV.cells?,↓reduceIte,reduceCtorEq,Nat.reduceAdd,Nat.reduceSub,List.reduceReplicate,Nat.reduceLeDiff,Nat.reduceLT,Nat.reduceBEq,Nat.reduceEqDiff,tfb,x10_21,x10_22,x10_23,h1, c1, c2, hJ']
  refine ⟨h3, ?_⟩
  refine loop_xu (O := O10) (tb := 0) Ct10_ok hmix (by kernel_rfl) (σ := Nat × List (Int × Bool)) (fun x => [(33, .i x.1)]) (fun x => [(2000000026, ents fki fvb x.2)]) (fun x => x.1 ≤ J ∧ MO r l first x.1 0 x.2) (fun x => J - x.1) (0, []) ⟨by omega, MO.zero⟩ ?_ ?_
  · simp (maxSteps := 4000000) +contextual (disch := first | omega | exact qdb_ok (by kernel_rfl) | exact okb_ok (by kernel_rfl)) only [bw4,bw5,bw6,bc0,bc3,bc5,bc6,AV.isNilS,AV.isNoRows,wk,↓reduceIte,reduceCtorEq,Nat.reduceEqDiff,eq_self]
    exact trivial
  rintro ⟨j, M⟩ ⟨hj, hM⟩
  dsimp only at hj hM ⊢
  by_cases hlt : j < J
  · have hlt' : (j : Int) < J := by omega
    have hjj : (j : Int) < (jud l).1 := by omega
    have hvg := con_vg ck hjj
    have hsl := swR_len (r := r) (l := l) (j := j)
    simp (maxSteps := 4000000) +contextual (disch := first | omega | exact qdb_ok (by kernel_rfl) | exact okb_ok (by kernel_rfl)) only [bw1,bw2,bw4,bw5,bw6,bw7,bc0,bc1,bc2,bc3,bc4,bc5,bc6,binIs,AV.isSlice,AV.rows,AV.dl,↓reduceIte,reduceCtorEq,Nat.reduceAdd,Nat.reduceLeDiff,Nat.reduceEqDiff,tfb,x10_24,eq_self, hlt', h1, hsl]
    refine ⟨hvg, ?_⟩
    refine loop_xu (O := O10) (tb := 0) Ct10_ok hmix (by kernel_rfl) (σ := Nat × List (Int × Bool)) (fun x => [(41, .i x.1)]) (fun x => [(2000000026, ents fki fvb x.2)]) (fun x => x.1 ≤ l.length ∧ MO r l first j x.1 x.2) (fun x => l.length - x.1) (0, M) ⟨by omega, hM⟩ ?_ ?_
    · simp (maxSteps := 4000000) +contextual (disch := first | omega | exact qdb_ok (by kernel_rfl) | exact okb_ok (by kernel_rfl)) only [bw4,bw5,bw6,bc0,bc3,bc5,bc6,AV.isNilS,AV.isNoRows,wk,↓reduceIte,reduceCtorEq,Nat.reduceEqDiff,eq_self]
      exact wk_ents _
    rintro ⟨k, M⟩ ⟨hk, hM⟩
    dsimp only at hk hM ⊢
    by_cases hkt : k < l.length
    · have hkt' : (k : Int) < l.length := by omega
      obtain ⟨⟨b1, b2⟩, b3, b4⟩ := sw_bd (r := r) (j := j) hkt
      have hrow : ((swR r l j).map Spn.c).getD k [] = Spn.c ((swR r l j).getD k default) := row_at (by rw [hsl]; exact hkt)
      have hob : opB r l first k j = inB first ((swR r l j).getD k default).lo (((swR r l j).getD k default).hi - 1) := rfl
      have hik : i64 (k : Int) := by unfold i64; omega
      have hko := keyOf3 hik
      have hmo : mapOk Tryz.prog 3 (ents fki fvb M) := ents_ok' (fkv := fun n => Value.int .i64 n) fki_val fun p hp => keyOf3 (by
        obtain ⟨_, q, h2, h3, _⟩ := (hM.2 p.1 p.2).1 hp
        rw [h2]; unfold i64; omega)
      cases hb : opB r l first k j
      · rw [hb] at hob
        have hob := hob.symm
        have hM' := hM.skip hb
        simp (maxSteps := 4000000) +contextual (disch := first | omega | exact qdb_ok (by kernel_rfl) | exact okb_ok (by kernel_rfl)) only [bw1,bw2,bw4,bw5,bw6,bw7,bc0,bc1,bc2,bc3,bc4,bc5,bc6,AV.isNilS,AV.isNoRows,wk,binIs,addF,AV.isPtr,idxV,AV.isSl,AV.rows,ps,pv,AV.cells?,AV.menc,AV.one,D.one,Value.oneCell',↓reduceIte,reduceCtorEq,Nat.reduceAdd,Nat.reduceLeDiff,Nat.reduceLT,Nat.reduceBEq,Nat.reduceEqDiff,tfb,x10_23,eq_self, hkt', hsl, hrow, hob, kill_ents, mencs_ents]
        exact ⟨by omega, ⟨k + 1, M⟩, ⟨⟨by dsimp only; omega, hM'⟩, by dsimp only; omega⟩, rfl, wk_ents _⟩
      · rw [hb] at hob
        have hob := hob.symm
        simp (maxSteps := 4000000) +contextual (disch := first | omega | exact qdb_ok (by kernel_rfl) | exact okb_ok (by kernel_rfl)) only [bw1,bw2,bw4,bw5,bw6,bw7,bc0,bc1,bc2,bc3,bc4,bc5,bc6,binIs,addF,AV.isPtr,idxV,AV.isSl,AV.rows,ps,pv,AV.cells?,AV.menc,AV.one,D.one,Value.oneCell',D.val?,↓reduceIte,reduceCtorEq,Nat.reduceAdd,Nat.reduceLeDiff,Nat.reduceLT,Nat.reduceBEq,Nat.reduceEqDiff,tfb,x10_23,eq_self, hkt', hsl, hrow, hob, key3', kill_ents, mencs_ents, hko, hmo]
        refine ⟨by omega, xUp_put (fkv := fun n => Value.int .i64 n) (k := (k : Int)) (v := true) fki_val fki_inj rfl rfl hM.1 (fun M' hn' hm' => ?_)⟩
        have hM' := hM.put hkt hb hn' hm'
        have hmo' : mapOk Tryz.prog 3 (ents fki fvb M') := ents_ok' (fkv := fun n => Value.int .i64 n) fki_val fun p hp => keyOf3 (by
          obtain ⟨_, q, h2, h3, _⟩ := (hM'.2 p.1 p.2).1 hp
          rw [h2]; unfold i64; omega)
        simp (maxSteps := 4000000) +contextual (disch := first | omega | exact qdb_ok (by kernel_rfl) | exact okb_ok (by kernel_rfl)) only [bw1,bw2,bw5,bw6,bw7,bc0,bc1,bc3,bc4,bc5,bc6,AV.isNilS,AV.isNoRows,wk,binIs,↓reduceIte,reduceCtorEq,Nat.reduceEqDiff,tfb,eq_self]
        exact ⟨⟨k + 1, M'⟩, ⟨⟨by dsimp only; omega, hM'⟩, by dsimp only; omega⟩, rfl, wk_ents _⟩
    have hkt' : ¬ (k : Int) < l.length := by omega
    obtain rfl : k = l.length := by omega
    have hM' := hM.next
    simp (maxSteps := 4000000) +contextual (disch := first | omega | exact qdb_ok (by kernel_rfl) | exact okb_ok (by kernel_rfl)) only [bw1,bw2,bw5,bw6,bw7,bc0,bc1,bc3,bc4,bc5,bc6,AV.isNilS,AV.isNoRows,wk,binIs,↓reduceIte,reduceCtorEq,Nat.reduceEqDiff,tfb,eq_self, Int.lt_irrefl]
    exact ⟨(j + 1, M), ⟨⟨by dsimp only; omega, hM'⟩, by dsimp only; omega⟩, rfl, wk_ents _⟩
  have hlt' : ¬ (j : Int) < J := by omega
  obtain rfl : j = J := by omega
  simp (maxSteps := 4000000) +contextual (disch := first | omega | exact qdb_ok (by kernel_rfl) | exact okb_ok (by kernel_rfl)) only [bw1,bw2,bw5,bw6,bw7,bc0,bc1,bc3,bc4,bc5,bc6,bb0,binIs,↓reduceIte,reduceCtorEq,Nat.reduceAdd,Nat.reduceLT,Nat.reduceBEq,Nat.reduceEqDiff,tfb,eq_self, Int.lt_irrefl, kill_ents, pairs_ents_eq, ents_len]
  have hM0 : MO r l first (jud l).1.toNat 0 M := by rw [show (jud l).1.toNat = j by omega]; exact hM
  refine seed (m1 := mk _) (m2 := mk _) 15 67 3 1 (by decide) rfl rfl (by simp [Sto.mens, AV.mens, AV.men, mens_ents, itc]) rfl ?_
  refine loop_xu (O := O10) (tb := 0) Ct10_ok hmix (by kernel_rfl) (σ := List Nat) (fun x => [(15, .own 67 3 1 ((x.map fun i => (M.getD i default).1).map ic))]) (fun x => [(2000000058, itc 2000000026 M.length x)]) (fun x => x.Nodup ∧ ∀ i ∈ x, i < M.length) (fun x => M.length - x.length) [] ⟨by simp, by simp⟩ ?_ ?_
  · simp (maxSteps := 4000000) +contextual (disch := first | omega | exact qdb_ok (by kernel_rfl) | exact okb_ok (by kernel_rfl)) only [bw5,bw6,bc0,bc3,bc4,bc5,bc6,AV.isNilS,AV.isNoRows,wk,↓reduceIte,reduceCtorEq,Nat.reduceEqDiff,eq_self]
    exact ⟨wk_ents _, wk_ents _⟩
  rintro seen ⟨hn1, hn2⟩
  simp (maxSteps := 4000000) +contextual (disch := first | omega | exact qdb_ok (by kernel_rfl) | exact okb_ok (by kernel_rfl)) only [bw1,bw2,bw5,bw6,bc0,bc3,bb0,↓reduceIte,reduceCtorEq,Nat.reduceEqDiff,eq_self]
  refine nx_ents (fk := fki) (fv := fvb) (M := M) (G := 2000000026) rfl rfl rfl (by simp [AV.mencs, AV.menc, Sto.mencs, mencs_ents, itc]) (fun hall => ?_) (fun i hi hs => ?_)
  · have hpm : ((seen.map fun i => (M.getD i default).1)).Perm (M.map Prod.fst) := by
      have := (seen_all hn1 hn2 hall).map Prod.fst
      rwa [List.map_map] at this
    have hfin := op_fin hM0 hpm
    have hlen : seen.length ≤ 12 := by
      have e1 : (isort (seen.map fun i => (M.getD i default).1)).length = seen.length := by rw [isort_len, List.length_map]
      have e2 : (opL r l first).length ≤ l.length := by
        unfold opL
        rw [List.length_map]
        have := List.length_filter_le (fun (i : Nat) => opI r l first i (jud l).1.toNat) (List.range l.length)
        rwa [List.length_range] at this
      rw [hfin] at e1
      omega
    simp (maxSteps := 4000000) +contextual (disch := first | omega | exact qdb_ok (by kernel_rfl) | exact okb_ok (by kernel_rfl)) only [bw1,bw2,bw3,bw4,bw5,bw6,bc2,bc3,bc4,bc5,bc6,extV,extS,AV.outs,AV.outF,packD,↓reduceIte,reduceCtorEq,Nat.reduceLT,Nat.reduceBEq,Nat.reduceEqDiff,upOk,bu0,x10_29,eq_self, hfin]
    exact ⟨hlen, okUp_ents, okUp_itc (by decide)⟩
  · obtain ⟨hs1, hs2, hs3⟩ := seen_lt hn1 hn2 hi hs
    have hs0 : M.length ≤ l.length := by
      have e1 := op_fin hM0 (List.Perm.refl _)
      have e2 : (opL r l first).length ≤ l.length := by
        unfold opL
        rw [List.length_map]
        have := List.length_filter_le (fun (i : Nat) => opI r l first i (jud l).1.toNat) (List.range l.length)
        rwa [List.length_range] at this
      rw [← e1, isort_len, List.length_map] at e2
      exact e2
    simp (maxSteps := 4000000) +contextual (disch := first | omega | exact qdb_ok (by kernel_rfl) | exact okb_ok (by kernel_rfl)) only [bw1,bw2,bw4,bw5,bw6,bc0,bc1,bc3,bc4,bc5,bc6,bb0,AV.isNilS,AV.isNoRows,wk,AV.isSl,AV.rows,extV,extS,D.one,Value.oneCell',tagOf,AV.isApp,AV.dcells,D.cells?,↓reduceIte,reduceCtorEq,Nat.reduceAdd,Nat.reduceMul,List.reduceReplicate,Nat.reduceLeDiff,Nat.reduceLT,Nat.reduceBEq,Nat.reduceEqDiff,tfb,en_ents,ctz10,eq_self, kill_ents]
    refine ⟨hi, by omega, by omega, seen ++ [i], ⟨⟨hs2, hs3⟩, by rw [List.length_append]; simp only [List.length_cons, List.length_nil]; omega⟩, ?_, wk_ents _, by rw [kill_itc (by decide), kill_itc (by decide)]; exact wk_ents _⟩
    rw [List.map_append, List.map_append]; rfl
def ent10 (args : List AV) (K : AV → List AV → Sto → Prop) (e : List AV) (s : Sto) : Prop := ent (α := (Rul) × (List Ska) × (Int)) (fun aa => [aa.1.d, .sl 3 (aa.2.1.map Ska.c), .i aa.2.2]) (fun aa => (aa.2.1.length ≤ 1000 ∧ (aa.2.1.length ≤ 12 ∨ 40 < aa.2.1.length)) ∧ (∀ s ∈ aa.2.1, ∀ x ∈ s.calls, i64 x.place) ∧ i64 aa.2.2) (fun aa => .tup [.sl 1 ((opG aa.1 aa.2.1 aa.2.2).1.map ic), .i (opG aa.1 aa.2.1 aa.2.2).2]) args K e s
theorem ent10_ok {args : List AV} {K : AV → List AV → Sto → Prop} {Q : Kt} {e : List AV} {s : Sto} (h : ent10 args K e s) : pcall Tryz.prog 10 args K Q e s := ent_ok (fun aa h => pf10 aa.1 aa.2.1 aa.2.2 h) h
theorem eq10 {r : Rul} {l : List Ska} {first : Int} {KK : AV → List AV → Sto → Prop} {ee : List AV} {ss : Sto} : ent10 [.d (r.d), .d (.sl 3 (l.map Ska.c)), .d (.i first)] KK ee ss = (((l.length ≤ 1000 ∧ (l.length ≤ 12 ∨ 40 < l.length)) ∧ (∀ s ∈ l, ∀ x ∈ s.calls, i64 x.place) ∧ i64 first) ∧ KK (.d (.tup [.sl 1 ((opG r l first).1.map ic), .i (opG r l first).2])) ee ss) := by
  unfold ent10; rw [ent_iff (r, l, first) (by intro b h; simpa [Prod.ext_iff, and_assoc, Int.ofNat_inj, ints_inj, cals_inj, pcs_inj, skas_inj, scos_inj, ska_inj, rul_inj, sco_inj, cal_inj, ods_inj, od_inj, spns_inj, Int.ofNat_inj, ints_inj, cals_inj, pcs_inj, skas_inj, scos_inj, ska_inj, rul_inj, sco_inj, cal_inj, ods_inj, od_inj, spns_inj, Int.ofNat_inj, ints_inj, cals_inj, pcs_inj, skas_inj, scos_inj, ska_inj, rul_inj, sco_inj, cal_inj] using h) rfl]; simp
end Go.Proofs.YtapglfcaghlpfaaGreat
