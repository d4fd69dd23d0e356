/- A part of the proof that the last text ends: what functions of the program do, told by plain data. -/
import Derived.Test.YtapglfcaghlpfaaGreatZUA
set_option linter.unusedVariables false
set_option linter.unusedSimpArgs false
namespace Go.Proofs.YtapglfcaghlpfaaGreat
open Go Go.E Go.Maps
set_option maxRecDepth 100000
set_option maxHeartbeats 16000000
structure Spn where
  lo : Int
  hi : Int
  deriving Inhabited, DecidableEq
abbrev Spn.c (s : Spn) : List D := [.i s.lo, .i s.hi]
theorem Spn.inj {a b : Spn} (h : a.c = b.c) : a = b := by cases a; cases b; simp at h; simp [h]
theorem spns_inj {a b : List Spn} : (a.map Spn.c = b.map Spn.c) = (a = b) := inj_map fun _ _ h => Spn.inj h
theorem setC_len {j : Nat} {g : Int} {c : Cal} : (setC j g c).marks.length = c.marks.length := by simp [setC]
theorem mem_set {l : List Int} {j : Nat} {m x : Int} (h : x ∈ l.set j m) : x ∈ l ∨ x = m := List.mem_or_eq_of_mem_set h
theorem vc_set {r : Rul} {c : Cal} (h : VC r c) {j : Nat} {g : Int} (hg : -5 ≤ g ∧ g ≤ 5) : VC r (setC j g c) :=
  ⟨h.blen, h.base, h.elem, h.under, by rw [setC_len]; exact h.mlen, fun y hy => by
    rcases mem_set hy with h1 | h1
    · exact h.mark y h1
    · rw [h1]; exact hg⟩
theorem vp_set {r : Rul} {p : List Int} (h : VP r p) {j : Nat} {q : Int} (hq : 0 ≤ q ∧ q ≤ 40) : VP r (setP j q p) :=
  ⟨h.factor, by simpa [setP] using h.len, fun y hy => by
    rcases mem_set hy with h1 | h1
    · exact h.mark y h1
    · rw [h1]; exact hq⟩
theorem valid_set {r : Rul} {s : Ska} {n : Int} (h : Valid r s n) {j : Nat} {g q : Int} (hg : -5 ≤ g ∧ g ≤ 5) (hq : 0 ≤ q ∧ q ≤ 40) : Valid r (givR s j g q) n :=
  ⟨h.bases, h.base, h.factor, h.most, h.jn, by simpa [givR] using h.calls, by simpa [givR] using h.parts, h.over, fun x hx => by
    obtain ⟨c, hc, rfl⟩ := List.mem_map.1 hx
    obtain ⟨h1, h2, h3, h4, h5⟩ := h.call c hc
    refine ⟨h1, h2, h3, by rw [setC_len]; exact h4, fun y hy => ?_⟩
    rcases mem_set hy with e | e
    · exact h5 y e
    · rw [e]; exact hg, fun p hp => by
    obtain ⟨c, hc, rfl⟩ := List.mem_map.1 hp
    obtain ⟨h1, h2⟩ := h.part c hc
    refine ⟨by simpa [setP] using h1, fun y hy => ?_⟩
    rcases mem_set hy with e | e
    · exact h2 y e
    · rw [e]; exact hq⟩
theorem vk_set {r : Rul} {s : Ska} (h : VK r s) {j : Nat} {g q : Int} (hg : -5 ≤ g ∧ g ≤ 5) (hq : 0 ≤ q ∧ q ≤ 40) : VK r (givR s j g q) := by
  obtain ⟨⟨a1, a2, a3, a4⟩, ⟨n, hv⟩, h3, h4, h5⟩ := h
  refine ⟨⟨by simpa [givR] using a1, fun c hc => ?_, ?_, a4⟩, ⟨n, valid_set hv hg hq⟩, by simpa [givR] using h3, fun p hp => ?_, h5⟩
  · obtain ⟨c, hc', rfl⟩ := List.mem_map.1 hc
    exact vc_set (a2 c hc') hg
  · have : ((givR s j g q).calls.map Cal.place) = s.calls.map Cal.place := by unfold givR; rw [List.map_map]; rfl
    rw [this]; exact a3
  · obtain ⟨p, hp', rfl⟩ := List.mem_map.1 hp
    exact vp_set (h4 p hp') hq
def endS (r : Rul) (j : Nat) (g q : Int) (s : Ska) : Sco := progR r (givR s j g q)
def wkN (r : Rul) (l : List Ska) (j : Nat) (g q : Int) (k : Nat) : List Sco := (l.take k).map (endS r j g q)
theorem wkN_succ {r : Rul} {l : List Ska} {j : Nat} {g q : Int} {k : Nat} (h : k < l.length) : wkN r l j g q (k + 1) = wkN r l j g q k ++ [progR r (givR (l.getD k default) j g q)] := by
  unfold wkN
  rw [List.take_succ_eq_append_getElem h, List.map_append, at_lt h]; rfl
theorem wkN_len {r : Rul} {l : List Ska} {j : Nat} {g q : Int} {k : Nat} (h : k ≤ l.length) : (wkN r l j g q k).length = k := by simp [wkN]; omega
def cLo (W B : List Sco) (i : Nat) : Nat → Int
  | 0 => 1
  | k + 1 => cLo W B i k + if k ≠ i ∧ better (W.getD k default) (B.getD i default) = true then 1 else 0
theorem cLo_b (W B : List Sco) (i : Nat) : ∀ k, 1 ≤ cLo W B i k ∧ cLo W B i k ≤ k + 1
  | 0 => by simp [cLo]
  | k + 1 => by have := cLo_b W B i k; unfold cLo; split <;> omega
def spn (W B : List Sco) (i k : Nat) : Spn := ⟨cLo W B i k, cLo B W i k⟩
def bsN (W B : List Sco) (n : Nat) : Nat → List Spn
  | 0 => List.replicate n ⟨0, 0⟩
  | i + 1 => (bsN W B n i).set i (spn W B i n)
theorem bsN_len {W B : List Sco} {n : Nat} : ∀ i, (bsN W B n i).length = n
  | 0 => by simp [bsN]
  | i + 1 => by unfold bsN; rw [List.length_set, bsN_len i]
theorem bsN_at {W B : List Sco} {n : Nat} : ∀ i j, i ≤ n → j < i → (bsN W B n i).getD j default = spn W B j n
  | 0, j, _, h => by omega
  | i + 1, j, hi, h => by
    unfold bsN
    rw [getD_set (by rw [bsN_len]; omega)]
    by_cases c : j = i
    · rw [if_pos c, c]
    · rw [if_neg c]; exact bsN_at i j (by omega) (by omega)
def swR (r : Rul) (l : List Ska) (j : Nat) : List Spn := (List.range l.length).map fun i => spn (l.map (endS r j (-5) 0)) (l.map (endS r j 5 40)) i l.length
theorem bsN_all {W B : List Sco} {n : Nat} : bsN W B n n = (List.range n).map fun i => spn W B i n := by
  apply List.ext_getElem (by rw [bsN_len]; simp)
  intro i h1 h2
  rw [bsN_len] at h1
  have := bsN_at (W := W) (B := B) n i (Nat.le_refl _) h1
  rw [getD_el (by rw [bsN_len]; exact h1)] at this
  rw [this]; simp
structure VG (r : Rul) (j : Nat) (s : Ska) : Prop where
  vk : VK r s
  call : ∀ c ∈ s.calls, j < c.marks.length ∧ c.marks.length ≤ 1000
  part : ∀ p ∈ s.parts, j < p.length ∧ p.length ≤ 1000
def O24 : Nat → Sch := fun id => if id = 5 then .one 0 (.one 2 (.one 3 (.alt (.one 1 (.one 4 (.one 5 (.one 6 (.one 7 (.one 8 (.done))))))) (.one 4 (.one 1 (.one 5 (.one 6 (.one 7 (.one 8 (.done)))))))))) else if id = 6 then .one 0 (.one 2 (.one 3 (.alt (.one 1 (.one 4 (.one 5 (.one 6 (.one 7 (.one 8 (.done))))))) (.one 4 (.one 1 (.one 5 (.one 6 (.one 7 (.one 8 (.done)))))))))) else if id = 17 then .one 0 (.one 1 (.one 2 (.one 3 (.one 4 (.one 5 (.one 6 (.one 7 (.one 8 (.done))))))))) else if id = 19 then .one 0 (.one 1 (.one 2 (.one 3 (.one 4 (.one 5 (.one 6 (.one 7 (.one 8 (.done))))))))) else .done
theorem O24_5 : O24 5 = .one 0 (.one 2 (.one 3 (.alt (.one 1 (.one 4 (.one 5 (.one 6 (.one 7 (.one 8 (.done))))))) (.one 4 (.one 1 (.one 5 (.one 6 (.one 7 (.one 8 (.done)))))))))) := rfl
theorem O24_6 : O24 6 = .one 0 (.one 2 (.one 3 (.alt (.one 1 (.one 4 (.one 5 (.one 6 (.one 7 (.one 8 (.done))))))) (.one 4 (.one 1 (.one 5 (.one 6 (.one 7 (.one 8 (.done)))))))))) := rfl
theorem O24_17 : O24 17 = .one 0 (.one 1 (.one 2 (.one 3 (.one 4 (.one 5 (.one 6 (.one 7 (.one 8 (.done))))))))) := rfl
theorem O24_19 : O24 19 = .one 0 (.one 1 (.one 2 (.one 3 (.one 4 (.one 5 (.one 6 (.one 7 (.one 8 (.done))))))))) := rfl
theorem ho24 : Tryz.f24.body.map (okO O24) = some true := by kernel_rfl
def Cf24 : Nat → List AV → (AV → List AV → Sto → Prop) → Kt → List AV → Sto → Prop := fun f args K Q e s => match f with
  | 19 => ent19 args K e s
  | 31 => ent31 args K e s
  | 34 => ent34 args K e s
  | _ => False
def Ct24 : CT := { f := Cf24, y := noYld, z := fun d => false }
theorem ctz24 {d : Nat} : CT.z Ct24 d = (false) := id rfl
theorem Ct24_ok : Ct24.ok Tryz.prog := ok_of_f (fun f args K Q e s h => by
  have h : Cf24 f args K Q e s := h
  unfold Cf24 at h; split at h
  · exact ent19_ok h
  · exact ent31_ok h
  · exact ent34_ok h
  · exact h.elim) (fun _ _ _ _ _ _ _ _ _ h => h)
theorem x24_31 {r : Rul} {s : Ska} {KK : AV → List AV → Sto → Prop} {QQ : Kt} {ii : At KK} {jj : At QQ} {ee : List AV} {ss : Sto} : xC Ct24 31 [.d (r.d), .d (.agg s.c)] KK QQ ii jj ee ss = ((VK r s) ∧ KK (.d (.agg (progR r s).c)) ee ss) := eq31
theorem x24_19 {a : Sco} {b : Sco} {KK : AV → List AV → Sto → Prop} {QQ : Kt} {ii : At KK} {jj : At QQ} {ee : List AV} {ss : Sto} : xC Ct24 19 [.d (.agg a.c), .d (.agg b.c)] KK QQ ii jj ee ss = (KK (.d (.b (better a b))) ee ss) := eq19
theorem x24_34 {s : Ska} {j : Nat} {g : Int} {q : Int} {KK : AV → List AV → Sto → Prop} {QQ : Kt} {ii : At KK} {jj : At QQ} {ee : List AV} {ss : Sto} : xC Ct24 34 [.d (.agg s.c), .d (.i (j : Int)), .d (.i g), .d (.i q)] KK QQ ii jj ee ss = (((s.calls.length ≤ 1000 ∧ s.parts.length ≤ 1000) ∧ (∀ c ∈ s.calls, j < c.marks.length ∧ c.marks.length ≤ 1000) ∧ ∀ p ∈ s.parts, j < p.length ∧ p.length ≤ 1000) ∧ KK (.d (.agg (givR s j g q).c)) ee ss) := eq34
theorem c24 : callable Tryz.prog 24 = true := by kernel_rfl
theorem pf24 (r : Rul) (l : List Ska) (j : Nat) (h : l.length ≤ 1000 ∧ ∀ s ∈ l, VG r j s) : PF Tryz.prog 24 [r.d, .sl 3 (l.map Ska.c), .i (j : Int)] (fun zz => zz = .ret (.sl 2 ((swR r l j).map Spn.c))) := by
  obtain ⟨hl1, hvg⟩ := h
  have w0 : ∀ g q, wkN r l j g q 0 = [] := fun g q => rfl
  have w1 : ∀ g q k, k < l.length → wkN r l j g q (k + 1) = wkN r l j g q k ++ [progR r (givR (l.getD k default) j g q)] := fun g q k h => wkN_succ h
  have wl : ∀ g q k, k ≤ l.length → (wkN r l j g q k).length = k := fun g q k h => wkN_len h
  refine PF_nil (PF_start (O := O24) Ct24_ok hmix ho24 Tryz.func24 c24 rfl Tryz.ntmps24 Tryz.results24 ?_)
  simp (maxSteps := 4000000) +contextual (disch := first | omega | exact qdb_ok (by kernel_rfl) | exact okb_ok (by kernel_rfl)) only [bw1,bw2,bw4,bw5,bw6,bc3,bc4,bc5,bc6,AV.isSlice,AV.rows,AV.cells?,↓reduceIte,reduceCtorEq,Nat.reduceAdd,Nat.reduceSub,List.reduceReplicate,Nat.reduceLT,Int.reduceNeg,tfb]
  refine seed (m1 := mk _) (m2 := mk _) 7 28 48 4 (by decide) rfl rfl (by simp [Sto.mens, AV.mens, AV.men]) rfl ?_
  simp (maxSteps := 4000000) +contextual (disch := first | omega | exact qdb_ok (by kernel_rfl) | exact okb_ok (by kernel_rfl)) only [bw6,Int.reduceNeg]
  refine seed (m1 := mk _) (m2 := mk _) 8 36 48 4 (by decide) rfl rfl (by simp [Sto.mens, AV.mens, AV.men]) rfl ?_
  simp (maxSteps := 4000000) +contextual (disch := first | omega | exact qdb_ok (by kernel_rfl) | exact okb_ok (by kernel_rfl)) only [bw6,Int.reduceNeg]
  refine loop_u (O := O24) (tb := 0) Ct24_ok hmix (by kernel_rfl) (σ := Nat) (fun k => [(7, .own 28 48 4 ((wkN r l j (-5) 0 k).map Sco.c)), (8, .own 36 48 4 ((wkN r l j 5 40 k).map Sco.c)), (10, .any), (16, .i k)]) (fun k => []) (fun k => k ≤ l.length) (fun k => l.length - k) (fun k => k + 1) 0 (by omega) ?_ ?_
  · simp (maxSteps := 4000000) +contextual (disch := first | omega | exact qdb_ok (by kernel_rfl) | exact okb_ok (by kernel_rfl)) only [bw4,bw5,bw6,bc0,bc3,bc4,bc5,bc6,AV.isNilS,AV.isNoRows,wk,↓reduceIte,reduceCtorEq,Int.reduceNeg,eq_self, w0]
  intro k hk
  by_cases hlt : k < l.length
  · have hlt' : (k : Int) < l.length := by omega
    have w1a := w1 (-5) 0 k hlt
    have w1b := w1 5 40 k hlt
    have wla := wl (-5) 0 k hk
    have wlb := wl 5 40 k hk
    have hv := hvg (l.getD k default) (by rw [at_lt hlt]; exact List.getElem_mem _)
    have hka := vk_set hv.vk (j := j) (g := -5) (q := 0) (by omega) (by omega)
    have hkb := vk_set hv.vk (j := j) (g := 5) (q := 40) (by omega) (by omega)
    have hc1 := hv.vk.vs.len
    have hc2 := hv.vk.parts
    have hcl : (l.getD k default).calls.length ≤ 1000 := by omega
    have hpl : (l.getD k default).parts.length ≤ 1000 := by omega
    have hcc := hv.call
    have hpp := hv.part
    simp (maxSteps := 4000000) +contextual (disch := first | omega | exact qdb_ok (by kernel_rfl) | exact okb_ok (by kernel_rfl)) only [bw1,bw2,bw3,bw4,bw5,bw6,bw7,bc0,bc1,bc2,bc3,bc4,bc5,bc6,AV.isNilS,AV.isNoRows,wk,binIs,idxV,AV.isSl,AV.rows,ps,pv,AV.dl,AV.cells?,AV.menc,AV.one,D.one,Value.oneCell',tagOf,AV.isApp,AV.dcells,D.cells?,↓reduceIte,reduceCtorEq,Nat.reduceAdd,Nat.reduceMul,List.reduceReplicate,Nat.reduceLeDiff,Nat.reduceLT,Nat.reduceBEq,Nat.reduceEqDiff,Int.reduceNeg,tfb,ctz24,O24_5,O24_6,x24_31,x24_34,eq_self, hlt', w1a, w1b, wla, wlb, hka, hkb, hcl, hpl]
    refine ⟨by omega, ⟨hcc, hpp⟩, by omega, by omega, ⟨hcc, hpp⟩, by omega, by omega, by omega, ?_, ?_⟩ <;> (rw [List.map_append]; rfl)
  have hlt' : ¬ (k : Int) < l.length := by omega
  obtain rfl : k = l.length := by omega
  have hfin : swR r l j = bsN (wkN r l j (-5) 0 l.length) (wkN r l j 5 40 l.length) l.length l.length := by
    rw [bsN_all]; unfold swR wkN; rw [List.take_length]
  have hWl := wl (-5) 0 l.length (Nat.le_refl _)
  have hBl := wl 5 40 l.length (Nat.le_refl _)
  rw [hfin]
  clear hfin w0 w1 wl hlt hlt' hk hvg
  generalize wkN r l j (-5) 0 l.length = W at *
  generalize wkN r l j 5 40 l.length = B at *
  have hrep : List.replicate l.length [D.v (Value.int .i64 0), D.v (Value.int .i64 0)] = (List.replicate l.length (⟨0, 0⟩ : Spn)).map Spn.c := by rw [List.map_replicate]
  simp (maxSteps := 4000000) +contextual (disch := first | omega | exact qdb_ok (by kernel_rfl) | exact okb_ok (by kernel_rfl)) only [bw1,bw2,bw4,bw5,bw6,bw7,bc0,bc1,bc3,bc4,bc5,bc6,binIs,AV.isSlice,AV.rows,D.one,Value.oneCell',↓reduceIte,reduceCtorEq,Nat.reduceAdd,Nat.reduceBEq,Nat.reduceEqDiff,Int.reduceNeg,tfb,eq_self, Int.lt_irrefl, hrep]
  refine ⟨by omega, by omega, by omega, ?_⟩
  refine loop_u (O := O24) (tb := 0) Ct24_ok hmix (by kernel_rfl) (σ := Nat) (fun i => [(11, .own 40 54 2 ((bsN W B l.length i).map Spn.c)), (39, .any), (12, .any), (13, .any), (42, .i i)]) (fun k => []) (fun i => i ≤ l.length) (fun i => l.length - i) (fun i => i + 1) 0 (by omega) ?_ ?_
  · simp (maxSteps := 4000000) +contextual (disch := first | omega | exact qdb_ok (by kernel_rfl) | exact okb_ok (by kernel_rfl)) only [bw4,bw5,bw6,bc0,bc3,bc5,bc6,AV.isNilS,AV.isNoRows,wk,↓reduceIte,reduceCtorEq,eq_self, bsN]
  intro i hi
  have hbl := bsN_len (W := W) (B := B) (n := l.length) i
  by_cases hit : i < l.length
  case neg =>
    have hit' : ¬ (i : Int) < l.length := by omega
    obtain rfl : i = l.length := by omega
    simp (maxSteps := 4000000) +contextual (disch := first | omega | exact qdb_ok (by kernel_rfl) | exact okb_ok (by kernel_rfl)) only [bw1,bw2,bw3,bw5,bw6,bw7,bc0,bc1,bc2,bc3,bc4,bc5,bc6,binIs,AV.outs,AV.outF,packD,↓reduceIte,reduceCtorEq,tfb,eq_self, Int.lt_irrefl]
  have hit' : (i : Int) < l.length := by omega
  have hsi : ∀ x : Spn, ((bsN W B l.length i).map Spn.c).set i [.i x.lo, .i x.hi] = ((bsN W B l.length i).set i x).map Spn.c := fun x => List.map_set.symm
  have hs1 := hsi ⟨1, 1⟩
  have hb1 : bsN W B l.length (i + 1) = (bsN W B l.length i).set i (spn W B i l.length) := rfl
  generalize bsN W B l.length i = bs at *
  simp (maxSteps := 4000000) +contextual (disch := first | omega | exact qdb_ok (by kernel_rfl) | exact okb_ok (by kernel_rfl)) only [bw1,bw2,bw4,bw5,bw6,bw7,bc0,bc1,bc2,bc3,bc4,bc5,bc6,binIs,idxV,AV.isSl,AV.isSlice,AV.rows,ps,pv,AV.dl,AV.cells?,AV.upr,AV.menc,D.one,Value.oneCell',AV.dcells,D.cells?,↓reduceIte,reduceCtorEq,Nat.reduceAdd,Nat.reduceLeDiff,Nat.reduceEqDiff,tfb,eq_self, hit', hbl, hs1]
  refine ⟨by omega, ?_⟩
  refine xl_kg 40 11 ?_
  simp (maxSteps := 4000000) +contextual (disch := first | omega | exact qdb_ok (by kernel_rfl) | exact okb_ok (by kernel_rfl)) only [bw6,bc3,bc4,↓reduceIte,Nat.reduceBEq,eq_self]
  refine loop_u (O := O24) (tb := 0) Ct24_ok hmix (by kernel_rfl) (σ := Nat) (fun k => [(11, .own 40 54 2 ((bs.set i (spn W B i k)).map Spn.c)), (13, .any), (51, .i k)]) (fun k => []) (fun k => k ≤ l.length) (fun k => l.length - k) (fun k => k + 1) 0 (by omega) ?_ ?_
  · simp (maxSteps := 4000000) +contextual (disch := first | omega | exact qdb_ok (by kernel_rfl) | exact okb_ok (by kernel_rfl)) only [bw4,bw5,bw6,bc0,bc1,bc3,bc5,bc6,AV.isNilS,AV.isNoRows,wk,↓reduceIte,reduceCtorEq,eq_self]
    rfl
  intro k hk
  by_cases hkt : k < l.length
  case neg =>
    have hkt' : ¬ (k : Int) < l.length := by omega
    obtain rfl : k = l.length := by omega
    simp (maxSteps := 4000000) +contextual (disch := first | omega | exact qdb_ok (by kernel_rfl) | exact okb_ok (by kernel_rfl)) only [bw1,bw2,bw4,bw5,bw6,bw7,bc0,bc1,bc3,bc4,bc5,bc6,AV.isNilS,AV.isNoRows,wk,binIs,↓reduceIte,reduceCtorEq,tfb,eq_self, Int.lt_irrefl, hb1]
    and_intros <;> omega
  have hkt' : (k : Int) < l.length := by omega
  by_cases hki : k = i
  · subst hki
    have hsk : spn W B k (k + 1) = spn W B k k := by simp [spn, cLo]
    simp (maxSteps := 4000000) +contextual (disch := first | omega | exact qdb_ok (by kernel_rfl) | exact okb_ok (by kernel_rfl)) only [bw1,bw2,bw4,bw5,bw6,bw7,bc0,bc1,bc3,bc4,bc5,bc6,AV.isNilS,AV.isNoRows,wk,binIs,↓reduceIte,reduceCtorEq,tfb,eq_self, hkt', hsk]
    and_intros <;> omega
  have hki' : ((k : Int) == (i : Int)) = false := by simp; omega
  have ha := cLo_b W B i k
  have hb := cLo_b B W i k
  have hla : cLo W B i (k + 1) = cLo W B i k + if better (W.getD k default) (B.getD i default) = true then 1 else 0 := by simp [cLo, hki]
  have hlb : cLo B W i (k + 1) = cLo B W i k + if better (B.getD k default) (W.getD i default) = true then 1 else 0 := by simp [cLo, hki]
  have hsp : spn W B i k = ⟨cLo W B i k, cLo B W i k⟩ := rfl
  have hsp1 : spn W B i (k + 1) = ⟨cLo W B i (k + 1), cLo B W i (k + 1)⟩ := rfl
  rw [hla, hlb] at hsp1
  generalize cLo W B i k = a at *
  generalize cLo B W i k = b at *
  have hrow : ∀ x : Spn, ((bs.set i x).map Spn.c).getD i [] = Spn.c x := fun x => by
    rw [row_at (by rw [List.length_set]; omega), getD_set (by omega), if_pos rfl]
  have hset : ∀ x y : Spn, ((bs.set i x).map Spn.c).set i [.i y.lo, .i y.hi] = (bs.set i y).map Spn.c := fun x y => by
    have : ((bs.set i x).set i y).map Spn.c = ((bs.set i x).map Spn.c).set i (Spn.c y) := List.map_set
    rw [List.set_set] at this
    exact this.symm
  have rk1 : (W.map Sco.c).getD k [] = Sco.c (W.getD k default) := row_at (by omega)
  have rk2 : (B.map Sco.c).getD k [] = Sco.c (B.getD k default) := row_at (by omega)
  have ri1 : (W.map Sco.c).getD i [] = Sco.c (W.getD i default) := row_at (by omega)
  have ri2 : (B.map Sco.c).getD i [] = Sco.c (B.getD i default) := row_at (by omega)
  have hr0 := hrow ⟨a, b⟩
  have hra := hrow ⟨a + 1, b⟩
  have hsa := hset ⟨a, b⟩ ⟨a + 1, b⟩
  have hsb := hset ⟨a, b⟩ ⟨a, b + 1⟩
  have hsc := hset ⟨a + 1, b⟩ ⟨a + 1, b + 1⟩
  by_cases c1 : better (W.getD k default) (B.getD i default) = true
  · rw [if_pos c1] at hsp1
    by_cases c2 : better (B.getD k default) (W.getD i default) = true
    · rw [if_pos c2] at hsp1
      simp (maxSteps := 4000000) +contextual (disch := first | omega | exact qdb_ok (by kernel_rfl) | exact okb_ok (by kernel_rfl)) only [bw1,bw2,bw3,bw4,bw5,bw6,bw7,bc0,bc1,bc2,bc3,bc4,bc5,bc6,AV.isNilS,AV.isNoRows,wk,binIs,addF,AV.isPtr,idxV,AV.isSl,AV.rows,ps,pv,AV.upr,AV.menc,D.one,Value.oneCell',AV.dcells,D.cells?,↓reduceIte,reduceCtorEq,Nat.reduceAdd,Nat.reduceLeDiff,Nat.reduceEqDiff,tfb,O24_17,O24_19,x24_19,eq_self, hkt', hki', hsp, hsp1, rk1, rk2, ri1, ri2, hWl, hBl, hit', hbl, hr0, hra, hsa, hsc, c1, c2, List.length_set]
      and_intros <;> omega
    · rw [if_neg c2, Int.add_zero] at hsp1
      simp (maxSteps := 4000000) +contextual (disch := first | omega | exact qdb_ok (by kernel_rfl) | exact okb_ok (by kernel_rfl)) only [bw1,bw2,bw3,bw4,bw5,bw6,bw7,bc0,bc1,bc2,bc3,bc4,bc5,bc6,AV.isNilS,AV.isNoRows,wk,binIs,addF,AV.isPtr,idxV,AV.isSl,AV.rows,ps,pv,AV.upr,AV.menc,D.one,Value.oneCell',AV.dcells,D.cells?,↓reduceIte,reduceCtorEq,Nat.reduceAdd,Nat.reduceLeDiff,Nat.reduceEqDiff,tfb,O24_17,O24_19,x24_19,eq_self, hkt', hki', hsp, hsp1, rk1, rk2, ri1, ri2, hWl, hBl, hit', hbl, hr0, hsa, c1, c2, List.length_set]
      and_intros <;> omega
  · rw [if_neg c1, Int.add_zero] at hsp1
    by_cases c2 : better (B.getD k default) (W.getD i default) = true
    · rw [if_pos c2] at hsp1
      simp (maxSteps := 4000000) +contextual (disch := first | omega | exact qdb_ok (by kernel_rfl) | exact okb_ok (by kernel_rfl)) only [bw1,bw2,bw3,bw4,bw5,bw6,bw7,bc0,bc1,bc2,bc3,bc4,bc5,bc6,AV.isNilS,AV.isNoRows,wk,binIs,addF,AV.isPtr,idxV,AV.isSl,AV.rows,ps,pv,AV.upr,AV.menc,D.one,Value.oneCell',AV.dcells,D.cells?,↓reduceIte,reduceCtorEq,Nat.reduceAdd,Nat.reduceLeDiff,Nat.reduceEqDiff,tfb,O24_17,O24_19,x24_19,eq_self, hkt', hki', hsp, hsp1, rk1, rk2, ri1, ri2, hWl, hBl, hit', hbl, hr0, hsb, c1, c2, List.length_set]
      and_intros <;> omega
    · rw [if_neg c2, Int.add_zero] at hsp1
      simp (maxSteps := 4000000) +contextual (disch := first | omega | exact qdb_ok (by kernel_rfl) | exact okb_ok (by kernel_rfl)) only [bw1,bw2,bw3,bw4,bw5,bw6,bw7,bc0,bc1,bc2,bc3,bc4,bc5,bc6,AV.isNilS,AV.isNoRows,wk,binIs,idxV,AV.isSl,AV.rows,ps,pv,↓reduceIte,reduceCtorEq,Nat.reduceLeDiff,tfb,O24_17,O24_19,x24_19,eq_self, hkt', hki', hsp, hsp1, rk1, rk2, ri1, ri2, hWl, hBl, hit', c1, c2]
      and_intros <;> omega
def ent24 (args : List AV) (K : AV → List AV → Sto → Prop) (e : List AV) (s : Sto) : Prop := ent (α := (Rul) × (List Ska) × (Nat)) (fun aa => [aa.1.d, .sl 3 (aa.2.1.map Ska.c), .i (aa.2.2 : Int)]) (fun aa => aa.2.1.length ≤ 1000 ∧ ∀ s ∈ aa.2.1, VG aa.1 aa.2.2 s) (fun aa => .sl 2 ((swR aa.1 aa.2.1 aa.2.2).map Spn.c)) args K e s
theorem ent24_ok {args : List AV} {K : AV → List AV → Sto → Prop} {Q : Kt} {e : List AV} {s : Sto} (h : ent24 args K e s) : pcall Tryz.prog 24 args K Q e s := ent_ok (fun aa h => pf24 aa.1 aa.2.1 aa.2.2 h) h
theorem eq24 {r : Rul} {l : List Ska} {j : Nat} {KK : AV → List AV → Sto → Prop} {ee : List AV} {ss : Sto} : ent24 [.d (r.d), .d (.sl 3 (l.map Ska.c)), .d (.i (j : Int))] KK ee ss = ((l.length ≤ 1000 ∧ ∀ s ∈ l, VG r j s) ∧ KK (.d (.sl 2 ((swR r l j).map Spn.c))) ee ss) := by
  unfold ent24; rw [ent_iff (r, l, j) (by intro b h; simpa [Prod.ext_iff, and_assoc, Int.ofNat_inj, ints_inj, cals_inj, pcs_inj, skas_inj, scos_inj, ska_inj, rul_inj, sco_inj, cal_inj, ods_inj, od_inj, spns_inj] using h) rfl]; simp
end Go.Proofs.YtapglfcaghlpfaaGreat
