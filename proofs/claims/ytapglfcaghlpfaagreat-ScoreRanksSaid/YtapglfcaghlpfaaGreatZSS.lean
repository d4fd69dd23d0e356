/- A part of the proof that the last text ends: what functions of the program do, told by plain data. -/
import Derived.Test.YtapglfcaghlpfaaGreatZSP
import Derived.Test.YtapglfcaghlpfaaGreatEc
set_option linter.unusedVariables false
set_option linter.unusedSimpArgs false
namespace Go.Proofs.YtapglfcaghlpfaaGreat
open Go Go.E Go.Maps
set_option maxRecDepth 100000
set_option maxHeartbeats 16000000
structure Od where
  call : Cal
  index : Int
  deriving Inhabited, DecidableEq
abbrev oc (x : Od) : List D := [.i x.call.place, .i x.call.elem, .i x.call.under, .b x.call.late, .b x.call.fall, .sl 1 (x.call.marks.map ic), .i x.index]
def ky (x : Od) : Int := x.call.place
theorem oc_inj {a b : Od} (h : oc a = oc b) : a = b := by
  obtain ⟨a, i⟩ := a; obtain ⟨b, j⟩ := b
  simp only [oc, List.cons.injEq, D.v.injEq, Value.int.injEq, Value.bool.injEq, D.sl.injEq, true_and, and_true] at h
  obtain ⟨h1, h2, h3, h4, h5, h6, h7⟩ := h
  have : a = b := Cal.inj (by simp [Cal.c, h1, h2, h3, h4, h5, h6])
  rw [this, h7]
theorem ods_inj {a b : List Od} : (a.map oc = b.map oc) = (a = b) := inj_map fun _ _ h => oc_inj h
theorem od_inj {a b : Od} : (a.call.place = b.call.place ∧ a.call.elem = b.call.elem ∧ a.call.under = b.call.under ∧ a.call.late = b.call.late ∧ a.call.fall = b.call.fall ∧ a.call.marks = b.call.marks ∧ a.index = b.index) = (a = b) := by
  obtain ⟨a, i⟩ := a; obtain ⟨b, j⟩ := b; cases a; cases b; simp [and_assoc]
def O83 : Nat → Sch := fun id => .done
theorem ho83 : Tryz.f83.body.map (okO O83) = some true := by kernel_rfl
def Cf83 : Nat → List AV → (AV → List AV → Sto → Prop) → Kt → List AV → Sto → Prop := fun f args K Q e s => match f with
  | 33 => ent33 args K e s
  | _ => False
def Ct83 : CT := { f := Cf83, y := noYld, z := fun d => false }
theorem Ct83_ok : Ct83.ok Tryz.prog := ok_of_f (fun f args K Q e s h => by
  have h : Cf83 f args K Q e s := h
  unfold Cf83 at h; split at h
  · exact ent33_ok h
  · exact h.elim) (fun _ _ _ _ _ _ _ _ _ h => h)
theorem x83_33 {a : Int} {b : Int} {KK : AV → List AV → Sto → Prop} {QQ : Kt} {ii : At KK} {jj : At QQ} {ee : List AV} {ss : Sto} : xC Ct83 33 [.d (.i a), .d (.i b)] KK QQ ii jj ee ss = (KK (.d (.i (cmpI a b))) ee ss) := eq33
theorem c83 : callable Tryz.prog 83 = true := by kernel_rfl
theorem pf83 (a b : Od) : PF Tryz.prog 83 [.agg (oc a), .agg (oc b)] (fun zz => zz = .ret (.i (cmpI (ky a) (ky b)))) := by
  unfold ky
  refine PF_nil (PF_start (O := O83) Ct83_ok hmix ho83 Tryz.func83 c83 rfl Tryz.ntmps83 Tryz.results83 ?_)
  simp (maxSteps := 4000000) +contextual (disch := first | omega | exact qdb_ok (by kernel_rfl) | exact okb_ok (by kernel_rfl)) only [bw1,bw2,bw3,bw5,bw6,bc2,bc3,bc4,bc5,bc6,addF,AV.isPtr,AV.outs,AV.outF,packD,AV.cells?,↓reduceIte,reduceCtorEq,Nat.reduceAdd,Nat.reduceSub,List.reduceReplicate,Nat.reduceLeDiff,Nat.reduceLT,Nat.reduceBEq,Nat.reduceEqDiff,tfb,x83_33]
def ent83 (args : List AV) (K : AV → List AV → Sto → Prop) (e : List AV) (s : Sto) : Prop := ent (α := (Od) × (Od)) (fun aa => [.agg (oc aa.1), .agg (oc aa.2)]) (fun aa => True) (fun aa => .i (cmpI (ky aa.1) (ky aa.2))) args K e s
theorem ent83_ok {args : List AV} {K : AV → List AV → Sto → Prop} {Q : Kt} {e : List AV} {s : Sto} (h : ent83 args K e s) : pcall Tryz.prog 83 args K Q e s := ent_ok (fun aa h => pf83 aa.1 aa.2) h
theorem eq83 {a : Od} {b : Od} {KK : AV → List AV → Sto → Prop} {ee : List AV} {ss : Sto} : ent83 [.d (.agg (oc a)), .d (.agg (oc b))] KK ee ss = (KK (.d (.i (cmpI (ky a) (ky b)))) ee ss) := by
  unfold ent83; rw [ent_iff (a, b) (by intro b h; simpa [Prod.ext_iff, and_assoc, Int.ofNat_inj, ints_inj, cals_inj, pcs_inj, skas_inj, scos_inj, ska_inj, rul_inj, sco_inj, cal_inj, ods_inj, od_inj] using h) rfl]; simp
theorem cmp_lt {x y : Int} : (cmpI x y < 0) = (x < y) := by unfold cmpI; split <;> first | (split <;> (apply propext; omega)) | (apply propext; omega)
abbrev cl67 : D := .v (.func (.func 83) #[] #[])
theorem swr {n : List Od} {i j : Nat} (hi : i < n.length) (hj : j < n.length) : ((List.map oc n).set i (oc (n.getD j default))).set j (((((((((List.map oc n).set i (oc (n.getD j default))).getD j []).set 0 (.i (n.getD i default).call.place)).set 1 (.i (n.getD i default).call.elem)).set 2 (.i (n.getD i default).call.under)).set 3 (.b (n.getD i default).call.late)).set 4 (.b (n.getD i default).call.fall)).set 5 (.sl 1 ((n.getD i default).call.marks.map ic)) |>.set 6 (.i (n.getD i default).index)) = List.map oc (swp n i j) := by
  have h1 : (List.map oc n).set i (oc (n.getD j default)) = (n.set i (n.getD j default)).map oc := by rw [List.map_set]
  rw [h1, row_at (by simpa using hj)]
  show (List.map oc (n.set i (n.getD j default))).set j (oc (n.getD i default)) = List.map oc ((n.set i (n.getD j default)).set j (n.getD i default))
  exact List.map_set.symm
def O96 : Nat → Sch := fun id => if id = 4 then .one 0 (.one 1 (.one 2 (.one 3 (.one 4 (.one 5 (.one 6 (.one 7 (.one 8 (.one 9 (.one 10 (.one 11 (.one 12 (.one 13 (.one 14 (.one 15 (.one 16 (.done))))))))))))))))) else if id = 6 then .one 0 (.one 1 (.one 2 (.one 3 (.one 4 (.one 5 (.one 6 (.one 7 (.one 8 (.one 9 (.one 10 (.one 11 (.one 12 (.one 13 (.one 14 (.one 15 (.one 16 (.one 17 (.done)))))))))))))))))) else .done
theorem O96_4 : O96 4 = .one 0 (.one 1 (.one 2 (.one 3 (.one 4 (.one 5 (.one 6 (.one 7 (.one 8 (.one 9 (.one 10 (.one 11 (.one 12 (.one 13 (.one 14 (.one 15 (.one 16 (.done))))))))))))))))) := rfl
theorem O96_6 : O96 6 = .one 0 (.one 1 (.one 2 (.one 3 (.one 4 (.one 5 (.one 6 (.one 7 (.one 8 (.one 9 (.one 10 (.one 11 (.one 12 (.one 13 (.one 14 (.one 15 (.one 16 (.one 17 (.done)))))))))))))))))) := rfl
theorem ho96 : Tryz.f96.body.map (okO O96) = some true := by kernel_rfl
def Cf96 : Nat → List AV → (AV → List AV → Sto → Prop) → Kt → List AV → Sto → Prop := fun f args K Q e s => match f with
  | 83 => ent83 args K e s
  | _ => False
def Ct96 : CT := { f := Cf96, y := noYld, z := fun d => false }
theorem Ct96_ok : Ct96.ok Tryz.prog := ok_of_f (fun f args K Q e s h => by
  have h : Cf96 f args K Q e s := h
  unfold Cf96 at h; split at h
  · exact ent83_ok h
  · exact h.elim) (fun _ _ _ _ _ _ _ _ _ h => h)
theorem x96_83 {a : Od} {b : Od} {KK : AV → List AV → Sto → Prop} {QQ : Kt} {ii : At KK} {jj : At QQ} {ee : List AV} {ss : Sto} : xC Ct96 83 [.d (.agg (oc a)), .d (.agg (oc b))] KK QQ ii jj ee ss = (KK (.d (.i (cmpI (ky a) (ky b)))) ee ss) := eq83
theorem c96 : callable Tryz.prog 96 = true := by kernel_rfl
theorem pf96 (l : List Od) (a b : Nat) (h : a ≤ b ∧ b ≤ l.length ∧ l.length ≤ 1000) : PFu Tryz.prog 96 111 7 (l.map oc) [.i (a : Int), .i (b : Int), cl67] (fun r x => ∃ (l' : List Od), (Swp a b l l' ∧ SrtI ky a b l') ∧ r = .d (.tup []) ∧ x = (l'.map oc)) := by
  obtain ⟨h0, h1, h2⟩ := h
  refine PFu_start (O := O96) Ct96_ok hmix ho96 Tryz.func96 c96 rfl Tryz.ntmps96 Tryz.results96 ?_
  simp (maxSteps := 4000000) +contextual (disch := first | omega | exact qdb_ok (by kernel_rfl) | exact okb_ok (by kernel_rfl)) only [bw1,bw2,bw5,bw6,bw7,bc1,bc4,bc5,binIs,↓reduceIte,Nat.reduceAdd,Nat.reduceSub,List.reduceReplicate,tfb,gU,cl67]
  refine loop_rx (O := O96) (tb := 0) Ct96_ok hmix (by kernel_rfl) (σ := List Od × Nat) gU (fun x => x.1.map oc) (fun x => [(0, .own gU 111 7 (x.1.map oc)), (8, .i x.2), (9, .any)]) (fun x => (a + 1 ≤ x.2) ∧ Swp a b l x.1 ∧ SrtI ky a x.2 x.1) (fun x => l.length - x.2) (l, a + 1) ⟨by omega, .refl _, SrtI.one (by omega)⟩ ?_ ?_
  · simp (maxSteps := 4000000) +contextual (disch := first | omega | exact qdb_ok (by kernel_rfl) | exact okb_ok (by kernel_rfl)) only [bw4,bw5,bw6,bc0,bc3,bc4,bc5,bc6,AV.isNilS,AV.isNoRows,wk,↓reduceIte,reduceCtorEq,gU,bu0]
  rintro ⟨m, i⟩ ⟨hi, hs, hsr⟩
  dsimp only at hi hs hsr ⊢
  have hml := hs.len
  by_cases hlt : i < b
  · have hlt' : (i : Int) < b := by omega
    simp (maxSteps := 4000000) +contextual (disch := first | omega | exact qdb_ok (by kernel_rfl) | exact okb_ok (by kernel_rfl)) only [bw1,bw2,bw5,bw6,bw7,bc0,bc1,bc4,bc5,bc6,binIs,↓reduceIte,tfb,gU,bu0,eq_self, hlt']
    refine loop_rx (O := O96) (tb := 0) Ct96_ok hmix (by kernel_rfl) (σ := List Od × Nat) gU (fun x => x.1.map oc) (fun x => [(0, .own gU 111 7 (x.1.map oc)), (9, .i x.2)]) (fun x => (a ≤ x.2 ∧ x.2 ≤ i) ∧ Swp a b l x.1 ∧ InsI ky a i x.2 x.1) (fun x => x.2) (m, i) ⟨⟨by omega, Nat.le_refl _⟩, hs, InsI.top hsr⟩ ?_ ?_
    · simp (maxSteps := 4000000) +contextual (disch := first | omega | exact qdb_ok (by kernel_rfl) | exact okb_ok (by kernel_rfl)) only [bw5,bw6,bc0,bc3,bc4,bc5,bc6,AV.isNilS,AV.isNoRows,wk,↓reduceIte,reduceCtorEq,gU,bu0]
    rintro ⟨n, j⟩ ⟨hj, hs2, hin⟩
    dsimp only at hj hs2 hin ⊢
    have hnl := hs2.len
    by_cases hja : a < j
    · have hja' : (a : Int) < j := by omega
      have hj1 : (j : Int) < n.length := by omega
      have hj2 : (j : Int) - 1 < n.length := by omega
      have hj3 : (0 : Int) ≤ j - 1 := by omega
      have hj4 : ((j : Int) - 1).toNat = j - 1 := by omega
      have r1 : (n.map oc).getD j [] = oc (n.getD j default) := row_at (by omega)
      have r2 : (n.map oc).getD (j - 1) [] = oc (n.getD (j - 1) default) := row_at (by omega)
      by_cases hc : ky (n.getD j default) < ky (n.getD (j - 1) default)
      · simp (maxSteps := 4000000) +contextual (disch := first | omega | exact qdb_ok (by kernel_rfl) | exact okb_ok (by kernel_rfl)) only [bw1,bw2,bw3,bw4,bw5,bw6,bw7,bc0,bc1,bc2,bc3,bc4,bc5,bc6,AV.isNilS,AV.isNoRows,wk,binIs,idxV,AV.isSl,AV.rows,ps,pv,AV.upr,AV.menc,D.one,Value.oneCell',AV.dcells,D.cells?,↓reduceIte,reduceCtorEq,Nat.reduceAdd,Nat.reduceLeDiff,tfb,gU,bu0,O96_4,O96_6,x96_83,eq_self, hja', hj1, hj2, hj3, hj4, r1, r2, cmp_lt, hc]
        refine ⟨by omega, by omega, by omega, by simp; omega, (swp n j (j - 1), j - 1), ⟨⟨⟨by dsimp only; omega, by dsimp only; omega⟩, hs2.step j (j - 1) (by omega) (by omega) h1, hin.step hja hj.2 (by omega) hc⟩, by dsimp only; omega⟩, ⟨swr (by omega) (by omega), avi (by dsimp only; omega)⟩, swr (by omega) (by omega)⟩
      · simp (maxSteps := 4000000) +contextual (disch := first | omega | exact qdb_ok (by kernel_rfl) | exact okb_ok (by kernel_rfl)) only [bw1,bw2,bw3,bw4,bw5,bw6,bw7,bc0,bc1,bc2,bc3,bc4,bc5,bc6,AV.isNilS,AV.isNoRows,wk,binIs,idxV,AV.isSl,AV.rows,ps,pv,↓reduceIte,reduceCtorEq,Nat.reduceLeDiff,tfb,gU,bu0,O96_4,x96_83,eq_self, hja', hj1, hj2, hj3, hj4, r1, r2, cmp_lt, hc]
        exact ⟨by omega, (n, i + 1), ⟨⟨by dsimp only; omega, hs2, hin.done hj.2 hj.1 (.inr hc)⟩, by dsimp only; omega⟩, ⟨rfl, rfl⟩, rfl⟩
    · have hja' : ¬ (a : Int) < j := by omega
      simp (maxSteps := 4000000) +contextual (disch := first | omega | exact qdb_ok (by kernel_rfl) | exact okb_ok (by kernel_rfl)) only [bw1,bw2,bw3,bw5,bw6,bw7,bc0,bc1,bc3,bc4,bc5,bc6,AV.isNilS,AV.isNoRows,wk,binIs,↓reduceIte,reduceCtorEq,tfb,gU,bu0,O96_4,eq_self, hja']
      exact ⟨(n, i + 1), ⟨⟨by dsimp only; omega, hs2, hin.done hj.2 hj.1 (.inl (by omega))⟩, by dsimp only; omega⟩, ⟨rfl, rfl⟩, rfl⟩
  · have hlt' : ¬ (i : Int) < b := by omega
    simp (maxSteps := 4000000) +contextual (disch := first | omega | exact qdb_ok (by kernel_rfl) | exact okb_ok (by kernel_rfl)) only [bw1,bw2,bw3,bw5,bw6,bw7,bc0,bc1,bc2,bc3,bc4,bc5,bc6,binIs,AV.dl,packA,↓reduceIte,tfb,gU,bu0,eq_self, hlt']
    exact ⟨m, ⟨hs, fun p q p1 p2 p3 => hsr p q p1 p2 (by omega)⟩, rfl⟩
def ent96 (args : List AV) (K : AV → List AV → Sto → Prop) (e : List AV) (s : Sto) : Prop := entU (α := (List Od) × (Nat) × (Nat)) 111 7 (fun aa => (aa.1.map oc)) (fun aa => [.i (aa.2.1 : Int), .i (aa.2.2 : Int), cl67]) (fun aa => aa.2.1 ≤ aa.2.2 ∧ aa.2.2 ≤ aa.1.length ∧ aa.1.length ≤ 1000) (fun aa r x => ∃ (l' : List Od), (Swp aa.2.1 aa.2.2 aa.1 l' ∧ SrtI ky aa.2.1 aa.2.2 l') ∧ r = .d (.tup []) ∧ x = (l'.map oc)) args K e s
theorem ent96_ok {args : List AV} {K : AV → List AV → Sto → Prop} {Q : Kt} {e : List AV} {s : Sto} (h : ent96 args K e s) : pcall Tryz.prog 96 args K Q e s := entU_ok (fun aa h => pf96 aa.1 aa.2.1 aa.2.2 h) (fun aa r x ⟨_, _, hr, _⟩ => ⟨_, hr⟩) h
theorem eq96 {l : List Od} {a : Nat} {b : Nat} {gg : Nat} {KK : AV → List AV → Sto → Prop} {ee : List AV} {ss : Sto} : ent96 [.own gg 111 7 (l.map oc), .d (.i (a : Int)), .d (.i (b : Int)), .d (cl67)] KK ee ss = ((a ≤ b ∧ b ≤ l.length ∧ l.length ≤ 1000) ∧ upOk gg 111 7 (l.map oc) ee ss ∧ ∀ (l' : List Od), (Swp a b l l' ∧ SrtI ky a b l') → KK (.d (.tup [])) (ee.map (AV.ups gg (l'.map oc))) (ss.ups gg (l'.map oc))) := by
  unfold ent96
  exact Eq.trans (entU_iff (g := gg) (l, a, b) (by intro b h1 h2; first | (simpa [Prod.ext_iff, and_assoc, Int.ofNat_inj, ints_inj, cals_inj, pcs_inj, skas_inj, scos_inj, ska_inj, rul_inj, sco_inj, cal_inj, ods_inj, od_inj] using And.intro h1 h2) | (simp [Prod.ext_iff, and_assoc, Int.ofNat_inj, ints_inj, cals_inj, pcs_inj, skas_inj, scos_inj, ska_inj, rul_inj, sco_inj, cal_inj, ods_inj, od_inj] at h1 h2 ⊢; simp_all)) rfl) (propext ⟨fun ⟨h1, h2, h3⟩ => ⟨h1, h2, fun l' hq => h3 _ _ ⟨l', hq, rfl, rfl⟩⟩, fun ⟨h1, h2, h3⟩ => ⟨h1, h2, fun r x ⟨l', hq, e1, e2⟩ => by subst e1; subst e2; exact h3 l' hq⟩⟩)
def O100 : Nat → Sch := fun id => if id = 3 then .one 0 (.one 1 (.one 2 (.one 3 (.one 4 (.one 5 (.one 6 (.one 7 (.one 8 (.one 9 (.one 10 (.one 11 (.one 12 (.one 13 (.one 14 (.one 15 (.done)))))))))))))))) else .done
theorem O100_3 : O100 3 = .one 0 (.one 1 (.one 2 (.one 3 (.one 4 (.one 5 (.one 6 (.one 7 (.one 8 (.one 9 (.one 10 (.one 11 (.one 12 (.one 13 (.one 14 (.one 15 (.done)))))))))))))))) := rfl
theorem ho100 : Tryz.f100.body.map (okO O100) = some true := by kernel_rfl
def Cf100 : Nat → List AV → (AV → List AV → Sto → Prop) → Kt → List AV → Sto → Prop := fun f args K Q e s => match f with
  | _ => False
def Ct100 : CT := { f := Cf100, y := noYld, z := fun d => false }
theorem Ct100_ok : Ct100.ok Tryz.prog := ok_of_f (fun f args K Q e s h => by
  have h : Cf100 f args K Q e s := h
  unfold Cf100 at h; split at h
  · exact h.elim) (fun _ _ _ _ _ _ _ _ _ h => h)
theorem c100 : callable Tryz.prog 100 = true := by kernel_rfl
theorem pf100 (l : List Od) (a b : Nat) (h : a ≤ b ∧ b ≤ l.length ∧ l.length ≤ 1000) : PFu Tryz.prog 100 111 7 (l.map oc) [.i (a : Int), .i (b : Int), cl67] (fun r x => ∃ (l' : List Od), (Swp a b l l') ∧ r = .d (.tup []) ∧ x = (l'.map oc)) := by
  obtain ⟨h0, h1, h2⟩ := h
  refine PFu_start (O := O100) Ct100_ok hmix ho100 Tryz.func100 c100 rfl Tryz.ntmps100 Tryz.results100 ?_
  simp (maxSteps := 4000000) +contextual (disch := first | omega | exact qdb_ok (by kernel_rfl) | exact okb_ok (by kernel_rfl)) only [bw1,bw2,bw5,bw6,bw7,bc1,bc4,bc5,binIs,↓reduceIte,Nat.reduceAdd,Nat.reduceSub,List.reduceReplicate,tfb,gU,cl67]
  refine loop_rx (O := O100) (tb := 0) Ct100_ok hmix (by kernel_rfl) (σ := List Od × Nat × Nat) gU (fun x => x.1.map oc) (fun x => [(0, .own gU 111 7 (x.1.map oc)), (8, .i x.2.1), (9, .i ((x.2.2 : Int) - 1))]) (fun x => (a ≤ x.2.1 ∧ x.2.2 ≤ b ∧ x.2.1 ≤ b) ∧ Swp a b l x.1) (fun x => b - x.2.1) (l, a, b) ⟨⟨Nat.le_refl _, Nat.le_refl _, h0⟩, .refl _⟩ ?_ ?_
  · simp (maxSteps := 4000000) +contextual (disch := first | omega | exact qdb_ok (by kernel_rfl) | exact okb_ok (by kernel_rfl)) only [bw5,bw6,bc0,bc3,bc4,bc5,bc6,AV.isNilS,AV.isNoRows,wk,↓reduceIte,reduceCtorEq,gU,bu0]
  rintro ⟨n, i, j⟩ ⟨hij, hs⟩
  dsimp only at hij hs ⊢
  have hnl := hs.len
  by_cases hlt : (i : Int) < j - 1
  · have hj1 : (j : Int) - 1 < n.length := by omega
    have hj3 : (0 : Int) ≤ j - 1 := by omega
    have hj4 : ((j : Int) - 1).toNat = j - 1 := by omega
    have hi1 : (i : Int) < n.length := by omega
    have r1 : (n.map oc).getD i [] = oc (n.getD i default) := row_at (by omega)
    have r2 : (n.map oc).getD (j - 1) [] = oc (n.getD (j - 1) default) := row_at (by omega)
    have sw := swr (n := n) (i := i) (j := j - 1) (by omega) (by omega)
    dsimp only [oc] at sw
    simp (maxSteps := 4000000) +contextual (disch := first | omega | exact qdb_ok (by kernel_rfl) | exact okb_ok (by kernel_rfl)) only [bw1,bw2,bw3,bw4,bw5,bw6,bw7,bc0,bc1,bc2,bc3,bc4,bc5,bc6,AV.isNilS,AV.isNoRows,wk,binIs,idxV,AV.isSl,AV.rows,ps,pv,AV.upr,AV.menc,D.one,Value.oneCell',AV.dcells,D.cells?,↓reduceIte,reduceCtorEq,Nat.reduceAdd,Nat.reduceLeDiff,tfb,gU,bu0,O100_3,eq_self, hlt, hj1, hj3, hj4, hi1, r1, r2, sw, List.length_set]
    exact ⟨by omega, by omega, (swp n i (j - 1), i + 1, j - 1), ⟨⟨⟨by dsimp only; omega, by dsimp only; omega, by dsimp only; omega⟩, hs.step i (j - 1) (by omega) (by omega) h1⟩, by dsimp only; omega⟩, ⟨rfl, rfl, avi (by dsimp only; omega)⟩, rfl⟩
  · simp (maxSteps := 4000000) +contextual (disch := first | omega | exact qdb_ok (by kernel_rfl) | exact okb_ok (by kernel_rfl)) only [bw1,bw2,bw3,bw5,bw6,bw7,bc0,bc1,bc2,bc3,bc4,bc5,bc6,binIs,AV.dl,packA,↓reduceIte,tfb,gU,bu0,eq_self, hlt]
    exact ⟨n, hs, rfl⟩
def ent100 (args : List AV) (K : AV → List AV → Sto → Prop) (e : List AV) (s : Sto) : Prop := entU (α := (List Od) × (Nat) × (Nat)) 111 7 (fun aa => (aa.1.map oc)) (fun aa => [.i (aa.2.1 : Int), .i (aa.2.2 : Int), cl67]) (fun aa => aa.2.1 ≤ aa.2.2 ∧ aa.2.2 ≤ aa.1.length ∧ aa.1.length ≤ 1000) (fun aa r x => ∃ (l' : List Od), (Swp aa.2.1 aa.2.2 aa.1 l') ∧ r = .d (.tup []) ∧ x = (l'.map oc)) args K e s
theorem ent100_ok {args : List AV} {K : AV → List AV → Sto → Prop} {Q : Kt} {e : List AV} {s : Sto} (h : ent100 args K e s) : pcall Tryz.prog 100 args K Q e s := entU_ok (fun aa h => pf100 aa.1 aa.2.1 aa.2.2 h) (fun aa r x ⟨_, _, hr, _⟩ => ⟨_, hr⟩) h
theorem eq100 {l : List Od} {a : Nat} {b : Nat} {gg : Nat} {KK : AV → List AV → Sto → Prop} {ee : List AV} {ss : Sto} : ent100 [.own gg 111 7 (l.map oc), .d (.i (a : Int)), .d (.i (b : Int)), .d (cl67)] KK ee ss = ((a ≤ b ∧ b ≤ l.length ∧ l.length ≤ 1000) ∧ upOk gg 111 7 (l.map oc) ee ss ∧ ∀ (l' : List Od), (Swp a b l l') → KK (.d (.tup [])) (ee.map (AV.ups gg (l'.map oc))) (ss.ups gg (l'.map oc))) := by
  unfold ent100
  exact Eq.trans (entU_iff (g := gg) (l, a, b) (by intro b h1 h2; first | (simpa [Prod.ext_iff, and_assoc, Int.ofNat_inj, ints_inj, cals_inj, pcs_inj, skas_inj, scos_inj, ska_inj, rul_inj, sco_inj, cal_inj, ods_inj, od_inj] using And.intro h1 h2) | (simp [Prod.ext_iff, and_assoc, Int.ofNat_inj, ints_inj, cals_inj, pcs_inj, skas_inj, scos_inj, ska_inj, rul_inj, sco_inj, cal_inj, ods_inj, od_inj] at h1 h2 ⊢; simp_all)) rfl) (propext ⟨fun ⟨h1, h2, h3⟩ => ⟨h1, h2, fun l' hq => h3 _ _ ⟨l', hq, rfl, rfl⟩⟩, fun ⟨h1, h2, h3⟩ => ⟨h1, h2, fun r x ⟨l', hq, e1, e2⟩ => by subst e1; subst e2; exact h3 l' hq⟩⟩)
def O101 : Nat → Sch := fun id => if id = 5 then .one 0 (.one 1 (.one 2 (.one 3 (.one 4 (.one 5 (.one 6 (.one 7 (.one 8 (.one 9 (.one 10 (.one 11 (.one 12 (.one 13 (.one 14 (.one 15 (.one 16 (.one 17 (.done)))))))))))))))))) else if id = 11 then .one 0 (.one 1 (.one 2 (.one 3 (.one 4 (.one 5 (.one 6 (.one 7 (.one 8 (.one 9 (.one 10 (.one 11 (.one 12 (.one 13 (.one 14 (.one 15 (.one 16 (.one 17 (.done)))))))))))))))))) else if id = 16 then .one 0 (.one 1 (.one 2 (.one 3 (.one 4 (.one 5 (.one 6 (.one 7 (.one 8 (.one 9 (.one 10 (.one 11 (.one 12 (.done))))))))))))) else if id = 17 then .one 0 (.one 1 (.one 2 (.one 3 (.one 4 (.one 5 (.one 6 (.one 7 (.one 8 (.one 9 (.one 10 (.one 11 (.one 12 (.one 13 (.one 14 (.one 15 (.one 16 (.one 17 (.done)))))))))))))))))) else if id = 22 then .one 0 (.one 1 (.one 2 (.one 3 (.one 4 (.one 5 (.one 6 (.one 7 (.one 8 (.one 9 (.one 10 (.one 11 (.one 12 (.done))))))))))))) else if id = 23 then .one 0 (.one 1 (.one 2 (.one 3 (.one 4 (.one 5 (.one 6 (.one 7 (.one 8 (.one 9 (.one 10 (.one 11 (.one 12 (.one 13 (.one 14 (.one 15 (.one 16 (.one 17 (.done)))))))))))))))))) else .done
theorem O101_5 : O101 5 = .one 0 (.one 1 (.one 2 (.one 3 (.one 4 (.one 5 (.one 6 (.one 7 (.one 8 (.one 9 (.one 10 (.one 11 (.one 12 (.one 13 (.one 14 (.one 15 (.one 16 (.one 17 (.done)))))))))))))))))) := rfl
theorem ho101 : Tryz.f101.body.map (okO O101) = some true := by kernel_rfl
def Cf101 : Nat → List AV → (AV → List AV → Sto → Prop) → Kt → List AV → Sto → Prop := fun f args K Q e s => match f with
  | 83 => ent83 args K e s
  | _ => False
def Ct101 : CT := { f := Cf101, y := noYld, z := fun d => false }
theorem Ct101_ok : Ct101.ok Tryz.prog := ok_of_f (fun f args K Q e s h => by
  have h : Cf101 f args K Q e s := h
  unfold Cf101 at h; split at h
  · exact ent83_ok h
  · exact h.elim) (fun _ _ _ _ _ _ _ _ _ h => h)
theorem x101_83 {a : Od} {b : Od} {KK : AV → List AV → Sto → Prop} {QQ : Kt} {ii : At KK} {jj : At QQ} {ee : List AV} {ss : Sto} : xC Ct101 83 [.d (.agg (oc a)), .d (.agg (oc b))] KK QQ ii jj ee ss = (KK (.d (.i (cmpI (ky a) (ky b)))) ee ss) := eq83
theorem c101 : callable Tryz.prog 101 = true := by kernel_rfl
theorem pf101 (l : List Od) (a b : Nat) (h : a < b ∧ b ≤ l.length ∧ l.length ≤ 1000 ∧ b < a + 50) : PFu Tryz.prog 101 111 7 (l.map oc) [.i (a : Int), .i (b : Int), cl67] (fun r x => ∃ (z : Bool), (z = true → SrtI ky a b l) ∧ r = .d (.b z) ∧ x = (l.map oc)) := by
  obtain ⟨h0, h1, h2, h3⟩ := h
  refine PFu_start (O := O101) Ct101_ok hmix ho101 Tryz.func101 c101 rfl Tryz.ntmps101 Tryz.results101 ?_
  simp (maxSteps := 4000000) +contextual (disch := first | omega | exact qdb_ok (by kernel_rfl) | exact okb_ok (by kernel_rfl)) only [bw1,bw2,bw5,bw6,bw7,bc1,bc4,bc5,binIs,↓reduceIte,Nat.reduceAdd,Nat.reduceSub,List.reduceReplicate,tfb,gU,cl67]
  refine loop_s (O := O101) (tb := 0) Ct101_ok hmix (by kernel_rfl) (σ := Unit) (fun _ => []) (fun _ => True) (fun _ => 0) (fun _ => ()) () trivial ?_ ?_
  · simp (maxSteps := 4000000) +contextual (disch := first | omega | exact qdb_ok (by kernel_rfl) | exact okb_ok (by kernel_rfl)) only [bc0,bc5,bc6,AV.isNilS,AV.isNoRows,wk,reduceCtorEq]
  intro _ _
  simp (maxSteps := 4000000) +contextual (disch := first | omega | exact qdb_ok (by kernel_rfl) | exact okb_ok (by kernel_rfl)) only [bw1,bw2,bw5,bw6,bw7,bc0,bc1,bc4,bc5,bc6,binIs,↓reduceIte,Int.reduceLT,tfb,eq_self]
  refine loop_s (O := O101) (tb := 0) Ct101_ok hmix (by kernel_rfl) (σ := Nat) (fun i => [(9, .i i)]) (fun i => (a + 1 ≤ i ∧ i ≤ b) ∧ SrtI ky a i l) (fun i => b - i) (fun i => i + 1) (a + 1) ⟨⟨Nat.le_refl _, h0⟩, SrtI.one (Nat.le_refl _)⟩ ?_ ?_
  · simp (maxSteps := 4000000) +contextual (disch := first | omega | exact qdb_ok (by kernel_rfl) | exact okb_ok (by kernel_rfl)) only [bw4,bw6,bc0,bc5,bc6,AV.isNilS,AV.isNoRows,wk,reduceCtorEq]
    try rfl
  rintro i ⟨hi, hs⟩
  have hba : (b : Int) - a < 50 := by omega
  by_cases hlt : i < b
  · have hlt' : (i : Int) < b := by omega
    have hi1 : (i : Int) < l.length := by omega
    have hj1 : (i : Int) - 1 < l.length := by omega
    have hj3 : (0 : Int) ≤ i - 1 := by omega
    have hj4 : ((i : Int) - 1).toNat = i - 1 := by omega
    have hib : ¬ (i : Int) = b := by omega
    have r1 : (l.map oc).getD i [] = oc (l.getD i default) := row_at (by omega)
    have r2 : (l.map oc).getD (i - 1) [] = oc (l.getD (i - 1) default) := row_at (by omega)
    by_cases hc : ky (l.getD i default) < ky (l.getD (i - 1) default)
    · simp (maxSteps := 4000000) +contextual (disch := first | omega | exact qdb_ok (by kernel_rfl) | exact okb_ok (by kernel_rfl)) only [bw1,bw2,bw3,bw4,bw5,bw6,bw7,bc0,bc1,bc2,bc3,bc4,bc5,bc6,binIs,idxV,AV.isSl,AV.rows,ps,pv,packA,↓reduceIte,Nat.reduceLeDiff,tfb,O101_5,x101_83,eq_self, hlt', hi1, hj1, hj3, hj4, r1, r2, cmp_lt, hc, hib, hba]
      exact ⟨by omega, false, (fun h => by cases h), rfl⟩
    · simp (maxSteps := 4000000) +contextual (disch := first | omega | exact qdb_ok (by kernel_rfl) | exact okb_ok (by kernel_rfl)) only [bw1,bw2,bw3,bw4,bw5,bw6,bw7,bc0,bc1,bc2,bc3,bc4,bc5,bc6,AV.isNilS,AV.isNoRows,wk,binIs,idxV,AV.isSl,AV.rows,ps,pv,↓reduceIte,reduceCtorEq,Nat.reduceLeDiff,tfb,O101_5,x101_83,eq_self, hlt', hi1, hj1, hj3, hj4, r1, r2, cmp_lt, hc]
      exact ⟨by omega, ⟨by omega, hs.ext hi.1 hc⟩, by omega⟩
  · obtain rfl : i = b := by omega
    simp (maxSteps := 4000000) +contextual (disch := first | omega | exact qdb_ok (by kernel_rfl) | exact okb_ok (by kernel_rfl)) only [bw1,bw2,bw3,bw5,bw6,bw7,bc0,bc1,bc2,bc3,bc4,bc5,bc6,binIs,packA,↓reduceIte,tfb,O101_5,eq_self, Int.lt_irrefl]
    exact ⟨true, (fun _ => hs), rfl⟩
def ent101 (args : List AV) (K : AV → List AV → Sto → Prop) (e : List AV) (s : Sto) : Prop := entU (α := (List Od) × (Nat) × (Nat)) 111 7 (fun aa => (aa.1.map oc)) (fun aa => [.i (aa.2.1 : Int), .i (aa.2.2 : Int), cl67]) (fun aa => aa.2.1 < aa.2.2 ∧ aa.2.2 ≤ aa.1.length ∧ aa.1.length ≤ 1000 ∧ aa.2.2 < aa.2.1 + 50) (fun aa r x => ∃ (z : Bool), (z = true → SrtI ky aa.2.1 aa.2.2 aa.1) ∧ r = .d (.b z) ∧ x = (aa.1.map oc)) args K e s
theorem ent101_ok {args : List AV} {K : AV → List AV → Sto → Prop} {Q : Kt} {e : List AV} {s : Sto} (h : ent101 args K e s) : pcall Tryz.prog 101 args K Q e s := entU_ok (fun aa h => pf101 aa.1 aa.2.1 aa.2.2 h) (fun aa r x ⟨_, _, hr, _⟩ => ⟨_, hr⟩) h
theorem eq101 {l : List Od} {a : Nat} {b : Nat} {gg : Nat} {KK : AV → List AV → Sto → Prop} {ee : List AV} {ss : Sto} : ent101 [.own gg 111 7 (l.map oc), .d (.i (a : Int)), .d (.i (b : Int)), .d (cl67)] KK ee ss = ((a < b ∧ b ≤ l.length ∧ l.length ≤ 1000 ∧ b < a + 50) ∧ upOk gg 111 7 (l.map oc) ee ss ∧ ∀ (z : Bool), (z = true → SrtI ky a b l) → KK (.d (.b z)) (ee.map (AV.ups gg (l.map oc))) (ss.ups gg (l.map oc))) := by
  unfold ent101
  exact Eq.trans (entU_iff (g := gg) (l, a, b) (by intro b h1 h2; first | (simpa [Prod.ext_iff, and_assoc, Int.ofNat_inj, ints_inj, cals_inj, pcs_inj, skas_inj, scos_inj, ska_inj, rul_inj, sco_inj, cal_inj, ods_inj, od_inj] using And.intro h1 h2) | (simp [Prod.ext_iff, and_assoc, Int.ofNat_inj, ints_inj, cals_inj, pcs_inj, skas_inj, scos_inj, ska_inj, rul_inj, sco_inj, cal_inj, ods_inj, od_inj] at h1 h2 ⊢; simp_all)) rfl) (propext ⟨fun ⟨h1, h2, h3⟩ => ⟨h1, h2, fun z hq => h3 _ _ ⟨z, hq, rfl, rfl⟩⟩, fun ⟨h1, h2, h3⟩ => ⟨h1, h2, fun r x ⟨z, hq, e1, e2⟩ => by subst e1; subst e2; exact h3 z hq⟩⟩)
end Go.Proofs.YtapglfcaghlpfaaGreat
