/- A part of the proof that the last text ends: what functions of the program do, told by plain data. -/
import Derived.Test.YtapglfcaghlpfaaGreatZSW0
set_option linter.unusedVariables false
set_option linter.unusedSimpArgs false
namespace Go.Proofs.YtapglfcaghlpfaaGreat
open Go Go.E Go.Maps
set_option maxRecDepth 100000
set_option maxHeartbeats 16000000
def sp94 (args : List AV) (K : AV → List AV → Sto → Prop) (e : List AV) (s : Sto) : Prop := S0.ent94 args K e s
theorem sp94_ok {args : List AV} {K : AV → List AV → Sto → Prop} {Q : Kt} {e : List AV} {s : Sto} (h : sp94 args K e s) : pcall Tryz.prog 94 args K Q e s := S0.ent94_ok h
structure St where
  m : List Od
  a : Nat
  b : Nat
  lim : Int
  wb : Bool
  wp : Bool
structure SI' (l : List Od) (x : St) : Prop where
  ab : x.a ≤ x.b ∧ x.b ≤ l.length
  swp : Swp 0 l.length l x.m
  out : OutI ky 0 l.length x.a x.b x.m
  lim : x.a + 12 < x.b → (x.b : Int) - x.a ≤ x.lim + 11
  lo : 0 ≤ x.lim ∧ x.lim ≤ 100
def O94 : Nat → Sch := fun id => if id = 17 then .one 0 (.one 1 (.one 2 (.one 3 (.one 4 (.one 5 (.one 6 (.one 7 (.one 8 (.one 9 (.one 10 (.one 11 (.one 12 (.one 13 (.one 14 (.one 15 (.one 16 (.done))))))))))))))))) else .done
theorem O94_17 : O94 17 = .one 0 (.one 1 (.one 2 (.one 3 (.one 4 (.one 5 (.one 6 (.one 7 (.one 8 (.one 9 (.one 10 (.one 11 (.one 12 (.one 13 (.one 14 (.one 15 (.one 16 (.done))))))))))))))))) := rfl
theorem ho94 : Tryz.f94.body.map (okO O94) = some true := by kernel_rfl
def Cf94 : Nat → List AV → (AV → List AV → Sto → Prop) → Kt → List AV → Sto → Prop := fun f args K Q e s => match f with
  | 83 => ent83 args K e s
  | 94 => sp94 args K e s
  | 96 => ent96 args K e s
  | 98 => ent98 args K e s
  | 99 => ent99 args K e s
  | 100 => ent100 args K e s
  | 101 => ent101 args K e s
  | 103 => ent103 args K e s
  | _ => False
def Ct94 : CT := { f := Cf94, y := noYld, z := fun d => false }
theorem Ct94_ok : Ct94.ok Tryz.prog := ok_of_f (fun f args K Q e s h => by
  have h : Cf94 f args K Q e s := h
  unfold Cf94 at h; split at h
  · exact ent83_ok h
  · exact sp94_ok h
  · exact ent96_ok h
  · exact ent98_ok h
  · exact ent99_ok h
  · exact ent100_ok h
  · exact ent101_ok h
  · exact ent103_ok h
  · exact h.elim) (fun _ _ _ _ _ _ _ _ _ h => h)
theorem x94_83 {a : Od} {b : Od} {KK : AV → List AV → Sto → Prop} {QQ : Kt} {ii : At KK} {jj : At QQ} {ee : List AV} {ss : Sto} : xC Ct94 83 [.d (.agg (oc a)), .d (.agg (oc b))] KK QQ ii jj ee ss = (KK (.d (.i (cmpI (ky a) (ky b)))) ee ss) := eq83
theorem x94_96 {l : List Od} {a : Nat} {b : Nat} {gg : Nat} {KK : AV → List AV → Sto → Prop} {QQ : Kt} {ii : At KK} {jj : At QQ} {ee : List AV} {ss : Sto} : xC Ct94 96 [.own gg 111 7 (l.map oc), .d (.i (a : Int)), .d (.i (b : Int)), .d (cl67)] KK QQ ii jj ee ss = ((a ≤ b ∧ b ≤ l.length ∧ l.length ≤ 1000) ∧ upOk gg 111 7 (l.map oc) ee ss ∧ ∀ (l' : List Od), (Swp a b l l' ∧ SrtI ky a b l') → KK (.d (.tup [])) (ee.map (AV.ups gg (l'.map oc))) (ss.ups gg (l'.map oc))) := eq96
theorem x94_98 {l : List Od} {a : Nat} {b : Nat} {gg : Nat} {KK : AV → List AV → Sto → Prop} {QQ : Kt} {ii : At KK} {jj : At QQ} {ee : List AV} {ss : Sto} : xC Ct94 98 [.own gg 111 7 (l.map oc), .d (.i (a : Int)), .d (.i (b : Int)), .d (cl67)] KK QQ ii jj ee ss = (((a + 12 < b ∧ b ≤ a + 16) ∧ b ≤ l.length ∧ l.length ≤ 1000) ∧ upOk gg 111 7 (l.map oc) ee ss ∧ ∀ (l' : List Od), (Swp a b l l') → KK (.d (.tup [])) (ee.map (AV.ups gg (l'.map oc))) (ss.ups gg (l'.map oc))) := eq98
theorem x94_99 {l : List Od} {a : Nat} {b : Nat} {gg : Nat} {KK : AV → List AV → Sto → Prop} {QQ : Kt} {ii : At KK} {jj : At QQ} {ee : List AV} {ss : Sto} : xC Ct94 99 [.own gg 111 7 (l.map oc), .d (.i (a : Int)), .d (.i (b : Int)), .d (cl67)] KK QQ ii jj ee ss = (((a + 12 < b ∧ b < a + 50) ∧ b ≤ l.length ∧ l.length ≤ 1000) ∧ upOk gg 111 7 (l.map oc) ee ss ∧ ∀ (v : Nat) (h : Int), ((a ≤ v ∧ v < b) ∧ (h = 0 ∨ h = 1 ∨ h = 2)) → KK (.d (.tup [.i (v : Int), .i h])) (ee.map (AV.ups gg (l.map oc))) (ss.ups gg (l.map oc))) := eq99
theorem x94_100 {l : List Od} {a : Nat} {b : Nat} {gg : Nat} {KK : AV → List AV → Sto → Prop} {QQ : Kt} {ii : At KK} {jj : At QQ} {ee : List AV} {ss : Sto} : xC Ct94 100 [.own gg 111 7 (l.map oc), .d (.i (a : Int)), .d (.i (b : Int)), .d (cl67)] KK QQ ii jj ee ss = ((a ≤ b ∧ b ≤ l.length ∧ l.length ≤ 1000) ∧ upOk gg 111 7 (l.map oc) ee ss ∧ ∀ (l' : List Od), (Swp a b l l') → KK (.d (.tup [])) (ee.map (AV.ups gg (l'.map oc))) (ss.ups gg (l'.map oc))) := eq100
theorem x94_101 {l : List Od} {a : Nat} {b : Nat} {gg : Nat} {KK : AV → List AV → Sto → Prop} {QQ : Kt} {ii : At KK} {jj : At QQ} {ee : List AV} {ss : Sto} : xC Ct94 101 [.own gg 111 7 (l.map oc), .d (.i (a : Int)), .d (.i (b : Int)), .d (cl67)] KK QQ ii jj ee ss = ((a < b ∧ b ≤ l.length ∧ l.length ≤ 1000 ∧ b < a + 50) ∧ upOk gg 111 7 (l.map oc) ee ss ∧ ∀ (z : Bool), (z = true → SrtI ky a b l) → KK (.d (.b z)) (ee.map (AV.ups gg (l.map oc))) (ss.ups gg (l.map oc))) := eq101
theorem x94_103 {l : List Od} {a : Nat} {b : Nat} {v : Nat} {gg : Nat} {KK : AV → List AV → Sto → Prop} {QQ : Kt} {ii : At KK} {jj : At QQ} {ee : List AV} {ss : Sto} : xC Ct94 103 [.own gg 111 7 (l.map oc), .d (.i (a : Int)), .d (.i (b : Int)), .d (.i (v : Int)), .d (cl67)] KK QQ ii jj ee ss = (((a ≤ v ∧ v < b) ∧ b ≤ l.length ∧ l.length ≤ 1000) ∧ upOk gg 111 7 (l.map oc) ee ss ∧ ∀ (l' : List Od) (m : Nat) (z : Bool), (Swp a b l l' ∧ Prt ky a b m l') → KK (.d (.tup [.i (m : Int), .b z])) (ee.map (AV.ups gg (l'.map oc))) (ss.ups gg (l'.map oc))) := eq103
theorem c94 : callable Tryz.prog 94 = true := by kernel_rfl
theorem pf94 (l : List Od) (lim : Int) (h : (l.length ≤ 16 ∧ Dst ky l) ∧ ((l.length : Int) ≤ lim + 11 ∨ l.length ≤ 12) ∧ 0 ≤ lim ∧ lim ≤ 100) : PFu Tryz.prog 94 111 7 (l.map oc) [.i 0, .i (l.length : Int), .i lim, cl67] (fun r x => ∃ (l' : List Od), (Swp 0 l.length l l' ∧ SrtI ky 0 l.length l') ∧ r = .d (.tup []) ∧ x = (l'.map oc)) := by
  obtain ⟨⟨h16, hd⟩, hlim, hlo⟩ := h
  have hx94 : ∀ {args : List AV} {KK : AV → List AV → Sto → Prop} {QQ : Kt} {ii : At KK} {jj : At QQ} {ee : List AV} {ss : Sto}, xC Ct94 94 args KK QQ ii jj ee ss = sp94 args KK ee ss := id rfl
  have hs82 : ∀ {l : List Od} {a b : Nat} {lim : Int} {gg : Nat} {KK : AV → List AV → Sto → Prop} {ee : List AV} {ss : Sto}, sp94 [.own gg 111 7 (l.map oc), .d (.i (a : Int)), .d (.i (b : Int)), .d (.i lim), .d cl67] KK ee ss = (((a ≤ b ∧ b ≤ l.length ∧ l.length ≤ 1000) ∧ b ≤ a + 12) ∧ upOk gg 111 7 (l.map oc) ee ss ∧ ∀ l' : List Od, (Swp a b l l' ∧ SrtI ky a b l') → KK (.d (.tup [])) (ee.map (AV.ups gg (l'.map oc))) (ss.ups gg (l'.map oc))) := S0.eq94
  refine PFu_start (O := O94) Ct94_ok hmix ho94 Tryz.func94 c94 rfl Tryz.ntmps94 Tryz.results94 ?_
  simp (maxSteps := 4000000) +contextual (disch := first | omega | exact qdb_ok (by kernel_rfl) | exact okb_ok (by kernel_rfl)) only [bw1,bw2,bw5,bw6,bc4,bc5,Nat.reduceAdd,Nat.reduceSub,List.reduceReplicate,gU,cl67]
  refine loop_z gU (fun x : St => x.m.map oc) (fun x => [(0, .own gU 111 7 (x.m.map oc)), (1, .i x.a), (2, .i x.b), (3, .i x.lim), (10, .b x.wb), (11, .b x.wp)]) (SI' l) (fun x => x.b - x.a) ⟨l, 0, l.length, lim, true, true⟩ ⟨⟨by dsimp only; omega, Nat.le_refl _⟩, .refl _, OutI.start, fun h => by dsimp only at h ⊢; omega, hlo⟩ ?_ ?_
  · simp (maxSteps := 4000000) +contextual (disch := first | omega | exact qdb_ok (by kernel_rfl) | exact okb_ok (by kernel_rfl)) only [bw4,bw5,bw6,bc0,bc3,bc4,bc5,bc6,AV.isNilS,AV.isNoRows,wk,↓reduceIte,reduceCtorEq,gU,bu0]
    try rfl
  rintro ⟨m, a, b, lm, wb, wp⟩ ⟨hab, hs, ho, hlm, hlo2⟩
  dsimp only at hab hs ho hlm hlo2 ⊢
  have hml := hs.len
  refine z_block ?_
  refine z_seq (O := O94) (tb := 0) Ct94_ok hmix (by kernel_rfl) ?_
  simp (maxSteps := 4000000) +contextual (disch := first | omega | exact qdb_ok (by kernel_rfl) | exact okb_ok (by kernel_rfl)) only [bw1,bw2,bw5,bw6,bw7,bc0,bc1,bc4,bc5,binIs,↓reduceIte,tfb,gU,bu0,eq_self]
  refine z_seq (O := O94) (tb := 0) Ct94_ok hmix (by kernel_rfl) ?_
  by_cases hba : (b : Int) - a ≤ 12
  · simp (maxSteps := 4000000) +contextual (disch := first | omega | exact qdb_ok (by kernel_rfl) | exact okb_ok (by kernel_rfl)) only [bw1,bw2,bw3,bw5,bw6,bw7,bc1,bc2,bc3,bc4,bc5,bc6,binIs,AV.dl,packA,↓reduceIte,reduceCtorEq,Nat.reduceLT,tfb,upOk,bu0,x94_96,eq_self, hba]
    exact ⟨by omega, fun l' ⟨h1, h2⟩ => ⟨l', ⟨hs.trans (h1.mono (by omega) (by omega) (by omega)), (ho.swp h1 (by omega) (by omega)).done h2⟩, rfl⟩⟩
  have hba' : a + 12 < b := by omega
  have hlm' := hlm hba'
  have hl0 : (lm == 0) = false := by simp; omega
  simp (maxSteps := 4000000) +contextual (disch := first | omega | exact qdb_ok (by kernel_rfl) | exact okb_ok (by kernel_rfl)) only [bw1,bw2,bw5,bw6,bw7,bc1,bc4,bc5,bc6,binIs,↓reduceIte,tfb,eq_self, hba]
  refine z_seq (O := O94) (tb := 0) Ct94_ok hmix (by kernel_rfl) ?_
  simp (maxSteps := 4000000) +contextual (disch := first | omega | exact qdb_ok (by kernel_rfl) | exact okb_ok (by kernel_rfl)) only [bw1,bw2,bw5,bw6,bc1,bc4,bc5,binIs,↓reduceIte,tfb,eq_self, hl0]
  refine z_cut (O := O94) (tb := 0) Ct94_ok hmix (by kernel_rfl) (σ := List Od × Int) gU (fun x => x.1.map oc) (fun x => [(0, .own gU 111 7 (x.1.map oc)), (3, .i x.2)]) (fun x => Swp a b m x.1 ∧ (lm - 1 ≤ x.2 ∧ x.2 ≤ lm)) ?_ ?_
  · cases wb
    · simp (maxSteps := 4000000) +contextual (disch := first | omega | exact qdb_ok (by kernel_rfl) | exact okb_ok (by kernel_rfl)) only [bw1,bw2,bw5,bw6,bw7,bc0,bc1,bc2,bc3,bc4,bc5,bc6,AV.isNilS,AV.isNoRows,wk,binIs,↓reduceIte,reduceCtorEq,Nat.reduceLT,tfb,upOk,gU,bu0,x94_98,eq_self]
      exact ⟨by omega, fun m1 h1 => ⟨(m1, lm - 1), ⟨h1, by dsimp only; omega⟩, ⟨rfl, rfl⟩, rfl⟩⟩
    · simp (maxSteps := 4000000) +contextual (disch := first | omega | exact qdb_ok (by kernel_rfl) | exact okb_ok (by kernel_rfl)) only [bw1,bw2,bw5,bw6,bc0,bc1,bc2,bc3,bc4,bc5,bc6,AV.isNilS,AV.isNoRows,wk,↓reduceIte,reduceCtorEq,gU,bu0,eq_self]
      exact ⟨(m, lm), ⟨.refl _, by dsimp only; omega⟩, ⟨rfl, rfl⟩, rfl⟩
  rintro ⟨m1, l1⟩ ⟨hs1, hl1⟩
  dsimp only at hs1 hl1 ⊢
  have hm1 := hs1.len
  simp (maxSteps := 4000000) +contextual (disch := first | omega | exact qdb_ok (by kernel_rfl) | exact okb_ok (by kernel_rfl)) only [bw6,bc0,bc3,bc4,↓reduceIte,gU,bu0,eq_self]
  refine z_seq (O := O94) (tb := 0) Ct94_ok hmix (by kernel_rfl) ?_
  simp (maxSteps := 4000000) +contextual (disch := first | omega | exact qdb_ok (by kernel_rfl) | exact okb_ok (by kernel_rfl)) only [bw1,bw2,bw5,bw6,bc3,bc4,bc5,extV,extS,↓reduceIte,reduceCtorEq,Nat.reduceAdd,Nat.reduceLT,upOk,bu0,x94_99,eq_self]
  refine ⟨by omega, fun v h hv => ?_⟩
  refine z_cut (O := O94) (tb := 0) Ct94_ok hmix (by kernel_rfl) (σ := List Od × Nat × Int) gU (fun x => x.1.map oc) (fun x => [(0, .own gU 111 7 (x.1.map oc)), (13, .i x.2.1), (14, .i x.2.2)]) (fun x => Swp a b m1 x.1 ∧ (a ≤ x.2.1 ∧ x.2.1 < b) ∧ (x.2.2 = 0 ∨ x.2.2 = 1)) ?_ ?_
  · by_cases h2 : h = 2
    · subst h2
      simp (maxSteps := 4000000) +contextual (disch := first | omega | exact qdb_ok (by kernel_rfl) | exact okb_ok (by kernel_rfl)) only [bw1,bw2,bw5,bw6,bw7,bc0,bc1,bc3,bc4,bc5,bc6,AV.isNilS,AV.isNoRows,wk,binIs,↓reduceIte,reduceCtorEq,Nat.reduceLT,tfb,upOk,gU,bu0,x94_100,eq_self]
      exact ⟨by omega, fun l' hl' => ⟨(l', b - 1 - (v - a), 1), ⟨hl', ⟨by dsimp only; omega, by dsimp only; omega⟩, .inr rfl⟩, ⟨rfl, avi (by dsimp only; omega), rfl⟩, rfl⟩⟩
    · have h2' : (h == 2) = false := by simpa using h2
      simp (maxSteps := 4000000) +contextual (disch := first | omega | exact qdb_ok (by kernel_rfl) | exact okb_ok (by kernel_rfl)) only [bw1,bw2,bw5,bw6,bc0,bc1,bc3,bc4,bc5,bc6,AV.isNilS,AV.isNoRows,wk,binIs,↓reduceIte,reduceCtorEq,tfb,gU,bu0,eq_self, h2']
      exact ⟨(m1, v, h), ⟨.refl _, hv.1, by dsimp only; omega⟩, ⟨rfl, rfl, rfl⟩, rfl⟩
  rintro ⟨m2, v2, h2⟩ ⟨hs2, hv2, hh2⟩
  dsimp only at hs2 hv2 hh2 ⊢
  have hm2 := hs2.len
  simp (maxSteps := 4000000) +contextual (disch := first | omega | exact qdb_ok (by kernel_rfl) | exact okb_ok (by kernel_rfl)) only [bw6,bc0,bc3,bc4,↓reduceIte,gU,bu0,eq_self]
  have hs02 : Swp a b m m2 := hs1.trans hs2
  have ho2 := ho.swp hs02 (by omega) (by omega)
  have hS2 : Swp 0 l.length l m2 := hs.trans (hs02.mono (by omega) (by omega) (by omega))
  refine z_cut (O := O94) (tb := 0) Ct94_ok hmix (by kernel_rfl) (σ := Unit) gU (fun x => m2.map oc) (fun x => [(0, .own gU 111 7 (m2.map oc))]) (fun x => True) ?_ ?_
  · cases wb
    · simp (maxSteps := 4000000) +contextual (disch := first | omega | exact qdb_ok (by kernel_rfl) | exact okb_ok (by kernel_rfl)) only [bw1,bw2,bw3,bw5,bw6,bw7,bc0,bc3,bc4,bc5,bc6,AV.isNilS,AV.isNoRows,wk,↓reduceIte,reduceCtorEq,gU,bu0,eq_self]
      exact ⟨(), trivial⟩
    · cases wp
      · simp (maxSteps := 4000000) +contextual (disch := first | omega | exact qdb_ok (by kernel_rfl) | exact okb_ok (by kernel_rfl)) only [bw1,bw2,bw3,bw5,bw6,bw7,bc0,bc3,bc4,bc5,bc6,AV.isNilS,AV.isNoRows,wk,↓reduceIte,reduceCtorEq,gU,bu0,eq_self]
        exact ⟨(), trivial⟩
      · rcases hh2 with rfl | rfl
        · simp (maxSteps := 4000000) +contextual (disch := first | omega | exact qdb_ok (by kernel_rfl) | exact okb_ok (by kernel_rfl)) only [bw1,bw2,bw3,bw5,bw6,bc0,bc1,bc3,bc4,bc5,bc6,AV.isNilS,AV.isNoRows,wk,binIs,↓reduceIte,reduceCtorEq,Int.reduceEq,tfb,gU,bu0,eq_self]
          exact ⟨(), trivial⟩
        · simp (maxSteps := 4000000) +contextual (disch := first | omega | exact qdb_ok (by kernel_rfl) | exact okb_ok (by kernel_rfl)) only [bw1,bw2,bw3,bw5,bw6,bc0,bc1,bc2,bc3,bc4,bc5,bc6,AV.isNilS,AV.isNoRows,wk,binIs,AV.dl,packA,↓reduceIte,reduceCtorEq,Nat.reduceLT,tfb,upOk,gU,bu0,x94_101,eq_self]
          refine ⟨by omega, fun z hz => ?_⟩
          cases z
          · simp (maxSteps := 4000000) +contextual (disch := first | omega | exact qdb_ok (by kernel_rfl) | exact okb_ok (by kernel_rfl)) only [bc4,↓reduceIte]
            exact ⟨(), trivial⟩
          · simp (maxSteps := 4000000) +contextual (disch := first | omega | exact qdb_ok (by kernel_rfl) | exact okb_ok (by kernel_rfl)) only [↓reduceIte,eq_self]
            exact ⟨m2, ⟨hS2, ho2.done (hz rfl)⟩, rfl⟩
  rintro _ _
  simp (maxSteps := 4000000) +contextual (disch := first | omega | exact qdb_ok (by kernel_rfl) | exact okb_ok (by kernel_rfl)) only [bw6,bc0,bc3,bc4,↓reduceIte,gU,bu0,eq_self]
  refine z_cut (O := O94) (tb := 0) Ct94_ok hmix (by kernel_rfl) (σ := Unit) gU (fun x => m2.map oc) (fun x => [(0, .own gU 111 7 (m2.map oc))]) (fun x => True) ?_ ?_
  · have hv1 : (v2 : Int) < m2.length := by omega
    have r2 : (m2.map oc).getD v2 [] = oc (m2.getD v2 default) := row_at (by omega)
    by_cases ha : 0 < a
    case pos =>
      have ha' : (0 : Int) < a := by omega
      have ha1 : (0 : Int) ≤ (a : Int) - 1 := by omega
      have ha2 : (a : Int) - 1 < m2.length := by omega
      have ha3 : ((a : Int) - 1).toNat = a - 1 := by omega
      have r1 : (m2.map oc).getD (a - 1) [] = oc (m2.getD (a - 1) default) := row_at (by omega)
      have hstr : ky (m2.getD (a - 1) default) < ky (m2.getD v2 default) := by
        have h1 := ho2 (a - 1) v2 (by omega) (by omega) (by omega) (.inl (by omega))
        have h2 := (hd.perm hS2.perm).ne (p := a - 1) (q := v2) (by omega) (by omega)
        omega
      simp (maxSteps := 4000000) +contextual (disch := first | omega | exact qdb_ok (by kernel_rfl) | exact okb_ok (by kernel_rfl)) only [bw1,bw2,bw3,bw4,bw5,bw6,bw7,bc0,bc1,bc2,bc3,bc4,bc5,bc6,AV.isNilS,AV.isNoRows,wk,binIs,idxV,AV.isSl,AV.rows,ps,pv,↓reduceIte,reduceCtorEq,Nat.reduceLeDiff,tfb,gU,bu0,O94_17,x94_83,eq_self, ha', ha1, ha2, ha3, hv1, r1, r2, cmp_lt, hstr]
      exact ⟨by omega, (), trivial⟩
    have ha' : ¬ (0 : Int) < a := by omega
    simp (maxSteps := 4000000) +contextual (disch := first | omega | exact qdb_ok (by kernel_rfl) | exact okb_ok (by kernel_rfl)) only [bw1,bw2,bw3,bw5,bw6,bw7,bc0,bc1,bc3,bc4,bc5,bc6,AV.isNilS,AV.isNoRows,wk,binIs,↓reduceIte,reduceCtorEq,tfb,gU,bu0,O94_17,eq_self, ha']
    exact ⟨(), trivial⟩
  rintro _ _
  simp (maxSteps := 4000000) +contextual (disch := first | omega | exact qdb_ok (by kernel_rfl) | exact okb_ok (by kernel_rfl)) only [bw6,bc0,bc3,bc4,↓reduceIte,gU,bu0,eq_self]
  refine z_seq (O := O94) (tb := 0) Ct94_ok hmix (by kernel_rfl) ?_
  simp (maxSteps := 4000000) +contextual (disch := first | omega | exact qdb_ok (by kernel_rfl) | exact okb_ok (by kernel_rfl)) only [bw1,bw2,bw5,bw6,bc3,bc4,bc5,extV,extS,↓reduceIte,reduceCtorEq,Nat.reduceAdd,Nat.reduceLT,upOk,bu0,x94_103,eq_self]
  refine ⟨by omega, fun m3 mid z ⟨hs3, hp3⟩ => ?_⟩
  have hm3 := hs3.len
  have hmid := hp3.1
  have ho3 := ho2.swp hs3 (by omega) (by omega)
  have hS3 : Swp 0 l.length l m3 := hS2.trans (hs3.mono (by omega) (by omega) (by omega))
  refine z_w (O := O94) (tb := 0) Ct94_ok hmix (by kernel_rfl) ?_
  obtain ⟨md, hmd⟩ : ∃ md : Nat, (mid : Int) + 1 = md := ⟨mid + 1, rfl⟩
  have hmd2 : md = mid + 1 := by omega
  by_cases hlr : (mid : Int) - a < b - mid
  · simp (maxSteps := 4000000) +contextual (disch := first | omega | exact qdb_ok (by kernel_rfl) | exact okb_ok (by kernel_rfl)) only [bw1,bw2,bw4,bw5,bw6,bw7,bc0,bc1,bc3,bc4,bc5,bc6,AV.isNilS,AV.isNoRows,wk,binIs,↓reduceIte,reduceCtorEq,Nat.reduceLT,Int.reduceEq,tfb,upOk,bu0,eq_self, hlr, hx94, hs82, hmd]
    refine ⟨by omega, fun l' ⟨h4, h5⟩ => ⟨⟨l', md, b, l1, _, z⟩, ⟨⟨⟨by dsimp only; omega, by dsimp only; omega⟩, hS3.trans (h4.mono (by omega) (by omega) (by omega)), ?_, fun h => by dsimp only at h ⊢; omega, by dsimp only; omega⟩, by dsimp only; omega⟩, ⟨rfl, rfl, rfl, rfl, rfl, rfl⟩, rfl⟩⟩
    rw [hmd2]
    exact (ho3.swp (h4.mono (Nat.le_refl a) (by omega) (by omega)) (by omega) (by omega)).left (by omega) (by omega) (prt_join hp3 h4 (by omega)) h5
  · simp (maxSteps := 4000000) +contextual (disch := first | omega | exact qdb_ok (by kernel_rfl) | exact okb_ok (by kernel_rfl)) only [bw1,bw2,bw4,bw5,bw6,bw7,bc0,bc1,bc3,bc4,bc5,bc6,AV.isNilS,AV.isNoRows,wk,binIs,↓reduceIte,reduceCtorEq,Nat.reduceLT,Int.reduceEq,tfb,upOk,bu0,eq_self, hlr, hx94, hs82, hmd]
    refine ⟨by omega, fun l' ⟨h4, h5⟩ => ⟨⟨l', a, mid, l1, _, z⟩, ⟨⟨⟨by dsimp only; omega, by dsimp only; omega⟩, hS3.trans (h4.mono (by omega) (by omega) (by omega)), ?_, fun h => by dsimp only at h ⊢; omega, by dsimp only; omega⟩, by dsimp only; omega⟩, ⟨rfl, rfl, rfl, rfl, rfl, rfl⟩, rfl⟩⟩
    rw [hmd2] at h4 h5
    exact (ho3.swp (h4.mono (by omega) (Nat.le_refl b) (by omega)) (by omega) (by omega)).right (by omega) (by omega) (prt_join' hp3 h4) h5
def ent94 (args : List AV) (K : AV → List AV → Sto → Prop) (e : List AV) (s : Sto) : Prop := entU (α := (List Od) × (Int)) 111 7 (fun aa => (aa.1.map oc)) (fun aa => [.i 0, .i (aa.1.length : Int), .i aa.2, cl67]) (fun aa => (aa.1.length ≤ 16 ∧ Dst ky aa.1) ∧ ((aa.1.length : Int) ≤ aa.2 + 11 ∨ aa.1.length ≤ 12) ∧ 0 ≤ aa.2 ∧ aa.2 ≤ 100) (fun aa r x => ∃ (l' : List Od), (Swp 0 aa.1.length aa.1 l' ∧ SrtI ky 0 aa.1.length l') ∧ r = .d (.tup []) ∧ x = (l'.map oc)) args K e s
theorem ent94_ok {args : List AV} {K : AV → List AV → Sto → Prop} {Q : Kt} {e : List AV} {s : Sto} (h : ent94 args K e s) : pcall Tryz.prog 94 args K Q e s := entU_ok (fun aa h => pf94 aa.1 aa.2 h) (fun aa r x ⟨_, _, hr, _⟩ => ⟨_, hr⟩) h
theorem eq94 {l : List Od} {lim : Int} {gg : Nat} {KK : AV → List AV → Sto → Prop} {ee : List AV} {ss : Sto} : ent94 [.own gg 111 7 (l.map oc), .d (.i 0), .d (.i (l.length : Int)), .d (.i lim), .d (cl67)] KK ee ss = (((l.length ≤ 16 ∧ Dst ky l) ∧ ((l.length : Int) ≤ lim + 11 ∨ l.length ≤ 12) ∧ 0 ≤ lim ∧ lim ≤ 100) ∧ upOk gg 111 7 (l.map oc) ee ss ∧ ∀ (l' : List Od), (Swp 0 l.length l l' ∧ SrtI ky 0 l.length l') → KK (.d (.tup [])) (ee.map (AV.ups gg (l'.map oc))) (ss.ups gg (l'.map oc))) := by
  unfold ent94
  exact Eq.trans (entU_iff (g := gg) (l, lim) (by intro b h1 h2; first | (simpa [Prod.ext_iff, and_assoc, Int.ofNat_inj, ints_inj, cals_inj, pcs_inj, skas_inj, scos_inj, ska_inj, rul_inj, sco_inj, cal_inj, ods_inj, od_inj] using And.intro h1 h2) | (simp [Prod.ext_iff, and_assoc, Int.ofNat_inj, ints_inj, cals_inj, pcs_inj, skas_inj, scos_inj, ska_inj, rul_inj, sco_inj, cal_inj, ods_inj, od_inj] at h1 h2 ⊢; simp_all)) rfl) (propext ⟨fun ⟨h1, h2, h3⟩ => ⟨h1, h2, fun l' hq => h3 _ _ ⟨l', hq, rfl, rfl⟩⟩, fun ⟨h1, h2, h3⟩ => ⟨h1, h2, fun r x ⟨l', hq, e1, e2⟩ => by subst e1; subst e2; exact h3 l' hq⟩⟩)
def SrtP (l l' : List Od) : Prop := l'.Perm l ∧ l'.Pairwise (fun a b => ky a ≤ ky b)
theorem lenN_b {n : Int} (h : 0 ≤ n) : 0 ≤ lenN n ∧ lenN n ≤ 5 ∧ (12 < n → n ≤ 16 → n ≤ lenN n + 11) := by
  unfold lenN
  repeat' split
  all_goals omega
def O82 : Nat → Sch := fun id => .done
theorem ho82 : Tryz.f82.body.map (okO O82) = some true := by kernel_rfl
def Cf82 : Nat → List AV → (AV → List AV → Sto → Prop) → Kt → List AV → Sto → Prop := fun f args K Q e s => match f with
  | 40 => ent40 args K e s
  | 94 => ent94 args K e s
  | _ => False
def Ct82 : CT := { f := Cf82, y := noYld, z := fun d => false }
theorem Ct82_ok : Ct82.ok Tryz.prog := ok_of_f (fun f args K Q e s h => by
  have h : Cf82 f args K Q e s := h
  unfold Cf82 at h; split at h
  · exact ent40_ok h
  · exact ent94_ok h
  · exact h.elim) (fun _ _ _ _ _ _ _ _ _ h => h)
theorem x82_40 {n : Int} {KK : AV → List AV → Sto → Prop} {QQ : Kt} {ii : At KK} {jj : At QQ} {ee : List AV} {ss : Sto} : xC Ct82 40 [.d (.v (.int .u64 n))] KK QQ ii jj ee ss = ((0 ≤ n ∧ n ≤ 16) ∧ KK (.d (.i (lenN n))) ee ss) := eq40
theorem x82_94 {l : List Od} {lim : Int} {gg : Nat} {KK : AV → List AV → Sto → Prop} {QQ : Kt} {ii : At KK} {jj : At QQ} {ee : List AV} {ss : Sto} : xC Ct82 94 [.own gg 111 7 (l.map oc), .d (.i 0), .d (.i (l.length : Int)), .d (.i lim), .d (cl67)] KK QQ ii jj ee ss = (((l.length ≤ 16 ∧ Dst ky l) ∧ ((l.length : Int) ≤ lim + 11 ∨ l.length ≤ 12) ∧ 0 ≤ lim ∧ lim ≤ 100) ∧ upOk gg 111 7 (l.map oc) ee ss ∧ ∀ (l' : List Od), (Swp 0 l.length l l' ∧ SrtI ky 0 l.length l') → KK (.d (.tup [])) (ee.map (AV.ups gg (l'.map oc))) (ss.ups gg (l'.map oc))) := eq94
theorem c82 : callable Tryz.prog 82 = true := by kernel_rfl
theorem pf82 (l : List Od) (h : l.length ≤ 16 ∧ Dst ky l) : PFu Tryz.prog 82 111 7 (l.map oc) [cl67] (fun r x => ∃ (l' : List Od), (SrtP l l') ∧ r = .d (.tup []) ∧ x = (l'.map oc)) := by
  obtain ⟨h16, hd⟩ := h
  have h64 : IntKind.u64.wrap (l.length : Int) = l.length := u64_in' (by omega)
  have hl0 : (0 : Int) ≤ l.length := by omega
  have hl16 : (l.length : Int) ≤ 16 := by omega
  have hb := lenN_b hl0
  refine PFu_start (O := O82) Ct82_ok hmix ho82 Tryz.func82 c82 rfl Tryz.ntmps82 Tryz.results82 ?_
  simp (maxSteps := 4000000) +contextual (disch := first | omega | exact qdb_ok (by kernel_rfl) | exact okb_ok (by kernel_rfl)) only [bw1,bw2,bw3,bw4,bw5,bw6,bc1,bc2,bc3,bc4,bc5,bc6,AV.isSlice,AV.rows,AV.dl,packA,↓reduceIte,reduceCtorEq,Nat.reduceAdd,Nat.reduceSub,List.reduceReplicate,Nat.reduceLT,tfb,upOk,gU,bu0,x82_40,x82_94,cl67, h64, hl0, hl16]
  refine ⟨⟨⟨h16, hd⟩, by omega, by omega, by omega⟩, fun l' ⟨h1, h2⟩ => ⟨l', ⟨h1.perm, ?_⟩, rfl⟩⟩
  rw [← h1.len] at h2
  exact h2.pw
def ent82 (args : List AV) (K : AV → List AV → Sto → Prop) (e : List AV) (s : Sto) : Prop := entU (α := (List Od)) 111 7 (fun aa => (aa.map oc)) (fun aa => [cl67]) (fun aa => aa.length ≤ 16 ∧ Dst ky aa) (fun aa r x => ∃ (l' : List Od), (SrtP aa l') ∧ r = .d (.tup []) ∧ x = (l'.map oc)) args K e s
theorem ent82_ok {args : List AV} {K : AV → List AV → Sto → Prop} {Q : Kt} {e : List AV} {s : Sto} (h : ent82 args K e s) : pcall Tryz.prog 82 args K Q e s := entU_ok (fun aa h => pf82 aa h) (fun aa r x ⟨_, _, hr, _⟩ => ⟨_, hr⟩) h
theorem eq82 {l : List Od} {gg : Nat} {KK : AV → List AV → Sto → Prop} {ee : List AV} {ss : Sto} : ent82 [.own gg 111 7 (l.map oc), .d (cl67)] KK ee ss = ((l.length ≤ 16 ∧ Dst ky l) ∧ upOk gg 111 7 (l.map oc) ee ss ∧ ∀ (l' : List Od), (SrtP l l') → KK (.d (.tup [])) (ee.map (AV.ups gg (l'.map oc))) (ss.ups gg (l'.map oc))) := by
  unfold ent82
  exact Eq.trans (entU_iff (g := gg) l (by intro b h1 h2; first | (simpa [Prod.ext_iff, and_assoc, Int.ofNat_inj, ints_inj, cals_inj, pcs_inj, skas_inj, scos_inj, ska_inj, rul_inj, sco_inj, cal_inj, ods_inj, od_inj] using And.intro h1 h2) | (simp [Prod.ext_iff, and_assoc, Int.ofNat_inj, ints_inj, cals_inj, pcs_inj, skas_inj, scos_inj, ska_inj, rul_inj, sco_inj, cal_inj, ods_inj, od_inj] at h1 h2 ⊢; simp_all)) rfl) (propext ⟨fun ⟨h1, h2, h3⟩ => ⟨h1, h2, fun l' hq => h3 _ _ ⟨l', hq, rfl, rfl⟩⟩, fun ⟨h1, h2, h3⟩ => ⟨h1, h2, fun r x ⟨l', hq, e1, e2⟩ => by subst e1; subst e2; exact h3 l' hq⟩⟩)
end Go.Proofs.YtapglfcaghlpfaaGreat
