/- A part of the proof that the last text ends: what functions of the program do, told by plain data. -/
import Derived.Test.YtofbbkacihnjdaaDoorHV3
set_option linter.unusedVariables false
set_option linter.unusedSimpArgs false
namespace Go.Proofs.YtofbbkacihnjdaaDoor
open Go Go.E Go.Maps
set_option maxRecDepth 100000
set_option maxHeartbeats 1500000
def sp45 (args : List AV) (K : AV → List AV → Sto → Prop) (e : List AV) (s : Sto) : Prop :=
  ∃ x : Nat, x < 32 ∧ s.get 5000000001 = some [.d (.ptr gtb 0)] ∧ args = [.d (.v (.int .u64 (x : Int)))] ∧ K (.d (.sl 1 ((lw x).map ic))) e s
theorem sp45_ok {args : List AV} {K : AV → List AV → Sto → Prop} {Q : Kt} {e : List AV} {s : Sto} (h : sp45 args K e s) : pcall Tryd.prog 45 args K Q e s := by
  obtain ⟨x, h1, h2, rfl, h4⟩ := h
  exact pcall_dG (ds := [.v (.int .u64 (x : Int))]) (pf45 x h1) h2 (fun d hd => by cases hd; exact h4) (fun c hc => by cases hc)
theorem call45x {C : CT} (hC : ∀ {args K Q e s} {i : At K} {j : At Q}, xC C 45 args K Q i j e s = sp45 args K e s) {x : Nat} (hx : x < 32) {args e : List AV} {s : Sto} {K : AV → List AV → Sto → Prop} {Q : Kt} {i : At K} {j : At Q} (h2 : s.get 5000000001 = some [.d (.ptr gtb 0)]) (ha : args = [.d (.v (.int .u64 (x : Int)))])
    (hK : K (.d (.sl 1 ((lw x).map ic))) e s) : xC C 45 args K Q i j e s := by
  rw [hC]; exact ⟨x, hx, h2, ha, hK⟩
theorem all_false {p : List Int} {c : Cn} {l : List Int} {j : Nat} (hj : j < l.length) (h : c.at (l.getD j default) < p.getD (l.getD j default).toNat default) : (l.all fun g => decide (p.getD g.toNat default ≤ c.at g)) = false := by
  cases hb : l.all fun g => decide (p.getD g.toNat default ≤ c.at g) with
  | false => rfl
  | true =>
    have := of_decide_eq_true (List.all_eq_true.1 hb (l.getD j default) (by rw [at_lt hj]; exact List.getElem_mem _))
    omega
theorem all_true {p : List Int} {c : Cn} {l : List Int} (h : ∀ q, q < l.length → p.getD (l.getD q default).toNat default ≤ c.at (l.getD q default)) : (l.all fun g => decide (p.getD g.toNat default ≤ c.at g)) = true := by
  rw [List.all_eq_true]
  intro g hg
  obtain ⟨q, hq, e⟩ := List.getElem_of_mem hg
  have := h q hq
  rw [at_lt hq, e] at this
  exact decide_eq_true this
theorem at_av {c : Cn} {g : Int} (h0 : 0 ≤ g) (h5 : g < 5) : [AV.d (D.i c.a), AV.d (D.i c.b), AV.d (D.i c.c), AV.d (D.i c.d), AV.d (D.i c.e)].getD g.toNat AV.any = AV.i (c.at g) := by
  rcases (show g = 0 ∨ g = 1 ∨ g = 2 ∨ g = 3 ∨ g = 4 by omega) with rfl | rfl | rfl | rfl | rfl <;> rfl
namespace V
def O42 : Nat → Sch := fun id => .done
theorem ho42 : Tryd.f42.body.map (okO O42) = some true := by kernel_rfl
def Cf42 : Nat → List AV → (AV → List AV → Sto → Prop) → Kt → List AV → Sto → Prop := fun f args K Q e s => match f with
  | 43 => ent43 args K e s
  | _ => False
def Ct42 : CT := { f := Cf42, y := noYld, z := fun d => false }
theorem Ct42_ok : Ct42.ok Tryd.prog := ok_of_f (fun f args K Q e s h => by
  have h : Cf42 f args K Q e s := h
  unfold Cf42 at h; split at h
  · exact ent43_ok h
  · exact h.elim) (fun _ _ _ _ _ _ _ _ _ h => h)
theorem x42_43 {n : Int} {lo : Int} {hi : Int} {KK : AV → List AV → Sto → Prop} {QQ : Kt} {ii : At KK} {jj : At QQ} {ee : List AV} {ss : Sto} : xC Ct42 43 [.d (.i n), .d (.i lo), .d (.i hi)] KK QQ ii jj ee ss = (KK (.d (.b (inB n lo hi))) ee ss) := eq43
theorem c42 : callable Tryd.prog 42 = true := by kernel_rfl
def O64 : Nat → Sch := fun id => .done
theorem ho64 : Tryd.f64.body.map (okO O64) = some true := by kernel_rfl
def Cf64 : Nat → List AV → (AV → List AV → Sto → Prop) → Kt → List AV → Sto → Prop := fun f args K Q e s => match f with
  | 42 => inlE Tryd.prog Ct42 O42 42000 42 args K Q e s
  | _ => False
def Ct64 : CT := { f := Cf64, y := noYld, z := fun d => false }
theorem Ct64_ok : Ct64.ok Tryd.prog := ok_of_f (fun f args K Q e s h => by
  have h : Cf64 f args K Q e s := h
  unfold Cf64 at h; split at h
  · exact inlE_ok Ct42_ok hmix ho42 h
  · exact h.elim) (fun _ _ _ _ _ _ _ _ _ h => h)
theorem z64_42 : type_of% (@xinl Tryd.prog Ct64 Ct42 O42 42000 42 _ _ _ _ rfl c42 Tryd.func42 rfl Tryd.ntmps42 Tryd.results42) := @xinl Tryd.prog Ct64 Ct42 O42 42000 42 _ _ _ _ rfl c42 Tryd.func42 rfl Tryd.ntmps42 Tryd.results42
theorem c64 : callable Tryd.prog 64 = true := by kernel_rfl
def O41 : Nat → Sch := fun id => .done
theorem ho41 : Tryd.f41.body.map (okO O41) = some true := by kernel_rfl
def Cf41 : Nat → List AV → (AV → List AV → Sto → Prop) → Kt → List AV → Sto → Prop := fun f args K Q e s => match f with
  | 64 => inlE Tryd.prog Ct64 O64 64000 64 args K Q e s
  | _ => False
def Ct41 : CT := { f := Cf41, y := noYld, z := fun d => false }
theorem Ct41_ok : Ct41.ok Tryd.prog := ok_of_f (fun f args K Q e s h => by
  have h : Cf41 f args K Q e s := h
  unfold Cf41 at h; split at h
  · exact inlE_ok Ct64_ok hmix ho64 h
  · exact h.elim) (fun _ _ _ _ _ _ _ _ _ h => h)
theorem z41_64 : type_of% (@xinl Tryd.prog Ct41 Ct64 O64 64000 64 _ _ _ _ rfl c64 Tryd.func64 rfl Tryd.ntmps64 Tryd.results64) := @xinl Tryd.prog Ct41 Ct64 O64 64000 64 _ _ _ _ rfl c64 Tryd.func64 rfl Tryd.ntmps64 Tryd.results64
theorem c41 : callable Tryd.prog 41 = true := by kernel_rfl
theorem pf41 (p : List Int) (h : p.length ≤ 1000) : PF Tryd.prog 41 [.sl 1 (p.map ic), .v (Value.func (Fn.func 42) #[] #[])] (fun zz => zz = .ret (.b (p.any fun x => !inB x 0 12))) := by
  obtain ⟨W, hW⟩ : ∃ W, W = p.any fun x => !inB x 0 12 := ⟨_, rfl⟩
  rw [← hW]
  refine PF_nil (PF_start (O := O41) Ct41_ok hmix ho41 Tryd.func41 c41 rfl Tryd.ntmps41 Tryd.results41 ?_)
  simp (maxSteps := 4000000) +contextual (disch := first | omega | exact qdb_ok (by kernel_rfl) | exact okb_ok (by kernel_rfl)) only [bw1,bw2,bw4,bw5,bw6,bc3,bc4,bc5,AV.isSlice,AV.rows,↓reduceIte,Nat.reduceAdd,Nat.reduceSub,List.reduceReplicate,Int.reduceNeg,tfb,z41_64]
  refine loop_xu (O := O64) (tb := 64000) Ct64_ok hmix (by kernel_rfl) (σ := Nat) (fun k => [(8, .i k), (5, .any)]) (fun _ => []) (fun k => k ≤ p.length ∧ ∀ q, q < k → inB (p.getD q default) 0 12 = true) (fun k => p.length - k) 0 ⟨Nat.zero_le _, fun q hq => by omega⟩ ?_ ?_
  · simp (maxSteps := 4000000) +contextual (disch := first | omega | exact qdb_ok (by kernel_rfl) | exact okb_ok (by kernel_rfl)) only [bw4,bw5,bw6,bc0,bc3,bc5,bc6,AV.isNilS,AV.isNoRows,wk,↓reduceIte,reduceCtorEq,eq_self]
    try rfl
  rintro k ⟨hk, hq⟩
  by_cases hlt : k < p.length
  · have hlt' : (k : Int) < p.length := by omega
    have hk0 : (0 : Int) ≤ k := by omega
    have hrp : (p.map ic).getD k [] = ic (p.getD k default) := Go.E.row_at hlt
    by_cases d1 : inB (p.getD k default) 0 12 = true
    · simp (maxSteps := 4000000) +contextual (disch := first | omega | exact qdb_ok (by kernel_rfl) | exact okb_ok (by kernel_rfl)) only [bw1,bw2,bw3,bw4,bw5,bw6,bw7,bc0,bc1,bc2,bc3,bc4,bc5,bc6,AV.isNilS,AV.isNoRows,wk,binIs,idxV,AV.isSl,AV.rows,ps,pv,packA,↓reduceIte,reduceCtorEq,Nat.reduceAdd,Nat.reduceSub,List.reduceReplicate,Nat.reduceLeDiff,Int.reduceNeg,tfb,z64_42,x42_43,eq_self, hlt', hk0, hrp, d1]
      repeat (refine And.intro (by omega) ?_)
      exact ⟨k + 1, ⟨⟨by omega, fun q hq' => by rcases Nat.lt_succ_iff_lt_or_eq.1 hq' with h' | rfl; exact hq q h'; exact d1⟩, by omega⟩, rfl⟩
    · have d1b : inB (p.getD k default) 0 12 = false := by simpa using d1
      have hW2 : W = true := by
        rw [hW, List.any_eq_true]
        exact ⟨p.getD k default, by rw [at_lt hlt]; exact List.getElem_mem _, by rw [d1b]; rfl⟩
      rw [hW2]
      simp (maxSteps := 4000000) +contextual (disch := first | omega | exact qdb_ok (by kernel_rfl) | exact okb_ok (by kernel_rfl)) only [bw1,bw2,bw3,bw4,bw5,bw6,bw7,bc0,bc1,bc2,bc3,bc4,bc5,bc6,binIs,idxV,AV.isSl,AV.rows,ps,pv,AV.outs,AV.outF,packD,packA,↓reduceIte,Nat.reduceAdd,Nat.reduceSub,List.reduceReplicate,Nat.reduceLeDiff,Int.reduceNeg,tfb,z64_42,x42_43,eq_self, hlt', hk0, hrp, d1b]
      try (and_intros <;> first | omega | rfl)
  have hkn : ¬ (k : Int) < p.length := by omega
  have hW2 : W = false := by
    rw [hW]
    cases hb : p.any fun x => !inB x 0 12 with
    | false => rfl
    | true =>
      obtain ⟨x, hx, hx2⟩ := List.any_eq_true.1 hb
      obtain ⟨j, hj, e⟩ := List.getElem_of_mem hx
      have := hq j (by omega)
      rw [at_lt hj, e] at this
      rw [this] at hx2
      cases hx2
  rw [hW2]
  simp (maxSteps := 4000000) +contextual (disch := first | omega | exact qdb_ok (by kernel_rfl) | exact okb_ok (by kernel_rfl)) only [bw1,bw2,bw3,bw5,bw6,bw7,bc0,bc1,bc2,bc3,bc4,bc5,bc6,binIs,AV.outs,AV.outF,packD,packA,↓reduceIte,Nat.reduceAdd,Int.reduceNeg,Int.reduceLE,tfb,eq_self, hkn]
  try rfl
def ent41 (args : List AV) (K : AV → List AV → Sto → Prop) (e : List AV) (s : Sto) : Prop := ent (α := (List Int)) (fun aa => [.sl 1 (aa.map ic), .v (Value.func (Fn.func 42) #[] #[])]) (fun aa => aa.length ≤ 1000) (fun aa => .b (aa.any fun x => !inB x 0 12)) args K e s
theorem ent41_ok {args : List AV} {K : AV → List AV → Sto → Prop} {Q : Kt} {e : List AV} {s : Sto} (h : ent41 args K e s) : pcall Tryd.prog 41 args K Q e s := ent_ok (fun aa h => pf41 aa h) h
theorem eq41 {p : List Int} {KK : AV → List AV → Sto → Prop} {ee : List AV} {ss : Sto} : ent41 [.d (.sl 1 (p.map ic)), .d (.v (Value.func (Fn.func 42) #[] #[]))] KK ee ss = ((p.length ≤ 1000) ∧ KK (.d (.b (p.any fun x => !inB x 0 12))) ee ss) := by
  unfold ent41; rw [ent_iff p (by intro b h; simpa [Prod.ext_iff, and_assoc, Int.ofNat_inj, ints_inj, hrs_inj, grs_inj, hr_inj, gr_inj, tt_inj, bcs_inj, cn_inj, sd_inj] using h) rfl]; simp
def O65 : Nat → Sch := fun id => .done
theorem ho65 : Tryd.f65.body.map (okO O65) = some true := by kernel_rfl
def Cf65o : Nat → List AV → (AV → List AV → Sto → Prop) → Kt → List AV → Sto → Prop := fun f args K Q e s => match f with
  | _ => False
def Ct65o : CT := { f := Cf65o, y := noYld, z := fun d => false }
theorem ctz65o {d : Nat} : CT.z Ct65o d = (false) := id rfl
theorem Ct65o_ok : Ct65o.ok Tryd.prog := ok_of_f (fun f args K Q e s h => by
  have h : Cf65o f args K Q e s := h
  unfold Cf65o at h; split at h
  · exact h.elim) (fun _ _ _ _ _ _ _ _ _ h => h)
def Yd65 : Nat → List Nat → Code → Code → List AV → (AV → List AV → Sto → Prop) → Kt → List AV → Sto → Prop := fun G ps asg bdy => if G / 1000 = 1000065 then yldE Tryd.prog Ct65o O65 65000 G ps asg bdy else fun _ _ _ _ _ => False
def Cy65_62 : CT := { f := Cf62, y := Yd65 }
theorem Cy65_62_ok : Cy65_62.ok Tryd.prog := ⟨Ct62_ok.f, fun g ps asg bdy args K Q e s h => by
  have h : Yd65 g ps asg bdy args K Q e s := h
  unfold Yd65 at h; split at h
  · exact yldE_ok Ct65o_ok hmix h
  · exact h.elim⟩
def Cf65 : Nat → List AV → (AV → List AV → Sto → Prop) → Kt → List AV → Sto → Prop := fun f args K Q e s => match f with
  | 62 => inlE Tryd.prog Cy65_62 O62 62000 62 args K Q e s
  | _ => False
def Ct65 : CT := { f := Cf65, y := noYld, z := fun d => false }
theorem Ct65_ok : Ct65.ok Tryd.prog := ok_of_f (fun f args K Q e s h => by
  have h : Cf65 f args K Q e s := h
  unfold Cf65 at h; split at h
  · exact inlE_ok Cy65_62_ok hmix ho62 h
  · exact h.elim) (fun _ _ _ _ _ _ _ _ _ h => h)
theorem z65_62 : type_of% (@xinl Tryd.prog Ct65 Cy65_62 O62 62000 62 _ _ _ _ rfl c62 Tryd.func62 rfl Tryd.ntmps62 Tryd.results62) := @xinl Tryd.prog Ct65 Cy65_62 O62 62000 62 _ _ _ _ rfl c62 Tryd.func62 rfl Tryd.ntmps62 Tryd.results62
theorem yy65_62_7 : type_of% (fun ps asg bdy => @xyld Tryd.prog Cy65_62 Ct65o O65 65000 1000065007 Yd65 rfl ps asg bdy (if_pos (by omega))) := fun ps asg bdy => @xyld Tryd.prog Cy65_62 Ct65o O65 65000 1000065007 Yd65 rfl ps asg bdy (if_pos (by omega))
theorem c65 : callable Tryd.prog 65 = true := by kernel_rfl
def O44 : Nat → Sch := fun id => .done
theorem ho44 : Tryd.f44.body.map (okO O44) = some true := by kernel_rfl
def Cf44 : Nat → List AV → (AV → List AV → Sto → Prop) → Kt → List AV → Sto → Prop := fun f args K Q e s => match f with
  | 65 => inlE Tryd.prog Ct65 O65 65000 65 args K Q e s
  | _ => False
def Ct44 : CT := { f := Cf44, y := noYld, z := fun d => false }
theorem Ct44_ok : Ct44.ok Tryd.prog := ok_of_f (fun f args K Q e s h => by
  have h : Cf44 f args K Q e s := h
  unfold Cf44 at h; split at h
  · exact inlE_ok Ct65_ok hmix ho65 h
  · exact h.elim) (fun _ _ _ _ _ _ _ _ _ h => h)
theorem z44_65 : type_of% (@xinl Tryd.prog Ct44 Ct65 O65 65000 65 _ _ _ _ rfl c65 Tryd.func65 rfl Tryd.ntmps65 Tryd.results65) := @xinl Tryd.prog Ct44 Ct65 O65 65000 65 _ _ _ _ rfl c65 Tryd.func65 rfl Tryd.ntmps65 Tryd.results65
theorem c44 : callable Tryd.prog 44 = true := by kernel_rfl
def O18 : Nat → Sch := fun id => if id = 18 then .one 0 (.one 1 (.one 2 (.one 3 (.one 4 (.one 5 (.one 6 (.one 7 (.done)))))))) else .done
theorem O18_18 : O18 18 = .one 0 (.one 1 (.one 2 (.one 3 (.one 4 (.one 5 (.one 6 (.one 7 (.done)))))))) := rfl
theorem ho18 : Tryd.f18.body.map (okO O18) = some true := by kernel_rfl
def Cf18 : Nat → List AV → (AV → List AV → Sto → Prop) → Kt → List AV → Sto → Prop := fun f args K Q e s => match f with
  | 31 => ent31 args K e s
  | 37 => sp37 args K e s
  | 41 => ent41 args K e s
  | 44 => inlE Tryd.prog Ct44 O44 44000 44 args K Q e s
  | 45 => sp45 args K e s
  | 46 => ent46 args K e s
  | _ => False
def Ct18 : CT := { f := Cf18, y := noYld, z := fun d => false }
theorem Ct18_ok : Ct18.ok Tryd.prog := ok_of_f (fun f args K Q e s h => by
  have h : Cf18 f args K Q e s := h
  unfold Cf18 at h; split at h
  · exact ent31_ok h
  · exact sp37_ok h
  · exact ent41_ok h
  · exact inlE_ok Ct44_ok hmix ho44 h
  · exact sp45_ok h
  · exact ent46_ok h
  · exact h.elim) (fun _ _ _ _ _ _ _ _ _ h => h)
theorem x18_31 {t : Tt} {KK : AV → List AV → Sto → Prop} {QQ : Kt} {ii : At KK} {jj : At QQ} {ee : List AV} {ss : Sto} : xC Ct18 31 [.d (.agg t.c)] KK QQ ii jj ee ss = ((t.hours.length ≤ 1000 ∧ t.groups.length ≤ 1000) ∧ KK (.d (.b (ttOk t))) ee ss) := eq31
theorem x18_41 {p : List Int} {KK : AV → List AV → Sto → Prop} {QQ : Kt} {ii : At KK} {jj : At QQ} {ee : List AV} {ss : Sto} : xC Ct18 41 [.d (.sl 1 (p.map ic)), .d (.v (Value.func (Fn.func 42) #[] #[]))] KK QQ ii jj ee ss = ((p.length ≤ 1000) ∧ KK (.d (.b (p.any fun x => !inB x 0 12))) ee ss) := eq41
theorem x18_46 {x : List Int} {y : List Int} {KK : AV → List AV → Sto → Prop} {QQ : Kt} {ii : At KK} {jj : At QQ} {ee : List AV} {ss : Sto} : xC Ct18 46 [.d (.sl 1 (x.map ic)), .d (.sl 1 (y.map ic))] KK QQ ii jj ee ss = ((x.length ≤ 1000 ∧ y.length = x.length) ∧ KK (.d (.i (cmpL x y))) ee ss) := eq46
theorem z18_44 : type_of% (@xinl Tryd.prog Ct18 Ct44 O44 44000 44 _ _ _ _ rfl c44 Tryd.func44 rfl Tryd.ntmps44 Tryd.results44) := @xinl Tryd.prog Ct18 Ct44 O44 44000 44 _ _ _ _ rfl c44 Tryd.func44 rfl Tryd.ntmps44 Tryd.results44
theorem c18 : callable Tryd.prog 18 = true := by kernel_rfl
theorem pf18 (t : Tt) (p : List Int) (hsz : t.hours.length ≤ 1000 ∧ t.groups.length ≤ 1000) (hp : p.length ≤ 1000) : PFG Tryd.prog 18 1 gtb [.agg t.c, .sl 1 (p.map ic)] (fun zz => zz = .ret (.tup [.sl 1 ((hiR t p).1.map ic), .i (hiR t p).2])) := by
  by_cases c1 : ttOk t = true
  case neg =>
    have hW : hiR t p = ([], 1) := by unfold hiR; rw [if_neg c1]
    rw [hW]
    refine PFG_nil (PFG_start (O := O18) Ct18_ok hmix ho18 Tryd.func18 c18 rfl Tryd.ntmps18 Tryd.results18 ?_)
    simp (maxSteps := 4000000) +contextual (disch := first | omega | exact qdb_ok (by kernel_rfl) | exact okb_ok (by kernel_rfl)) only [bw1,bw2,bw3,bw5,bw6,bc1,bc2,bc3,bc4,bc5,bc6,AV.outs,AV.outF,packD,AV.dl,AV.cells?,↓reduceIte,reduceCtorEq,Nat.reduceAdd,Nat.reduceSub,List.reduceReplicate,Nat.reduceLeDiff,Nat.reduceLT,Nat.reduceEqDiff,tfb,x18_31,hsz, c1]
    try rfl
  have hbig := tt_hours c1
  by_cases c2 : (p.length : Int) = t.groups.length
  case neg =>
    have c2b : ((p.length : Int) != (t.groups.length : Int)) = true := by simpa using c2
    have hW : hiR t p = ([], 2) := by unfold hiR; rw [if_pos c1, if_neg (fun h => c2 h.1)]
    rw [hW]
    refine PFG_nil (PFG_start (O := O18) Ct18_ok hmix ho18 Tryd.func18 c18 rfl Tryd.ntmps18 Tryd.results18 ?_)
    simp (maxSteps := 4000000) +contextual (disch := first | omega | exact qdb_ok (by kernel_rfl) | exact okb_ok (by kernel_rfl)) only [bw1,bw2,bw3,bw4,bw5,bw6,bw7,bc0,bc1,bc2,bc3,bc4,bc5,bc6,binIs,addF,AV.isPtr,AV.isSlice,AV.rows,AV.outs,AV.outF,packD,AV.dl,AV.cells?,↓reduceIte,reduceCtorEq,Nat.reduceAdd,Nat.reduceSub,List.reduceReplicate,Nat.reduceLeDiff,Nat.reduceLT,Nat.reduceEqDiff,tfb,x18_31,hsz, c1, c2b]
    try rfl
  have c2b : ((p.length : Int) != (t.groups.length : Int)) = false := by simpa using c2
  by_cases c3 : (p.any fun x => !inB x 0 12) = true
  case pos =>
    have c3b : ¬ (p.all fun x => inB x 0 12) = true := by
      intro h
      obtain ⟨x, hx, hx2⟩ := List.any_eq_true.1 c3
      rw [List.all_eq_true.1 h x hx] at hx2
      cases hx2
    have hW : hiR t p = ([], 2) := by unfold hiR; rw [if_pos c1, if_neg (fun h => c3b h.2)]
    rw [hW]
    refine PFG_nil (PFG_start (O := O18) Ct18_ok hmix ho18 Tryd.func18 c18 rfl Tryd.ntmps18 Tryd.results18 ?_)
    simp (maxSteps := 4000000) +contextual (disch := first | omega | exact qdb_ok (by kernel_rfl) | exact okb_ok (by kernel_rfl)) only [bw1,bw2,bw3,bw4,bw5,bw6,bc0,bc1,bc2,bc3,bc4,bc5,bc6,binIs,addF,AV.isPtr,AV.isSlice,AV.rows,AV.outs,AV.outF,packD,AV.dl,AV.cells?,↓reduceIte,reduceCtorEq,Nat.reduceAdd,Nat.reduceSub,List.reduceReplicate,Nat.reduceLeDiff,Nat.reduceLT,Nat.reduceEqDiff,tfb,x18_31,x18_41,hsz, c1, c2b, hp, c3]
    try rfl
  have c3b : (p.any fun x => !inB x 0 12) = false := by simpa using c3
  have hin : (p.all fun x => inB x 0 12) = true := by
    rw [List.all_eq_true]
    intro x hx
    cases hb : inB x 0 12 with
    | true => rfl
    | false => exact absurd (List.any_eq_true.2 ⟨x, hx, by rw [hb]; rfl⟩) c3
  have hW : hiR t p = (hsN t p (2 ^ t.groups.length), 0) := by unfold hiR; rw [if_pos c1, if_pos ⟨c2, hin⟩]
  rw [hW]
  obtain ⟨N, hN⟩ : ∃ N, N = 2 ^ t.groups.length := ⟨_, rfl⟩
  rw [← hN]
  refine PFG_nil (PFG_start (O := O18) Ct18_ok hmix ho18 Tryd.func18 c18 rfl Tryd.ntmps18 Tryd.results18 ?_)
  simp (maxSteps := 4000000) +contextual (disch := first | omega | exact qdb_ok (by kernel_rfl) | exact okb_ok (by kernel_rfl)) only [bw1,bw2,bw3,bw4,bw5,bw6,bc0,bc1,bc2,bc3,bc4,bc5,bc6,binIs,addF,AV.isPtr,AV.isSlice,AV.rows,ps,pv,AV.dl,AV.cells?,↓reduceIte,reduceCtorEq,Nat.reduceAdd,Nat.reduceSub,List.reduceReplicate,Nat.reduceLeDiff,Nat.reduceLT,Nat.reduceBEq,Nat.reduceEqDiff,tfb,x18_31,x18_41,hsz, c1, c2b, hp, c3b]
  refine call37x (C := Ct18) (t := t) rfl c1 ?_ ?_ ?_ ?_
  · rfl
  · simp [AV.stays, AV.stay]
  · simp [othF, AV.stays, AV.stay]
  intro M hM
  simp (maxSteps := 4000000) +contextual (disch := first | omega | exact qdb_ok (by kernel_rfl) | exact okb_ok (by kernel_rfl)) only [bw1,bw2,bw5,bw6,bc3,bc4,bc5,bc6,AV.cells?,Value.oneCell',↓reduceIte,reduceCtorEq,Nat.reduceAdd,Nat.reduceSub,List.reduceReplicate,Nat.reduceLT,Nat.reduceBEq,Nat.reduceEqDiff,z18_44,z44_65, eq_self, kill_ents]
  refine seedSF 65003 0 65012 55 5 [.d (.v (.slice none 0 0))] (by decide) (by decide) rfl rfl ?_ ?_ rfl ?_
  · simp [AV.mens, AV.men]
  · simp [Sto.mens, AV.mens, AV.men, mens_ents']
  refine rng_cutX (C := Ct65) Ct65_ok 1000065007 (σ := List Nat) (fun x => [(5, .any)]) (fun x => [(65003, [.own 65012 55 5 (x.map fun i => (M.getD i default).1.n.v)])]) (fun x => (x.Nodup ∧ ∀ i ∈ x, i < M.length) ∧ ∀ i, i < M.length → i ∈ x) ?_ ?_
  · simp (maxSteps := 4000000) +contextual (disch := first | omega | exact qdb_ok (by kernel_rfl) | exact okb_ok (by kernel_rfl)) only [bw1,bw2,bw3,bw5,bw6,bc0,bc2,bc3,bc4,bc5,bc6,bb0,↓reduceIte,reduceCtorEq,Nat.reduceAdd,Nat.reduceSub,List.reduceReplicate,Nat.reduceLeDiff,Nat.reduceLT,Nat.reduceBEq,Nat.reduceEqDiff,tfb,z65_62, eq_self, kill_ents, pairs_ents_eq, ents_len]
    refine ⟨mens_ents, ?_⟩
    refine loop_xu (O := O62) (tb := 62000) Cy65_62_ok hmix (by kernel_rfl) (σ := List Nat) (fun x => [(3, .any)]) (fun x => [(65003, [.own 65012 55 5 (x.map fun i => (M.getD i default).1.n.v)]), (2000062005, itc 2000037007 M.length x)]) (fun x => x.Nodup ∧ ∀ i ∈ x, i < M.length) (fun x => M.length - x.length) [] ⟨by simp, by simp⟩ ?_ ?_
    · simp (maxSteps := 4000000) +contextual (disch := first | omega | exact qdb_ok (by kernel_rfl) | exact okb_ok (by kernel_rfl)) only [bw5,bw6,bc0,bc3,bc4,bc5,bc6,AV.isNilS,AV.isNoRows,wk,↓reduceIte,reduceCtorEq,Nat.reduceEqDiff,wks, eq_self]
      try rfl
    intro seen hnn
    have hn1 := hnn.1
    have hn2 := hnn.2
    have hsl : seen.length ≤ M.length := nd_le _ _ hn1 hn2
    simp (maxSteps := 4000000) +contextual (disch := first | omega | exact qdb_ok (by kernel_rfl) | exact okb_ok (by kernel_rfl)) only [bw1,bw2,bw5,bw6,bc0,bc3,bb0,↓reduceIte,reduceCtorEq,Nat.reduceEqDiff, eq_self]
    refine nx_ents (fk := fkS) (fv := fvT) (M := M) (G := 2000037007) (h := 2000062005) (n := M.length) (seen := seen) rfl rfl rfl ?_ ?_ ?_
    · simp [AV.mencs, AV.menc, Sto.mencs, mencs_ents, itc]
    · intro hall
      simp (maxSteps := 4000000) +contextual (disch := first | omega | exact qdb_ok (by kernel_rfl) | exact okb_ok (by kernel_rfl)) only [bw1,bw2,bw3,bw5,bw6,bc0,bc1,bc2,bc3,bc4,bc5,bc6,AV.isNilS,AV.isNoRows,wk,extV,extS,↓reduceIte,reduceCtorEq,Nat.reduceAdd,Nat.reduceLT,Nat.reduceBEq,Nat.reduceEqDiff,wks, eq_self, kill_ents, kill_itc]
      exact ⟨seen, ⟨⟨hn1, hn2⟩, hall⟩, rfl⟩
    · intro i hi hs
      have hfk : fkS (M.getD i default).1 = .agg (M.getD i default).1.v := rfl
      have hSL := seen_lt hn1 hn2 hi hs
      have hlen : M.length - (seen ++ [i]).length < M.length - seen.length := by
        have := hSL.1
        rw [List.length_append]
        simp only [List.length_cons, List.length_nil]
        omega
      simp (maxSteps := 4000000) +contextual (disch := first | omega | exact qdb_ok (by kernel_rfl) | exact okb_ok (by kernel_rfl)) only [bw1,bw2,bw4,bw5,bw6,bc0,bc1,bc2,bc3,bc4,bc5,bc6,bb0,setPs,AV.isNilS,AV.isNoRows,wk,addF,AV.isPtr,AV.isSl,AV.rows,extV,extS,AV.dl,AV.cells?,AV.menc,AV.one,D.one,Value.oneCell',tagOf,AV.isApp,AV.dcells,D.cells?,↓reduceIte,reduceCtorEq,Nat.reduceAdd,Nat.reduceMul,List.reduceReplicate,Nat.reduceLeDiff,Nat.reduceLT,Nat.reduceBEq,Nat.reduceEqDiff,tfb,en_ents,ctz65o,yy65_62_7,wks, eq_self, kill_ents, mencs_ents, kill_itc, mencs_itc, hfk]
      have hMl := MR_len hbig.2.1 hbig.1 hM
      exact ⟨hi, by omega, by omega, seen ++ [i], ⟨⟨hSL.2.1, hSL.2.2⟩, hlen⟩, by rw [List.map_append]; rfl, wk_self _⟩
  intro xs hx
  have hMl := MR_len hbig.2.1 hbig.1 hM
  have hxl := nd_le _ _ hx.1.1 hx.1.2
  have hsh := sh_u64 t.groups.length (by omega)
  have hp2 : 2 ^ t.groups.length ≤ 32 := Nat.pow_le_pow_right (n := 2) (by omega) (show t.groups.length ≤ 5 from hbig.2.1)
  rw [← hN] at hsh hp2
  simp (maxSteps := 4000000) +contextual (disch := first | omega | exact qdb_ok (by kernel_rfl) | exact okb_ok (by kernel_rfl)) only [bw1,bw2,bw3,bw4,bw5,bw6,bc0,bc1,bc2,bc3,bc4,bc5,bc6,binIs,addF,AV.isPtr,AV.isSlice,AV.rows,packA,↓reduceIte,reduceCtorEq,Nat.reduceAdd,Nat.reduceLeDiff,Nat.reduceEqDiff,tfb, eq_self, hsh]
  refine ⟨Int.natCast_nonneg _, ?_⟩
  refine seedD (m1 := mk _) (m2 := mk _) 8 1 rfl ?_
  refine loop_xu (O := O18) (tb := 0) Ct18_ok hmix (by kernel_rfl) (σ := Nat) (fun x => [(8, .d (.sl 1 ((hsN t p x).map ic))), (40, .d (.v (.int .u64 (x : Int)))), (9, .any), (10, .any), (12, .any), (14, .any), (45, .any)]) (fun _ => []) (fun x => x ≤ N) (fun x => N - x) 0 (Nat.zero_le _) ?_ ?_
  · have hz0 : (hsN t p 0).map ic = [] := rfl
    simp (maxSteps := 4000000) +contextual (disch := first | omega | exact qdb_ok (by kernel_rfl) | exact okb_ok (by kernel_rfl)) only [bw4,bw5,bw6,bc0,bc3,bc5,bc6,AV.isNilS,AV.isNoRows,wk,↓reduceIte,reduceCtorEq,Nat.reduceEqDiff,eq_self, hz0, wks]
    try rfl
  rintro x hxN
  by_cases hlt : x < N
  · have hlt' : (x : Int) < (N : Int) := by omega
    simp (maxSteps := 4000000) +contextual (disch := first | omega | exact qdb_ok (by kernel_rfl) | exact okb_ok (by kernel_rfl)) only [bw1,bw2,bw5,bw6,bw7,bc0,bc1,bc4,bc5,bc6,binIs,↓reduceIte,tfb,eq_self, hlt']
    refine call45x (C := Ct18) (x := x) rfl (by omega) rfl rfl ?_
    simp (maxSteps := 4000000) +contextual (disch := first | omega | exact qdb_ok (by kernel_rfl) | exact okb_ok (by kernel_rfl)) only [bw1,bw2,bw4,bw5,bw6,bc4,bc5,AV.isSlice,AV.rows,↓reduceIte,tfb,eq_self]
    refine loop_xu (O := O18) (tb := 0) Ct18_ok hmix (by kernel_rfl) (σ := Nat) (fun k => [(47, .i k), (12, .any), (14, .any), (51, .any)]) (fun _ => []) (fun k => k ≤ xs.length ∧ ∀ q, q < k → ((lw x).all fun g => decide (p.getD g.toNat default ≤ (M.getD (xs.getD q default) default).1.n.at g)) = false) (fun k => xs.length - k) 0 ⟨Nat.zero_le _, fun q hq => by omega⟩ ?_ ?_
    · simp (maxSteps := 4000000) +contextual (disch := first | omega | exact qdb_ok (by kernel_rfl) | exact okb_ok (by kernel_rfl)) only [bw4,bw5,bw6,bc0,bc3,bc5,bc6,AV.isNilS,AV.isNoRows,wk,↓reduceIte,reduceCtorEq,Nat.reduceEqDiff,eq_self, wks]
      try rfl
    intro k hkq
    have hk := hkq.1
    have hq := hkq.2
    by_cases hkl : k < xs.length
    · have hkl' : (k : Int) < xs.length := by omega
      have hk0 : (0 : Int) ≤ k := by omega
      have hrow : (xs.map fun i => (M.getD i default).1.n.v).getD k [] = (M.getD (xs.getD k default) default).1.n.v := Go.E.row_at (f := fun i => (M.getD i default).1.n.v) hkl
      simp (maxSteps := 4000000) +contextual (disch := first | omega | exact qdb_ok (by kernel_rfl) | exact okb_ok (by kernel_rfl)) only [bw1,bw2,bw4,bw5,bw6,bw7,bc0,bc1,bc2,bc3,bc4,bc5,bc6,binIs,idxV,AV.isSl,AV.isSlice,AV.rows,ps,pv,AV.cells?,AV.menc,AV.one,D.one,Value.oneCell',↓reduceIte,reduceCtorEq,Nat.reduceAdd,Nat.reduceLeDiff,Nat.reduceLT,Nat.reduceBEq,Nat.reduceEqDiff,tfb,eq_self, hkl', hk0, hrow]
      refine ⟨by rw [kill_ents]; exact mencs_ents, ?_⟩
      refine loop_xu (O := O18) (tb := 0) Ct18_ok hmix (by kernel_rfl) (σ := Nat) (fun j => [(53, .i j), (14, .any)]) (fun _ => []) (fun j => j ≤ (lw x).length ∧ ∀ q, q < j → p.getD ((lw x).getD q default).toNat default ≤ (M.getD (xs.getD k default) default).1.n.at ((lw x).getD q default)) (fun j => (lw x).length - j) 0 ⟨Nat.zero_le _, fun q hq => by omega⟩ ?_ ?_
      · simp (maxSteps := 4000000) +contextual (disch := first | omega | exact qdb_ok (by kernel_rfl) | exact okb_ok (by kernel_rfl)) only [bw4,bw5,bw6,bc0,bc3,bc5,bc6,AV.isNilS,AV.isNoRows,wk,↓reduceIte,reduceCtorEq,Nat.reduceEqDiff,eq_self, wks]
        try rfl
      have hl5 := (lw_len x (by omega)).1
      intro j hjj
      have hj := hjj.1
      have hjq := hjj.2
      by_cases hjl : j < (lw x).length
      · have hjl' : (j : Int) < (lw x).length := by omega
        have hj0 : (0 : Int) ≤ j := by omega
        have hgr : ((lw x).map ic).getD j [] = ic ((lw x).getD j default) := Go.E.row_at hjl
        have hgb := lw_lt t.groups.length (by omega) x (by omega) (by omega) ((lw x).getD j default) (by rw [at_lt hjl]; exact List.getElem_mem _)
        have hg5 : (lw x).getD j default < 5 := by omega
        have hg0 : 0 ≤ (lw x).getD j default := hgb.1
        have hg4 : ((lw x).getD j default).toNat ≤ 4 := by omega
        have hgp : (lw x).getD j default < p.length := by omega
        have hmul : ((lw x).getD j default).toNat * 1 = ((lw x).getD j default).toNat := Nat.mul_one _
        have hrp : (p.map ic).getD ((lw x).getD j default).toNat [] = ic (p.getD ((lw x).getD j default).toNat default) := Go.E.row_at (by omega)
        have hat : [AV.d (D.i (M.getD (xs.getD k default) default).1.n.a), AV.d (D.i (M.getD (xs.getD k default) default).1.n.b), AV.d (D.i (M.getD (xs.getD k default) default).1.n.c), AV.d (D.i (M.getD (xs.getD k default) default).1.n.d), AV.d (D.i (M.getD (xs.getD k default) default).1.n.e)].getD ((lw x).getD j default).toNat AV.any = AV.i ((M.getD (xs.getD k default) default).1.n.at ((lw x).getD j default)) := at_av hg0 hg5
        simp (maxSteps := 4000000) +contextual (disch := first | omega | exact qdb_ok (by kernel_rfl) | exact okb_ok (by kernel_rfl)) only [bw1,bw2,bw3,bw4,bw5,bw6,bw7,bc0,bc1,bc2,bc3,bc4,bc5,bc6,AV.isNilS,AV.isNoRows,wk,binIs,addF,AV.isPtr,idxV,AV.isSl,AV.rows,ps,pv,↓reduceIte,reduceCtorEq,Nat.reduceAdd,Nat.reduceLeDiff,Nat.reduceEqDiff,tfb,O18_18,eq_self, hjl', hj0, hgr, hg4, hgp, hg0, hmul, hrp, hat]
        refine ⟨by omega, ?_⟩
        split
        · rename_i hf
          have hfl := all_false (p := p) (c := (M.getD (xs.getD k default) default).1.n) hjl hf
          exact ⟨k + 1, ⟨⟨by omega, fun q hq' => (Nat.lt_succ_iff_lt_or_eq.1 hq').elim (fun h' => hq q h') (fun h' => h' ▸ hfl)⟩, by omega⟩, rfl, by rw [kill_ents]; exact wk_self _⟩
        · rename_i hf
          exact ⟨j + 1, ⟨⟨by omega, fun q hq' => (Nat.lt_succ_iff_lt_or_eq.1 hq').elim (fun h' => hjq q h') (fun h' => h' ▸ Int.not_lt.1 hf)⟩, by omega⟩, rfl, wk_self _⟩
      have hjl' : ¬ (j : Int) < (lw x).length := by omega
      have hwx := wr32 x (by omega)
      have hlk := lack_no hM hx.1.2 hkl (all_true (p := p) (c := (M.getD (xs.getD k default) default).1.n) fun q hq' => hjq q (by omega))
      have hs0 := hs_no hlk
      simp (maxSteps := 4000000) +contextual (disch := first | omega | exact qdb_ok (by kernel_rfl) | exact okb_ok (by kernel_rfl)) only [bw1,bw2,bw5,bw6,bw7,bc0,bc1,bc3,bc4,bc5,bc6,AV.isNilS,AV.isNoRows,wk,binIs,↓reduceIte,reduceCtorEq,Nat.reduceEqDiff,tfb,eq_self, hjl']
      exact ⟨x + 1, ⟨by omega, by omega⟩, ⟨by rw [hs0], by rw [hwx]⟩, by rw [kill_ents]; exact wk_self _⟩
    have hkl' : ¬ (k : Int) < xs.length := by omega
    simp (maxSteps := 4000000) +contextual (disch := first | omega | exact qdb_ok (by kernel_rfl) | exact okb_ok (by kernel_rfl)) only [bw1,bw2,bw3,bw4,bw5,bw6,bw7,bc0,bc1,bc3,bc4,bc5,bc6,AV.isNilS,AV.isNoRows,wk,binIs,AV.isSlice,AV.rows,↓reduceIte,reduceCtorEq,Nat.reduceEqDiff,tfb,x18_46,eq_self, hkl']
    have hlk := lack_yes hM hx.2 (fun q hq' => hq q (by omega))
    have hwx := wr32 x (by omega)
    have hl5 := (lw_len x (by omega)).1
    have hs1 := hs_yes hlk
    split
    · rename_i g1
      have g1' : (hsN t p x).length ≠ 0 := by simpa using g1
      split
      · rename_i g2
        have g2' : ¬ (lw x).length < (hsN t p x).length := by simpa using g2
        split
        · rename_i g3
          refine ⟨⟨by omega, by omega⟩, ?_⟩
          split
          · rename_i g4
            exact ⟨x + 1, ⟨by omega, by omega⟩, ⟨by rw [hs1, hsS_yes (.inr (.inr ⟨by omega, g4⟩))], by rw [hwx]⟩, wk_self _⟩
          · rename_i g4
            exact ⟨x + 1, ⟨by omega, by omega⟩, ⟨by rw [hs1, hsS_no (by rintro (h | h | ⟨_, h⟩) <;> first | omega | exact g4 h)], by rw [hwx]⟩, wk_self _⟩
        · rename_i g3
          exact ⟨x + 1, ⟨by omega, by omega⟩, ⟨by rw [hs1, hsS_no (by rintro (h | h | ⟨h, _⟩) <;> omega)], by rw [hwx]⟩, wk_self _⟩
      · rename_i g2
        have g2' : (lw x).length < (hsN t p x).length := by simpa using g2
        exact ⟨x + 1, ⟨by omega, by omega⟩, ⟨by rw [hs1, hsS_yes (.inr (.inl g2'))], by rw [hwx]⟩, wk_self _⟩
    · rename_i g1
      have g1' : (hsN t p x).length = 0 := by simpa using g1
      exact ⟨x + 1, ⟨by omega, by omega⟩, ⟨by rw [hs1, hsS_yes (.inl g1')], by rw [hwx]⟩, wk_self _⟩
  have hlt' : ¬ (x : Int) < (N : Int) := by omega
  have hxe : x = N := by omega
  have hlN : ¬ (N : Int) < (N : Int) := Int.lt_irrefl _
  simp (maxSteps := 4000000) +contextual (disch := first | omega | exact qdb_ok (by kernel_rfl) | exact okb_ok (by kernel_rfl)) only [bw1,bw2,bw3,bw5,bw6,bw7,bc0,bc1,bc2,bc3,bc4,bc5,bc6,binIs,AV.outs,AV.outF,packD,↓reduceIte,reduceCtorEq,tfb,eq_self, hlN, hxe]
end V
end Go.Proofs.YtofbbkacihnjdaaDoor
