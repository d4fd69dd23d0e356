/- A part of the proof that the last text ends: what functions of the program do, told by plain data. -/
import Derived.Test.YtofbbkacihnjdaaDoorHB
set_option linter.unusedVariables false
set_option linter.unusedSimpArgs false
namespace Go.Proofs.YtofbbkacihnjdaaDoor
open Go Go.E
set_option maxRecDepth 100000
set_option maxHeartbeats 16000000
def dayB (days day : Int) : Bool := decide (days / (2 ^ day.toNat : Nat) % 2 = 1)
def mayB (g : Gr) (h : Hr) : Bool := dayB g.days h.day && (decide (g.early ≤ h.b) && decide (h.e ≤ g.late))
theorem p2_b {k : Nat} (h : k ≤ 6) : 1 ≤ 2 ^ k ∧ 2 ^ k ≤ 64 := by
  have h1 : 2 ^ k ≤ 2 ^ 6 := Nat.pow_le_pow_right (by decide) h
  have h2 : 0 < 2 ^ k := Nat.pow_pos (by decide)
  omega
def O50 : Nat → Sch := fun id => .done
theorem ho50 : Tryd.f50.body.map (okO O50) = some true := by kernel_rfl
def Cf50 : Nat → List AV → (AV → List AV → Sto → Prop) → Kt → List AV → Sto → Prop := fun f args K Q e s => match f with
  | _ => False
def Ct50 : CT := { f := Cf50, y := noYld, z := fun d => false }
theorem ctz50 {d : Nat} : CT.z Ct50 d = (false) := id rfl
theorem Ct50_ok : Ct50.ok Tryd.prog := ok_of_f (fun f args K Q e s h => by
  have h : Cf50 f args K Q e s := h
  unfold Cf50 at h; split at h
  · exact h.elim) (fun _ _ _ _ _ _ _ _ _ h => h)
theorem c50 : callable Tryd.prog 50 = true := by kernel_rfl
theorem pf50 (g : Gr) (h' : Hr) (h : (0 ≤ g.days ∧ g.days ≤ 127) ∧ 0 ≤ h'.day ∧ h'.day ≤ 6) : PF Tryd.prog 50 [.agg g.c, .agg h'.c] (fun zz => zz = .ret (.b (mayB g h'))) := by
  obtain ⟨⟨hg1, hg2⟩, hd1, hd2⟩ := h
  obtain ⟨n, hn⟩ : ∃ n : Nat, h'.day = (n : Int) := ⟨h'.day.toNat, by omega⟩
  have hn6 : n ≤ 6 := by omega
  obtain ⟨W, hW⟩ : ∃ W, W = mayB g h' := ⟨_, rfl⟩
  rw [← hW]
  unfold mayB dayB at hW
  rw [hn, Int.toNat_natCast] at hW
  refine PF_nil (PF_start (O := O50) Ct50_ok hmix ho50 Tryd.func50 c50 rfl Tryd.ntmps50 Tryd.results50 ?_)
  simp (maxSteps := 4000000) +contextual (disch := first | omega | exact qdb_ok (by kernel_rfl) | exact okb_ok (by kernel_rfl)) only [bw1,bw2,bw3,bw4,bw5,bw6,bw7,bc0,bc1,bc2,bc3,bc4,bc5,bc6,bc7,bb0,setPs,AV.owns,AV.datF,AV.frz,AV.cpy,ifV,isEqB,nilV,nilX,AV.isNilS,AV.isNoRows,wk,dclo,datOf,binIs,addF,AV.isPtr,idxV,AV.isSl,AV.isSlice,AV.rows,ps,pv,extV,extS,AV.outs,AV.outF,packD,AV.dl,fieldV,fieldS,AV.cells?,AV.upr,AV.menc,AV.one,D.one,Value.oneCell',tagOf,AV.isApp,strV,strS,bolV,bolS,slcV,AV.isSlD,asrtS,AV.dcells,D.cells?,stcV,stcS,leafOk,eqDs,eqD,packA,D.val?,↓reduceIte,reduceCtorEq,Nat.reduceAdd,Nat.reduceSub,Nat.reduceMul,List.reduceReplicate,Nat.reduceLeDiff,Nat.reduceLT,Nat.reduceBEq,Nat.reduceEqDiff,Int.reduceNeg,Int.reduceEq,Int.reduceLE,Int.reduceLT,tfb,D.flat,D.flats,ctz50,hn]
  refine loop_xu (O := O50) (tb := 0) Ct50_ok hmix (by kernel_rfl) (σ := Nat) (fun k => [(5, .i ((2 ^ k : Nat) : Int)), (6, .i k)]) (fun _ => []) (fun k => k ≤ n) (fun k => n - k) 0 (Nat.zero_le _) ?_ ?_
  · have hz : (2 ^ 0 : Nat) = 1 := rfl
    simp (maxSteps := 4000000) +contextual (disch := first | omega | exact qdb_ok (by kernel_rfl) | exact okb_ok (by kernel_rfl)) only [bw1,bw2,bw3,bw4,bw5,bw6,bw7,bc0,bc1,bc2,bc3,bc4,bc5,bc6,bc7,bb0,setPs,AV.owns,AV.datF,AV.frz,AV.cpy,ifV,isEqB,nilV,nilX,AV.isNilS,AV.isNoRows,wk,dclo,datOf,binIs,addF,AV.isPtr,idxV,AV.isSl,AV.isSlice,AV.rows,ps,pv,extV,extS,AV.outs,AV.outF,packD,AV.dl,fieldV,fieldS,AV.cells?,AV.upr,AV.menc,AV.one,D.one,Value.oneCell',tagOf,AV.isApp,strV,strS,bolV,bolS,slcV,AV.isSlD,asrtS,AV.dcells,D.cells?,stcV,stcS,leafOk,eqDs,eqD,packA,D.val?,↓reduceIte,reduceCtorEq,Nat.reduceAdd,Nat.reduceSub,Nat.reduceMul,List.reduceReplicate,Nat.reduceLeDiff,Nat.reduceLT,Nat.reduceBEq,Nat.reduceEqDiff,Int.reduceNeg,Int.reduceEq,Int.reduceLE,Int.reduceLT,tfb,D.flat,D.flats,ctz50,eq_self, hz]
    try rfl
  rintro k hk
  have hb := p2_b (k := k) (by omega)
  by_cases hlt : k < n
  · have hlt' : (k : Int) < n := by omega
    have hs : ((2 ^ (k + 1) : Nat) : Int) = 2 * ((2 ^ k : Nat) : Int) := by rw [Nat.pow_succ]; omega
    obtain ⟨P, hP⟩ : ∃ P : Nat, P = 2 ^ k := ⟨_, rfl⟩
    rw [← hP] at hs hb ⊢
    simp (maxSteps := 4000000) +contextual (disch := first | omega | exact qdb_ok (by kernel_rfl) | exact okb_ok (by kernel_rfl)) only [bw1,bw2,bw3,bw4,bw5,bw6,bw7,bc0,bc1,bc2,bc3,bc4,bc5,bc6,bc7,bb0,setPs,AV.owns,AV.datF,AV.frz,AV.cpy,ifV,isEqB,nilV,nilX,AV.isNilS,AV.isNoRows,wk,dclo,datOf,binIs,addF,AV.isPtr,idxV,AV.isSl,AV.isSlice,AV.rows,ps,pv,extV,extS,AV.outs,AV.outF,packD,AV.dl,fieldV,fieldS,AV.cells?,AV.upr,AV.menc,AV.one,D.one,Value.oneCell',tagOf,AV.isApp,strV,strS,bolV,bolS,slcV,AV.isSlD,asrtS,AV.dcells,D.cells?,stcV,stcS,leafOk,eqDs,eqD,packA,D.val?,↓reduceIte,reduceCtorEq,Nat.reduceAdd,Nat.reduceSub,Nat.reduceMul,List.reduceReplicate,Nat.reduceLeDiff,Nat.reduceLT,Nat.reduceBEq,Nat.reduceEqDiff,Int.reduceNeg,Int.reduceEq,Int.reduceLE,Int.reduceLT,tfb,D.flat,D.flats,ctz50,eq_self, hlt', hn]
    repeat (refine And.intro (by omega) ?_)
    exact ⟨k + 1, ⟨by omega, by omega⟩, by rw [hs], rfl⟩
  obtain rfl : k = n := by omega
  obtain ⟨P, hP⟩ : ∃ P : Nat, P = 2 ^ k := ⟨_, rfl⟩
  rw [← hP] at hb hW ⊢
  have hP0 : ¬ (P : Int) = 0 := by omega
  have hq : g.days.tdiv (P : Int) = g.days / (P : Int) := Int.tdiv_eq_ediv_of_nonneg hg1
  have hq0 : 0 ≤ g.days / (P : Int) := Int.ediv_nonneg hg1 (by omega)
  have hq1 : g.days / (P : Int) ≤ g.days := Int.ediv_le_self _ hg1
  by_cases e1 : g.days / (P : Int) % 2 = 1
  · have e1b : (g.days / (P : Int) % 2 == 1) = true := by simpa using e1
    rw [decide_eq_true e1, Bool.true_and] at hW
    by_cases e2 : g.early ≤ h'.b
    · rw [decide_eq_true e2, Bool.true_and] at hW
      simp (maxSteps := 4000000) +contextual (disch := first | omega | exact qdb_ok (by kernel_rfl) | exact okb_ok (by kernel_rfl)) only [bw1,bw2,bw3,bw4,bw5,bw6,bw7,bc0,bc1,bc2,bc3,bc4,bc5,bc6,bc7,bb0,setPs,AV.owns,AV.datF,AV.frz,AV.cpy,ifV,isEqB,nilV,nilX,AV.isNilS,AV.isNoRows,wk,dclo,datOf,binIs,addF,AV.isPtr,idxV,AV.isSl,AV.isSlice,AV.rows,ps,pv,extV,extS,AV.outs,AV.outF,packD,AV.dl,fieldV,fieldS,AV.cells?,AV.upr,AV.menc,AV.one,D.one,Value.oneCell',tagOf,AV.isApp,strV,strS,bolV,bolS,slcV,AV.isSlD,asrtS,AV.dcells,D.cells?,stcV,stcS,leafOk,eqDs,eqD,packA,D.val?,↓reduceIte,reduceCtorEq,Nat.reduceAdd,Nat.reduceSub,Nat.reduceMul,List.reduceReplicate,Nat.reduceLeDiff,Nat.reduceLT,Nat.reduceBEq,Nat.reduceEqDiff,Int.reduceNeg,Int.reduceEq,Int.reduceLE,Int.reduceLT,tfb,D.flat,D.flats,ctz50,eq_self, hn, Int.lt_irrefl, hP0, hq, e1b, e2, hW]
      try (and_intros <;> first | omega | rfl)
    · rw [decide_eq_false e2, Bool.false_and] at hW
      simp (maxSteps := 4000000) +contextual (disch := first | omega | exact qdb_ok (by kernel_rfl) | exact okb_ok (by kernel_rfl)) only [bw1,bw2,bw3,bw4,bw5,bw6,bw7,bc0,bc1,bc2,bc3,bc4,bc5,bc6,bc7,bb0,setPs,AV.owns,AV.datF,AV.frz,AV.cpy,ifV,isEqB,nilV,nilX,AV.isNilS,AV.isNoRows,wk,dclo,datOf,binIs,addF,AV.isPtr,idxV,AV.isSl,AV.isSlice,AV.rows,ps,pv,extV,extS,AV.outs,AV.outF,packD,AV.dl,fieldV,fieldS,AV.cells?,AV.upr,AV.menc,AV.one,D.one,Value.oneCell',tagOf,AV.isApp,strV,strS,bolV,bolS,slcV,AV.isSlD,asrtS,AV.dcells,D.cells?,stcV,stcS,leafOk,eqDs,eqD,packA,D.val?,↓reduceIte,reduceCtorEq,Nat.reduceAdd,Nat.reduceSub,Nat.reduceMul,List.reduceReplicate,Nat.reduceLeDiff,Nat.reduceLT,Nat.reduceBEq,Nat.reduceEqDiff,Int.reduceNeg,Int.reduceEq,Int.reduceLE,Int.reduceLT,tfb,D.flat,D.flats,ctz50,eq_self, hn, Int.lt_irrefl, hP0, hq, e1b, e2, hW]
      try (and_intros <;> first | omega | rfl)
  · have e1b : (g.days / (P : Int) % 2 == 1) = false := by simpa using e1
    rw [decide_eq_false e1, Bool.false_and] at hW
    simp (maxSteps := 4000000) +contextual (disch := first | omega | exact qdb_ok (by kernel_rfl) | exact okb_ok (by kernel_rfl)) only [bw1,bw2,bw3,bw4,bw5,bw6,bw7,bc0,bc1,bc2,bc3,bc4,bc5,bc6,bc7,bb0,setPs,AV.owns,AV.datF,AV.frz,AV.cpy,ifV,isEqB,nilV,nilX,AV.isNilS,AV.isNoRows,wk,dclo,datOf,binIs,addF,AV.isPtr,idxV,AV.isSl,AV.isSlice,AV.rows,ps,pv,extV,extS,AV.outs,AV.outF,packD,AV.dl,fieldV,fieldS,AV.cells?,AV.upr,AV.menc,AV.one,D.one,Value.oneCell',tagOf,AV.isApp,strV,strS,bolV,bolS,slcV,AV.isSlD,asrtS,AV.dcells,D.cells?,stcV,stcS,leafOk,eqDs,eqD,packA,D.val?,↓reduceIte,reduceCtorEq,Nat.reduceAdd,Nat.reduceSub,Nat.reduceMul,List.reduceReplicate,Nat.reduceLeDiff,Nat.reduceLT,Nat.reduceBEq,Nat.reduceEqDiff,Int.reduceNeg,Int.reduceEq,Int.reduceLE,Int.reduceLT,tfb,D.flat,D.flats,ctz50,eq_self, hn, Int.lt_irrefl, hP0, hq, e1b, hW]
    try (and_intros <;> first | omega | rfl)
def neB (t : Tt) (i : Nat) : Bool := decide (0 < i) && (decide ((t.hours.getD i default).day = (t.hours.getD (i - 1) default).day) && decide ((t.hours.getD i default).b - (t.hours.getD (i - 1) default).e < t.res))
theorem tt_hours {t : Tt} (h : ttOk t = true) : t.hours.length ≤ 12 ∧ t.groups.length ≤ 5 ∧ (0 ≤ t.res ∧ t.res ≤ 120) := by
  unfold ttOk at h
  simp only [Bool.and_eq_true, decide_eq_true_eq, inB_iff] at h
  omega
theorem tt_hour {t : Tt} (h : ttOk t = true) {i : Nat} (hi : i < t.hours.length) : (0 ≤ (t.hours.getD i default).day ∧ (t.hours.getD i default).day ≤ 6) ∧ 0 ≤ (t.hours.getD i default).b ∧ (t.hours.getD i default).b < (t.hours.getD i default).e ∧ (t.hours.getD i default).e ≤ 1440 := by
  unfold ttOk at h
  simp only [Bool.and_eq_true] at h
  have := List.all_eq_true.1 h.2.2.2.2 i (List.mem_range.2 hi)
  unfold hrAt hrOk at this
  simp only [Bool.and_eq_true, Bool.not_eq_true', decide_eq_false_iff_not, inB_iff] at this
  omega
theorem tt_group {t : Tt} (h : ttOk t = true) {i : Nat} (hi : i < t.groups.length) : (0 ≤ (t.groups.getD i default).days ∧ (t.groups.getD i default).days ≤ 127) ∧ (0 ≤ (t.groups.getD i default).most ∧ (t.groups.getD i default).most ≤ 12) ∧ 0 ≤ (t.groups.getD i default).cred ∧ (t.groups.getD i default).cred ≤ 1000 := by
  unfold ttOk at h
  simp only [Bool.and_eq_true] at h
  have := all_get.1 h.2.2.2.1 i hi
  unfold grOk at this
  simp only [Bool.and_eq_true, inB_iff] at this
  omega
def ent50 (args : List AV) (K : AV → List AV → Sto → Prop) (e : List AV) (s : Sto) : Prop := ent (α := (Gr) × (Hr)) (fun aa => [.agg aa.1.c, .agg aa.2.c]) (fun aa => (0 ≤ aa.1.days ∧ aa.1.days ≤ 127) ∧ 0 ≤ aa.2.day ∧ aa.2.day ≤ 6) (fun aa => .b (mayB aa.1 aa.2)) args K e s
theorem ent50_ok {args : List AV} {K : AV → List AV → Sto → Prop} {Q : Kt} {e : List AV} {s : Sto} (h : ent50 args K e s) : pcall Tryd.prog 50 args K Q e s := ent_ok (fun aa h => pf50 aa.1 aa.2 h) h
theorem eq50 {g : Gr} {h' : Hr} {KK : AV → List AV → Sto → Prop} {ee : List AV} {ss : Sto} : ent50 [.d (.agg g.c), .d (.agg h'.c)] KK ee ss = (((0 ≤ g.days ∧ g.days ≤ 127) ∧ 0 ≤ h'.day ∧ h'.day ≤ 6) ∧ KK (.d (.b (mayB g h'))) ee ss) := by
  unfold ent50; rw [ent_iff (g, h') (by intro b h; simpa [Prod.ext_iff, and_assoc, Int.ofNat_inj, ints_inj, hrs_inj, grs_inj, hr_inj, gr_inj, tt_inj] using h) rfl]; simp
def erR (t : Tt) (p : List Int) (i : Nat) : Int :=
  if p.getD i default < 0 then 0
  else if ¬ mayB (t.groups.getD (p.getD i default).toNat default) (t.hours.getD i default) = true then 11
  else if (t.groups.getD (p.getD i default).toNat default).most < (cnG p (i + 1) (p.getD i default) : Int) then 12
  else if neB t i = true ∧ 0 ≤ p.getD (i - 1) default ∧ ¬ p.getD (i - 1) default = p.getD i default then 6
  else 0
def foP (t : Tt) (p : List Int) : Prop := ∀ j, j < p.length → -1 ≤ p.getD j default ∧ p.getD j default < t.groups.length
end Go.Proofs.YtofbbkacihnjdaaDoor
