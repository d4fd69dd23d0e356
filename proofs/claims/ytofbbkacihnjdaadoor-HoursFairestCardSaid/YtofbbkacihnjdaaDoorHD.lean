/- A part of the proof that the last text ends: what functions of the program do, told by plain data. -/
import Derived.Test.YtofbbkacihnjdaaDoorHS
set_option linter.unusedVariables false
set_option linter.unusedSimpArgs false
namespace Go.Proofs.YtofbbkacihnjdaaDoor
open Go Go.E Go.Maps
set_option maxRecDepth 100000
set_option maxHeartbeats 16000000
def hasN (t : Tt) (p : List Int) (k : Nat) : List Int := (List.range t.groups.length).map fun g : Nat => (cnG p p.length (g : Int) : Int) + (if g < k then (t.groups.getD g default).cred else 0)
def hasL (t : Tt) (p : List Int) : List Int := hasN t p t.groups.length
theorem hasN_len {t : Tt} {p : List Int} {k : Nat} : (hasN t p k).length = t.groups.length := by simp [hasN]
theorem hasN_at {t : Tt} {p : List Int} {k g : Nat} (h : g < t.groups.length) : (hasN t p k).getD g default = (cnG p p.length (g : Int) : Int) + (if g < k then (t.groups.getD g default).cred else 0) := by
  rw [at_lt (by rw [hasN_len]; exact h)]
  unfold hasN
  rw [List.getElem_map, List.getElem_range]
theorem hasN_zero {t : Tt} {p : List Int} : hasN t p 0 = cnL t.groups.length p p.length := by
  unfold hasN cnL
  apply List.map_congr_left
  intro g _
  rw [if_neg (by omega)]; omega
theorem hasN_succ {t : Tt} {p : List Int} {k : Nat} (h : k < t.groups.length) : hasN t p (k + 1) = (hasN t p k).set k ((cnG p p.length (k : Int) : Int) + (t.groups.getD k default).cred) := by
  apply List.ext_getElem (by simp [hasN])
  intro i h1 h2
  have hi : i < t.groups.length := by rw [hasN_len] at h1; exact h1
  rw [List.getElem_set, ← at_lt h1, hasN_at hi]
  by_cases c : k = i
  · subst c; rw [if_pos rfl, if_pos (by omega)]
  · rw [if_neg c, ← at_lt (by rw [hasN_len]; exact hi), hasN_at hi]
    by_cases d : i < k
    · rw [if_pos d, if_pos (by omega)]
    · rw [if_neg d, if_neg (by omega)]
theorem hasL_len {t : Tt} {p : List Int} : (hasL t p).length = t.groups.length := hasN_len
def O34 : Nat → Sch := fun id => if id = 5 then .one 0 (.one 1 (.one 2 (.one 3 (.one 4 (.one 5 (.one 6 (.one 7 (.one 8 (.one 9 (.one 10 (.one 11 (.one 12 (.one 13 (.one 14 (.done))))))))))))))) else .done
theorem O34_5 : O34 5 = .one 0 (.one 1 (.one 2 (.one 3 (.one 4 (.one 5 (.one 6 (.one 7 (.one 8 (.one 9 (.one 10 (.one 11 (.one 12 (.one 13 (.one 14 (.done))))))))))))))) := rfl
theorem ho34 : Tryd.f34.body.map (okO O34) = some true := by kernel_rfl
def Cf34 : Nat → List AV → (AV → List AV → Sto → Prop) → Kt → List AV → Sto → Prop := fun f args K Q e s => match f with
  | 29 => ent29 args K e s
  | _ => False
def Ct34 : CT := { f := Cf34, y := noYld, z := fun d => false }
theorem Ct34_ok : Ct34.ok Tryd.prog := ok_of_f (fun f args K Q e s h => by
  have h : Cf34 f args K Q e s := h
  unfold Cf34 at h; split at h
  · exact ent29_ok h
  · exact h.elim) (fun _ _ _ _ _ _ _ _ _ h => h)
theorem x34_29 {t : Tt} {p : List Int} {f : Nat} {KK : AV → List AV → Sto → Prop} {QQ : Kt} {ii : At KK} {jj : At QQ} {ee : List AV} {ss : Sto} : xC Ct34 29 [.d (.agg t.c), .d (.sl 1 (p.map ic)), .d (.i (f : Int))] KK QQ ii jj ee ss = (((t.groups.length ≤ 1000 ∧ f ≤ p.length ∧ p.length ≤ 1000) ∧ ∀ j, j < f → -1 ≤ p.getD j default ∧ p.getD j default < t.groups.length) ∧ KK (.own 29001 3 1 ((cnL t.groups.length p f).map ic)) (ee.map (AV.kill 29001)) (ss.kill 29001)) := eq29
theorem c34 : callable Tryd.prog 34 = true := by kernel_rfl
theorem pf34 (t : Tt) (p : List Int) (h : ttOk t = true ∧ p.length ≤ 1000 ∧ foP t p) : PFn Tryd.prog 34 [.agg t.c, .sl 1 (p.map ic)] (fun zz => zz = .ret (.sl 1 ((hasL t p).map ic))) := by
  obtain ⟨ht, hp, hfo⟩ := h
  have hbig := tt_hours ht
  have hpre : (t.groups.length ≤ 1000 ∧ p.length ≤ p.length ∧ p.length ≤ 1000) ∧ ∀ j, j < p.length → -1 ≤ p.getD j default ∧ p.getD j default < t.groups.length := ⟨⟨by omega, by omega, hp⟩, hfo⟩
  refine PFn_nil (PFn_start (O := O34) Ct34_ok hmix ho34 Tryd.func34 c34 rfl Tryd.ntmps34 Tryd.results34 ?_)
  simp (maxSteps := 4000000) +contextual (disch := first | omega | exact qdb_ok (by kernel_rfl) | exact okb_ok (by kernel_rfl)) only [bw1,bw2,bw4,bw5,bw6,bc2,bc3,bc4,bc5,bc6,AV.isSlice,AV.rows,AV.dl,AV.cells?,↓reduceIte,reduceCtorEq,Nat.reduceAdd,Nat.reduceSub,List.reduceReplicate,Nat.reduceLeDiff,Nat.reduceLT,Nat.reduceBEq,Nat.reduceEqDiff,Int.reduceNeg,tfb,x34_29,hpre]
  refine ⟨fun _ _ => trivial, ?_⟩
  refine loop_xu (O := O34) (tb := 0) Ct34_ok hmix (by kernel_rfl) (σ := Nat) (fun k => [(5, .own 29001 3 1 ((hasN t p k).map ic)), (6, .i k), (11, .any)]) (fun _ => []) (fun k => k ≤ t.groups.length) (fun k => t.groups.length - k) 0 (Nat.zero_le _) ?_ ?_
  · have hz := hasN_zero (t := t) (p := p)
    simp (maxSteps := 4000000) +contextual (disch := first | omega | exact qdb_ok (by kernel_rfl) | exact okb_ok (by kernel_rfl)) only [bw4,bw5,bw6,bc0,bc3,bc5,bc6,AV.isNilS,AV.isNoRows,wk,↓reduceIte,reduceCtorEq,eq_self, hz]
    try rfl
  rintro k hk
  have hlen := hasN_len (t := t) (p := p) (k := k)
  by_cases hlt : k < t.groups.length
  · have hlt' : (k : Int) < t.groups.length := by omega
    have hrw : ((hasN t p k).map ic).getD k [] = ic (cnG p p.length (k : Int) : Int) := by
      rw [Go.E.row_at (by omega), hasN_at hlt, if_neg (by omega), Int.add_zero]
    have hrg : (t.groups.map Gr.c).getD k [] = Gr.c (t.groups.getD k default) := Go.E.row_at hlt
    have hgr := tt_group ht hlt
    have hle := cnG_le (p := p) (k := p.length) (g := (k : Int))
    have hs : ((hasN t p k).map ic).set k [D.v (Value.int .i64 ((cnG p p.length (k : Int) : Int) + (t.groups.getD k default).cred))] = (hasN t p (k + 1)).map ic := by
      rw [hasN_succ hlt, List.map_set]
    have hk0 : (0 : Int) ≤ k := by omega
    simp (maxSteps := 4000000) +contextual (disch := first | omega | exact qdb_ok (by kernel_rfl) | exact okb_ok (by kernel_rfl)) only [bw1,bw2,bw3,bw4,bw5,bw6,bw7,bc0,bc1,bc2,bc3,bc4,bc5,bc6,AV.isNilS,AV.isNoRows,wk,binIs,addF,AV.isPtr,idxV,AV.isSl,AV.isSlice,AV.rows,ps,pv,AV.upr,AV.menc,D.one,Value.oneCell',AV.dcells,D.cells?,↓reduceIte,reduceCtorEq,Nat.reduceAdd,Nat.reduceLeDiff,Nat.reduceEqDiff,tfb,qd_Rn,O34_5,eq_self, hlt', hlen, hrw, hrg, hs, hk0]
    repeat (refine And.intro (by omega) ?_)
    exact ⟨k + 1, ⟨by omega, by omega⟩, rfl, rfl⟩
  obtain rfl : k = t.groups.length := by omega
  have hfl := ics_flat (hasN t p t.groups.length)
  simp (maxSteps := 4000000) +contextual (disch := first | omega | exact qdb_ok (by kernel_rfl) | exact okb_ok (by kernel_rfl)) only [bw1,bw2,bw3,bw4,bw5,bw6,bw7,bc0,bc1,bc2,bc3,bc4,bc5,bc6,binIs,AV.isSlice,AV.rows,packD,↓reduceIte,reduceCtorEq,tfb,n_retr,AV.outN,eq_self, Int.lt_irrefl, hlen, hfl, hasL]
def ckN (t : Tt) (p : List Int) : Nat → Nat → List Int × Int × Int
  | 0, _ => (hasL t p, (p.length : Int), 0)
  | k + 1, i => if erR t p i = 0 then ckN t p k (i + 1) else ([], (i : Int), erR t p i)
def ckR (t : Tt) (p : List Int) : List Int × Int × Int := if ttOk t = true then (if plOk t p = true then ckN t p p.length 0 else ([], 0, 2)) else ([], 0, 1)
theorem pl_fo {t : Tt} {p : List Int} (h : plOk t p = true) : foP t p ∧ p.length = t.hours.length := by
  unfold plOk at h
  simp only [Bool.and_eq_true, decide_eq_true_eq] at h
  refine ⟨fun j hj => ?_, by omega⟩
  have := all_get.1 h.1 j hj
  rw [inB_iff] at this
  omega
def ent34 (args : List AV) (K : AV → List AV → Sto → Prop) (e : List AV) (s : Sto) : Prop := entn (α := (Tt) × (List Int)) (fun aa => [.agg aa.1.c, .sl 1 (aa.2.map ic)]) (fun aa => ttOk aa.1 = true ∧ aa.2.length ≤ 1000 ∧ foP aa.1 aa.2) (fun aa => .sl 1 ((hasL aa.1 aa.2).map ic)) args K e s
theorem ent34_ok {args : List AV} {K : AV → List AV → Sto → Prop} {Q : Kt} {e : List AV} {s : Sto} (h : ent34 args K e s) : pcall Tryd.prog 34 args K Q e s := entn_ok (fun aa h => pf34 aa.1 aa.2 h) h
theorem eq34 {t : Tt} {p : List Int} {KK : AV → List AV → Sto → Prop} {ee : List AV} {ss : Sto} : ent34 [.d (.agg t.c), .d (.sl 1 (p.map ic))] KK ee ss = ((ttOk t = true ∧ p.length ≤ 1000 ∧ foP t p) ∧ KK (.d (.sl 1 ((hasL t p).map ic))) ee ss) := by
  unfold ent34; rw [entn_iff (t, p) (by intro b h; simpa [Prod.ext_iff, and_assoc, Int.ofNat_inj, ints_inj, hrs_inj, grs_inj, hr_inj, gr_inj, tt_inj] using h) rfl] <;> simp
end Go.Proofs.YtofbbkacihnjdaaDoor
