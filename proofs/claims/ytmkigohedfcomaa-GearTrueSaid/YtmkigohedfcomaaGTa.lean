/- A part of the proof that the last text ends: what functions of the program do, told by plain data. -/
import Derived.Test.YtmkigohedfcomaaGL
import Derived.Test.YtmkigohedfcomaaGU
import Derived.Test.YtmkigohedfcomaaGZ
set_option linter.unusedVariables false
set_option linter.unusedSimpArgs false
namespace Go.Proofs.Ytmkigohedfcomaa
open Go Go.E
set_option maxRecDepth 100000
set_option maxHeartbeats 16000000
/-! ### True wear -/
theorem play_bad' {s : Shop} {l : List Ev} (h : s.ok = false) : play s l = ([], 0, 1) := by unfold play; rw [if_pos h]
theorem play_long' {s : Shop} {l : List Ev} (h : s.ok = true) (hl : 256 < l.length) : play s l = ([], 0, 3) := by unfold play; rw [if_neg (by simp [h]), if_pos hl]
theorem u32_inj {a b : List Int} : (a.map (uc .u32) = b.map (uc .u32)) = (a = b) := inj_map fun _ _ h => by simpa [uc] using h
def pickI (lo hi b : Int) : Int := lo + b % (hi - lo + 1)
theorem pick_in {lo hi b : Int} (h : lo ≤ hi) : lo ≤ pickI lo hi b ∧ pickI lo hi b ≤ hi := by
  have h1 : 0 ≤ b % (hi - lo + 1) := Int.emod_nonneg _ (by omega)
  have h2 : b % (hi - lo + 1) < hi - lo + 1 := Int.emod_lt_of_pos _ (by omega)
  unfold pickI; omega
abbrev ec (l : List Int) : List (List D) := l.map ic
abbrev bc (p : Pair) : List D := [.i p.blade]
abbrev wc (p : Pair) : List D := [.i p.who]
abbrev sc (p : Pair) : List D := [.i p.since]
abbrev gc (p : Pair) : List D := [.b p.gone]
structure Tru (s : Shop) (out : List Pair) (es : List Int) : Prop where
  len : es.length = out.length
  all : ∀ k, k < out.length → (out.getD k default).lo ≤ es.getD k default ∧ es.getD k default ≤ (out.getD k default).hi ∧ 0 ≤ (out.getD k default).lo ∧ (out.getD k default).hi ≤ s.full ∧ ((out.getD k default).gone = true → (out.getD k default).who < 0)
def worn (s : Shop) (x : Ev) (p : Pair) (e b : Int) : Int := max 0 (e - pickI (hours p.since x.time * s.lo) (hours p.since x.time * s.hi) b)
def edges (s : Shop) (x : Ev) (b : Int) (out : List Pair) (es : List Int) : List Int :=
  if x.kind = 0 then es ++ [s.full] else if x.kind = 2 then es.set x.pair.toNat (worn s x (out.getD x.pair.toNat default) (es.getD x.pair.toNat default) b)
  else if x.kind = 3 then es.set x.pair.toNat s.full else es
theorem getD_set1 {α : Type} [Inhabited α] {l : List α} {i k : Nat} {a : α} (h : k < l.length) : (l.set i a).getD k default = if i = k then a else l.getD k default := by
  simp only [List.getD, List.getElem?_set]
  split
  · rename_i e; subst e; simp [h]
  · rfl
theorem getD_app {α : Type} [Inhabited α] {l : List α} {k : Nat} {a : α} (h : k < l.length + 1) : (l ++ [a]).getD k default = if k = l.length then a else l.getD k default := by
  simp only [List.getD]
  split
  · rename_i e; subst e; simp
  · rw [List.getElem?_append_left (by omega)]
theorem map_set_same {f : Pair → List D} {l : List Pair} {k : Nat} {p : Pair} (h : f p = f (l.getD k default)) : (l.set k p).map f = l.map f := by
  apply List.ext_getElem?
  intro i
  simp only [List.getElem?_map, List.getElem?_set]
  split
  · rename_i e; subst e
    split
    · rename_i hl; simp [h, List.getD, List.getElem?_eq_getElem hl]
    · rename_i hl; simp [List.getElem?_eq_none (Nat.le_of_not_lt hl)]
  · rfl
/-- What an event that is accepted shows. -/
structure Done (s : Shop) (x : Ev) (out out' : List Pair) : Prop where
  ok : x.ok = true
  new : x.kind = 0 → out' = out ++ [⟨x.n, s.full, s.full, 5000, -1, 0, false⟩] ∧ out.length < 64
  old : x.kind ≠ 0 → x.pair < out.length ∧ out' = out.set x.pair.toNat (one s out x).1 ∧ (one s out x).2 = 0
theorem done_of {s : Shop} {x : Ev} {out : List Pair} (hx : x.ok = true) (h : (doS s out x).2 = 0) : Done s x out (doS s out x).1 := by
  unfold doS at h ⊢
  split at h
  · rename_i hk
    rw [if_pos hk]
    split at h
    · cases h
    · rename_i hl
      rw [if_neg hl]
      exact ⟨hx, fun _ => ⟨rfl, by omega⟩, fun h => absurd hk h⟩
  · rename_i hk
    rw [if_neg hk]
    split at h
    · cases h
    · rename_i hl
      rw [if_neg hl]
      split at h
      · rename_i h0
        rw [if_pos h0]
        exact ⟨hx, fun h => absurd h hk, fun _ => ⟨by omega, rfl, h0⟩⟩
      · rename_i h0; exact absurd h h0
theorem one_lend {s : Shop} {x : Ev} {out : List Pair} (hk : x.kind = 1) (h : (one s out x).2 = 0) :
    (out.getD x.pair.toNat default).who < 0 ∧ (out.getD x.pair.toNat default).gone = false ∧ has out x.n = false ∧ s.need ≤ (out.getD x.pair.toNat default).lo ∧ (one s out x).1 = { out.getD x.pair.toNat default with who := x.n, since := x.time } := by
  unfold one at h ⊢
  simp only [if_pos hk] at h ⊢
  split at h
  · cases h
  · rename_i h1
    rw [if_neg h1]
    split at h
    · cases h
    · rename_i h2
      rw [if_neg h2]
      split at h
      · cases h
      · rename_i h3
        rw [if_neg h3]
        simp only [not_or, Bool.not_eq_true] at h1 h2
        exact ⟨by omega, h1.2, h2, by omega, rfl⟩
theorem one_ret {s : Shop} {x : Ev} {out : List Pair} (hk : x.kind = 2) (h : (one s out x).2 = 0) :
    0 ≤ (out.getD x.pair.toNat default).who ∧ (one s out x).1 = { out.getD x.pair.toNat default with lo := max 0 ((out.getD x.pair.toNat default).lo - hours (out.getD x.pair.toNat default).since x.time * s.hi), hi := max 0 ((out.getD x.pair.toNat default).hi - hours (out.getD x.pair.toNat default).since x.time * s.lo), who := -1, since := x.time } := by
  unfold one at h ⊢
  simp only [if_neg (show ¬ x.kind = 1 by omega), if_pos hk] at h ⊢
  split at h
  · cases h
  · rename_i h1
    rw [if_neg h1]
    exact ⟨by omega, rfl⟩
theorem one_grind {s : Shop} {x : Ev} {out : List Pair} (hk : x.kind = 3) (h : (one s out x).2 = 0) :
    (out.getD x.pair.toNat default).who < 0 ∧ (out.getD x.pair.toNat default).gone = false ∧ s.least ≤ (out.getD x.pair.toNat default).blade - s.cut ∧ (one s out x).1 = { out.getD x.pair.toNat default with blade := (out.getD x.pair.toNat default).blade - s.cut, lo := s.full, hi := s.full } := by
  unfold one at h ⊢
  simp only [if_neg (show ¬ x.kind = 1 by omega), if_neg (show ¬ x.kind = 2 by omega), if_pos hk] at h ⊢
  split at h
  · cases h
  · rename_i h1
    rw [if_neg h1]
    split at h
    · cases h
    · rename_i h2
      rw [if_neg h2]
      simp only [not_or, Bool.not_eq_true] at h1
      exact ⟨by omega, h1.2, by omega, rfl⟩
theorem one_gone {s : Shop} {x : Ev} {out : List Pair} (hk : x.kind = 4) (h : (one s out x).2 = 0) :
    (out.getD x.pair.toNat default).who < 0 ∧ (out.getD x.pair.toNat default).gone = false ∧ (one s out x).1 = { out.getD x.pair.toNat default with gone := true } := by
  unfold one at h ⊢
  simp only [if_neg (show ¬ x.kind = 1 by omega), if_neg (show ¬ x.kind = 2 by omega), if_neg (show ¬ x.kind = 3 by omega)] at h ⊢
  split at h
  · cases h
  · rename_i h1
    rw [if_neg h1]
    simp only [not_or, Bool.not_eq_true] at h1
    exact ⟨by omega, h1.2, rfl⟩
theorem tru_set {s : Shop} {out : List Pair} {es : List Int} {i : Nat} {p : Pair} {e : Int} (h : Tru s out es) (hi : i < out.length) (hp : p.lo ≤ e ∧ e ≤ p.hi ∧ 0 ≤ p.lo ∧ p.hi ≤ s.full ∧ (p.gone = true → p.who < 0)) : Tru s (out.set i p) (es.set i e) := by
  refine ⟨by simp [h.len], fun k hk => ?_⟩
  rw [List.length_set] at hk
  rw [getD_set1 hk, getD_set1 (by rw [h.len]; exact hk)]
  split
  · exact hp
  · exact h.all k hk
theorem tru_new {s : Shop} {out : List Pair} {es : List Int} {p : Pair} {e : Int} (h : Tru s out es) (hp : p.lo ≤ e ∧ e ≤ p.hi ∧ 0 ≤ p.lo ∧ p.hi ≤ s.full ∧ (p.gone = true → p.who < 0)) : Tru s (out ++ [p]) (es ++ [e]) := by
  refine ⟨by simp [h.len], fun k hk => ?_⟩
  rw [List.length_append, List.length_singleton] at hk
  rw [getD_app hk, getD_app (by rw [h.len]; exact hk), h.len]
  split
  · exact hp
  · exact h.all k (by omega)
theorem set_self {α : Type} [Inhabited α] {l : List α} {i : Nat} : l.set i (l.getD i default) = l := by
  apply List.ext_getElem?
  intro k
  rw [List.getElem?_set]
  split
  · rename_i e; subst e
    split
    · rename_i hl; simp [List.getD, List.getElem?_eq_getElem hl]
    · rename_i hl; simp [List.getElem?_eq_none (Nat.le_of_not_lt hl)]
  · rfl
theorem tru_step {s : Shop} {x : Ev} {b : Int} {out out' : List Pair} {es : List Int} (hs : s.ok = true) (hp : Pre s out x) (h : Tru s out es) (hd : Done s x out out') : Tru s out' (edges s x b out es) := by
  obtain ⟨b1, b2, b3, b4, b5, b6, b7, b8, b9, b10, b11⟩ := Shop.bounds hs
  obtain ⟨e1, e2, e3, e4, e5, e6, e7, e8⟩ := Ev.bounds hd.ok
  by_cases k0 : x.kind = 0
  · rw [(hd.new k0).1]
    unfold edges; rw [if_pos k0]
    exact tru_new h ⟨Int.le_refl _, Int.le_refl _, by simp only; omega, Int.le_refl _, fun h => by cases h⟩
  · obtain ⟨h1, rfl, h3⟩ := hd.old k0
    have hl : x.pair.toNat < out.length := by omega
    have ha := h.all _ hl
    have hm : out.getD x.pair.toNat default ∈ out := by rw [at_lt hl]; exact List.getElem_mem _
    have hf := hp.fit _ hm
    have ht := hp.time _ hm
    unfold edges; rw [if_neg k0]
    by_cases k2 : x.kind = 2
    · rw [if_pos k2, (one_ret k2 h3).2]
      obtain ⟨t1, t2⟩ := hours_bounds hf.si0 ht e2
      unfold worn
      generalize hours (out.getD x.pair.toNat default).since x.time = t at *
      have q1 := Int.mul_le_mul_of_nonneg_left (show s.lo ≤ s.hi by omega) t1
      have q2 := Int.mul_nonneg t1 (show 0 ≤ s.lo by omega)
      obtain ⟨p1, p2⟩ := pick_in (b := b) q1
      refine tru_set h hl ⟨?_, ?_, ?_, ?_, ?_⟩
      · simp only; omega
      · simp only; omega
      · simp only; omega
      · simp only; omega
      · simp
    · rw [if_neg k2]
      by_cases k3 : x.kind = 3
      · rw [if_pos k3, (one_grind k3 h3).2.2.2]
        have := one_grind k3 h3
        exact tru_set h hl ⟨Int.le_refl _, Int.le_refl _, by simp only; omega, Int.le_refl _, fun _ => this.1⟩
      · rw [if_neg k3]
        rw [show es = es.set x.pair.toNat (es.getD x.pair.toNat default) from set_self.symm]
        by_cases k1 : x.kind = 1
        · have := one_lend k1 h3
          rw [this.2.2.2.2]
          exact tru_set h hl ⟨ha.1, ha.2.1, ha.2.2.1, ha.2.2.2.1, fun e => absurd (this.2.1.symm.trans e) (by decide)⟩
        · have := one_gone (show x.kind = 4 by omega) h3
          rw [this.2.2]
          exact tru_set h hl ⟨ha.1, ha.2.1, ha.2.2.1, ha.2.2.2.1, fun _ => this.1⟩
/-- What is known ahead of event i of events that are all accepted. -/
structure Way (s : Shop) (l : List Ev) (i : Nat) (out : List Pair) : Prop where
  good : Good l i out
  go : go s l (l.length - i) i out = play s l
theorem way_step {s : Shop} {l : List Ev} {i : Nat} {out : List Pair} (hok : s.ok = true) (h0 : (play s l).2.2 = 0) (h : Way s l i out) (hi : i < l.length) : Pre s out (l.getD i default) ∧ Done s (l.getD i default) out (doS s out (l.getD i default)).1 ∧ Way s l (i + 1) (doS s out (l.getD i default)).1 := by
  have hg := h.go
  rw [go_at hi] at hg
  have h2 : (stepE s l i out).2 = 0 := by
    by_cases h3 : (stepE s l i out).2 = 0
    · exact h3
    · rw [if_neg h3] at hg
      rw [← hg] at h0
      exact h0
  rw [if_pos h2] at hg
  have hgs := good_step hok h.good h2
  have hx : (l.getD i default).ok = true := by
    unfold stepE at h2
    simp only at h2
    split at h2
    · cases h2
    · rename_i hx; simpa using hx
  have ht : ¬ (0 < i ∧ (l.getD i default).time < (l.getD (i - 1) default).time) := by
    unfold stepE at h2
    simp only at h2
    split at h2
    · cases h2
    · split at h2
      · cases h2
      · assumption
  have hst : stepE s l i out = doS s out (l.getD i default) := by unfold stepE; simp only [hx, Bool.true_eq_false, if_false]; rw [if_neg ht]
  rw [hst] at hg hgs h2
  exact ⟨good_pre hok h.good hx ht, done_of hx h2, hgs, hg⟩
theorem way_end {s : Shop} {l : List Ev} {out : List Pair} (h : Way s l l.length out) : (play s l).1 = out := by
  have := h.go
  rw [go_end rfl] at this
  rw [← this]
def O20 : Nat → Sch := fun id => if id = 1 then .one 0 (.one 1 (.one 2 (.one 3 (.one 4 (.one 5 (.one 6 (.one 7 (.one 8 (.one 9 (.one 10 (.one 11 (.one 12 (.done))))))))))))) else .done
theorem O20_1 : O20 1 = .one 0 (.one 1 (.one 2 (.one 3 (.one 4 (.one 5 (.one 6 (.one 7 (.one 8 (.one 9 (.one 10 (.one 11 (.one 12 (.done))))))))))))) := rfl
theorem ho20 : Try.f20.body.map (okO O20) = some true := by kernel_rfl
def Cf20 : Nat → List AV → (AV → List AV → Sto → Prop) → Kt → List AV → Sto → Prop := fun f args K Q e s => match f with
  | _ => False
def Ct20 : CT := { f := Cf20, y := noYld, z := fun d => false }
theorem ctz20 {d : Nat} : CT.z Ct20 d = (false) := id rfl
theorem Ct20_ok : Ct20.ok Try.prog := ok_of_f (fun f args K Q e s h => by
  have h : Cf20 f args K Q e s := h
  unfold Cf20 at h; split at h
  · exact h.elim) (fun _ _ _ _ _ _ _ _ _ h => h)
theorem c20 : callable Try.prog 20 = true := by kernel_rfl
theorem pf20 (lo hi b : Int) (h : (0 ≤ lo ∧ lo ≤ hi ∧ hi ≤ 20000000) ∧ 0 ≤ b ∧ b ≤ 4294967295) : PF Try.prog 20 [.agg [.i lo, .i hi], .v (.int .u32 b)] (fun zz => zz = .ret (.i (pickI lo hi b))) := by
  obtain ⟨⟨h1, h2, h3⟩, h4, h5⟩ := h
  refine PF_nil (PF_start (O := O20) Ct20_ok hmix ho20 Try.func20 c20 rfl Try.ntmps20 Try.results20 ?_)
  obtain ⟨p1, p2⟩ := pick_in (b := b) h2
  unfold pickI at p1 p2 ⊢
  simp (maxSteps := 4000000) +contextual (disch := first | omega | exact qdb_ok (by kernel_rfl) | exact okb_ok (by kernel_rfl)) only [bw1,bw2,bw3,bw4,bw5,bw6,bw7,zcell,setPs,sv,gif_true,gif_false,gif_eq,AV.frz,Sto.frz,updAll,AV.cpy,Sto.cpy,ifV,isEqB,nilV,nilX,cloV,AV.isNilS,AV.isNoRows,setAll,wk,wkG,AV.own.injEq,dclo,maskB,datOf,Option.any,List.isEmpty,Sto.hidn,binV,binS,binIs,unV,unVs,addF,AV.isPtr,idxV,AV.isSl,AV.isSlice,AV.rows,loadV,loadS,D.part,AV.part,ps,pv,extV,extS,cvI,resAll,resV,resS,AV.outs,outL,AV.outF,Option.map_none,packD,AV.mkAgg,AV.mkTup,AV.dl,fieldV,fieldS,fillV,fillS,AV.cells?,AV.upr,Sto.upr,setR,Sto.get,Sto.ins,Sto.kill,Sto.upd,AV.kill,AV.men,AV.mens,AV.mencs,AV.menc,Sto.mens,Sto.mencs,AV.one,D.one,Value.oneCell',tagOf,AV.isApp,strV,strS,bolV,bolS,slcV,AV.isSlD,optI,optS,asrtS,ifV,bsV,bsS,AV.dcells,D.cells?,AV.no,stcV,stcS,leafOk,eqDs,eqD,Sto.push,Sto.top,Sto.pull,packA,D.val?,D.vals?,beq_self_eq_true,if_true,if_false,ite_true,ite_false,Bool.false_eq_true,Bool.true_eq_false,if_true_left,↓reduceIte,reduceCtorEq,List.getElem?_cons_zero,List.getElem?_cons_succ,List.map_cons,List.map_nil,List.append_nil,List.nil_append,List.cons_append,List.length_cons,List.length_nil,Option.bind_some,Option.getD_some,Option.isSome_some,Option.map_some,true_and,and_true,and_self,true_implies,implies_true,Nat.reduceAdd,Nat.reduceSub,Nat.reduceMul,List.reduceReplicate,List.replicate_zero,List.toList_toArray,Nat.zero_add,Nat.add_zero,List.drop_succ_cons,List.drop_zero,List.take_succ_cons,List.take_zero,List.drop_nil,List.take_nil,Nat.reduceLeDiff,Nat.reduceLT,Nat.reduceBEq,Nat.reduceEqDiff,Int.reduceNeg,Bool.not_true,Bool.not_false,Bool.not_not,Int.reduceEq,Bool.not_eq_true',ne_eq,not_false_eq_true,List.all_cons,List.all_nil,Bool.and_true,Bool.true_and,Bool.and_self,Bool.if_false_right,Bool.if_true_left,Bool.decide_eq_true,Option.some.injEq,exists_eq_left',exists_eq_left,Int.reduceLE,Int.reduceLT,List.not_mem_nil,and_false,false_and,Bool.and_eq_true,decide_eq_true_eq,ite_self,or_true,true_or,or_false,false_or,not_true_eq_false,D.tup.injEq,List.cons.injEq,D.agg.injEq,D.sl.injEq,beq_iff_eq,bne_iff_ne,Bool.or_self,Bool.or_false,Bool.false_or,decide_true,decide_false,End.ret.injEq,D.v.injEq,Value.bool.injEq,Value.int.injEq,tfb,mt97_61,mt99_63,mt101_69,mt102_70,mt103_71,bi_add,bi_sub,bi_mul,bi_quo,bi_rem,bi_and,bi_or,bi_xor,bi_andNot,bi_shl,bi_shr,bi_eql,bi_neq,bi_lss,bi_leq,bi_gtr,bi_geq,D.flat,D.flats,ctz20,O20_1,pickI]
  omega
def ent20 (args : List AV) (K : AV → List AV → Sto → Prop) (e : List AV) (s : Sto) : Prop := ent (α := (Int) × (Int) × (Int)) (fun aa => [.agg [.i aa.1, .i aa.2.1], .v (.int .u32 aa.2.2)]) (fun aa => (0 ≤ aa.1 ∧ aa.1 ≤ aa.2.1 ∧ aa.2.1 ≤ 20000000) ∧ 0 ≤ aa.2.2 ∧ aa.2.2 ≤ 4294967295) (fun aa => .i (pickI aa.1 aa.2.1 aa.2.2)) args K e s
theorem ent20_ok {args : List AV} {K : AV → List AV → Sto → Prop} {Q : Kt} {e : List AV} {s : Sto} (h : ent20 args K e s) : pcall Try.prog 20 args K Q e s := ent_ok (fun aa h => pf20 aa.1 aa.2.1 aa.2.2 h) h
theorem eq20 {lo : Int} {hi : Int} {b : Int} {KK : AV → List AV → Sto → Prop} {ee : List AV} {ss : Sto} : ent20 [.d (.agg [.i lo, .i hi]), .d (.v (.int .u32 b))] KK ee ss = (((0 ≤ lo ∧ lo ≤ hi ∧ hi ≤ 20000000) ∧ 0 ≤ b ∧ b ≤ 4294967295) ∧ KK (.d (.i (pickI lo hi b))) ee ss) := by
  unfold ent20; rw [ent_iff (lo, hi, b) (by intro b h; simpa [Prod.ext_iff, and_assoc, shop_inj, ev_inj, pairs_inj, evs_inj, ints_inj, shop_inj, ev_inj, pairs_inj, evs_inj, ints_inj, u32_inj] using h) rfl]; simp
end Go.Proofs.Ytmkigohedfcomaa
