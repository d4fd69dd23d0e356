/- A part of the proof that the last text ends: what functions of the program do, told by plain data. -/
import Derived.Test.YtmkigohedfcomaaGC
set_option linter.unusedVariables false
set_option linter.unusedSimpArgs false
namespace Go.Proofs.Ytmkigohedfcomaa
open Go Go.E
set_option maxRecDepth 100000
structure Pair.fit (p : Pair) : Prop where
  lo0 : 0 ≤ p.lo
  lo1 : p.lo ≤ 10000
  hi0 : 0 ≤ p.hi
  hi1 : p.hi ≤ 10000
  bl0 : 0 ≤ p.blade
  bl1 : p.blade ≤ 5000
  si0 : 0 ≤ p.since
  si1 : p.since ≤ 1048576
  wh0 : -1 ≤ p.who
  wh1 : p.who ≤ 4095
def one (s : Shop) (l : List Pair) (x : Ev) : Pair × Int :=
  let p := l.getD x.pair.toNat default
  if x.kind = 1 then
    if 0 ≤ p.who ∨ p.gone = true then (p, 6) else if has l x.n = true then (p, 5) else if p.lo < s.need then (p, 11) else ({ p with who := x.n, since := x.time }, 0)
  else if x.kind = 2 then
    if ¬ 0 ≤ p.who then (p, 6) else
      ({ p with lo := max 0 (p.lo - hours p.since x.time * s.hi), hi := max 0 (p.hi - hours p.since x.time * s.lo), who := -1, since := x.time }, 0)
  else if x.kind = 3 then
    if 0 ≤ p.who ∨ p.gone = true then (p, 6) else if p.blade - s.cut < s.least then (p, 10) else ({ p with blade := p.blade - s.cut, lo := s.full, hi := s.full }, 0)
  else
    if 0 ≤ p.who ∨ p.gone = true then (p, 6) else ({ p with gone := true }, 0)
structure Pre (s : Shop) (l : List Pair) (x : Ev) : Prop where
  ok : s.ok = true
  ev : x.ok = true
  len : l.length ≤ 64
  fit : ∀ p ∈ l, p.fit
  time : ∀ p ∈ l, p.since ≤ x.time
theorem Ev.bounds {x : Ev} (h : x.ok = true) : 0 ≤ x.time ∧ x.time ≤ 1048576 ∧ 0 ≤ x.kind ∧ x.kind ≤ 4 ∧ 0 ≤ x.pair ∧ x.pair ≤ 63 ∧ 0 ≤ x.n ∧ x.n ≤ 4095 := by
  unfold Ev.ok at h
  simp only [Bool.and_eq_true, decide_eq_true_eq] at h
  split at h
  · simp at h; omega
  · split at h
    · simp at h; omega
    · simp at h; omega
theorem hours_bounds {a b : Int} (h1 : 0 ≤ a) (h2 : a ≤ b) (h3 : b ≤ 1048576) : 0 ≤ hours a b ∧ hours a b ≤ 20000 := by unfold hours; omega
theorem mul_b {a b : Int} (ha : 0 ≤ a) (ha' : a ≤ 20000) (hb : 0 ≤ b) (hb' : b ≤ 1000) : 0 ≤ a * b ∧ a * b ≤ 20000000 :=
  ⟨Int.mul_nonneg ha hb, Int.le_trans (Int.mul_le_mul ha' hb' hb (by decide)) (by decide)⟩
def O42 : Nat → Sch := fun id => if id = 2 then .one 0 (.one 1 (.one 2 (.one 3 (.one 4 (.one 5 (.one 6 (.done))))))) else .done
theorem O42_2 : O42 2 = .one 0 (.one 1 (.one 2 (.one 3 (.one 4 (.one 5 (.one 6 (.done))))))) := rfl
theorem ho42 : Try.f42.body.map (okO O42) = some true := by kernel_rfl
def Cf42 : Nat → List AV → (AV → List AV → Sto → Prop) → Kt → List AV → Sto → Prop := fun f args K Q e s => match f with
  | 19 => ent19 args K e s
  | 45 => ent45 args K e s
  | _ => False
def Ct42 : CT := { f := Cf42, y := noYld, z := fun d => false }
theorem ctz42 {d : Nat} : CT.z Ct42 d = (false) := id rfl
theorem Ct42_ok : Ct42.ok Try.prog := ok_of_f (fun f args K Q e s h => by
  have h : Cf42 f args K Q e s := h
  unfold Cf42 at h; split at h
  · exact ent19_ok h
  · exact ent45_ok h
  · exact h.elim) (fun _ _ _ _ _ _ _ _ _ h => h)
theorem x42_45 {l : List Pair} {n : Int} {KK : AV → List AV → Sto → Prop} {QQ : Kt} {ii : At KK} {jj : At QQ} {ee : List AV} {ss : Sto} : xC Ct42 45 [.d (.sl 7 (l.map Pair.c)), .d (.i n)] KK QQ ii jj ee ss = ((l.length ≤ 1000) ∧ KK (.d (.b (has l n))) ee ss) := eq45
theorem x42_45_m1 {l : List Pair} {n : Int} {g1 el1 : Nat} {KK : AV → List AV → Sto → Prop} {QQ : Kt} {ii : At KK} {jj : At QQ} {ee : List AV} {ss : Sto} : xC Ct42 45 [.own g1 el1 7 (l.map Pair.c), .d (.i n)] KK QQ ii jj ee ss = ((l.length ≤ 1000) ∧ (.b (has l n) : D).flat = true ∧ KK (.d (.b (has l n))) ee ss) := eqo45
theorem x42_19 {a : Int} {b : Int} {KK : AV → List AV → Sto → Prop} {QQ : Kt} {ii : At KK} {jj : At QQ} {ee : List AV} {ss : Sto} : xC Ct42 19 [.d (.i a), .d (.i b)] KK QQ ii jj ee ss = ((0 ≤ a ∧ a ≤ b ∧ b ≤ 10000000) ∧ KK (.d (.i (hours a b))) ee ss) := eq19
theorem c42 : callable Try.prog 42 = true := by kernel_rfl
theorem pf42 (s : Shop) (l : List Pair) (x : Ev) (h : Pre s l x ∧ x.pair < l.length) : PF Try.prog 42 [s.d, .sl 7 (l.map Pair.c), .agg x.c] (fun zz => zz = .ret (.tup [.agg (one s l x).1.c, .i (one s l x).2])) := by
  obtain ⟨⟨hok, hev, hlen, hfit, htime⟩, hlt⟩ := h
  obtain ⟨e1, e2, e3, e4, e5, e6, e7, e8⟩ := Ev.bounds hev
  obtain ⟨b1, b2, b3, b4, b5, b6, b7, b8, b9, b10, b11⟩ := Shop.bounds hok
  have hm : l.getD x.pair.toNat default ∈ l := by rw [at_lt (by omega)]; exact List.getElem_mem _
  obtain ⟨p1, p2, p3, p4, p5, p6, p7, p8, p9, p10⟩ := hfit _ hm
  have ht := htime _ hm
  clear hfit htime hm
  obtain ⟨t1, t2⟩ := hours_bounds p7 ht e2
  obtain ⟨m1, m2⟩ := mul_b t1 t2 (show 0 ≤ s.hi by omega) (by omega)
  obtain ⟨m3, m4⟩ := mul_b t1 t2 (show 0 ≤ s.lo by omega) (by omega)
  refine PF_nil (PF_start (O := O42) Ct42_ok hmix ho42 Try.func42 c42 rfl Try.ntmps42 Try.results42 ?_)
  simp (maxSteps := 4000000) +contextual (disch := first | omega | exact qdb_ok (by kernel_rfl) | exact okb_ok (by kernel_rfl)) only [bw1,bw2,bw3,bw4,bw5,bw6,bw7,zcell,setPs,sv,gif_true,gif_false,gif_eq,AV.frz,Sto.frz,updAll,AV.cpy,Sto.cpy,ifV,isEqB,nilV,nilX,cloV,AV.isNilS,AV.isNoRows,setAll,wk,wkG,AV.own.injEq,dclo,maskB,datOf,Option.any,List.isEmpty,Sto.hidn,binV,binS,binI,binIs,unV,unVs,addF,AV.isPtr,idxV,AV.isSl,AV.isSlice,AV.rows,loadV,loadS,D.part,AV.part,ps,pv,extV,extS,cvI,resAll,resV,resS,AV.outs,outL,AV.outF,Option.map_none,packD,AV.mkAgg,AV.mkTup,AV.dl,fieldV,fieldS,fillV,fillS,AV.cells?,AV.upr,Sto.upr,setR,Sto.get,Sto.ins,Sto.kill,Sto.upd,AV.kill,AV.men,AV.mens,AV.mencs,AV.menc,Sto.mens,Sto.mencs,AV.one,D.one,Value.oneCell',tagOf,AV.isApp,strV,strS,bolV,bolS,slcV,AV.isSlD,optI,optS,asrtS,ifV,bsV,bsS,AV.dcells,D.cells?,AV.no,stcV,stcS,leafOk,eqDs,eqD,Sto.push,Sto.top,Sto.pull,packA,D.val?,D.vals?,beq_self_eq_true,if_true,if_false,ite_true,ite_false,Bool.false_eq_true,Bool.true_eq_false,if_true_left,↓reduceIte,reduceCtorEq,List.getElem?_cons_zero,List.getElem?_cons_succ,List.map_cons,List.map_nil,List.append_nil,List.nil_append,List.cons_append,List.length_cons,List.length_nil,Option.bind_some,Option.getD_some,Option.isSome_some,Option.map_some,true_and,and_true,and_self,true_implies,implies_true,Nat.reduceAdd,Nat.reduceSub,Nat.reduceMul,List.reduceReplicate,List.replicate_zero,List.toList_toArray,Nat.zero_add,Nat.add_zero,List.drop_succ_cons,List.drop_zero,List.take_succ_cons,List.take_zero,List.drop_nil,List.take_nil,Nat.reduceLeDiff,Nat.reduceLT,Nat.reduceBEq,Nat.reduceEqDiff,Int.reduceNeg,Bool.not_true,Bool.not_false,Bool.not_not,Int.reduceEq,Bool.not_eq_true',ne_eq,not_false_eq_true,List.all_cons,List.all_nil,Bool.and_true,Bool.true_and,Bool.and_self,Bool.if_false_right,Bool.if_true_left,Bool.decide_eq_true,Option.some.injEq,exists_eq_left',exists_eq_left,Int.reduceLE,Int.reduceLT,List.not_mem_nil,and_false,false_and,Bool.and_eq_true,decide_eq_true_eq,ite_self,or_true,true_or,or_false,false_or,not_true_eq_false,D.tup.injEq,List.cons.injEq,D.agg.injEq,D.sl.injEq,beq_iff_eq,bne_iff_ne,Bool.or_self,Bool.or_false,Bool.false_or,decide_true,decide_false,End.ret.injEq,D.v.injEq,Value.bool.injEq,Value.int.injEq,tfb,mt97_61,mt99_63,mt101_69,mt102_70,mt103_71,ctz42,O42_2,x42_45,x42_45_m1,x42_19,Pair.c]
  refine ⟨⟨by omega, by omega⟩, ?_⟩
  unfold one
  generalize l.getD x.pair.toNat default = p at *
  obtain ⟨ps, pl, ph, pb, pw, pn, pg⟩ := p
  clear b1 b2 b3 b4 b5 b6 b7 b8 b9 b10 b11 m1 m2 m3 m4 t1 t2
  dsimp only at *
  by_cases k1 : x.kind = 1
  · by_cases hw : 0 ≤ pw <;> cases pg <;> simp [k1, hw] <;> (repeat' split) <;> simp_all <;> omega
  · by_cases k2 : x.kind = 2
    · by_cases hw : 0 ≤ pw <;> simp [k1, k2, hw] <;> (repeat' split) <;> (try simp_all) <;> (try omega)
    · by_cases k3 : x.kind = 3
      · by_cases hw : 0 ≤ pw <;> cases pg <;> simp [k1, k2, k3, hw] <;> (repeat' split) <;> (try simp_all) <;> (try omega)
      · by_cases hw : 0 ≤ pw <;> cases pg <;> simp [k1, k2, k3, hw] <;> (repeat' split) <;> (try simp_all) <;> (try omega)
def doS (s : Shop) (l : List Pair) (x : Ev) : List Pair × Int :=
  if x.kind = 0 then (if 64 ≤ l.length then (l, 9) else (l ++ [⟨x.n, s.full, s.full, 5000, -1, 0, false⟩], 0))
  else if (l.length : Int) ≤ x.pair then (l, 4) else if (one s l x).2 = 0 then (l.set x.pair.toNat (one s l x).1, 0) else (l, (one s l x).2)
def ent42 (args : List AV) (K : AV → List AV → Sto → Prop) (e : List AV) (s : Sto) : Prop := ent (α := (Shop) × (List Pair) × (Ev)) (fun aa => [aa.1.d, .sl 7 (aa.2.1.map Pair.c), .agg aa.2.2.c]) (fun aa => Pre aa.1 aa.2.1 aa.2.2 ∧ aa.2.2.pair < aa.2.1.length) (fun aa => .tup [.agg (one aa.1 aa.2.1 aa.2.2).1.c, .i (one aa.1 aa.2.1 aa.2.2).2]) args K e s
theorem ent42_ok {args : List AV} {K : AV → List AV → Sto → Prop} {Q : Kt} {e : List AV} {s : Sto} (h : ent42 args K e s) : pcall Try.prog 42 args K Q e s := ent_ok (fun aa h => pf42 aa.1 aa.2.1 aa.2.2 h) h
theorem eq42 {s : Shop} {l : List Pair} {x : Ev} {KK : AV → List AV → Sto → Prop} {ee : List AV} {ss : Sto} : ent42 [.d (s.d), .d (.sl 7 (l.map Pair.c)), .d (.agg x.c)] KK ee ss = ((Pre s l x ∧ x.pair < l.length) ∧ KK (.d (.tup [.agg (one s l x).1.c, .i (one s l x).2])) ee ss) := by
  unfold ent42; rw [ent_iff (s, l, x) (by intro b h; simpa [Prod.ext_iff, and_assoc, shop_inj, ev_inj, pairs_inj, evs_inj, ints_inj] using h) rfl]; simp
theorem eqo42 {s : Shop} {l : List Pair} {x : Ev} {g1 el1 : Nat} {KK : AV → List AV → Sto → Prop} {ee : List AV} {ss : Sto} : ent42 [.d (s.d), .own g1 el1 7 (l.map Pair.c), .d (.agg x.c)] KK ee ss = ((Pre s l x ∧ x.pair < l.length) ∧ (.tup [.agg (one s l x).1.c, .i (one s l x).2] : D).flat = true ∧ KK (.d (.tup [.agg (one s l x).1.c, .i (one s l x).2])) ee ss) := by
  unfold ent42; rw [ent_iff (s, l, x) (by intro b h; simpa [Prod.ext_iff, and_assoc, shop_inj, ev_inj, pairs_inj, evs_inj, ints_inj] using h) rfl]; simp
def O24 : Nat → Sch := fun id => .done
theorem ho24 : Try.f24.body.map (okO O24) = some true := by kernel_rfl
def Cf24 : Nat → List AV → (AV → List AV → Sto → Prop) → Kt → List AV → Sto → Prop := fun f args K Q e s => match f with
  | 42 => ent42 args K e s
  | _ => False
def Ct24 : CT := { f := Cf24, y := noYld, z := fun d => false }
theorem ctz24 {d : Nat} : CT.z Ct24 d = (false) := id rfl
theorem Ct24_ok : Ct24.ok Try.prog := ok_of_f (fun f args K Q e s h => by
  have h : Cf24 f args K Q e s := h
  unfold Cf24 at h; split at h
  · exact ent42_ok h
  · exact h.elim) (fun _ _ _ _ _ _ _ _ _ h => h)
theorem x24_42 {s : Shop} {l : List Pair} {x : Ev} {KK : AV → List AV → Sto → Prop} {QQ : Kt} {ii : At KK} {jj : At QQ} {ee : List AV} {ss : Sto} : xC Ct24 42 [.d (s.d), .d (.sl 7 (l.map Pair.c)), .d (.agg x.c)] KK QQ ii jj ee ss = ((Pre s l x ∧ x.pair < l.length) ∧ KK (.d (.tup [.agg (one s l x).1.c, .i (one s l x).2])) ee ss) := eq42
theorem x24_42_m1 {s : Shop} {l : List Pair} {x : Ev} {g1 el1 : Nat} {KK : AV → List AV → Sto → Prop} {QQ : Kt} {ii : At KK} {jj : At QQ} {ee : List AV} {ss : Sto} : xC Ct24 42 [.d (s.d), .own g1 el1 7 (l.map Pair.c), .d (.agg x.c)] KK QQ ii jj ee ss = ((Pre s l x ∧ x.pair < l.length) ∧ (.tup [.agg (one s l x).1.c, .i (one s l x).2] : D).flat = true ∧ KK (.d (.tup [.agg (one s l x).1.c, .i (one s l x).2])) ee ss) := eqo42
theorem c24 : callable Try.prog 24 = true := by kernel_rfl
theorem pf24 (s : Shop) (l : List Pair) (x : Ev) (h : Pre s l x) : PF Try.prog 24 [s.d, .sl 7 (l.map Pair.c), .agg x.c] (fun zz => zz = .ret (.tup [.sl 7 ((doS s l x).1.map Pair.c), .i (doS s l x).2])) := by
  have hp := h
  obtain ⟨hok, hev, hlen, hfit, htime⟩ := h
  obtain ⟨e1, e2, e3, e4, e5, e6, e7, e8⟩ := Ev.bounds hev
  refine PF_nil (PF_start (O := O24) Ct24_ok hmix ho24 Try.func24 c24 rfl Try.ntmps24 Try.results24 ?_)
  simp (maxSteps := 4000000) +contextual (disch := first | omega | exact qdb_ok (by kernel_rfl) | exact okb_ok (by kernel_rfl)) only [bw1,bw2,bw3,bw4,bw5,bw6,bw7,zcell,setPs,sv,gif_true,gif_false,gif_eq,AV.frz,Sto.frz,updAll,AV.cpy,Sto.cpy,ifV,isEqB,nilV,nilX,cloV,AV.isNilS,AV.isNoRows,setAll,wk,wkG,AV.own.injEq,dclo,maskB,datOf,Option.any,List.isEmpty,Sto.hidn,binV,binS,binI,binIs,unV,unVs,addF,AV.isPtr,idxV,AV.isSl,AV.isSlice,AV.rows,loadV,loadS,D.part,AV.part,ps,pv,extV,extS,cvI,resAll,resV,resS,AV.outs,outL,AV.outF,Option.map_none,packD,AV.mkAgg,AV.mkTup,AV.dl,fieldV,fieldS,fillV,fillS,AV.cells?,AV.upr,Sto.upr,setR,Sto.get,Sto.ins,Sto.kill,Sto.upd,AV.kill,AV.men,AV.mens,AV.mencs,AV.menc,Sto.mens,Sto.mencs,AV.one,D.one,Value.oneCell',tagOf,AV.isApp,strV,strS,bolV,bolS,slcV,AV.isSlD,optI,optS,asrtS,ifV,bsV,bsS,AV.dcells,D.cells?,AV.no,stcV,stcS,leafOk,eqDs,eqD,Sto.push,Sto.top,Sto.pull,packA,D.val?,D.vals?,beq_self_eq_true,if_true,if_false,ite_true,ite_false,Bool.false_eq_true,Bool.true_eq_false,if_true_left,↓reduceIte,reduceCtorEq,List.getElem?_cons_zero,List.getElem?_cons_succ,List.map_cons,List.map_nil,List.append_nil,List.nil_append,List.cons_append,List.length_cons,List.length_nil,Option.bind_some,Option.getD_some,Option.isSome_some,Option.map_some,true_and,and_true,and_self,true_implies,implies_true,Nat.reduceAdd,Nat.reduceSub,Nat.reduceMul,List.reduceReplicate,List.replicate_zero,List.toList_toArray,Nat.zero_add,Nat.add_zero,List.drop_succ_cons,List.drop_zero,List.take_succ_cons,List.take_zero,List.drop_nil,List.take_nil,Nat.reduceLeDiff,Nat.reduceLT,Nat.reduceBEq,Nat.reduceEqDiff,Int.reduceNeg,Bool.not_true,Bool.not_false,Bool.not_not,Int.reduceEq,Bool.not_eq_true',ne_eq,not_false_eq_true,List.all_cons,List.all_nil,Bool.and_true,Bool.true_and,Bool.and_self,Bool.if_false_right,Bool.if_true_left,Bool.decide_eq_true,Option.some.injEq,exists_eq_left',exists_eq_left,Int.reduceLE,Int.reduceLT,List.not_mem_nil,and_false,false_and,Bool.and_eq_true,decide_eq_true_eq,ite_self,or_true,true_or,or_false,false_or,not_true_eq_false,D.tup.injEq,List.cons.injEq,D.agg.injEq,D.sl.injEq,beq_iff_eq,bne_iff_ne,Bool.or_self,Bool.or_false,Bool.false_or,decide_true,decide_false,End.ret.injEq,D.v.injEq,Value.bool.injEq,Value.int.injEq,tfb,mt97_61,mt99_63,mt101_69,mt102_70,mt103_71,ctz24,x24_42,x24_42_m1]
  refine ⟨by omega, by omega, ?_⟩
  unfold doS
  by_cases k : x.kind = 0
  · by_cases h64 : (64 : Int) ≤ l.length
    · have : 64 ≤ l.length := by omega
      simp [k, h64, this]
    · have : ¬ 64 ≤ l.length := by omega
      simp [k, h64, this]
      omega
  · by_cases hl : (l.length : Int) ≤ x.pair
    · simp [k, hl]
    · have hl' : x.pair < l.length := by omega
      by_cases h0 : (one s l x).2 = 0
      · simp [k, hl, h0, hp, hl', e5, List.map_set]
      · simp [k, hl, h0, hp, hl', e5]
def ent24 (args : List AV) (K : AV → List AV → Sto → Prop) (e : List AV) (s : Sto) : Prop := ent (α := (Shop) × (List Pair) × (Ev)) (fun aa => [aa.1.d, .sl 7 (aa.2.1.map Pair.c), .agg aa.2.2.c]) (fun aa => Pre aa.1 aa.2.1 aa.2.2) (fun aa => .tup [.sl 7 ((doS aa.1 aa.2.1 aa.2.2).1.map Pair.c), .i (doS aa.1 aa.2.1 aa.2.2).2]) args K e s
theorem ent24_ok {args : List AV} {K : AV → List AV → Sto → Prop} {Q : Kt} {e : List AV} {s : Sto} (h : ent24 args K e s) : pcall Try.prog 24 args K Q e s := ent_ok (fun aa h => pf24 aa.1 aa.2.1 aa.2.2 h) h
theorem eq24 {s : Shop} {l : List Pair} {x : Ev} {KK : AV → List AV → Sto → Prop} {ee : List AV} {ss : Sto} : ent24 [.d (s.d), .d (.sl 7 (l.map Pair.c)), .d (.agg x.c)] KK ee ss = ((Pre s l x) ∧ KK (.d (.tup [.sl 7 ((doS s l x).1.map Pair.c), .i (doS s l x).2])) ee ss) := by
  unfold ent24; rw [ent_iff (s, l, x) (by intro b h; simpa [Prod.ext_iff, and_assoc, shop_inj, ev_inj, pairs_inj, evs_inj, ints_inj] using h) rfl]; simp
theorem eqo24 {s : Shop} {l : List Pair} {x : Ev} {g1 el1 : Nat} {KK : AV → List AV → Sto → Prop} {ee : List AV} {ss : Sto} : ent24 [.d (s.d), .own g1 el1 7 (l.map Pair.c), .d (.agg x.c)] KK ee ss = ((Pre s l x) ∧ (.tup [.sl 7 ((doS s l x).1.map Pair.c), .i (doS s l x).2] : D).flat = true ∧ KK (.d (.tup [.sl 7 ((doS s l x).1.map Pair.c), .i (doS s l x).2])) ee ss) := by
  unfold ent24; rw [ent_iff (s, l, x) (by intro b h; simpa [Prod.ext_iff, and_assoc, shop_inj, ev_inj, pairs_inj, evs_inj, ints_inj] using h) rfl]; simp
end Go.Proofs.Ytmkigohedfcomaa
