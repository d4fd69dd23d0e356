/- A part of the proof that the last text ends: what functions of the program do, told by plain data. -/
import Derived.Test.YtapglfcaghlpfaaGreatZSU
import Derived.Test.YtapglfcaghlpfaaGreatEc
set_option linter.unusedVariables false
set_option linter.unusedSimpArgs false
namespace Go.Proofs.YtapglfcaghlpfaaGreat
open Go Go.E Go.Maps
set_option maxRecDepth 100000
set_option maxHeartbeats 16000000
abbrev ui (r : Int) : D := .v (.int .u64 r)
def O88 : Nat → Sch := fun id => if id = 1 then .one 0 (.one 1 (.one 2 (.one 3 (.one 4 (.one 5 (.one 6 (.one 7 (.one 8 (.one 9 (.done)))))))))) else if id = 2 then .one 0 (.one 1 (.one 2 (.one 3 (.one 4 (.one 5 (.one 6 (.one 7 (.one 8 (.one 9 (.done)))))))))) else if id = 3 then .one 0 (.one 1 (.one 2 (.one 3 (.one 4 (.one 5 (.one 6 (.one 7 (.one 8 (.one 9 (.done)))))))))) else .done
theorem O88_1 : O88 1 = .one 0 (.one 1 (.one 2 (.one 3 (.one 4 (.one 5 (.one 6 (.one 7 (.one 8 (.one 9 (.done)))))))))) := rfl
theorem O88_2 : O88 2 = .one 0 (.one 1 (.one 2 (.one 3 (.one 4 (.one 5 (.one 6 (.one 7 (.one 8 (.one 9 (.done)))))))))) := rfl
theorem O88_3 : O88 3 = .one 0 (.one 1 (.one 2 (.one 3 (.one 4 (.one 5 (.one 6 (.one 7 (.one 8 (.one 9 (.done)))))))))) := rfl
theorem ho88 : Tryz.f88.body.map (okO O88) = some true := by kernel_rfl
theorem c88 : callable Tryz.prog 88 = true := by kernel_rfl
def Ct88 : CT := { f := fun _ _ _ _ _ _ => False, y := noYld }
theorem Ct88_ok : Ct88.ok Tryz.prog := ok_of_f (fun _ _ _ _ _ _ h => h.elim) (fun _ _ _ _ _ _ _ _ _ h => h)
theorem does112 (r : Int) : pcall Tryz.prog 88 [.ref 10 0] (fun r e1 s1 => e1 = [.ref 10 0] ∧ ∃ r', r = .d (ui r') ∧ s1 = [(0, []), (10, [.d (ui r')])]) (fun x e1 s1 => e1 = [.ref 10 0] ∧ match x with | .panic _ => False | _ => False) [.ref 10 0] ((0, []) :: [(10, [.d (ui r)])]) := by
  refine pcall_start (O := O88) (tb := 88000) Ct88_ok hmix ho88 Tryz.func88 c88 rfl Tryz.ntmps88 Tryz.results88 ?_
  simp (maxSteps := 4000000) +contextual (disch := first | omega | exact qdb_ok (by kernel_rfl) | exact okb_ok (by kernel_rfl)) only [bw1,bw2,bw3,bw5,bw6,Sto.hidn,binV,binS,binIs,AV.isPtr,loadV,loadS,AV.part,resAll,resV,resS,AV.cells?,setR,Sto.get,Sto.upd,AV.mencs,AV.menc,Sto.mencs,AV.one,D.one,Value.oneCell',Sto.push,Sto.top,Sto.pull,packA,Bool.false_eq_true,↓reduceIte,reduceCtorEq,List.map_cons,List.map_nil,List.nil_append,List.cons_append,List.length_cons,List.length_nil,Option.getD_some,Option.isSome_some,Option.map_some,true_and,and_true,and_self,Nat.reduceAdd,Nat.reduceSub,List.reduceReplicate,List.toList_toArray,Nat.zero_add,Nat.add_zero,List.drop_succ_cons,List.take_succ_cons,List.drop_nil,List.take_nil,Nat.reduceLeDiff,ne_eq,not_false_eq_true,List.all_cons,List.all_nil,Bool.and_self,Int.reduceLE,List.not_mem_nil,List.cons.injEq,Bool.or_self,tfb,bi_xor,bi_shl,bi_shr,O88_1,O88_2,O88_3]
  exact ⟨_, rfl, rfl⟩
def sp88 (args : List AV) (K : AV → List AV → Sto → Prop) (e : List AV) (s : Sto) : Prop :=
  ∃ r : Int, args = [.ref 10 0] ∧ FrameOk [10] [.ref 10 0] args [(10, [.d (ui r)])] e s ∧ ∀ r', K (.d (ui r')) e (mer [10] [(0, []), (10, [.d (ui r')])] s)
theorem sp88_ok {args : List AV} {K : AV → List AV → Sto → Prop} {Q : Kt} {e : List AV} {s : Sto} (h : sp88 args K e s) : pcall Tryz.prog 88 args K Q e s := by
  obtain ⟨r, rfl, hF, hK⟩ := h
  refine pcall_frame (R := fun r s1 => ∃ r', r = .d (ui r') ∧ s1 = [(0, []), (10, [.d (ui r')])]) (RQ := fun _ _ => False) hF (does112 r) ?_ (fun _ _ h => h.elim)
  rintro r s1 ⟨r', rfl, rfl⟩
  refine ⟨⟨rfl, fun g c hg hc => ?_⟩, hK r'⟩
  simp at hg; subst hg
  simp [Sto.get] at hc; subst hc
  rfl
def pow2 (n : Int) : Nat := if n ≤ 15 then 16 else 32
def O87 : Nat → Sch := fun id => .done
theorem ho87 : Tryz.f87.body.map (okO O87) = some true := by kernel_rfl
def Cf87 : Nat → List AV → (AV → List AV → Sto → Prop) → Kt → List AV → Sto → Prop := fun f args K Q e s => match f with
  | 40 => ent40 args K e s
  | _ => False
def Ct87 : CT := { f := Cf87, y := noYld, z := fun d => false }
theorem Ct87_ok : Ct87.ok Tryz.prog := ok_of_f (fun f args K Q e s h => by
  have h : Cf87 f args K Q e s := h
  unfold Cf87 at h; split at h
  · exact ent40_ok h
  · exact h.elim) (fun _ _ _ _ _ _ _ _ _ h => h)
theorem x87_40 {n : Int} {KK : AV → List AV → Sto → Prop} {QQ : Kt} {ii : At KK} {jj : At QQ} {ee : List AV} {ss : Sto} : xC Ct87 40 [.d (.v (.int .u64 n))] KK QQ ii jj ee ss = ((0 ≤ n ∧ n ≤ 16) ∧ KK (.d (.i (lenN n))) ee ss) := eq40
theorem c87 : callable Tryz.prog 87 = true := by kernel_rfl
theorem pf87 (n : Int) (h : 8 ≤ n ∧ n ≤ 16) : PF Tryz.prog 87 [.i n] (fun zz => zz = .ret (.v (.int .u64 (pow2 n : Int)))) := by
  obtain ⟨h1, h2⟩ := h
  have h64 : IntKind.u64.wrap n = n := u64_in' (by omega)
  have hl0 : (0 : Int) ≤ n := by omega
  refine PF_nil (PF_start (O := O87) Ct87_ok hmix ho87 Tryz.func87 c87 rfl Tryz.ntmps87 Tryz.results87 ?_)
  simp (maxSteps := 4000000) +contextual (disch := first | omega | exact qdb_ok (by kernel_rfl) | exact okb_ok (by kernel_rfl)) only [bw1,bw2,bw3,bw5,bw6,binV,binS,binIs,cvI,resAll,resV,resS,AV.outs,outL,AV.outF,packD,Sto.get,Bool.false_eq_true,↓reduceIte,List.map_cons,List.map_nil,List.nil_append,List.cons_append,List.length_cons,List.length_nil,Option.isSome_some,true_and,and_self,Nat.reduceSub,List.reduceReplicate,List.toList_toArray,Nat.zero_add,Value.int.injEq,tfb,bi_shl,x87_40,h64, hl0]
  rcases (show n = 8 ∨ n = 9 ∨ n = 10 ∨ n = 11 ∨ n = 12 ∨ n = 13 ∨ n = 14 ∨ n = 15 ∨ n = 16 by omega) with rfl | rfl | rfl | rfl | rfl | rfl | rfl | rfl | rfl <;> (first | (exact ⟨by omega, of_decide_eq_true (by kernel_rfl), by kernel_rfl⟩) | (trace_state; sorry))
def ent87 (args : List AV) (K : AV → List AV → Sto → Prop) (e : List AV) (s : Sto) : Prop := ent (α := (Int)) (fun aa => [.i aa]) (fun aa => 8 ≤ aa ∧ aa ≤ 16) (fun aa => .v (.int .u64 (pow2 aa : Int))) args K e s
theorem ent87_ok {args : List AV} {K : AV → List AV → Sto → Prop} {Q : Kt} {e : List AV} {s : Sto} (h : ent87 args K e s) : pcall Tryz.prog 87 args K Q e s := ent_ok (fun aa h => pf87 aa h) h
theorem eq87 {n : Int} {KK : AV → List AV → Sto → Prop} {ee : List AV} {ss : Sto} : ent87 [.d (.i n)] KK ee ss = ((8 ≤ n ∧ n ≤ 16) ∧ KK (.d (.v (.int .u64 (pow2 n : Int)))) ee ss) := by
  unfold ent87; rw [ent_iff n (by intro b h; simpa [Prod.ext_iff, and_assoc, Int.ofNat_inj, ints_inj, cals_inj, pcs_inj, skas_inj, scos_inj, ska_inj, rul_inj, sco_inj, cal_inj, ods_inj, od_inj] using h) rfl]; simp
def O98 : Nat → Sch := fun id => if id = 10 then .one 0 (.one 1 (.one 2 (.one 3 (.one 4 (.one 5 (.one 6 (.one 7 (.one 8 (.one 9 (.one 10 (.one 11 (.one 12 (.one 13 (.one 14 (.one 15 (.one 16 (.one 17 (.one 18 (.one 19 (.done)))))))))))))))))))) else .done
theorem O98_10 : O98 10 = .one 0 (.one 1 (.one 2 (.one 3 (.one 4 (.one 5 (.one 6 (.one 7 (.one 8 (.one 9 (.one 10 (.one 11 (.one 12 (.one 13 (.one 14 (.one 15 (.one 16 (.one 17 (.one 18 (.one 19 (.done)))))))))))))))))))) := rfl
theorem ho98 : Tryz.f98.body.map (okO O98) = some true := by kernel_rfl
def Cf98 : Nat → List AV → (AV → List AV → Sto → Prop) → Kt → List AV → Sto → Prop := fun f args K Q e s => match f with
  | 87 => ent87 args K e s
  | 88 => sp88 args K e s
  | _ => False
def Ct98 : CT := { f := Cf98, y := noYld, z := fun d => false }
theorem Ct98_ok : Ct98.ok Tryz.prog := ok_of_f (fun f args K Q e s h => by
  have h : Cf98 f args K Q e s := h
  unfold Cf98 at h; split at h
  · exact ent87_ok h
  · exact sp88_ok h
  · exact h.elim) (fun _ _ _ _ _ _ _ _ _ h => h)
theorem x98_87 {n : Int} {KK : AV → List AV → Sto → Prop} {QQ : Kt} {ii : At KK} {jj : At QQ} {ee : List AV} {ss : Sto} : xC Ct98 87 [.d (.i n)] KK QQ ii jj ee ss = ((8 ≤ n ∧ n ≤ 16) ∧ KK (.d (.v (.int .u64 (pow2 n : Int)))) ee ss) := eq87
theorem c98 : callable Tryz.prog 98 = true := by kernel_rfl
theorem pf98 (l : List Od) (a b : Nat) (h : (a + 12 < b ∧ b ≤ a + 16) ∧ b ≤ l.length ∧ l.length ≤ 1000) : PFu Tryz.prog 98 111 7 (l.map oc) [.i (a : Int), .i (b : Int), cl67] (fun r x => ∃ (l' : List Od), (Swp a b l l') ∧ r = .d (.tup []) ∧ x = (l'.map oc)) := by
  obtain ⟨⟨h0, h3⟩, h1, h2⟩ := h
  obtain ⟨n, rfl⟩ : ∃ n, b = a + n := ⟨b - a, by omega⟩
  have hn : ((a + n : Nat) : Int) - a = (n : Nat) := by omega
  have hq : (n : Int) / 4 = ((n / 4 : Nat) : Int) := rfl
  have g8 : (8 : Int) ≤ n := by omega
  have g16 : (n : Int) ≤ 16 := by omega
  have h64 : IntKind.u64.wrap (n : Int) = n := u64_in' (by omega)
  have hM : pow2 (n : Int) = 16 ∨ (pow2 (n : Int) = 32 ∧ n = 16) := by unfold pow2; split <;> omega
  obtain ⟨d, hd⟩ : ∃ d, a + n / 4 * 2 = d + 1 := ⟨a + n / 4 * 2 - 1, by omega⟩
  have hd2 : (a : Int) + ((n / 4 : Nat) : Int) * 2 = (d : Int) + 1 := by omega
  have hd3 : (d : Int) + 1 - 1 = d := by omega
  generalize hMM : pow2 (n : Int) = M at *
  have hMm : (M : Int) - 1 = ((M - 1 : Nat) : Int) := by omega
  have hMw : IntKind.u64.wrap ((M - 1 : Nat) : Int) = ((M - 1 : Nat) : Int) := u64_in' (by omega)
  have hda : a ≤ d ∧ d + 2 < a + n := by omega
  have hMb : 1 ≤ M ∧ M ≤ 32 ∧ M ≤ 2 * n := by omega
  clear hd hM
  refine PFu_start (O := O98) Ct98_ok hmix ho98 Tryz.func98 c98 rfl Tryz.ntmps98 Tryz.results98 ?_
  simp (maxSteps := 4000000) +contextual (disch := first | omega | exact qdb_ok (by kernel_rfl) | exact okb_ok (by kernel_rfl)) only [bw1,bw2,bw4,bw5,bw6,bw7,binV,binS,binIs,cvI,AV.cells?,setR,Sto.get,Sto.ins,Sto.kill,Sto.upd,AV.kill,AV.men,AV.mencs,AV.menc,Sto.mencs,AV.one,D.one,Value.oneCell',Bool.false_eq_true,↓reduceIte,reduceCtorEq,List.map_cons,List.map_nil,List.nil_append,List.cons_append,List.length_cons,List.length_nil,Option.isSome_some,true_and,and_self,Nat.reduceAdd,Nat.reduceSub,List.reduceReplicate,List.toList_toArray,Nat.zero_add,Nat.reduceLeDiff,Nat.reduceLT,Nat.reduceBEq,Int.reduceEq,ne_eq,not_false_eq_true,List.all_cons,List.all_nil,Bool.and_self,Bool.or_self,decide_true,tfb,bi_add,bi_sub,bi_mul,bi_quo,bi_geq,gU,x98_87,cl67, hn, hq, hd2, hd3, g8, g16, h64, hMM]
  refine loop_rxu (O := O98) (tb := 0) Ct98_ok hmix (by kernel_rfl) (σ := List Od × Nat × Int) gU (fun x => x.1.map oc) (fun x => [(0, .own gU 111 7 (x.1.map oc)), (11, .i x.2.1), (12, .any)]) (fun x => [(10, [.d (ui x.2.2)])]) (fun x => Swp a (a + n) l x.1 ∧ d ≤ x.2.1) (fun x => d + 3 - x.2.1) (l, d, n) ⟨.refl _, Nat.le_refl _⟩ ?_ ?_
  · simp (maxSteps := 4000000) +contextual (disch := first | omega | exact qdb_ok (by kernel_rfl) | exact okb_ok (by kernel_rfl)) only [bw5,bw6,updAll,AV.isNilS,AV.isNoRows,setAll,wk,wkG,Sto.get,Sto.upd,↓reduceIte,reduceCtorEq,List.map_cons,List.map_nil,and_self,or_true,or_false,gU,bu0]
  rintro ⟨m, k, r⟩ ⟨hs, hk⟩
  dsimp only at hs hk ⊢
  have hml := hs.len
  by_cases hlt : k ≤ d + 2
  case neg =>
    have hlt' : ¬ (k : Int) ≤ (d : Int) + 1 + 1 := by omega
    simp (maxSteps := 4000000) +contextual (disch := first | omega | exact qdb_ok (by kernel_rfl) | exact okb_ok (by kernel_rfl)) only [bw1,bw2,bw3,bw4,bw5,bw6,bw7,updAll,setAll,AV.own.injEq,Sto.hidn,binV,binS,binIs,resAll,AV.mkTup,AV.dl,Sto.get,Sto.upd,Sto.top,packA,Bool.false_eq_true,↓reduceIte,reduceCtorEq,List.map_cons,List.map_nil,List.length_cons,List.length_nil,Option.getD_some,Option.isSome_some,true_and,and_true,and_self,Nat.zero_add,Nat.add_zero,List.take_succ_cons,List.take_nil,Int.reduceEq,ne_eq,not_false_eq_true,exists_eq_left',List.cons.injEq,decide_false,tfb,bi_add,bi_mul,bi_quo,bi_leq,gU,bu0,eq_self, hq, hd2, hlt']
    exact ⟨m, hs, rfl⟩
  have hlt' : (k : Int) ≤ (d : Int) + 1 + 1 := by omega
  have hx : ∀ {args : List AV} {KK : AV → List AV → Sto → Prop} {QQ : Kt} {ii : At KK} {jj : At QQ} {ee : List AV} {ss : Sto}, xC Ct98 88 args KK QQ ii jj ee ss = sp88 args KK ee ss := id rfl
  simp (maxSteps := 4000000) +contextual (disch := first | omega | exact qdb_ok (by kernel_rfl) | exact okb_ok (by kernel_rfl)) only [bw1,bw2,bw4,bw5,bw6,bw7,updAll,setAll,binV,binS,binIs,Sto.upd,Bool.false_eq_true,↓reduceIte,reduceCtorEq,List.map_cons,List.map_nil,true_and,and_self,Int.reduceEq,ne_eq,not_false_eq_true,decide_true,tfb,bi_add,bi_mul,bi_quo,bi_leq,gU,bu0,eq_self, hq, hd2, hlt']
  rw [hx]
  refine ⟨r, rfl, frameR (by decide) rfl rfl rfl (by simp [AV.stays, AV.stay]) (by simp [othL, AV.stays, AV.stay, Sto.ups, updAll, Sto.upd, AV.ups]), fun r' => ?_⟩
  have hA := and_le r' (m := M - 1) (by omega)
  generalize hv : andZ .u64 r' ((M - 1 : Nat) : Int) = v at hA
  obtain ⟨v, rfl⟩ : ∃ w : Nat, v = w := ⟨v.toNat, by omega⟩
  have hvw : IntKind.i64.wrap (v : Int) = v := wrap_ok (by omega) (by omega)
  have hk1 : (k : Int) < m.length := by omega
  have r1 : (m.map oc).getD k [] = oc (m.getD k default) := row_at (by omega)
  by_cases hvn : (n : Int) ≤ v
  · have hp : ((a : Int) + ((v : Int) - n)) = ((a + (v - n) : Nat) : Int) := by omega
    have hpl : a + (v - n) < a + n := by omega
    have hpg : a ≤ a + (v - n) := by omega
    generalize a + (v - n) = p at hp hpl hpg
    have hp1 : (p : Int) < m.length := by omega
    have r2 : (m.map oc).getD p [] = oc (m.getD p default) := row_at (by omega)
    have sw := swr (n := m) (i := k) (j := p) (by omega) (by omega)
    dsimp only [oc] at sw
    simp (maxSteps := 4000000) +contextual (disch := first | omega | exact qdb_ok (by kernel_rfl) | exact okb_ok (by kernel_rfl)) only [bw1,bw2,bw3,bw4,bw5,bw6,bw7,AV.isNilS,AV.isNoRows,wk,wkG,AV.own.injEq,binV,binS,binIs,idxV,AV.isSl,AV.rows,loadV,loadS,D.part,ps,pv,cvI,AV.upr,Sto.upr,setR,Sto.get,Sto.upd,AV.menc,D.one,Value.oneCell',AV.dcells,D.cells?,beq_self_eq_true,Bool.false_eq_true,↓reduceIte,reduceCtorEq,List.map_cons,List.map_nil,List.length_cons,List.length_nil,Option.isSome_some,true_and,and_true,and_self,Nat.reduceAdd,Nat.zero_add,List.drop_zero,List.take_succ_cons,List.take_nil,Nat.reduceLeDiff,Nat.reduceBEq,Nat.reduceEqDiff,ne_eq,not_false_eq_true,List.all_cons,List.all_nil,Bool.and_self,List.not_mem_nil,or_true,or_false,false_or,Bool.or_self,Bool.or_false,decide_true,tfb,bi_add,bi_sub,bi_and,bi_geq,bu0,O98_10,mer, List.contains_cons, List.contains_nil, hMm, hMw, hv, hvw, hvn, hp, hp1, hk1, r1, r2, sw, List.length_set]
    repeat (refine And.intro (by omega) ?_)
    exact ⟨(swp m k p, k + 1, r'), ⟨⟨hs.step k p (by omega) (by omega) (by omega), by dsimp only; omega⟩, by dsimp only; omega⟩, ⟨rfl, rfl⟩, rfl, rfl⟩
  · have hp : ((a : Int) + (v : Int)) = ((a + v : Nat) : Int) := by omega
    have hpl : a + v < a + n := by omega
    have hpg : a ≤ a + v := by omega
    generalize a + v = p at hp hpl hpg
    have hp1 : (p : Int) < m.length := by omega
    have r2 : (m.map oc).getD p [] = oc (m.getD p default) := row_at (by omega)
    have sw := swr (n := m) (i := k) (j := p) (by omega) (by omega)
    dsimp only [oc] at sw
    simp (maxSteps := 4000000) +contextual (disch := first | omega | exact qdb_ok (by kernel_rfl) | exact okb_ok (by kernel_rfl)) only [bw1,bw2,bw3,bw4,bw5,bw6,bw7,AV.isNilS,AV.isNoRows,wk,wkG,AV.own.injEq,binV,binS,binIs,idxV,AV.isSl,AV.rows,loadV,loadS,D.part,ps,pv,cvI,AV.upr,Sto.upr,setR,Sto.get,Sto.upd,AV.menc,D.one,Value.oneCell',AV.dcells,D.cells?,beq_self_eq_true,Bool.false_eq_true,↓reduceIte,reduceCtorEq,List.map_cons,List.map_nil,List.length_cons,List.length_nil,Option.isSome_some,true_and,and_true,and_self,Nat.reduceAdd,Nat.zero_add,List.drop_zero,List.take_succ_cons,List.take_nil,Nat.reduceLeDiff,Nat.reduceBEq,Nat.reduceEqDiff,ne_eq,not_false_eq_true,List.all_cons,List.all_nil,Bool.and_self,List.not_mem_nil,or_true,or_false,false_or,Bool.or_self,Bool.or_false,decide_false,tfb,bi_add,bi_sub,bi_and,bi_geq,bu0,O98_10,mer, List.contains_cons, List.contains_nil, hMm, hMw, hv, hvw, hvn, hp, hp1, hk1, r1, r2, sw, List.length_set]
    repeat (refine And.intro (by omega) ?_)
    exact ⟨(swp m k p, k + 1, r'), ⟨⟨hs.step k p (by omega) (by omega) (by omega), by dsimp only; omega⟩, by dsimp only; omega⟩, ⟨rfl, rfl⟩, rfl, rfl⟩
def ent98 (args : List AV) (K : AV → List AV → Sto → Prop) (e : List AV) (s : Sto) : Prop := entU (α := (List Od) × (Nat) × (Nat)) 111 7 (fun aa => (aa.1.map oc)) (fun aa => [.i (aa.2.1 : Int), .i (aa.2.2 : Int), cl67]) (fun aa => (aa.2.1 + 12 < aa.2.2 ∧ aa.2.2 ≤ aa.2.1 + 16) ∧ aa.2.2 ≤ aa.1.length ∧ aa.1.length ≤ 1000) (fun aa r x => ∃ (l' : List Od), (Swp aa.2.1 aa.2.2 aa.1 l') ∧ r = .d (.tup []) ∧ x = (l'.map oc)) args K e s
theorem ent98_ok {args : List AV} {K : AV → List AV → Sto → Prop} {Q : Kt} {e : List AV} {s : Sto} (h : ent98 args K e s) : pcall Tryz.prog 98 args K Q e s := entU_ok (fun aa h => pf98 aa.1 aa.2.1 aa.2.2 h) (fun aa r x ⟨_, _, hr, _⟩ => ⟨_, hr⟩) h
theorem eq98 {l : List Od} {a : Nat} {b : Nat} {gg : Nat} {KK : AV → List AV → Sto → Prop} {ee : List AV} {ss : Sto} : ent98 [.own gg 111 7 (l.map oc), .d (.i (a : Int)), .d (.i (b : Int)), .d (cl67)] KK ee ss = (((a + 12 < b ∧ b ≤ a + 16) ∧ b ≤ l.length ∧ l.length ≤ 1000) ∧ upOk gg 111 7 (l.map oc) ee ss ∧ ∀ (l' : List Od), (Swp a b l l') → KK (.d (.tup [])) (ee.map (AV.ups gg (l'.map oc))) (ss.ups gg (l'.map oc))) := by
  unfold ent98
  exact Eq.trans (entU_iff (g := gg) (l, a, b) (by intro b h1 h2; first | (simpa [Prod.ext_iff, and_assoc, Int.ofNat_inj, ints_inj, cals_inj, pcs_inj, skas_inj, scos_inj, ska_inj, rul_inj, sco_inj, cal_inj, ods_inj, od_inj] using And.intro h1 h2) | (simp [Prod.ext_iff, and_assoc, Int.ofNat_inj, ints_inj, cals_inj, pcs_inj, skas_inj, scos_inj, ska_inj, rul_inj, sco_inj, cal_inj, ods_inj, od_inj] at h1 h2 ⊢; simp_all)) rfl) (propext ⟨fun ⟨h1, h2, h3⟩ => ⟨h1, h2, fun l' hq => h3 _ _ ⟨l', hq, rfl, rfl⟩⟩, fun ⟨h1, h2, h3⟩ => ⟨h1, h2, fun r x ⟨l', hq, e1, e2⟩ => by subst e1; subst e2; exact h3 l' hq⟩⟩)
end Go.Proofs.YtapglfcaghlpfaaGreat
