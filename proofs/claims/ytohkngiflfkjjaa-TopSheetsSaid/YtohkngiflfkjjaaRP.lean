/- A part of the proof that the last text ends: what functions of the program do, told by plain data. -/
import Derived.Test.YtohkngiflfkjjaaRPa
set_option linter.unusedVariables false
set_option linter.unusedSimpArgs false
namespace Go.Proofs.Ytohkngiflfkjjaa
open Go Go.E Go.Maps
set_option maxRecDepth 100000
set_option maxHeartbeats 16000000
/-! ### The program: a match -/
theorem mer_id {T : List Nat} {s1 : Sto} : ∀ {s : Sto}, (∀ x ∈ s, T.contains x.1 = true → s1.get x.1 = some x.2) → mer T s1 s = s
  | [], _ => rfl
  | (g, c) :: r, h => by
    unfold mer
    rw [mer_id (s := r) fun x hx => h x (List.mem_cons_of_mem _ hx)]
    split
    · rename_i hg
      rw [h (g, c) List.mem_cons_self hg]
    · rfl
theorem IsB.at {s : Sto} {PM : PMem} {M1 M2 : PSet} (h : IsB s PM M1 M2) : ∀ x ∈ stoB PM M1 M2, s.get x.1 = some x.2 := fun x hx => by
  simp only [stoB, List.mem_cons, List.not_mem_nil, or_false] at hx
  rcases hx with rfl | rfl | rfl | rfl
  · exact h.b
  · exact h.g
  · exact h.m1
  · exact h.m2
def keepO : AV → AV
  | .ref g off => if off = 0 then .ref g off else .any
  | .bx g i off => if off = 0 then .bx g i off else .any
  | x => x
theorem wk_keep : ∀ e : List AV, wk e (e.map keepO)
  | [] => trivial
  | x :: e => by
    refine ⟨?_, wk_keep e⟩
    cases x <;> simp only [keepO] <;> first | exact .inr (.inl rfl) | exact .inr (.inl trivial) | (split <;> first | exact .inr (.inl rfl) | exact .inl rfl)
theorem pcall_wk {P : Program} {f : Nat} {args : List AV} {K : AV → List AV → Sto → Prop} {Q : Kt} {e e' : List AV} {s : Sto} (hw : wk e e') (h : pcall P f args K Q e' s) : pcall P f args K Q e s :=
  ⟨h.1, fun W0 L0 L w a vs hr ha => h.2 W0 L0 L w a vs (hr.weaken (wk_Wk hw) (wkS_get (wkS_refl s))) ha⟩
def sp35 (args : List AV) (K : AV → List AV → Sto → Prop) (e : List AV) (s : Sto) : Prop :=
  ∃ (PM : PMem) (M1 M2 : PSet) (a : Nat) (m : Mem) (d : Int) (p : Bool), args = [.ref 100016 0, .bx 4000100011 a 0, .d (.i d)] ∧
    (PM[a]? = some (m.person, m) ∧ 0 ≤ m.stage ∧ i64 d ∧ i64 m.person ∧ (∀ p ∈ M2, i64 p.1.1 ∧ i64 p.1.2) ∧ (((m.person, d) ∈ M2.map (·.1)) ↔ p = true) ∧ ∀ q b, (q, b) ∈ M2 → b = true) ∧
    (AV.bx 4000100011 a 0 ∈ e.map keepO ∧ AV.stays TC (EC a) (e.map keepO) ∧ othL TC (EC a) s) ∧ IsB s PM M1 M2 ∧ (∀ x ∈ s, TC.contains x.1 = true → x ∈ stoB PM M1 M2) ∧ K (.own 35041 3 1 ((whyB m p).map ic)) (e.map keepO) s
theorem sp35_ok {args : List AV} {K : AV → List AV → Sto → Prop} {Q : Kt} {e : List AV} {s : Sto} (h : sp35 args K e s) : pcall Try.prog 35 args K Q e s := by
  obtain ⟨PM, M1, M2, a, m, d, p, rfl, ⟨h1, h2, h3, h4, h5, h6, h7⟩, ⟨k1, k2, k3⟩, hB, hs, hK⟩ := h
  refine pcall_wk (wk_keep e) ?_
  refine pcall_frame (RQ := fun _ _ => False) (frameC rfl hB k1 k2 k3) (barred35 (M1 := M1) h1 h2 h3 h4 h5 h6 h7) (fun r s1 hr => ?_) (fun c s1 h => h.elim)
  obtain ⟨rfl, b1, b2, b3⟩ := hr
  refine ⟨⟨rfl, fun g c hg hc => ?_⟩, by rw [mer_id fun x hx hT => b1.at x (hs x hx hT)]; exact hK⟩
  simp only [TC, TB, List.contains_cons, List.contains_nil, Bool.or_false, Bool.or_eq_true, beq_iff_eq] at hg
  rcases hg with rfl | rfl | rfl | rfl | rfl | rfl
  · rw [b3] at hc; cases hc
  · rw [b1.b] at hc; cases hc; rfl
  · rw [b1.g] at hc; cases hc; exact onlys_bxs rfl
  · rw [b2] at hc; cases hc
  · rw [b1.m1] at hc; cases hc; exact stays_ents
  · rw [b1.m2] at hc; cases hc; exact stays_ents
def O68 : Nat → Sch := fun id => if id = 1 then .one 0 (.one 1 (.one 2 (.one 3 (.one 4 (.one 5 (.one 6 (.one 7 (.one 8 (.one 9 (.one 10 (.done))))))))))) else if id = 6 then .one 0 (.one 1 (.one 2 (.one 3 (.one 4 (.one 5 (.one 6 (.one 7 (.done)))))))) else if id = 8 then .one 0 (.one 1 (.one 2 (.one 3 (.one 4 (.one 5 (.one 6 (.one 7 (.one 8 (.done))))))))) else if id = 13 then .one 0 (.one 1 (.one 2 (.one 3 (.one 4 (.one 5 (.one 6 (.one 7 (.one 8 (.one 9 (.one 10 (.one 11 (.one 12 (.one 13 (.done)))))))))))))) else .done
theorem O68_1 : O68 1 = .one 0 (.one 1 (.one 2 (.one 3 (.one 4 (.one 5 (.one 6 (.one 7 (.one 8 (.one 9 (.one 10 (.done))))))))))) := rfl
theorem O68_6 : O68 6 = .one 0 (.one 1 (.one 2 (.one 3 (.one 4 (.one 5 (.one 6 (.one 7 (.done)))))))) := rfl
theorem O68_8 : O68 8 = .one 0 (.one 1 (.one 2 (.one 3 (.one 4 (.one 5 (.one 6 (.one 7 (.one 8 (.done))))))))) := rfl
theorem O68_13 : O68 13 = .one 0 (.one 1 (.one 2 (.one 3 (.one 4 (.one 5 (.one 6 (.one 7 (.one 8 (.one 9 (.one 10 (.one 11 (.one 12 (.one 13 (.done)))))))))))))) := rfl
theorem ho68 : Try.f68.body.map (okO O68) = some true := by kernel_rfl
def Cf68 : Nat → List AV → (AV → List AV → Sto → Prop) → Kt → List AV → Sto → Prop := fun f args K Q e s => match f with
  | 35 => sp35 args K e s
  | 44 => inlE Try.prog Ct44 O44 44000 44 args K Q e s
  | 62 => inlE Try.prog Ct62 O62 62000 62 args K Q e s
  | 69 => inlE Try.prog Ct69 O69 69000 69 args K Q e s
  | _ => False
def Ct68 : CT := { f := Cf68, y := noYld, z := fun d => false }
theorem ctz68 {d : Nat} : CT.z Ct68 d = (false) := id rfl
theorem Ct68_ok : Ct68.ok Try.prog := ok_of_f (fun f args K Q e s h => by
  have h : Cf68 f args K Q e s := h
  unfold Cf68 at h; split at h
  · exact sp35_ok h
  · exact inlE_ok Ct44_ok hmix ho44 h
  · exact inlE_ok Ct62_ok hmix ho62 h
  · exact inlE_ok Ct69_ok hmix ho69 h
  · exact h.elim) (fun _ _ _ _ _ _ _ _ _ h => h)
theorem z68_69 : type_of% (@xinl Try.prog Ct68 Ct69 O69 69000 69 _ _ _ _ rfl c69 Try.func69 rfl Try.ntmps69 Try.results69) := @xinl Try.prog Ct68 Ct69 O69 69000 69 _ _ _ _ rfl c69 Try.func69 rfl Try.ntmps69 Try.results69
theorem z68_44 : type_of% (@xinl Try.prog Ct68 Ct44 O44 44000 44 _ _ _ _ rfl c44 Try.func44 rfl Try.ntmps44 Try.results44) := @xinl Try.prog Ct68 Ct44 O44 44000 44 _ _ _ _ rfl c44 Try.func44 rfl Try.ntmps44 Try.results44
theorem z68_62 : type_of% (@xinl Try.prog Ct68 Ct62 O62 62000 62 _ _ _ _ rfl c62 Try.func62 rfl Try.ntmps62 Try.results62) := @xinl Try.prog Ct68 Ct62 O62 62000 62 _ _ _ _ rfl c62 Try.func62 rfl Try.ntmps62 Try.results62
theorem c68 : callable Try.prog 68 = true := by kernel_rfl
theorem doR_m1 {s : St} {x : Ev} (h : x.kind = 6) (h1 : s.evs.any (sameE x.day x.n) = true) : doR s x = (s, 5) := by
  unfold doR matchR finR; rw [if_neg (by omega), if_pos h, if_pos h1]; simp
theorem doR_m2 {s : St} {x : Ev} {c : Int} (h : x.kind = 6) (h1 : ¬ s.evs.any (sameE x.day x.n) = true) (h2 : chkN s.mem s.evs x.n x.day x.sheet x.sheet.length 0 = c) (hc : 0 < c) : doR s x = (s, c) := by
  unfold doR matchR finR; rw [if_neg (by omega), if_pos h, if_neg h1, h2, if_pos hc]; rw [if_neg (show ¬ c = 0 by omega)]
theorem doR_m3 {s : St} {x : Ev} (h : x.kind = 6) (h1 : ¬ s.evs.any (sameE x.day x.n) = true) (h2 : chkN s.mem s.evs x.n x.day x.sheet x.sheet.length 0 = 0) : doR s x = (⟨s.mem.map (gam x.n), s.evs ++ [x]⟩, 0) := by
  unfold doR matchR finR; rw [if_neg (by omega), if_pos h, if_neg h1, h2, if_neg (Int.lt_irrefl 0)]; simp
theorem self_set {PM : PMem} {k : Nat} {z : Int × Mem} (h : PM[k]? = some z) : PM.set k z = PM := by
  obtain ⟨h1, rfl⟩ := List.getElem?_eq_some_iff.1 h
  exact List.set_getElem_self h1
theorem shN_at {l : List Int} : ∀ {k i : Nat}, shN l k i = true → ∀ j, i ≤ j → j < i + k → (0 ≤ l.getD j default ∧ l.getD j default ≤ 4095) ∧ (0 < j → l.getD (j - 1) default < l.getD j default)
  | 0, i, _, j, h1, h2 => by omega
  | k + 1, i, h, j, h1, h2 => by
    unfold shN at h
    simp only [Bool.and_eq_true, Bool.or_eq_true, decide_eq_true_eq] at h
    obtain ⟨⟨ha, hb⟩, hc⟩ := h
    rcases Nat.eq_or_lt_of_le h1 with e | e
    · subst e
      exact ⟨inB_iff.1 ha, fun h0 => by rcases hb with hb | hb; · omega
                                        · exact hb⟩
    · exact shN_at hc j e (by omega)
theorem sh_lt {l : List Int} (h : shN l l.length 0 = true) {j : Nat} : ∀ {k : Nat}, j < k → k < l.length → l.getD j default < l.getD k default
  | 0, h1, _ => by omega
  | k + 1, h1, h2 => by
    have h3 := (shN_at h (k + 1) (by omega) (by omega)).2 (by omega)
    rw [Nat.add_sub_cancel] at h3
    rcases Nat.eq_or_lt_of_le (Nat.lt_succ_iff.1 h1) with e | e
    · subst e; exact h3
    · have := sh_lt h (j := j) (k := k) e (by omega); omega
theorem ev_sheet {x : Ev} (h : evOk x = true) (hk : x.kind = 6) : shN x.sheet x.sheet.length 0 = true := by
  rw [ev_6 hk] at h
  simp only [Bool.and_eq_true] at h
  have := h.2.2
  unfold shOk at this
  simp only [Bool.and_eq_true] at this
  exact this.1
def M2K (M2 : PSet) (l : List Int) (d : Int) (k : Nat) : PSet := M2 ++ (l.take k).map fun p => ((p, d), true)
theorem M2K_succ {M2 : PSet} {l : List Int} {d : Int} {k : Nat} (h : k < l.length) : M2K M2 l d (k + 1) = M2K M2 l d k ++ [((l.getD k default, d), true)] := by
  unfold M2K; rw [take_succ h, List.map_append, List.append_assoc]; rfl
theorem M2K_mem {M2 : PSet} {l : List Int} {d : Int} {k : Nat} (h : shN l l.length 0 = true) (hk : k < l.length) : (l.getD k default, d) ∈ (M2K M2 l d k).map (·.1) ↔ (l.getD k default, d) ∈ M2.map (·.1) := by
  unfold M2K
  rw [List.map_append, List.mem_append, List.map_map]
  constructor
  · rintro (h1 | h1)
    · exact h1
    · obtain ⟨q, hq, e⟩ := List.mem_map.1 h1
      simp only [Function.comp, Prod.mk.injEq, and_true] at e
      obtain ⟨j, hj, rfl⟩ := List.getElem_of_mem hq
      have hj2 : j < k := by simp at hj; omega
      have := sh_lt h hj2 hk
      rw [List.getElem_take, ← at_lt (by omega)] at e
      omega
  · exact .inl
theorem M2K_t {M2 : PSet} {l : List Int} {d : Int} {k : Nat} (h : ∀ q b, (q, b) ∈ M2 → b = true) : ∀ q b, (q, b) ∈ M2K M2 l d k → b = true := fun q b hq => by
  unfold M2K at hq
  rcases List.mem_append.1 hq with hq | hq
  · exact h q b hq
  · obtain ⟨a, _, e⟩ := List.mem_map.1 hq; cases e; rfl
theorem M2K_r {M2 : PSet} {l : List Int} {d : Int} {k : Nat} (h : ∀ p ∈ M2, i64 p.1.1 ∧ i64 p.1.2) (hl : ∀ p ∈ l, i64 p) (hd : i64 d) : ∀ p ∈ M2K M2 l d k, i64 p.1.1 ∧ i64 p.1.2 := fun p hp => by
  unfold M2K at hp
  rcases List.mem_append.1 hp with hp | hp
  · exact h p hp
  · obtain ⟨a, ha, rfl⟩ := List.mem_map.1 hp; exact ⟨hl a (List.mem_of_mem_take ha), hd⟩
theorem deed68 {i : Nat} {s : St} {x : Ev} {PM : PMem} {M1 M2 : PSet} (hi : i ≤ 256) (hI : InvR i s) (hR : Rl PM M1 M2 s) (hx : evOk x = true) (hk : x.kind = 6) (hsh : x.sheet.length ≤ 100000) : Deed 68 s x PM M1 M2 := by
  unfold Deed
  obtain ⟨n1, n2, _⟩ := ev_rng hx
  have hd2 := ev_day hx
  have hn64 : i64 x.n := i64_of (by omega)
  have hd64 : i64 x.day := i64_of (by omega)
  have hk99 := keyOf99 hn64 hd64
  have hem := em_ok hR.rg1
  by_cases c1 : s.evs.any (sameE x.day x.n) = true
  · have hd := doR_m1 hk c1
    have hlk : ∀ {R : Option D → Prop} {mm : At R}, xLk (ents fkp fvb M1) (.agg #[.int .i64 x.n, .int .i64 x.day]) R mm = R (some (.b true)) := fun {R mm} => xLk_yes (q := (x.n, x.day)) ((hR.m1e _ _).2 c1) hR.m1
    refine pcall_start (O := O68) (tb := 68000) Ct68_ok hmix ho68 Try.func68 c68 rfl Try.ntmps68 Try.results68 ?_
    simp (maxSteps := 4000000) +contextual (disch := first | omega | exact qdb_ok (by kernel_rfl) | exact okb_ok (by kernel_rfl)) only [bw1,bw2,bw3,bw4,bw5,bw6,bw7,bc0,bc1,bc2,bc3,bc4,bc5,bc6,bc7,bb0,setPs,AV.owns,AV.datF,AV.frz,AV.cpy,ifV,isEqB,nilV,nilX,AV.isNilS,AV.isNoRows,wk,dclo,datOf,binIs,addF,AV.isPtr,idxV,AV.isSl,AV.isSlice,AV.rows,ps,pv,extV,extS,AV.outs,AV.outF,packD,AV.dl,fieldV,fieldS,AV.cells?,AV.upr,AV.menc,AV.one,D.one,Value.oneCell',tagOf,AV.isApp,strV,strS,bolV,bolS,slcV,AV.isSlD,asrtS,AV.dcells,D.cells?,stcV,stcS,leafOk,eqDs,eqD,packA,D.val?,↓reduceIte,reduceCtorEq,Nat.reduceAdd,Nat.reduceSub,Nat.reduceMul,List.reduceReplicate,Nat.reduceLeDiff,Nat.reduceLT,Nat.reduceBEq,Nat.reduceEqDiff,Int.reduceNeg,Int.reduceEq,Int.reduceLE,Int.reduceLT,tfb,boxAt,key3',key99',mencs_bxs,mencs_ents,kill_bxs,kill_ents,en_bxs,bxs_len,false_implies,lkv_some',lkv_none',ctz68,O68_1,O68_6,O68_8,O68_13,z68_69,ctz69,z68_44,ctz44,z68_62,ctz62,z62_44,hlk, hem, hk99]
    exact ⟨by rw [hd]; rfl, by rw [hd]; simp, PM, M1, M2, ⟨rfl, rfl, rfl, rfl⟩⟩
  have hno : ¬ (x.n, x.day) ∈ M1.map (·.1) := fun h => c1 ((hR.m1e _ _).1 h)
  have hlk : ∀ {R : Option D → Prop} {mm : At R}, xLk (ents fkp fvb M1) (.agg #[.int .i64 x.n, .int .i64 x.day]) R mm = R none := fun {R mm} => xLk_none (q := (x.n, x.day)) hno
  have hup : ∀ {R : List AV → Prop} {mm : At R}, xUp (ents fkp fvb M1) (.agg [.i x.n, .i x.day]) (.agg #[.int .i64 x.n, .int .i64 x.day]) (.v (.bool true)) R mm = R (ents fkp fvb (M1 ++ [((x.n, x.day), true)])) := fun {R mm} => xUp_no (q := (x.n, x.day)) hno
  refine pcall_start (O := O68) (tb := 68000) Ct68_ok hmix ho68 Try.func68 c68 rfl Try.ntmps68 Try.results68 ?_
  simp (maxSteps := 4000000) +contextual (disch := first | omega | exact qdb_ok (by kernel_rfl) | exact okb_ok (by kernel_rfl)) only [bw1,bw2,bw3,bw4,bw5,bw6,bw7,bc0,bc1,bc2,bc3,bc4,bc5,bc6,bc7,bb0,setPs,AV.owns,AV.datF,AV.frz,AV.cpy,ifV,isEqB,nilV,nilX,AV.isNilS,AV.isNoRows,wk,dclo,datOf,binIs,addF,AV.isPtr,idxV,AV.isSl,AV.isSlice,AV.rows,ps,pv,extV,extS,AV.outs,AV.outF,packD,AV.dl,fieldV,fieldS,AV.cells?,AV.upr,AV.menc,AV.one,D.one,Value.oneCell',tagOf,AV.isApp,strV,strS,bolV,bolS,slcV,AV.isSlD,asrtS,AV.dcells,D.cells?,stcV,stcS,leafOk,eqDs,eqD,packA,D.val?,↓reduceIte,reduceCtorEq,Nat.reduceAdd,Nat.reduceSub,Nat.reduceMul,List.reduceReplicate,Nat.reduceLeDiff,Nat.reduceLT,Nat.reduceBEq,Nat.reduceEqDiff,Int.reduceNeg,Int.reduceEq,Int.reduceLE,Int.reduceLT,tfb,boxAt,key3',key99',mencs_bxs,mencs_ents,kill_bxs,kill_ents,en_bxs,bxs_len,false_implies,lkv_some',lkv_none',ctz68,O68_1,O68_6,O68_8,O68_13,z68_69,ctz69,z68_44,ctz44,z68_62,ctz62,z62_44,hlk, hem, hk99, hup]
  have hss := ev_sheet hx hk
  have hp64 : ∀ p ∈ x.sheet, i64 p := fun p hp => by
    obtain ⟨j, hj, rfl⟩ := List.getElem_of_mem hp
    have := (shN_at hss j (by omega) (by omega)).1
    rw [at_lt hj] at this
    exact i64_of (by omega)
  have hz : M2K M2 x.sheet x.day 0 = M2 := by simp [M2K]
  have hbm := bm_ok (gb := 4000100011) hR.rg
  refine loop_xu (O := O68) (tb := 68000) Ct68_ok hmix (by kernel_rfl) (σ := Nat) (fun k => [(5, .any), (6, .any), (11, .any), (13, .any), (20, .any), (23, .i k)]) (fun k => [(69004, [.any, .any]), (2000100013, ents fkp fvb (M2K M2 x.sheet x.day k))]) (fun k => k ≤ x.sheet.length ∧ chkN s.mem s.evs x.n x.day x.sheet (x.sheet.length - k) k = chkN s.mem s.evs x.n x.day x.sheet x.sheet.length 0) (fun k => x.sheet.length - k) 0 ⟨by omega, rfl⟩ ?_ ?_
  · simp (maxSteps := 4000000) +contextual (disch := first | omega | exact qdb_ok (by kernel_rfl) | exact okb_ok (by kernel_rfl)) only [bw1,bw2,bw3,bw4,bw5,bw6,bw7,bc0,bc1,bc2,bc3,bc4,bc5,bc6,bc7,bb0,setPs,AV.owns,AV.datF,AV.frz,AV.cpy,ifV,isEqB,nilV,nilX,AV.isNilS,AV.isNoRows,wk,dclo,datOf,binIs,addF,AV.isPtr,idxV,AV.isSl,AV.isSlice,AV.rows,ps,pv,extV,extS,AV.outs,AV.outF,packD,AV.dl,fieldV,fieldS,AV.cells?,AV.upr,AV.menc,AV.one,D.one,Value.oneCell',tagOf,AV.isApp,strV,strS,bolV,bolS,slcV,AV.isSlD,asrtS,AV.dcells,D.cells?,stcV,stcS,leafOk,eqDs,eqD,packA,D.val?,↓reduceIte,reduceCtorEq,Nat.reduceAdd,Nat.reduceSub,Nat.reduceMul,List.reduceReplicate,Nat.reduceLeDiff,Nat.reduceLT,Nat.reduceBEq,Nat.reduceEqDiff,Int.reduceNeg,Int.reduceEq,Int.reduceLE,Int.reduceLT,tfb,boxAt,key3',key99',mencs_bxs,mencs_ents,kill_bxs,kill_ents,en_bxs,bxs_len,false_implies,lkv_some',lkv_none',ctz68,O68_1,O68_6,O68_8,O68_13,z68_69,ctz69,z68_44,ctz44,z68_62,ctz62,z62_44,eq_self, hz]
    exact ⟨wk_ents _, wk_ents _, wk_ents _⟩
  rintro k ⟨hk1, hw⟩
  by_cases hlt : k < x.sheet.length
  · have hlt' : (k : Int) < x.sheet.length := by omega
    rw [show x.sheet.length - k = (x.sheet.length - (k + 1)) + 1 by omega, chkN] at hw
    have hpk := keyOf3 (hp64 (x.sheet.getD k default) (by rw [at_lt hlt]; exact List.getElem_mem _))
    rcases hR.look (x.sheet.getD k default) with ⟨h1, h2⟩ | ⟨a, j, m, h1, h2, h3, h4, h5, hm, h7⟩
    · rw [if_pos (by omega)] at hw
      have hd := doR_m2 hk c1 hw.symm (by omega)
      have hlk2 := fun {R : Option Nat → Prop} {m : At R} => xLkB_no (gb := 4000100011) h2 (R := R) (m := m)
      simp (maxSteps := 4000000) +contextual (disch := first | omega | exact qdb_ok (by kernel_rfl) | exact okb_ok (by kernel_rfl)) only [bw1,bw2,bw3,bw4,bw5,bw6,bw7,bc0,bc1,bc2,bc3,bc4,bc5,bc6,bc7,bb0,setPs,AV.owns,AV.datF,AV.frz,AV.cpy,ifV,isEqB,nilV,nilX,AV.isNilS,AV.isNoRows,wk,dclo,datOf,binIs,addF,AV.isPtr,idxV,AV.isSl,AV.isSlice,AV.rows,ps,pv,extV,extS,AV.outs,AV.outF,packD,AV.dl,fieldV,fieldS,AV.cells?,AV.upr,AV.menc,AV.one,D.one,Value.oneCell',tagOf,AV.isApp,strV,strS,bolV,bolS,slcV,AV.isSlD,asrtS,AV.dcells,D.cells?,stcV,stcS,leafOk,eqDs,eqD,packA,D.val?,↓reduceIte,reduceCtorEq,Nat.reduceAdd,Nat.reduceSub,Nat.reduceMul,List.reduceReplicate,Nat.reduceLeDiff,Nat.reduceLT,Nat.reduceBEq,Nat.reduceEqDiff,Int.reduceNeg,Int.reduceEq,Int.reduceLE,Int.reduceLT,tfb,boxAt,key3',key99',mencs_bxs,mencs_ents,kill_bxs,kill_ents,en_bxs,bxs_len,false_implies,lkv_some',lkv_none',ctz68,O68_1,O68_6,O68_8,O68_13,z68_69,ctz69,z68_44,ctz44,z68_62,ctz62,z62_44,eq_self, hlt', hlk2, hbm, hpk]
      exact ⟨by omega, by rw [hd]; rfl, by rw [hd]; simp, PM, _, _, ⟨rfl, rfl, rfl, rfl⟩⟩
    rw [h5, if_neg (by omega), Int.toNat_natCast, hm] at hw
    have hlk2 := fun {R : Option Nat → Prop} {m : At R} => xLkB_at (gb := 4000100011) h1 h7 (R := R) (m := m)
    have hat : bxAt (bxs 4000100011 fki Mem.c PM) 4000100011 a = some (.i (x.sheet.getD k default), m.c) := bx_at h1
    by_cases q1 : m.club = x.n
    case neg =>
      rw [if_pos q1] at hw
      have hd := doR_m2 hk c1 hw.symm (by omega)
      have q1b : (m.club == x.n) = false := by simpa using q1
      simp (maxSteps := 4000000) +contextual (disch := first | omega | exact qdb_ok (by kernel_rfl) | exact okb_ok (by kernel_rfl)) only [bw1,bw2,bw3,bw4,bw5,bw6,bw7,bc0,bc1,bc2,bc3,bc4,bc5,bc6,bc7,bb0,setPs,AV.owns,AV.datF,AV.frz,AV.cpy,ifV,isEqB,nilV,nilX,AV.isNilS,AV.isNoRows,wk,dclo,datOf,binIs,addF,AV.isPtr,idxV,AV.isSl,AV.isSlice,AV.rows,ps,pv,extV,extS,AV.outs,AV.outF,packD,AV.dl,fieldV,fieldS,AV.cells?,AV.upr,AV.menc,AV.one,D.one,Value.oneCell',tagOf,AV.isApp,strV,strS,bolV,bolS,slcV,AV.isSlD,asrtS,AV.dcells,D.cells?,stcV,stcS,leafOk,eqDs,eqD,packA,D.val?,↓reduceIte,reduceCtorEq,Nat.reduceAdd,Nat.reduceSub,Nat.reduceMul,List.reduceReplicate,Nat.reduceLeDiff,Nat.reduceLT,Nat.reduceBEq,Nat.reduceEqDiff,Int.reduceNeg,Int.reduceEq,Int.reduceLE,Int.reduceLT,tfb,boxAt,key3',key99',mencs_bxs,mencs_ents,kill_bxs,kill_ents,en_bxs,bxs_len,false_implies,lkv_some',lkv_none',ctz68,O68_1,O68_6,O68_8,O68_13,z68_69,ctz69,z68_44,ctz44,z68_62,ctz62,z62_44,eq_self, hlt', hlk2, hbm, hpk, hat, q1b]
      exact ⟨by omega, by rw [hd]; rfl, by rw [hd]; simp, PM, _, _, ⟨rfl, rfl, rfl, rfl⟩⟩
    rw [if_neg (by simpa using q1)] at hw
    have q1b : (m.club == x.n) = true := by simpa using q1
    have hb := hI.2.1 m h3
    unfold MOk at hb
    have hwhy : why s.evs m x.day = whyB m (plB s.evs m.person x.day) := rfl
    have hx35 : ∀ {args : List AV} {KK : AV → List AV → Sto → Prop} {QQ : Kt} {ii : At KK} {jj : At QQ} {ee : List AV} {ss : Sto}, xC Ct68 35 args KK QQ ii jj ee ss = sp35 args KK ee ss := id rfl
    have h1' : PM[a]? = some (m.person, m) := by rw [h1, h2]
    have hkey : i64 m.person := by rw [h2]; exact hp64 _ (by rw [at_lt hlt]; exact List.getElem_mem _)
    have hmm : ((m.person, x.day) ∈ (M2K M2 x.sheet x.day k).map (·.1)) ↔ plB s.evs m.person x.day = true := by
      rw [h2, M2K_mem hss hlt]; exact hR.m2e _ _
    have hr2 := M2K_r (k := k) hR.rg2 hp64 hd64
    have ht2 := M2K_t (l := x.sheet) (d := x.day) (k := k) hR.m2
    simp (maxSteps := 4000000) +contextual (disch := first | omega | exact qdb_ok (by kernel_rfl) | exact okb_ok (by kernel_rfl)) only [bw1,bw2,bw3,bw4,bw5,bw6,bw7,bc0,bc1,bc2,bc3,bc4,bc5,bc6,bc7,bb0,setPs,AV.owns,AV.datF,AV.frz,AV.cpy,ifV,isEqB,nilV,nilX,AV.isNilS,AV.isNoRows,wk,dclo,datOf,binIs,addF,AV.isPtr,idxV,AV.isSl,AV.isSlice,AV.rows,ps,pv,extV,extS,AV.outs,AV.outF,packD,AV.dl,fieldV,fieldS,AV.cells?,AV.upr,AV.menc,AV.one,D.one,Value.oneCell',tagOf,AV.isApp,strV,strS,bolV,bolS,slcV,AV.isSlD,asrtS,AV.dcells,D.cells?,stcV,stcS,leafOk,eqDs,eqD,packA,D.val?,↓reduceIte,reduceCtorEq,Nat.reduceAdd,Nat.reduceSub,Nat.reduceMul,List.reduceReplicate,Nat.reduceLeDiff,Nat.reduceLT,Nat.reduceBEq,Nat.reduceEqDiff,Int.reduceNeg,Int.reduceEq,Int.reduceLE,Int.reduceLT,tfb,boxAt,key3',key99',mencs_bxs,mencs_ents,kill_bxs,kill_ents,en_bxs,bxs_len,false_implies,lkv_some',lkv_none',ctz68,O68_1,O68_6,O68_8,O68_13,z68_69,ctz69,z68_44,ctz44,z68_62,ctz62,z62_44,eq_self, hlt', hlk2, hbm, hpk, hat, q1b, hx35]
    refine ⟨by omega, PM, M1 ++ [((x.n, x.day), true)], M2K M2 x.sheet x.day k, a, m, x.day, plB s.evs m.person x.day, rfl, ⟨h1', hb.2.1.1, hd64, hkey, hr2, hmm, ht2⟩, ⟨by simp [keepO], by simp [AV.stays, AV.stay, keepO], by simp [AV.stays, AV.stay, othL]⟩, ⟨rfl, rfl, rfl, rfl⟩, by simp, ?_⟩
    simp only [List.map_cons, List.map_nil, keepO, if_true, reduceIte, reduceCtorEq]
    by_cases q2 : why s.evs m x.day = []
    · rw [if_pos q2] at hw
      rw [← hwhy, q2]
      have hpl : ¬ plB s.evs m.person x.day = true := by
        intro hp
        rw [hwhy] at q2
        unfold whyB at q2
        rw [if_pos hp] at q2
        simp at q2
      have hno2 : ¬ (x.sheet.getD k default, x.day) ∈ (M2K M2 x.sheet x.day k).map (·.1) := by rw [← h2]; exact fun h => hpl (hmm.1 h)
      have hlk3 : ∀ {R : Option D → Prop} {mm : At R}, xLk (ents fkp fvb (M2K M2 x.sheet x.day k)) (.agg #[.int .i64 (x.sheet.getD k default), .int .i64 x.day]) R mm = R none := fun {R mm} => xLk_none (q := (x.sheet.getD k default, x.day)) hno2
      have hup3 : ∀ {R : List AV → Prop} {mm : At R}, xUp (ents fkp fvb (M2K M2 x.sheet x.day k)) (.agg [.i (x.sheet.getD k default), .i x.day]) (.agg #[.int .i64 (x.sheet.getD k default), .int .i64 x.day]) (.v (.bool true)) R mm = R (ents fkp fvb (M2K M2 x.sheet x.day (k + 1))) := fun {R mm} => by
        rw [M2K_succ hlt]; exact xUp_no (q := (x.sheet.getD k default, x.day)) hno2
      have hem2 := em_ok hr2
      have hk2 := keyOf99 (a := x.sheet.getD k default) (b := x.day) (by rw [← h2]; exact hkey) hd64
      simp (maxSteps := 4000000) +contextual (disch := first | omega | exact qdb_ok (by kernel_rfl) | exact okb_ok (by kernel_rfl)) only [bw1,bw2,bw3,bw4,bw5,bw6,bw7,bc0,bc1,bc2,bc3,bc4,bc5,bc6,bc7,bb0,setPs,AV.owns,AV.datF,AV.frz,AV.cpy,ifV,isEqB,nilV,nilX,AV.isNilS,AV.isNoRows,wk,dclo,datOf,binIs,addF,AV.isPtr,idxV,AV.isSl,AV.isSlice,AV.rows,ps,pv,extV,extS,AV.outs,AV.outF,packD,AV.dl,fieldV,fieldS,AV.cells?,AV.upr,AV.menc,AV.one,D.one,Value.oneCell',tagOf,AV.isApp,strV,strS,bolV,bolS,slcV,AV.isSlD,asrtS,AV.dcells,D.cells?,stcV,stcS,leafOk,eqDs,eqD,packA,D.val?,↓reduceIte,reduceCtorEq,Nat.reduceAdd,Nat.reduceSub,Nat.reduceMul,List.reduceReplicate,Nat.reduceLeDiff,Nat.reduceLT,Nat.reduceBEq,Nat.reduceEqDiff,Int.reduceNeg,Int.reduceEq,Int.reduceLE,Int.reduceLT,tfb,boxAt,key3',key99',mencs_bxs,mencs_ents,kill_bxs,kill_ents,en_bxs,bxs_len,false_implies,lkv_some',lkv_none',ctz68,O68_1,O68_6,O68_8,O68_13,z68_69,ctz69,z68_44,ctz44,z68_62,ctz62,z62_44,eq_self, List.length_nil, List.map_nil, hlk3, hup3, hem2, hk2]
      exact ⟨k + 1, ⟨⟨by omega, hw⟩, by omega⟩, rfl, wk_ents _, wk_ents _, wk_ents _⟩
    · rw [if_neg q2] at hw
      have hd := doR_m2 hk c1 hw.symm (by omega)
      rw [← hwhy]
      have q2b : (((why s.evs m x.day).length : Int) == 0) = false := by
        cases hwy : why s.evs m x.day with
        | nil => exact absurd hwy q2
        | cons a b => simp only [List.length_cons]; exact beq_false_of_ne (by omega)
      simp (maxSteps := 4000000) +contextual (disch := first | omega | exact qdb_ok (by kernel_rfl) | exact okb_ok (by kernel_rfl)) only [bw1,bw2,bw3,bw4,bw5,bw6,bw7,bc0,bc1,bc2,bc3,bc4,bc5,bc6,bc7,bb0,setPs,AV.owns,AV.datF,AV.frz,AV.cpy,ifV,isEqB,nilV,nilX,AV.isNilS,AV.isNoRows,wk,dclo,datOf,binIs,addF,AV.isPtr,idxV,AV.isSl,AV.isSlice,AV.rows,ps,pv,extV,extS,AV.outs,AV.outF,packD,AV.dl,fieldV,fieldS,AV.cells?,AV.upr,AV.menc,AV.one,D.one,Value.oneCell',tagOf,AV.isApp,strV,strS,bolV,bolS,slcV,AV.isSlD,asrtS,AV.dcells,D.cells?,stcV,stcS,leafOk,eqDs,eqD,packA,D.val?,↓reduceIte,reduceCtorEq,Nat.reduceAdd,Nat.reduceSub,Nat.reduceMul,List.reduceReplicate,Nat.reduceLeDiff,Nat.reduceLT,Nat.reduceBEq,Nat.reduceEqDiff,Int.reduceNeg,Int.reduceEq,Int.reduceLE,Int.reduceLT,tfb,boxAt,key3',key99',mencs_bxs,mencs_ents,kill_bxs,kill_ents,en_bxs,bxs_len,false_implies,lkv_some',lkv_none',ctz68,O68_1,O68_6,O68_8,O68_13,z68_69,ctz69,z68_44,ctz44,z68_62,ctz62,z62_44,eq_self, q2b, List.length_map]
      exact ⟨by rw [hd]; rfl, by rw [hd]; simp, PM, _, _, ⟨rfl, rfl, rfl, rfl⟩⟩
  have hlt' : ¬ (k : Int) < x.sheet.length := by omega
  obtain rfl : k = x.sheet.length := by omega
  rw [Nat.sub_self, chkN] at hw
  have hd := doR_m3 hk c1 hw.symm
  have hg0 : gS PM x.n [] = PM := gS_nil
  simp (maxSteps := 4000000) +contextual (disch := first | omega | exact qdb_ok (by kernel_rfl) | exact okb_ok (by kernel_rfl)) only [bw1,bw2,bw3,bw4,bw5,bw6,bw7,bc0,bc1,bc2,bc3,bc4,bc5,bc6,bc7,bb0,setPs,AV.owns,AV.datF,AV.frz,AV.cpy,ifV,isEqB,nilV,nilX,AV.isNilS,AV.isNoRows,wk,dclo,datOf,binIs,addF,AV.isPtr,idxV,AV.isSl,AV.isSlice,AV.rows,ps,pv,extV,extS,AV.outs,AV.outF,packD,AV.dl,fieldV,fieldS,AV.cells?,AV.upr,AV.menc,AV.one,D.one,Value.oneCell',tagOf,AV.isApp,strV,strS,bolV,bolS,slcV,AV.isSlD,asrtS,AV.dcells,D.cells?,stcV,stcS,leafOk,eqDs,eqD,packA,D.val?,↓reduceIte,reduceCtorEq,Nat.reduceAdd,Nat.reduceSub,Nat.reduceMul,List.reduceReplicate,Nat.reduceLeDiff,Nat.reduceLT,Nat.reduceBEq,Nat.reduceEqDiff,Int.reduceNeg,Int.reduceEq,Int.reduceLE,Int.reduceLT,tfb,boxAt,key3',key99',mencs_bxs,mencs_ents,kill_bxs,kill_ents,en_bxs,bxs_len,false_implies,lkv_some',lkv_none',ctz68,O68_1,O68_6,O68_8,O68_13,z68_69,ctz69,z68_44,ctz44,z68_62,ctz62,z62_44,eq_self, Int.lt_irrefl]
  refine loop_xu (O := O68) (tb := 68000) Ct68_ok hmix (by kernel_rfl) (σ := List Nat) (fun y => []) (fun y => [(2000068060, itc 3000100011 PM.length y), (3000100011, bxs 4000100011 fki Mem.c (gS PM x.n y))]) (fun y => y.Nodup ∧ ∀ k ∈ y, k < PM.length) (fun y => PM.length - y.length) [] ⟨by simp, by simp⟩ ?_ ?_
  · simp (maxSteps := 4000000) +contextual (disch := first | omega | exact qdb_ok (by kernel_rfl) | exact okb_ok (by kernel_rfl)) only [bw1,bw2,bw3,bw4,bw5,bw6,bw7,bc0,bc1,bc2,bc3,bc4,bc5,bc6,bc7,bb0,setPs,AV.owns,AV.datF,AV.frz,AV.cpy,ifV,isEqB,nilV,nilX,AV.isNilS,AV.isNoRows,wk,dclo,datOf,binIs,addF,AV.isPtr,idxV,AV.isSl,AV.isSlice,AV.rows,ps,pv,extV,extS,AV.outs,AV.outF,packD,AV.dl,fieldV,fieldS,AV.cells?,AV.upr,AV.menc,AV.one,D.one,Value.oneCell',tagOf,AV.isApp,strV,strS,bolV,bolS,slcV,AV.isSlD,asrtS,AV.dcells,D.cells?,stcV,stcS,leafOk,eqDs,eqD,packA,D.val?,↓reduceIte,reduceCtorEq,Nat.reduceAdd,Nat.reduceSub,Nat.reduceMul,List.reduceReplicate,Nat.reduceLeDiff,Nat.reduceLT,Nat.reduceBEq,Nat.reduceEqDiff,Int.reduceNeg,Int.reduceEq,Int.reduceLE,Int.reduceLT,tfb,boxAt,key3',key99',mencs_bxs,mencs_ents,kill_bxs,kill_ents,en_bxs,bxs_len,false_implies,lkv_some',lkv_none',ctz68,O68_1,O68_6,O68_8,O68_13,z68_69,ctz69,z68_44,ctz44,z68_62,ctz62,z62_44,eq_self, hg0]
    exact ⟨wk_ents _, wk_ents _, wk_ents _, wk_ents _⟩
  rintro seen ⟨hn1, hn2⟩
  simp (maxSteps := 4000000) +contextual (disch := first | omega | exact qdb_ok (by kernel_rfl) | exact okb_ok (by kernel_rfl)) only [bw1,bw2,bw3,bw4,bw5,bw6,bw7,bc0,bc1,bc2,bc3,bc4,bc5,bc6,bc7,bb0,setPs,AV.owns,AV.datF,AV.frz,AV.cpy,ifV,isEqB,nilV,nilX,AV.isNilS,AV.isNoRows,wk,dclo,datOf,binIs,addF,AV.isPtr,idxV,AV.isSl,AV.isSlice,AV.rows,ps,pv,extV,extS,AV.outs,AV.outF,packD,AV.dl,fieldV,fieldS,AV.cells?,AV.upr,AV.menc,AV.one,D.one,Value.oneCell',tagOf,AV.isApp,strV,strS,bolV,bolS,slcV,AV.isSlD,asrtS,AV.dcells,D.cells?,stcV,stcS,leafOk,eqDs,eqD,packA,D.val?,↓reduceIte,reduceCtorEq,Nat.reduceAdd,Nat.reduceSub,Nat.reduceMul,List.reduceReplicate,Nat.reduceLeDiff,Nat.reduceLT,Nat.reduceBEq,Nat.reduceEqDiff,Int.reduceNeg,Int.reduceEq,Int.reduceLE,Int.reduceLT,tfb,boxAt,key3',key99',mencs_bxs,mencs_ents,kill_bxs,kill_ents,en_bxs,bxs_len,false_implies,lkv_some',lkv_none',ctz68,O68_1,O68_6,O68_8,O68_13,z68_69,ctz69,z68_44,ctz44,z68_62,ctz62,z62_44,eq_self]
  refine nx_bxs (gb := 4000100011) (fk := fki) (fc := Mem.c) (M := gS PM x.n seen) (G := 3000100011) rfl rfl rfl gS_len (by simp [AV.mencs, AV.menc, Sto.mencs, mencs_ents, mencs_bxs, itc]) (fun hall => ?_) (fun k hi hs => ?_)
  · have hga := gS_all (n := x.n) hall
    have hml : M2K M2 x.sheet x.day x.sheet.length = M2 ++ x.sheet.map fun p => ((p, x.day), true) := by unfold M2K; rw [List.take_length]
    simp (maxSteps := 4000000) +contextual (disch := first | omega | exact qdb_ok (by kernel_rfl) | exact okb_ok (by kernel_rfl)) only [bw1,bw2,bw3,bw4,bw5,bw6,bw7,bc0,bc1,bc2,bc3,bc4,bc5,bc6,bc7,bb0,setPs,AV.owns,AV.datF,AV.frz,AV.cpy,ifV,isEqB,nilV,nilX,AV.isNilS,AV.isNoRows,wk,dclo,datOf,binIs,addF,AV.isPtr,idxV,AV.isSl,AV.isSlice,AV.rows,ps,pv,extV,extS,AV.outs,AV.outF,packD,AV.dl,fieldV,fieldS,AV.cells?,AV.upr,AV.menc,AV.one,D.one,Value.oneCell',tagOf,AV.isApp,strV,strS,bolV,bolS,slcV,AV.isSlD,asrtS,AV.dcells,D.cells?,stcV,stcS,leafOk,eqDs,eqD,packA,D.val?,↓reduceIte,reduceCtorEq,Nat.reduceAdd,Nat.reduceSub,Nat.reduceMul,List.reduceReplicate,Nat.reduceLeDiff,Nat.reduceLT,Nat.reduceBEq,Nat.reduceEqDiff,Int.reduceNeg,Int.reduceEq,Int.reduceLE,Int.reduceLT,tfb,boxAt,key3',key99',mencs_bxs,mencs_ents,kill_bxs,kill_ents,en_bxs,bxs_len,false_implies,lkv_some',lkv_none',ctz68,O68_1,O68_6,O68_8,O68_13,z68_69,ctz69,z68_44,ctz44,z68_62,ctz62,z62_44,eq_self, hga, hml]
    exact ⟨by rw [hd], _, _, _, by rw [hd]; exact hR.play hk hn64 hd64 hp64, ⟨rfl, rfl, rfl, rfl⟩⟩
  · obtain ⟨hs1, hs2, hs3⟩ := seen_lt hn1 hn2 hi hs
    have hgk : (gS PM x.n seen)[k]? = some (PM.getD k default) := by rw [gS_at hi, if_neg hs]
    have hgd : (gS PM x.n seen).getD k default = PM.getD k default := by rw [List.getD_eq_getElem?_getD, hgk]; rfl
    have hstep := gS_step (n := x.n) (seen := seen) hi
    have hmem : (PM.getD k default).2 ∈ s.mem := hR.perm.mem_iff.1 (List.mem_map.2 ⟨_, by rw [at_lt hi]; exact List.getElem_mem _, rfl⟩)
    have hb := hI.2.1 _ hmem
    unfold MOk at hb
    rw [hgd]
    generalize PM.getD k default = z at hgk hstep hb
    obtain ⟨zp, mp, mc, mb, ms, mi⟩ := z
    simp only at hb
    have hat := bx_at (gb := 4000100011) hgk
    have hst := fun {a b c d e : Int} => bx_set (gb := 4000100011) hgk (a := a) (b := b) (c := c) (d := d) (e := e)
    have hfin : ∀ e' : Int × Mem, e' = (zp, gam x.n ⟨mp, mc, mb, ms, mi⟩) → gS PM x.n (seen ++ [k]) = (gS PM x.n seen).set k e' := fun e' h => by rw [h]; exact hstep
    by_cases q1 : mc = x.n
    · have q1b : (mc == x.n) = true := by simpa using q1
      by_cases q2 : 0 < mb
      · have hg := hfin (zp, ⟨mp, mc, mb - 1, ms, mi⟩) (by unfold gam; rw [if_pos q1]; simp only; rw [show max 0 (mb - 1) = mb - 1 by omega])
        simp (maxSteps := 4000000) +contextual (disch := first | omega | exact qdb_ok (by kernel_rfl) | exact okb_ok (by kernel_rfl)) only [bw1,bw2,bw3,bw4,bw5,bw6,bw7,bc0,bc1,bc2,bc3,bc4,bc5,bc6,bc7,bb0,setPs,AV.owns,AV.datF,AV.frz,AV.cpy,ifV,isEqB,nilV,nilX,AV.isNilS,AV.isNoRows,wk,dclo,datOf,binIs,addF,AV.isPtr,idxV,AV.isSl,AV.isSlice,AV.rows,ps,pv,extV,extS,AV.outs,AV.outF,packD,AV.dl,fieldV,fieldS,AV.cells?,AV.upr,AV.menc,AV.one,D.one,Value.oneCell',tagOf,AV.isApp,strV,strS,bolV,bolS,slcV,AV.isSlD,asrtS,AV.dcells,D.cells?,stcV,stcS,leafOk,eqDs,eqD,packA,D.val?,↓reduceIte,reduceCtorEq,Nat.reduceAdd,Nat.reduceSub,Nat.reduceMul,List.reduceReplicate,Nat.reduceLeDiff,Nat.reduceLT,Nat.reduceBEq,Nat.reduceEqDiff,Int.reduceNeg,Int.reduceEq,Int.reduceLE,Int.reduceLT,tfb,boxAt,key3',key99',mencs_bxs,mencs_ents,kill_bxs,kill_ents,en_bxs,bxs_len,false_implies,lkv_some',lkv_none',ctz68,O68_1,O68_6,O68_8,O68_13,z68_69,ctz69,z68_44,ctz44,z68_62,ctz62,z62_44,eq_self, hat, hst, q1b, q2, hb]
        exact ⟨⟨gS_len, hi⟩, rfl, seen ++ [k], ⟨⟨hs2, hs3⟩, by rw [List.length_append]; simp only [List.length_cons, List.length_nil]; omega⟩, wk_ents _, by rw [hg]; exact wk_ents _, wk_ents _, wk_ents _⟩
      · have hg := hfin (zp, ⟨mp, mc, mb, ms, mi⟩) (by unfold gam; rw [if_pos q1]; simp only; rw [show max 0 (mb - 1) = mb by omega])
        simp (maxSteps := 4000000) +contextual (disch := first | omega | exact qdb_ok (by kernel_rfl) | exact okb_ok (by kernel_rfl)) only [bw1,bw2,bw3,bw4,bw5,bw6,bw7,bc0,bc1,bc2,bc3,bc4,bc5,bc6,bc7,bb0,setPs,AV.owns,AV.datF,AV.frz,AV.cpy,ifV,isEqB,nilV,nilX,AV.isNilS,AV.isNoRows,wk,dclo,datOf,binIs,addF,AV.isPtr,idxV,AV.isSl,AV.isSlice,AV.rows,ps,pv,extV,extS,AV.outs,AV.outF,packD,AV.dl,fieldV,fieldS,AV.cells?,AV.upr,AV.menc,AV.one,D.one,Value.oneCell',tagOf,AV.isApp,strV,strS,bolV,bolS,slcV,AV.isSlD,asrtS,AV.dcells,D.cells?,stcV,stcS,leafOk,eqDs,eqD,packA,D.val?,↓reduceIte,reduceCtorEq,Nat.reduceAdd,Nat.reduceSub,Nat.reduceMul,List.reduceReplicate,Nat.reduceLeDiff,Nat.reduceLT,Nat.reduceBEq,Nat.reduceEqDiff,Int.reduceNeg,Int.reduceEq,Int.reduceLE,Int.reduceLT,tfb,boxAt,key3',key99',mencs_bxs,mencs_ents,kill_bxs,kill_ents,en_bxs,bxs_len,false_implies,lkv_some',lkv_none',ctz68,O68_1,O68_6,O68_8,O68_13,z68_69,ctz69,z68_44,ctz44,z68_62,ctz62,z62_44,eq_self, hat, q1b, q2]
        exact ⟨⟨gS_len, hi⟩, seen ++ [k], ⟨⟨hs2, hs3⟩, by rw [List.length_append]; simp only [List.length_cons, List.length_nil]; omega⟩, wk_ents _, by rw [hg, self_set hgk]; exact wk_ents _, wk_ents _, wk_ents _⟩
    · have q1b : (mc == x.n) = false := by simpa using q1
      have hg := hfin (zp, ⟨mp, mc, mb, ms, mi⟩) (by unfold gam; rw [if_neg q1])
      simp (maxSteps := 4000000) +contextual (disch := first | omega | exact qdb_ok (by kernel_rfl) | exact okb_ok (by kernel_rfl)) only [bw1,bw2,bw3,bw4,bw5,bw6,bw7,bc0,bc1,bc2,bc3,bc4,bc5,bc6,bc7,bb0,setPs,AV.owns,AV.datF,AV.frz,AV.cpy,ifV,isEqB,nilV,nilX,AV.isNilS,AV.isNoRows,wk,dclo,datOf,binIs,addF,AV.isPtr,idxV,AV.isSl,AV.isSlice,AV.rows,ps,pv,extV,extS,AV.outs,AV.outF,packD,AV.dl,fieldV,fieldS,AV.cells?,AV.upr,AV.menc,AV.one,D.one,Value.oneCell',tagOf,AV.isApp,strV,strS,bolV,bolS,slcV,AV.isSlD,asrtS,AV.dcells,D.cells?,stcV,stcS,leafOk,eqDs,eqD,packA,D.val?,↓reduceIte,reduceCtorEq,Nat.reduceAdd,Nat.reduceSub,Nat.reduceMul,List.reduceReplicate,Nat.reduceLeDiff,Nat.reduceLT,Nat.reduceBEq,Nat.reduceEqDiff,Int.reduceNeg,Int.reduceEq,Int.reduceLE,Int.reduceLT,tfb,boxAt,key3',key99',mencs_bxs,mencs_ents,kill_bxs,kill_ents,en_bxs,bxs_len,false_implies,lkv_some',lkv_none',ctz68,O68_1,O68_6,O68_8,O68_13,z68_69,ctz69,z68_44,ctz44,z68_62,ctz62,z62_44,eq_self, hat, q1b]
      exact ⟨⟨gS_len, hi⟩, seen ++ [k], ⟨⟨hs2, hs3⟩, by rw [List.length_append]; simp only [List.length_cons, List.length_nil]; omega⟩, wk_ents _, by rw [hg, self_set hgk]; exact wk_ents _, wk_ents _, wk_ents _⟩
end Go.Proofs.Ytohkngiflfkjjaa
