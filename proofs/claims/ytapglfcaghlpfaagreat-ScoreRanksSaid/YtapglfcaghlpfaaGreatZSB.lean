/- A part of the proof that the last text ends: what functions of the program do, told by plain data. -/
import Derived.Test.YtapglfcaghlpfaaGreatZSA
set_option linter.unusedVariables false
set_option linter.unusedSimpArgs false
namespace Go.Proofs.YtapglfcaghlpfaaGreat
open Go Go.E
set_option maxRecDepth 100000
set_option maxHeartbeats 8000000
def cmpI (a b : Int) : Int := if a < b then -1 else if b < a then 1 else 0
def better (a b : Sco) : Bool := decide (b.total < a.total) || (decide (a.total = b.total) && decide (b.elements < a.elements))
def O53 : Nat → Sch := fun id => .done
theorem ho53 : Tryz.f53.body.map (okO O53) = some true := by kernel_rfl
def Cf53 : Nat → List AV → (AV → List AV → Sto → Prop) → Kt → List AV → Sto → Prop := fun f args K Q e s => match f with
  | _ => False
def Ct53 : CT := { f := Cf53, y := noYld, z := fun d => false }
theorem Ct53_ok : Ct53.ok Tryz.prog := ok_of_f (fun f args K Q e s h => by
  have h : Cf53 f args K Q e s := h
  unfold Cf53 at h; split at h
  · exact h.elim) (fun _ _ _ _ _ _ _ _ _ h => h)
theorem c53 : callable Tryz.prog 53 = true := by kernel_rfl
theorem pf53 (n : Int) : PF Tryz.prog 53 [.i n] (fun zz => zz = .ret (.b false)) := by
  refine PF_nil (PF_start (O := O53) Ct53_ok hmix ho53 Tryz.func53 c53 rfl Tryz.ntmps53 Tryz.results53 ?_)
  simp (maxSteps := 4000000) +contextual (disch := first | omega | exact qdb_ok (by kernel_rfl) | exact okb_ok (by kernel_rfl)) only [bw1,bw2,bw3,bw5,bw6,bc1,bc2,bc3,bc4,bc5,bc7,binIs,AV.outs,AV.outF,packD,↓reduceIte,Nat.reduceSub,List.reduceReplicate,tfb]
  simp
def ent53 (args : List AV) (K : AV → List AV → Sto → Prop) (e : List AV) (s : Sto) : Prop := ent (α := (Int)) (fun aa => [.i aa]) (fun aa => True) (fun aa => .b false) args K e s
theorem ent53_ok {args : List AV} {K : AV → List AV → Sto → Prop} {Q : Kt} {e : List AV} {s : Sto} (h : ent53 args K e s) : pcall Tryz.prog 53 args K Q e s := ent_ok (fun aa h => pf53 aa) h
theorem eq53 {n : Int} {KK : AV → List AV → Sto → Prop} {ee : List AV} {ss : Sto} : ent53 [.d (.i n)] KK ee ss = (KK (.d (.b false)) ee ss) := by
  unfold ent53; rw [ent_iff n (by intro b h; simpa [Prod.ext_iff, and_assoc, Int.ofNat_inj, ints_inj, cals_inj, pcs_inj, skas_inj, scos_inj, ska_inj, rul_inj, sco_inj, cal_inj] using h) rfl]; simp
def O33 : Nat → Sch := fun id => .done
theorem ho33 : Tryz.f33.body.map (okO O33) = some true := by kernel_rfl
def Cf33 : Nat → List AV → (AV → List AV → Sto → Prop) → Kt → List AV → Sto → Prop := fun f args K Q e s => match f with
  | 53 => ent53 args K e s
  | _ => False
def Ct33 : CT := { f := Cf33, y := noYld, z := fun d => false }
theorem Ct33_ok : Ct33.ok Tryz.prog := ok_of_f (fun f args K Q e s h => by
  have h : Cf33 f args K Q e s := h
  unfold Cf33 at h; split at h
  · exact ent53_ok h
  · exact h.elim) (fun _ _ _ _ _ _ _ _ _ h => h)
theorem x33_53 {n : Int} {KK : AV → List AV → Sto → Prop} {QQ : Kt} {ii : At KK} {jj : At QQ} {ee : List AV} {ss : Sto} : xC Ct33 53 [.d (.i n)] KK QQ ii jj ee ss = (KK (.d (.b false)) ee ss) := eq53
theorem c33 : callable Tryz.prog 33 = true := by kernel_rfl
theorem pf33 (a b : Int) : PF Tryz.prog 33 [.i a, .i b] (fun zz => zz = .ret (.i (cmpI a b))) := by
  refine PF_nil (PF_start (O := O33) Ct33_ok hmix ho33 Tryz.func33 c33 rfl Tryz.ntmps33 Tryz.results33 ?_)
  unfold cmpI
  by_cases c1 : a < b
  · simp (maxSteps := 4000000) +contextual (disch := first | omega | exact qdb_ok (by kernel_rfl) | exact okb_ok (by kernel_rfl)) only [bw1,bw2,bw3,bw5,bw6,bw7,bc1,bc2,bc3,bc4,bc5,bc6,binIs,AV.outs,AV.outF,packD,↓reduceIte,Nat.reduceAdd,Nat.reduceSub,List.reduceReplicate,Int.reduceNeg,tfb,x33_53,c1]
  by_cases c2 : b < a
  · simp (maxSteps := 4000000) +contextual (disch := first | omega | exact qdb_ok (by kernel_rfl) | exact okb_ok (by kernel_rfl)) only [bw1,bw2,bw3,bw5,bw6,bw7,bc1,bc2,bc3,bc4,bc5,bc6,binIs,AV.outs,AV.outF,packD,↓reduceIte,Nat.reduceAdd,Nat.reduceSub,List.reduceReplicate,Int.reduceNeg,tfb,x33_53,c1, c2]
  · simp (maxSteps := 4000000) +contextual (disch := first | omega | exact qdb_ok (by kernel_rfl) | exact okb_ok (by kernel_rfl)) only [bw1,bw2,bw3,bw5,bw6,bw7,bc1,bc2,bc3,bc4,bc5,bc6,binIs,AV.outs,AV.outF,packD,↓reduceIte,Nat.reduceAdd,Nat.reduceSub,List.reduceReplicate,Int.reduceNeg,tfb,x33_53,c1, c2]
def orN (l : List Int) : Nat → Nat → Int
  | 0, _ => 0
  | k + 1, i => if l.getD i default = 0 then orN l k (i + 1) else l.getD i default
def ent33 (args : List AV) (K : AV → List AV → Sto → Prop) (e : List AV) (s : Sto) : Prop := ent (α := (Int) × (Int)) (fun aa => [.i aa.1, .i aa.2]) (fun aa => True) (fun aa => .i (cmpI aa.1 aa.2)) args K e s
theorem ent33_ok {args : List AV} {K : AV → List AV → Sto → Prop} {Q : Kt} {e : List AV} {s : Sto} (h : ent33 args K e s) : pcall Tryz.prog 33 args K Q e s := ent_ok (fun aa h => pf33 aa.1 aa.2) h
theorem eq33 {a : Int} {b : Int} {KK : AV → List AV → Sto → Prop} {ee : List AV} {ss : Sto} : ent33 [.d (.i a), .d (.i b)] KK ee ss = (KK (.d (.i (cmpI a b))) ee ss) := by
  unfold ent33; rw [ent_iff (a, b) (by intro b h; simpa [Prod.ext_iff, and_assoc, Int.ofNat_inj, ints_inj, cals_inj, pcs_inj, skas_inj, scos_inj, ska_inj, rul_inj, sco_inj, cal_inj] using h) rfl]; simp
def O32 : Nat → Sch := fun id => .done
theorem ho32 : Tryz.f32.body.map (okO O32) = some true := by kernel_rfl
def Cf32 : Nat → List AV → (AV → List AV → Sto → Prop) → Kt → List AV → Sto → Prop := fun f args K Q e s => match f with
  | _ => False
def Ct32 : CT := { f := Cf32, y := noYld, z := fun d => false }
theorem Ct32_ok : Ct32.ok Tryz.prog := ok_of_f (fun f args K Q e s h => by
  have h : Cf32 f args K Q e s := h
  unfold Cf32 at h; split at h
  · exact h.elim) (fun _ _ _ _ _ _ _ _ _ h => h)
theorem c32 : callable Tryz.prog 32 = true := by kernel_rfl
theorem pf32 (l : List Int) (h : l.length ≤ 1000) : PF Tryz.prog 32 [.sl 1 (l.map ic)] (fun zz => zz = .ret (.i (orN l l.length 0))) := by
  refine PF_nil (PF_start (O := O32) Ct32_ok hmix ho32 Tryz.func32 c32 rfl Tryz.ntmps32 Tryz.results32 ?_)
  simp (maxSteps := 4000000) +contextual (disch := first | omega | exact qdb_ok (by kernel_rfl) | exact okb_ok (by kernel_rfl)) only [bw1,bw2,bw4,bw5,bw6,bc4,bc5,AV.isSlice,AV.rows,↓reduceIte,Nat.reduceSub,List.reduceReplicate,tfb]
  refine loop_s (O := O32) (tb := 0) Ct32_ok hmix (by kernel_rfl) (σ := Nat) (fun i => [(5, .any), (8, .i i)]) (fun i => i ≤ l.length ∧ orN l (l.length - i) i = orN l l.length 0) (fun i => l.length - i) (fun i => i + 1) 0 ⟨by omega, rfl⟩ ?_ ?_
  · simp (maxSteps := 4000000) +contextual (disch := first | omega | exact qdb_ok (by kernel_rfl) | exact okb_ok (by kernel_rfl)) only [bw4,bw6,bc0,bc5,bc6,AV.isNilS,AV.isNoRows,wk,reduceCtorEq]
  rintro i ⟨hi, hw⟩
  by_cases hlt : i < l.length
  · have hlt' : (i : Int) < l.length := by omega
    rw [show l.length - i = (l.length - (i + 1)) + 1 by omega, orN] at hw
    by_cases c : l.getD i default = 0
    · rw [if_pos c] at hw
      simp (maxSteps := 4000000) +contextual (disch := first | omega | exact qdb_ok (by kernel_rfl) | exact okb_ok (by kernel_rfl)) only [bw1,bw2,bw4,bw5,bw6,bw7,bc0,bc1,bc2,bc3,bc4,bc5,bc6,AV.isNilS,AV.isNoRows,wk,binIs,idxV,AV.isSl,AV.rows,ps,pv,↓reduceIte,reduceCtorEq,Nat.reduceLeDiff,tfb,eq_self, hlt', c]
      and_intros <;> first | omega | exact hw
    · rw [if_neg c] at hw
      simp (maxSteps := 4000000) +contextual (disch := first | omega | exact qdb_ok (by kernel_rfl) | exact okb_ok (by kernel_rfl)) only [bw1,bw2,bw3,bw4,bw5,bw6,bw7,bc0,bc1,bc2,bc3,bc4,bc5,bc6,AV.isNilS,AV.isNoRows,wk,binIs,idxV,AV.isSl,AV.rows,ps,pv,AV.outs,AV.outF,packD,↓reduceIte,reduceCtorEq,Nat.reduceLeDiff,tfb,eq_self, hlt', hw]
      try omega
  · have hlt' : ¬ (i : Int) < l.length := by omega
    rw [show l.length - i = 0 by omega, orN] at hw
    simp (maxSteps := 4000000) +contextual (disch := first | omega | exact qdb_ok (by kernel_rfl) | exact okb_ok (by kernel_rfl)) only [bw1,bw2,bw3,bw5,bw6,bw7,bc0,bc1,bc2,bc3,bc4,bc5,bc6,binIs,AV.outs,AV.outF,packD,↓reduceIte,tfb,eq_self, hlt', ← hw]
def two (x y : Int) : List Int := [x, y]
theorem two_rows {x y : Int} : [[D.i x], [D.i y]] = List.map ic (two x y) := rfl
theorem two_set {u v x y : Int} : ((List.map ic (two u v)).set 0 [D.v (Value.int .i64 x)]).set 1 [D.v (Value.int .i64 y)] = List.map ic (two x y) := rfl
theorem two_len {x y : Int} : (two x y).length = 2 := rfl
theorem or_two {x y : Int} : orN (two x y) (two x y).length 0 = if x = 0 then y else x := by
  show (if x = 0 then (if y = 0 then 0 else y) else x) = _
  split
  · split
    · rename_i h; exact h.symm
    · rfl
  · rfl
theorem cmp_better {a b : Sco} : decide (0 < orN (two (cmpI a.total b.total) (cmpI a.elements b.elements)) (two (cmpI a.total b.total) (cmpI a.elements b.elements)).length 0) = better a b := by
  rw [or_two]
  unfold better cmpI
  rw [Bool.eq_iff_iff]
  simp only [decide_eq_true_eq, Bool.or_eq_true, Bool.and_eq_true]
  repeat' split
  all_goals omega
def ent32 (args : List AV) (K : AV → List AV → Sto → Prop) (e : List AV) (s : Sto) : Prop := ent (α := (List Int)) (fun aa => [.sl 1 (aa.map ic)]) (fun aa => aa.length ≤ 1000) (fun aa => .i (orN aa aa.length 0)) args K e s
theorem ent32_ok {args : List AV} {K : AV → List AV → Sto → Prop} {Q : Kt} {e : List AV} {s : Sto} (h : ent32 args K e s) : pcall Tryz.prog 32 args K Q e s := ent_ok (fun aa h => pf32 aa h) h
theorem eqo32 {l : List Int} {g1 el1 : Nat} {KK : AV → List AV → Sto → Prop} {ee : List AV} {ss : Sto} : ent32 [.own g1 el1 1 (l.map ic)] KK ee ss = ((l.length ≤ 1000) ∧ (.i (orN l l.length 0) : D).flat = true ∧ KK (.d (.i (orN l l.length 0))) ee ss) := by
  unfold ent32; rw [ent_iff l (by intro b h; simpa [Prod.ext_iff, and_assoc, Int.ofNat_inj, ints_inj, cals_inj, pcs_inj, skas_inj, scos_inj, ska_inj, rul_inj, sco_inj, cal_inj] using h) rfl]; simp
def O19 : Nat → Sch := fun id => if id = 1 then .one 0 (.one 1 (.one 2 (.one 3 (.one 5 (.one 7 (.alt (.one 4 (.one 6 (.one 8 (.one 9 (.one 10 (.one 11 (.one 12 (.one 13 (.done))))))))) (.alt (.one 6 (.alt (.one 4 (.one 8 (.one 9 (.one 10 (.one 11 (.one 12 (.one 13 (.done)))))))) (.one 8 (.one 4 (.one 9 (.one 10 (.one 11 (.one 12 (.one 13 (.done)))))))))) (.one 8 (.alt (.one 4 (.one 6 (.one 9 (.one 10 (.one 11 (.one 12 (.one 13 (.done)))))))) (.one 6 (.one 4 (.one 9 (.one 10 (.one 11 (.one 12 (.one 13 (.done))))))))))))))))) else .done
theorem O19_1 : O19 1 = .one 0 (.one 1 (.one 2 (.one 3 (.one 5 (.one 7 (.alt (.one 4 (.one 6 (.one 8 (.one 9 (.one 10 (.one 11 (.one 12 (.one 13 (.done))))))))) (.alt (.one 6 (.alt (.one 4 (.one 8 (.one 9 (.one 10 (.one 11 (.one 12 (.one 13 (.done)))))))) (.one 8 (.one 4 (.one 9 (.one 10 (.one 11 (.one 12 (.one 13 (.done)))))))))) (.one 8 (.alt (.one 4 (.one 6 (.one 9 (.one 10 (.one 11 (.one 12 (.one 13 (.done)))))))) (.one 6 (.one 4 (.one 9 (.one 10 (.one 11 (.one 12 (.one 13 (.done))))))))))))))))) := rfl
theorem ho19 : Tryz.f19.body.map (okO O19) = some true := by kernel_rfl
def Cf19 : Nat → List AV → (AV → List AV → Sto → Prop) → Kt → List AV → Sto → Prop := fun f args K Q e s => match f with
  | 32 => ent32 args K e s
  | 33 => ent33 args K e s
  | _ => False
def Ct19 : CT := { f := Cf19, y := noYld, z := fun d => false }
theorem ctz19 {d : Nat} : CT.z Ct19 d = (false) := id rfl
theorem Ct19_ok : Ct19.ok Tryz.prog := ok_of_f (fun f args K Q e s h => by
  have h : Cf19 f args K Q e s := h
  unfold Cf19 at h; split at h
  · exact ent32_ok h
  · exact ent33_ok h
  · exact h.elim) (fun _ _ _ _ _ _ _ _ _ h => h)
theorem x19_32_m1 {l : List Int} {g1 el1 : Nat} {KK : AV → List AV → Sto → Prop} {QQ : Kt} {ii : At KK} {jj : At QQ} {ee : List AV} {ss : Sto} : xC Ct19 32 [.own g1 el1 1 (l.map ic)] KK QQ ii jj ee ss = ((l.length ≤ 1000) ∧ (.i (orN l l.length 0) : D).flat = true ∧ KK (.d (.i (orN l l.length 0))) ee ss) := eqo32
theorem x19_33 {a : Int} {b : Int} {KK : AV → List AV → Sto → Prop} {QQ : Kt} {ii : At KK} {jj : At QQ} {ee : List AV} {ss : Sto} : xC Ct19 33 [.d (.i a), .d (.i b)] KK QQ ii jj ee ss = (KK (.d (.i (cmpI a b))) ee ss) := eq33
theorem c19 : callable Tryz.prog 19 = true := by kernel_rfl
theorem pf19 (a b : Sco) : PF Tryz.prog 19 [.agg a.c, .agg b.c] (fun zz => zz = .ret (.b (better a b))) := by
  have hb := cmp_better (a := a) (b := b)
  refine PF_nil (PF_start (O := O19) Ct19_ok hmix ho19 Tryz.func19 c19 rfl Tryz.ntmps19 Tryz.results19 ?_)
  simp (maxSteps := 4000000) +contextual (disch := first | omega | exact qdb_ok (by kernel_rfl) | exact okb_ok (by kernel_rfl)) only [bw1,bw2,bw3,bw5,bw6,bw7,bc1,bc2,bc3,bc4,bc5,bc6,bc7,binIs,addF,AV.isPtr,AV.outs,AV.outF,packD,AV.cells?,D.one,Value.oneCell',AV.dcells,D.cells?,↓reduceIte,reduceCtorEq,Nat.reduceAdd,Nat.reduceSub,Nat.reduceMul,List.reduceReplicate,Nat.reduceLeDiff,Nat.reduceLT,Nat.reduceBEq,Nat.reduceEqDiff,tfb,D.flat,ctz19,O19_1,x19_32_m1,x19_33,two_rows, two_set, two_len]
  rw [two_len] at hb
  exact hb
def ent19 (args : List AV) (K : AV → List AV → Sto → Prop) (e : List AV) (s : Sto) : Prop := ent (α := (Sco) × (Sco)) (fun aa => [.agg aa.1.c, .agg aa.2.c]) (fun aa => True) (fun aa => .b (better aa.1 aa.2)) args K e s
theorem ent19_ok {args : List AV} {K : AV → List AV → Sto → Prop} {Q : Kt} {e : List AV} {s : Sto} (h : ent19 args K e s) : pcall Tryz.prog 19 args K Q e s := ent_ok (fun aa h => pf19 aa.1 aa.2) h
theorem eq19 {a : Sco} {b : Sco} {KK : AV → List AV → Sto → Prop} {ee : List AV} {ss : Sto} : ent19 [.d (.agg a.c), .d (.agg b.c)] KK ee ss = (KK (.d (.b (better a b))) ee ss) := by
  unfold ent19; rw [ent_iff (a, b) (by intro b h; simpa [Prod.ext_iff, and_assoc, Int.ofNat_inj, ints_inj, cals_inj, pcs_inj, skas_inj, scos_inj, ska_inj, rul_inj, sco_inj, cal_inj] using h) rfl]; simp
def O20 : Nat → Sch := fun id => .done
theorem ho20 : Tryz.f20.body.map (okO O20) = some true := by kernel_rfl
def Cf20 : Nat → List AV → (AV → List AV → Sto → Prop) → Kt → List AV → Sto → Prop := fun f args K Q e s => match f with
  | _ => False
def Ct20 : CT := { f := Cf20, y := noYld, z := fun d => false }
theorem Ct20_ok : Ct20.ok Tryz.prog := ok_of_f (fun f args K Q e s h => by
  have h : Cf20 f args K Q e s := h
  unfold Cf20 at h; split at h
  · exact h.elim) (fun _ _ _ _ _ _ _ _ _ h => h)
theorem c20 : callable Tryz.prog 20 = true := by kernel_rfl
theorem pf20 (a b : Sco) : PF Tryz.prog 20 [.agg a.c, .agg b.c] (fun zz => zz = .ret (.b (better a b))) := by
  refine PF_nil (PF_start (O := O20) Ct20_ok hmix ho20 Tryz.func20 c20 rfl Tryz.ntmps20 Tryz.results20 ?_)
  unfold better
  by_cases c1 : b.total < a.total
  · simp (maxSteps := 4000000) +contextual (disch := first | omega | exact qdb_ok (by kernel_rfl) | exact okb_ok (by kernel_rfl)) only [bw1,bw2,bw3,bw5,bw6,bw7,bc0,bc1,bc2,bc3,bc4,bc5,bc6,bc7,binIs,addF,AV.isPtr,AV.outs,AV.outF,packD,AV.cells?,↓reduceIte,reduceCtorEq,Nat.reduceAdd,Nat.reduceSub,List.reduceReplicate,Nat.reduceLeDiff,Nat.reduceLT,Nat.reduceBEq,Nat.reduceEqDiff,tfb,c1]
    rfl
  by_cases c2 : a.total = b.total
  · simp (maxSteps := 4000000) +contextual (disch := first | omega | exact qdb_ok (by kernel_rfl) | exact okb_ok (by kernel_rfl)) only [bw1,bw2,bw3,bw5,bw6,bw7,bc0,bc1,bc2,bc3,bc4,bc5,bc6,binIs,addF,AV.isPtr,AV.outs,AV.outF,packD,AV.cells?,↓reduceIte,reduceCtorEq,Nat.reduceAdd,Nat.reduceSub,List.reduceReplicate,Nat.reduceLeDiff,Nat.reduceLT,Nat.reduceBEq,Nat.reduceEqDiff,tfb, c2, Int.lt_irrefl]
    try rfl
  · simp (maxSteps := 4000000) +contextual (disch := first | omega | exact qdb_ok (by kernel_rfl) | exact okb_ok (by kernel_rfl)) only [bw1,bw2,bw3,bw5,bw6,bw7,bc0,bc1,bc2,bc3,bc4,bc5,bc6,bc7,binIs,addF,AV.isPtr,AV.outs,AV.outF,packD,AV.cells?,↓reduceIte,reduceCtorEq,Nat.reduceAdd,Nat.reduceSub,List.reduceReplicate,Nat.reduceLeDiff,Nat.reduceLT,Nat.reduceBEq,Nat.reduceEqDiff,tfb,c1, c2]
    rfl
def ent20 (args : List AV) (K : AV → List AV → Sto → Prop) (e : List AV) (s : Sto) : Prop := ent (α := (Sco) × (Sco)) (fun aa => [.agg aa.1.c, .agg aa.2.c]) (fun aa => True) (fun aa => .b (better aa.1 aa.2)) args K e s
theorem ent20_ok {args : List AV} {K : AV → List AV → Sto → Prop} {Q : Kt} {e : List AV} {s : Sto} (h : ent20 args K e s) : pcall Tryz.prog 20 args K Q e s := ent_ok (fun aa h => pf20 aa.1 aa.2) h
theorem eq20 {a : Sco} {b : Sco} {KK : AV → List AV → Sto → Prop} {ee : List AV} {ss : Sto} : ent20 [.d (.agg a.c), .d (.agg b.c)] KK ee ss = (KK (.d (.b (better a b))) ee ss) := by
  unfold ent20; rw [ent_iff (a, b) (by intro b h; simpa [Prod.ext_iff, and_assoc, Int.ofNat_inj, ints_inj, cals_inj, pcs_inj, skas_inj, scos_inj, ska_inj, rul_inj, sco_inj, cal_inj] using h) rfl]; simp
def O47 : Nat → Sch := fun id => .done
theorem ho47 : Tryz.f47.body.map (okO O47) = some true := by kernel_rfl
def Cf47 : Nat → List AV → (AV → List AV → Sto → Prop) → Kt → List AV → Sto → Prop := fun f args K Q e s => match f with
  | _ => False
def Ct47 : CT := { f := Cf47, y := noYld, z := fun d => false }
theorem Ct47_ok : Ct47.ok Tryz.prog := ok_of_f (fun f args K Q e s h => by
  have h : Cf47 f args K Q e s := h
  unfold Cf47 at h; split at h
  · exact h.elim) (fun _ _ _ _ _ _ _ _ _ h => h)
theorem c47 : callable Tryz.prog 47 = true := by kernel_rfl
theorem pf47 (n : Int) : PF Tryz.prog 47 [.i n] (fun zz => zz = .ret (.i n)) := by
  refine PF_nil (PF_start (O := O47) Ct47_ok hmix ho47 Tryz.func47 c47 rfl Tryz.ntmps47 Tryz.results47 ?_)
  simp (maxSteps := 4000000) +contextual (disch := first | omega | exact qdb_ok (by kernel_rfl) | exact okb_ok (by kernel_rfl)) only [bw1,bw2,bw3,bw5,bw6,bc2,bc3,bc4,bc5,AV.outs,AV.outF,packD,↓reduceIte,Nat.reduceSub,List.reduceReplicate]
def rnd (a b : Int) : Int := if a < 0 then -((2 * -a + b) / (2 * b)) else (2 * a + b) / (2 * b)
def ent47 (args : List AV) (K : AV → List AV → Sto → Prop) (e : List AV) (s : Sto) : Prop := ent (α := (Int)) (fun aa => [.i aa]) (fun aa => True) (fun aa => .i aa) args K e s
theorem ent47_ok {args : List AV} {K : AV → List AV → Sto → Prop} {Q : Kt} {e : List AV} {s : Sto} (h : ent47 args K e s) : pcall Tryz.prog 47 args K Q e s := ent_ok (fun aa h => pf47 aa) h
theorem eq47 {n : Int} {KK : AV → List AV → Sto → Prop} {ee : List AV} {ss : Sto} : ent47 [.d (.i n)] KK ee ss = (KK (.d (.i n)) ee ss) := by
  unfold ent47; rw [ent_iff n (by intro b h; simpa [Prod.ext_iff, and_assoc, Int.ofNat_inj, ints_inj, cals_inj, pcs_inj, skas_inj, scos_inj, ska_inj, rul_inj, sco_inj, cal_inj] using h) rfl]; simp
def O45 : Nat → Sch := fun id => .done
theorem ho45 : Tryz.f45.body.map (okO O45) = some true := by kernel_rfl
def Cf45 : Nat → List AV → (AV → List AV → Sto → Prop) → Kt → List AV → Sto → Prop := fun f args K Q e s => match f with
  | _ => False
def Ct45 : CT := { f := Cf45, y := noYld, z := fun d => false }
theorem Ct45_ok : Ct45.ok Tryz.prog := ok_of_f (fun f args K Q e s h => by
  have h : Cf45 f args K Q e s := h
  unfold Cf45 at h; split at h
  · exact h.elim) (fun _ _ _ _ _ _ _ _ _ h => h)
theorem c45 : callable Tryz.prog 45 = true := by kernel_rfl
theorem pf45 (a b : Int) (h : (-1000000000 ≤ a ∧ a ≤ 1000000000) ∧ 1 ≤ b ∧ b ≤ 1000000000) : PF Tryz.prog 45 [.i a, .i b] (fun zz => zz = .ret (.i (rnd a b))) := by
  obtain ⟨⟨a1, a2⟩, b1, b2⟩ := h
  refine PF_nil (PF_start (O := O45) Ct45_ok hmix ho45 Tryz.func45 c45 rfl Tryz.ntmps45 Tryz.results45 ?_)
  by_cases c : a < 0
  · have hm : max a (0 - a) = -a := by omega
    have hm2 : max a (-a) = -a := by omega
    have hd : (2 * -a + b).tdiv (2 * b) = (2 * -a + b) / (2 * b) := Int.tdiv_eq_ediv_of_nonneg (by omega)
    have hb1 : 0 ≤ (2 * -a + b) / (2 * b) := Int.ediv_nonneg (by omega) (by omega)
    have hb2 : (2 * -a + b) / (2 * b) ≤ 2 * -a + b := Int.ediv_le_self _ (by omega)
    have hw : rnd a b = -((2 * -a + b) / (2 * b)) := by unfold rnd; rw [if_pos c]
    rw [hw]
    simp (maxSteps := 4000000) +contextual (disch := first | omega | exact qdb_ok (by kernel_rfl) | exact okb_ok (by kernel_rfl)) only [bw1,bw2,bw3,bw4,bw5,bw6,bw7,bc1,bc2,bc3,bc4,bc5,bc6,bc7,binIs,AV.outs,AV.outF,packD,↓reduceIte,Nat.reduceAdd,Nat.reduceSub,List.reduceReplicate,tfb,c, hm]
    exact ⟨by omega, Int.zero_sub _⟩
  · have hm : max a (0 - a) = a := by omega
    have hm2 : max a (-a) = a := by omega
    have hd : (2 * a + b).tdiv (2 * b) = (2 * a + b) / (2 * b) := Int.tdiv_eq_ediv_of_nonneg (by omega)
    have hb1 : 0 ≤ (2 * a + b) / (2 * b) := Int.ediv_nonneg (by omega) (by omega)
    have hb2 : (2 * a + b) / (2 * b) ≤ 2 * a + b := Int.ediv_le_self _ (by omega)
    have hw : rnd a b = (2 * a + b) / (2 * b) := by unfold rnd; rw [if_neg c]
    rw [hw]
    have hwr : IntKind.i64.wrap ((2 * a + b) / (2 * b)) = (2 * a + b) / (2 * b) := by
      clear hd hw
      generalize (2 * a + b) / (2 * b) = q at hb1 hb2 ⊢
      exact wrap_ok (by omega) (by omega)
    simp (maxSteps := 4000000) +contextual (disch := first | omega | exact qdb_ok (by kernel_rfl) | exact okb_ok (by kernel_rfl)) only [bw1,bw2,bw3,bw4,bw5,bw6,bw7,bc1,bc2,bc3,bc4,bc5,bc6,binIs,AV.outs,AV.outF,packD,↓reduceIte,Nat.reduceAdd,Nat.reduceSub,List.reduceReplicate,tfb,c, hm, hwr]
    omega
def offN : Nat → Int
  | 0 => 0
  | i + 1 => offN i + min 3 ((i : Int) / 2 + 1)
theorem offN_b : ∀ i, 0 ≤ offN i ∧ offN i ≤ 3 * i
  | 0 => by simp [offN]
  | i + 1 => by
    have := offN_b i
    have h2 : 0 ≤ (i : Int) / 2 := Int.ediv_nonneg (by omega) (by omega)
    unfold offN; omega
def off (falls : Nat) (sec : Int) : Int := 100 * ((sec + 4) / 5 + offN falls)
def ent45 (args : List AV) (K : AV → List AV → Sto → Prop) (e : List AV) (s : Sto) : Prop := ent (α := (Int) × (Int)) (fun aa => [.i aa.1, .i aa.2]) (fun aa => (-1000000000 ≤ aa.1 ∧ aa.1 ≤ 1000000000) ∧ 1 ≤ aa.2 ∧ aa.2 ≤ 1000000000) (fun aa => .i (rnd aa.1 aa.2)) args K e s
theorem ent45_ok {args : List AV} {K : AV → List AV → Sto → Prop} {Q : Kt} {e : List AV} {s : Sto} (h : ent45 args K e s) : pcall Tryz.prog 45 args K Q e s := ent_ok (fun aa h => pf45 aa.1 aa.2 h) h
theorem eq45 {a : Int} {b : Int} {KK : AV → List AV → Sto → Prop} {ee : List AV} {ss : Sto} : ent45 [.d (.i a), .d (.i b)] KK ee ss = (((-1000000000 ≤ a ∧ a ≤ 1000000000) ∧ 1 ≤ b ∧ b ≤ 1000000000) ∧ KK (.d (.i (rnd a b))) ee ss) := by
  unfold ent45; rw [ent_iff (a, b) (by intro b h; simpa [Prod.ext_iff, and_assoc, Int.ofNat_inj, ints_inj, cals_inj, pcs_inj, skas_inj, scos_inj, ska_inj, rul_inj, sco_inj, cal_inj] using h) rfl]; simp
def O52 : Nat → Sch := fun id => .done
theorem ho52 : Tryz.f52.body.map (okO O52) = some true := by kernel_rfl
def Cf52 : Nat → List AV → (AV → List AV → Sto → Prop) → Kt → List AV → Sto → Prop := fun f args K Q e s => match f with
  | _ => False
def Ct52 : CT := { f := Cf52, y := noYld, z := fun d => false }
theorem Ct52_ok : Ct52.ok Tryz.prog := ok_of_f (fun f args K Q e s h => by
  have h : Cf52 f args K Q e s := h
  unfold Cf52 at h; split at h
  · exact h.elim) (fun _ _ _ _ _ _ _ _ _ h => h)
theorem c52 : callable Tryz.prog 52 = true := by kernel_rfl
theorem pf52 (falls : Nat) (sec : Int) (h : falls ≤ 1000 ∧ 0 ≤ sec ∧ sec ≤ 100000) : PF Tryz.prog 52 [.i (falls : Int), .i sec] (fun zz => zz = .ret (.i (off falls sec))) := by
  obtain ⟨h1, h2, h3⟩ := h
  have hb := offN_b
  have hst : ∀ i, offN (i + 1) = offN i + min 3 ((i : Int) / 2 + 1) := fun i => rfl
  have h0 : offN 0 = 0 := rfl
  have hs0 : 0 ≤ (sec + 4) / 5 := Int.ediv_nonneg (by omega) (by omega)
  have hs1 : (sec + 4) / 5 ≤ sec + 4 := Int.ediv_le_self _ (by omega)
  unfold off
  generalize offN = B at hb hst h0 ⊢
  refine PF_nil (PF_start (O := O52) Ct52_ok hmix ho52 Tryz.func52 c52 rfl Tryz.ntmps52 Tryz.results52 ?_)
  simp (maxSteps := 4000000) +contextual (disch := first | omega | exact qdb_ok (by kernel_rfl) | exact okb_ok (by kernel_rfl)) only [bw1,bw2,bw4,bw5,bw6,bw7,bc1,bc4,bc5,binIs,↓reduceIte,Nat.reduceAdd,Nat.reduceSub,List.reduceReplicate,Int.reduceEq,tfb]
  refine loop_s (O := O52) (tb := 0) Ct52_ok hmix (by kernel_rfl) (σ := Nat) (fun i => [(5, .i ((sec + 4) / 5 + B i)), (6, .any), (11, .i i)]) (fun i => i ≤ falls) (fun i => falls - i) (fun i => i + 1) 0 (by omega) ?_ ?_
  · simp (maxSteps := 4000000) +contextual (disch := first | omega | exact qdb_ok (by kernel_rfl) | exact okb_ok (by kernel_rfl)) only [bw4,bw6,bc0,bc5,bc6,AV.isNilS,AV.isNoRows,wk,reduceCtorEq,h0]
    rw [Int.add_zero]
  intro i hi
  have hbi := hb i
  by_cases hlt : i < falls
  · have hlt' : (i : Int) < falls := by omega
    have hsi := hst i
    have h5 : 0 ≤ (i : Int) / 2 := Int.ediv_nonneg (by omega) (by omega)
    have h6 : (i : Int) / 2 ≤ i := Int.ediv_le_self _ (by omega)
    simp (maxSteps := 4000000) +contextual (disch := first | omega | exact qdb_ok (by kernel_rfl) | exact okb_ok (by kernel_rfl)) only [bw1,bw2,bw4,bw5,bw6,bw7,bc0,bc1,bc3,bc4,bc5,bc6,AV.isNilS,AV.isNoRows,wk,binIs,↓reduceIte,reduceCtorEq,Int.reduceEq,tfb,eq_self, hlt', hsi]
    refine ⟨⟨by omega, by omega⟩, ?_⟩
    rw [Int.add_assoc]
  have hlt' : ¬ (i : Int) < falls := by omega
  obtain rfl : i = falls := by omega
  simp (maxSteps := 4000000) +contextual (disch := first | omega | exact qdb_ok (by kernel_rfl) | exact okb_ok (by kernel_rfl)) only [bw1,bw2,bw3,bw5,bw6,bw7,bc0,bc1,bc2,bc3,bc4,bc5,bc6,binIs,AV.outs,AV.outF,packD,↓reduceIte,tfb,eq_self, hlt']
def ent52 (args : List AV) (K : AV → List AV → Sto → Prop) (e : List AV) (s : Sto) : Prop := ent (α := (Nat) × (Int)) (fun aa => [.i (aa.1 : Int), .i aa.2]) (fun aa => aa.1 ≤ 1000 ∧ 0 ≤ aa.2 ∧ aa.2 ≤ 100000) (fun aa => .i (off aa.1 aa.2)) args K e s
theorem ent52_ok {args : List AV} {K : AV → List AV → Sto → Prop} {Q : Kt} {e : List AV} {s : Sto} (h : ent52 args K e s) : pcall Tryz.prog 52 args K Q e s := ent_ok (fun aa h => pf52 aa.1 aa.2 h) h
theorem eq52 {falls : Nat} {sec : Int} {KK : AV → List AV → Sto → Prop} {ee : List AV} {ss : Sto} : ent52 [.d (.i (falls : Int)), .d (.i sec)] KK ee ss = ((falls ≤ 1000 ∧ 0 ≤ sec ∧ sec ≤ 100000) ∧ KK (.d (.i (off falls sec))) ee ss) := by
  unfold ent52; rw [ent_iff (falls, sec) (by intro b h; simpa [Prod.ext_iff, and_assoc, Int.ofNat_inj, ints_inj, cals_inj, pcs_inj, skas_inj, scos_inj, ska_inj, rul_inj, sco_inj, cal_inj] using h) rfl]; simp
end Go.Proofs.YtapglfcaghlpfaaGreat
