/- A part of the proof that the last text ends: what functions of the program do, told by plain data. -/
import Derived.Test.YtohkngiflfkjjaaRS
set_option linter.unusedVariables false
set_option linter.unusedSimpArgs false
namespace Go.Proofs.Ytohkngiflfkjjaa
open Go Go.E Go.Maps
set_option maxRecDepth 100000
set_option maxHeartbeats 16000000
/-! ### The program: what is asked of the book -/
mutual
theorem stay_nil : ∀ (x : AV), AV.stay [] [] x
  | .any => trivial
  | .d _ => trivial
  | .own _ _ _ _ => .inl rfl
  | .eref _ _ _ _ _ _ => .inl rfl
  | .ref _ _ => .inl rfl
  | .mp _ => .inl rfl
  | .it _ => .inl rfl
  | .bx _ _ _ => .inl rfl
  | .yld _ _ _ _ => rfl
  | .tup xs => stays_nil xs
  | .agg xs => stays_nil xs
  | .clo _ x y => ⟨stays_nil x, stays_nil y⟩
  | .iface _ x => stay_nil x
theorem stays_nil : ∀ (xs : List AV), AV.stays [] [] xs
  | [] => trivial
  | x :: xs => ⟨stay_nil x, stays_nil xs⟩
end
def othF (T : List Nat) : Sto → Prop
  | [] => True
  | (g, c) :: r => (T.contains g = false ∧ AV.stays T [] c) ∧ othF T r
theorem othF_get {T : List Nat} {g : Nat} {c : List AV} : ∀ {s : Sto}, othF T s → s.get g = some c → T.contains g = false ∧ AV.stays T [] c
  | [], _, h => by simp [Sto.get] at h
  | (k, x) :: r, ho, h => by
    simp only [Sto.get] at h
    split at h
    · rename_i e; subst e; cases h; exact ho.1
    · exact othF_get ho.2 h
def sp27 (args : List AV) (K : AV → List AV → Sto → Prop) (e : List AV) (s : Sto) : Prop :=
  ∃ l : List Ev, args = [.d (.sl 5 (l.map Ev.c))] ∧ ShsOk l ∧ ((runR l).2.2 = 0 → (AV.stays TB [] e ∧ othF TB s) ∧ ∀ PM M1 M2, Rl PM M1 M2 (runR l).1 → K (.tup [.ref 100016 0, .d (.i ((runR l).2.1 : Int)), .d (.i 0)]) e (stoB PM M1 M2 ++ s)) ∧ ((runR l).2.2 ≠ 0 → K (.d (.tup [.v (.pointer none), .i ((runR l).2.1 : Int), .i (runR l).2.2])) e s)
theorem addT_B {s1 s : Sto} {PM : PMem} {M1 M2 : PSet} (h : IsB s1 PM M1 M2) (hn : s1.get 4000100011 = none) : addT s1 s TB = stoB PM M1 M2 ++ s := by
  simp only [TB, addT, h.b, h.g, h.m1, h.m2, hn, stoB, List.cons_append, List.nil_append]
theorem tagB {g : Nat} (hg : g ∈ TB) : g ≠ 0 ∧ (g < 1000000000 ∨ 2000000000 ≤ g) := by
  simp only [TB, List.mem_cons, List.not_mem_nil, or_false] at hg
  omega
theorem sp27_ok {args : List AV} {K : AV → List AV → Sto → Prop} {Q : Kt} {e : List AV} {s : Sto} (h : sp27 args K e s) : pcall Try.prog 27 args K Q e s := by
  obtain ⟨l, rfl, hl, h1, h2⟩ := h
  by_cases c : (runR l).2.2 = 0
  · obtain ⟨⟨a1, a2⟩, a3⟩ := h1 c
    refine pcall_sto (T := TB) (ds := [.sl 5 (l.map Ev.c)]) { tags := fun g hg => tagB hg, slots := a1, others := fun g c hc => othF_get a2 hc } (play27 hl) fun r s1 hr => ?_
    unfold R27 at hr
    rw [if_pos c] at hr
    obtain ⟨rfl, ⟨PM, M1, M2, b1, b2⟩, b3⟩ := hr
    exact ⟨⟨rfl, b2.onlys b3⟩, by rw [addT_B b2 b3]; exact a3 PM M1 M2 b1⟩
  · refine pcall_sto (T := []) (ds := [.sl 5 (l.map Ev.c)]) { tags := fun g hg => (by cases hg), slots := stays_nil _, others := fun g c _ => ⟨rfl, stays_nil _⟩ } (play27 hl) fun r s1 hr => ?_
    unfold R27 at hr
    rw [if_neg c] at hr
    subst hr
    exact ⟨⟨rfl, fun g c hg => by cases hg⟩, h2 c⟩
def O34 : Nat → Sch := fun id => .done
theorem ho34 : Try.f34.body.map (okO O34) = some true := by kernel_rfl
def Cf34 : Nat → List AV → (AV → List AV → Sto → Prop) → Kt → List AV → Sto → Prop := fun f args K Q e s => match f with
  | 56 => ent56 args K e s
  | _ => False
def Ct34 : CT := { f := Cf34, y := noYld, z := fun d => false }
theorem ctz34 {d : Nat} : CT.z Ct34 d = (false) := id rfl
theorem Ct34_ok : Ct34.ok Try.prog := ok_of_f (fun f args K Q e s h => by
  have h : Cf34 f args K Q e s := h
  unfold Cf34 at h; split at h
  · exact ent56_ok h
  · exact h.elim) (fun _ _ _ _ _ _ _ _ _ h => h)
theorem x34_56 {n : Int} {KK : AV → List AV → Sto → Prop} {QQ : Kt} {ii : At KK} {jj : At QQ} {ee : List AV} {ss : Sto} : xC Ct34 56 [.d (.i n)] KK QQ ii jj ee ss = (KK (.d (.b (inB n 0 16384))) ee ss) := eq56
theorem c34 : callable Try.prog 34 = true := by kernel_rfl
theorem pf34 (l : List Ev) (d : Int) (h : l.length ≤ 100000) : PF Try.prog 34 [.sl 5 (l.map Ev.c), .i d] (fun zz => zz = .ret (.b (lateB l d))) := by
  unfold lateB
  by_cases c1 : inB d 0 16384 = true
  case neg =>
    refine PF_nil (PF_start (O := O34) Ct34_ok hmix ho34 Try.func34 c34 rfl Try.ntmps34 Try.results34 ?_)
    simp (maxSteps := 4000000) +contextual (disch := first | omega | exact qdb_ok (by kernel_rfl) | exact okb_ok (by kernel_rfl)) only [bw1,bw2,bw3,bw4,bw5,bw6,bw7,bc0,bc1,bc2,bc3,bc4,bc5,bc6,bc7,bb0,setPs,AV.owns,AV.datF,AV.frz,AV.cpy,ifV,isEqB,nilV,nilX,AV.isNilS,AV.isNoRows,wk,dclo,datOf,binIs,addF,AV.isPtr,idxV,AV.isSl,AV.isSlice,AV.rows,ps,pv,extV,extS,AV.outs,AV.outF,packD,AV.dl,fieldV,fieldS,AV.cells?,AV.upr,AV.menc,AV.one,D.one,Value.oneCell',tagOf,AV.isApp,strV,strS,bolV,bolS,slcV,AV.isSlD,asrtS,AV.dcells,D.cells?,stcV,stcS,leafOk,eqDs,eqD,packA,D.val?,↓reduceIte,reduceCtorEq,Nat.reduceAdd,Nat.reduceSub,Nat.reduceMul,List.reduceReplicate,Nat.reduceLeDiff,Nat.reduceLT,Nat.reduceBEq,Nat.reduceEqDiff,Int.reduceNeg,Int.reduceEq,Int.reduceLE,Int.reduceLT,tfb,boxAt,key3',key99',mencs_bxs,mencs_ents,kill_bxs,kill_ents,en_bxs,bxs_len,false_implies,ctz34,x34_56,c1]
    try simp [c1]
  by_cases c2 : (l.length : Int) = 0
  · refine PF_nil (PF_start (O := O34) Ct34_ok hmix ho34 Try.func34 c34 rfl Try.ntmps34 Try.results34 ?_)
    simp (maxSteps := 4000000) +contextual (disch := first | omega | exact qdb_ok (by kernel_rfl) | exact okb_ok (by kernel_rfl)) only [bw1,bw2,bw3,bw4,bw5,bw6,bw7,bc0,bc1,bc2,bc3,bc4,bc5,bc6,bc7,bb0,setPs,AV.owns,AV.datF,AV.frz,AV.cpy,ifV,isEqB,nilV,nilX,AV.isNilS,AV.isNoRows,wk,dclo,datOf,binIs,addF,AV.isPtr,idxV,AV.isSl,AV.isSlice,AV.rows,ps,pv,extV,extS,AV.outs,AV.outF,packD,AV.dl,fieldV,fieldS,AV.cells?,AV.upr,AV.menc,AV.one,D.one,Value.oneCell',tagOf,AV.isApp,strV,strS,bolV,bolS,slcV,AV.isSlD,asrtS,AV.dcells,D.cells?,stcV,stcS,leafOk,eqDs,eqD,packA,D.val?,↓reduceIte,reduceCtorEq,Nat.reduceAdd,Nat.reduceSub,Nat.reduceMul,List.reduceReplicate,Nat.reduceLeDiff,Nat.reduceLT,Nat.reduceBEq,Nat.reduceEqDiff,Int.reduceNeg,Int.reduceEq,Int.reduceLE,Int.reduceLT,tfb,boxAt,key3',key99',mencs_bxs,mencs_ents,kill_bxs,kill_ents,en_bxs,bxs_len,false_implies,ctz34,x34_56,c1, c2]
    try simp
  · have c2b : ((l.length : Int) == 0) = false := by simpa using c2
    have e1 : (l.length : Int) - 1 = ((l.length - 1 : Nat) : Int) := by omega
    have hlt : l.length - 1 < l.length := by omega
    refine PF_nil (PF_start (O := O34) Ct34_ok hmix ho34 Try.func34 c34 rfl Try.ntmps34 Try.results34 ?_)
    simp (maxSteps := 4000000) +contextual (disch := first | omega | exact qdb_ok (by kernel_rfl) | exact okb_ok (by kernel_rfl)) only [bw1,bw2,bw3,bw4,bw5,bw6,bw7,bc0,bc1,bc2,bc3,bc4,bc5,bc6,bc7,bb0,setPs,AV.owns,AV.datF,AV.frz,AV.cpy,ifV,isEqB,nilV,nilX,AV.isNilS,AV.isNoRows,wk,dclo,datOf,binIs,addF,AV.isPtr,idxV,AV.isSl,AV.isSlice,AV.rows,ps,pv,extV,extS,AV.outs,AV.outF,packD,AV.dl,fieldV,fieldS,AV.cells?,AV.upr,AV.menc,AV.one,D.one,Value.oneCell',tagOf,AV.isApp,strV,strS,bolV,bolS,slcV,AV.isSlD,asrtS,AV.dcells,D.cells?,stcV,stcS,leafOk,eqDs,eqD,packA,D.val?,↓reduceIte,reduceCtorEq,Nat.reduceAdd,Nat.reduceSub,Nat.reduceMul,List.reduceReplicate,Nat.reduceLeDiff,Nat.reduceLT,Nat.reduceBEq,Nat.reduceEqDiff,Int.reduceNeg,Int.reduceEq,Int.reduceLE,Int.reduceLT,tfb,boxAt,key3',key99',mencs_bxs,mencs_ents,kill_bxs,kill_ents,en_bxs,bxs_len,false_implies,ctz34,x34_56,c1, c2, c2b, e1]
    try exact ⟨by omega, by omega⟩
def ent34 (args : List AV) (K : AV → List AV → Sto → Prop) (e : List AV) (s : Sto) : Prop := ent (α := (List Ev) × (Int)) (fun aa => [.sl 5 (aa.1.map Ev.c), .i aa.2]) (fun aa => aa.1.length ≤ 100000) (fun aa => .b (lateB aa.1 aa.2)) args K e s
theorem ent34_ok {args : List AV} {K : AV → List AV → Sto → Prop} {Q : Kt} {e : List AV} {s : Sto} (h : ent34 args K e s) : pcall Try.prog 34 args K Q e s := ent_ok (fun aa h => pf34 aa.1 aa.2 h) h
theorem eq34 {l : List Ev} {d : Int} {KK : AV → List AV → Sto → Prop} {ee : List AV} {ss : Sto} : ent34 [.d (.sl 5 (l.map Ev.c)), .d (.i d)] KK ee ss = ((l.length ≤ 100000) ∧ KK (.d (.b (lateB l d))) ee ss) := by
  unfold ent34; rw [ent_iff (l, d) (by intro b h; simpa [Prod.ext_iff, and_assoc, Int.ofNat_inj, ints_inj, evs_inj, mems_inj, ev_inj, mem_inj, st_inj] using h) rfl]; simp
theorem eqo34 {l : List Ev} {d : Int} {g1 el1 : Nat} {KK : AV → List AV → Sto → Prop} {ee : List AV} {ss : Sto} : ent34 [.own g1 el1 5 (l.map Ev.c), .d (.i d)] KK ee ss = ((l.length ≤ 100000) ∧ (.b (lateB l d) : D).flat = true ∧ KK (.d (.b (lateB l d))) ee ss) := by
  unfold ent34; rw [ent_iff (l, d) (by intro b h; simpa [Prod.ext_iff, and_assoc, Int.ofNat_inj, ints_inj, evs_inj, mems_inj, ev_inj, mem_inj, st_inj] using h) rfl]; simp
def O17 : Nat → Sch := fun id => if id = 8 then .one 0 (.one 1 (.one 2 (.one 3 (.one 4 (.one 5 (.one 6 (.one 7 (.one 8 (.one 9 (.one 10 (.one 11 (.done)))))))))))) else .done
theorem O17_8 : O17 8 = .one 0 (.one 1 (.one 2 (.one 3 (.one 4 (.one 5 (.one 6 (.one 7 (.one 8 (.one 9 (.one 10 (.one 11 (.done)))))))))))) := rfl
theorem ho17 : Try.f17.body.map (okO O17) = some true := by kernel_rfl
def Cf17 : Nat → List AV → (AV → List AV → Sto → Prop) → Kt → List AV → Sto → Prop := fun f args K Q e s => match f with
  | 27 => sp27 args K e s
  | _ => False
def Ct17 : CT := { f := Cf17, y := noYld, z := fun d => false }
theorem ctz17 {d : Nat} : CT.z Ct17 d = (false) := id rfl
theorem Ct17_ok : Ct17.ok Try.prog := ok_of_f (fun f args K Q e s h => by
  have h : Cf17 f args K Q e s := h
  unfold Cf17 at h; split at h
  · exact sp27_ok h
  · exact h.elim) (fun _ _ _ _ _ _ _ _ _ h => h)
theorem c17 : callable Try.prog 17 = true := by kernel_rfl
theorem pf17 (l : List Ev) (p : Int) (h : ShsOk l ∧ i64 p) : PF Try.prog 17 [.sl 5 (l.map Ev.c), .i p] (fun zz => zz = .ret (.tup [.i (backR l p).1.1, .i (backR l p).1.2, .i (backR l p).2])) := by
  obtain ⟨hl, hp⟩ := h
  unfold backR
  have hx : ∀ {args : List AV} {KK : AV → List AV → Sto → Prop} {QQ : Kt} {ii : At KK} {jj : At QQ} {ee : List AV} {ss : Sto}, xC Ct17 27 args KK QQ ii jj ee ss = sp27 args KK ee ss := id rfl
  refine PF_nil (PF_start (O := O17) Ct17_ok hmix ho17 Try.func17 c17 rfl Try.ntmps17 Try.results17 ?_)
  simp (maxSteps := 4000000) +contextual (disch := first | omega | exact qdb_ok (by kernel_rfl) | exact okb_ok (by kernel_rfl)) only [bw1,bw2,bw3,bw4,bw5,bw6,bw7,bc0,bc1,bc2,bc3,bc4,bc5,bc6,bc7,bb0,setPs,AV.owns,AV.datF,AV.frz,AV.cpy,ifV,isEqB,nilV,nilX,AV.isNilS,AV.isNoRows,wk,dclo,datOf,binIs,addF,AV.isPtr,idxV,AV.isSl,AV.isSlice,AV.rows,ps,pv,extV,extS,AV.outs,AV.outF,packD,AV.dl,fieldV,fieldS,AV.cells?,AV.upr,AV.menc,AV.one,D.one,Value.oneCell',tagOf,AV.isApp,strV,strS,bolV,bolS,slcV,AV.isSlD,asrtS,AV.dcells,D.cells?,stcV,stcS,leafOk,eqDs,eqD,packA,D.val?,↓reduceIte,reduceCtorEq,Nat.reduceAdd,Nat.reduceSub,Nat.reduceMul,List.reduceReplicate,Nat.reduceLeDiff,Nat.reduceLT,Nat.reduceBEq,Nat.reduceEqDiff,Int.reduceNeg,Int.reduceEq,Int.reduceLE,Int.reduceLT,tfb,boxAt,key3',key99',mencs_bxs,mencs_ents,kill_bxs,kill_ents,en_bxs,bxs_len,false_implies,ctz17,O17_8,hx]
  refine ⟨l, rfl, hl, fun hz => ⟨⟨by simp [AV.stays, AV.stay], by simp [othF, AV.stays, AV.stay]⟩, fun PM M1 M2 hR => ?_⟩, fun hz => ?_⟩
  · rw [if_pos hz]
    have hbm := bm_ok (gb := 4000100011) hR.rg
    have hk := keyOf3 hp
    rcases hR.look p with ⟨h1, h2⟩ | ⟨a, j, m, h1, h2, h3, h4, h5, hm, h7⟩
    · rw [if_pos (by omega)]
      have hlk := fun {R : Option Nat → Prop} {m : At R} => xLkB_no (gb := 4000100011) h2 (R := R) (m := m)
      simp (maxSteps := 4000000) +contextual (disch := first | omega | exact qdb_ok (by kernel_rfl) | exact okb_ok (by kernel_rfl)) only [bw1,bw2,bw3,bw4,bw5,bw6,bw7,bc0,bc1,bc2,bc3,bc4,bc5,bc6,bc7,bb0,setPs,AV.owns,AV.datF,AV.frz,AV.cpy,ifV,isEqB,nilV,nilX,AV.isNilS,AV.isNoRows,wk,dclo,datOf,binIs,addF,AV.isPtr,idxV,AV.isSl,AV.isSlice,AV.rows,ps,pv,extV,extS,AV.outs,AV.outF,packD,AV.dl,fieldV,fieldS,AV.cells?,AV.upr,AV.menc,AV.one,D.one,Value.oneCell',tagOf,AV.isApp,strV,strS,bolV,bolS,slcV,AV.isSlD,asrtS,AV.dcells,D.cells?,stcV,stcS,leafOk,eqDs,eqD,packA,D.val?,↓reduceIte,reduceCtorEq,Nat.reduceAdd,Nat.reduceSub,Nat.reduceMul,List.reduceReplicate,Nat.reduceLeDiff,Nat.reduceLT,Nat.reduceBEq,Nat.reduceEqDiff,Int.reduceNeg,Int.reduceEq,Int.reduceLE,Int.reduceLT,tfb,boxAt,key3',key99',mencs_bxs,mencs_ents,kill_bxs,kill_ents,en_bxs,bxs_len,false_implies,ctz17,O17_8,hlk, hbm, hk, eq_self]
    · rw [if_neg (by omega), h5, Int.toNat_natCast, hm]
      have hlk := fun {R : Option Nat → Prop} {m : At R} => xLkB_at (gb := 4000100011) h1 h7 (R := R) (m := m)
      have hat : bxAt (bxs 4000100011 fki Mem.c PM) 4000100011 a = some (.i p, m.c) := bx_at h1
      have hmo := (runR_ok hl).2 m h3
      unfold MOk at hmo
      unfold backM
      by_cases z : m.stage = 0
      · rw [if_pos z]
        have zb : (m.stage != 0) = false := by simpa using z
        simp (maxSteps := 4000000) +contextual (disch := first | omega | exact qdb_ok (by kernel_rfl) | exact okb_ok (by kernel_rfl)) only [bw1,bw2,bw3,bw4,bw5,bw6,bw7,bc0,bc1,bc2,bc3,bc4,bc5,bc6,bc7,bb0,setPs,AV.owns,AV.datF,AV.frz,AV.cpy,ifV,isEqB,nilV,nilX,AV.isNilS,AV.isNoRows,wk,dclo,datOf,binIs,addF,AV.isPtr,idxV,AV.isSl,AV.isSlice,AV.rows,ps,pv,extV,extS,AV.outs,AV.outF,packD,AV.dl,fieldV,fieldS,AV.cells?,AV.upr,AV.menc,AV.one,D.one,Value.oneCell',tagOf,AV.isApp,strV,strS,bolV,bolS,slcV,AV.isSlD,asrtS,AV.dcells,D.cells?,stcV,stcS,leafOk,eqDs,eqD,packA,D.val?,↓reduceIte,reduceCtorEq,Nat.reduceAdd,Nat.reduceSub,Nat.reduceMul,List.reduceReplicate,Nat.reduceLeDiff,Nat.reduceLT,Nat.reduceBEq,Nat.reduceEqDiff,Int.reduceNeg,Int.reduceEq,Int.reduceLE,Int.reduceLT,tfb,boxAt,key3',key99',mencs_bxs,mencs_ents,kill_bxs,kill_ents,en_bxs,bxs_len,false_implies,ctz17,O17_8,hlk, hbm, hk, hat, zb, eq_self]
      · rw [if_neg z]
        have zb : (m.stage != 0) = true := by simpa using z
        simp (maxSteps := 4000000) +contextual (disch := first | omega | exact qdb_ok (by kernel_rfl) | exact okb_ok (by kernel_rfl)) only [bw1,bw2,bw3,bw4,bw5,bw6,bw7,bc0,bc1,bc2,bc3,bc4,bc5,bc6,bc7,bb0,setPs,AV.owns,AV.datF,AV.frz,AV.cpy,ifV,isEqB,nilV,nilX,AV.isNilS,AV.isNoRows,wk,dclo,datOf,binIs,addF,AV.isPtr,idxV,AV.isSl,AV.isSlice,AV.rows,ps,pv,extV,extS,AV.outs,AV.outF,packD,AV.dl,fieldV,fieldS,AV.cells?,AV.upr,AV.menc,AV.one,D.one,Value.oneCell',tagOf,AV.isApp,strV,strS,bolV,bolS,slcV,AV.isSlD,asrtS,AV.dcells,D.cells?,stcV,stcS,leafOk,eqDs,eqD,packA,D.val?,↓reduceIte,reduceCtorEq,Nat.reduceAdd,Nat.reduceSub,Nat.reduceMul,List.reduceReplicate,Nat.reduceLeDiff,Nat.reduceLT,Nat.reduceBEq,Nat.reduceEqDiff,Int.reduceNeg,Int.reduceEq,Int.reduceLE,Int.reduceLT,tfb,boxAt,key3',key99',mencs_bxs,mencs_ents,kill_bxs,kill_ents,en_bxs,bxs_len,false_implies,ctz17,O17_8,hlk, hbm, hk, hat, zb, eq_self]
        omega
  · rw [if_neg hz]
    have hzb : ((runR l).2.2 != 0) = true := by simpa using hz
    simp (maxSteps := 4000000) +contextual (disch := first | omega | exact qdb_ok (by kernel_rfl) | exact okb_ok (by kernel_rfl)) only [bw1,bw2,bw3,bw4,bw5,bw6,bw7,bc0,bc1,bc2,bc3,bc4,bc5,bc6,bc7,bb0,setPs,AV.owns,AV.datF,AV.frz,AV.cpy,ifV,isEqB,nilV,nilX,AV.isNilS,AV.isNoRows,wk,dclo,datOf,binIs,addF,AV.isPtr,idxV,AV.isSl,AV.isSlice,AV.rows,ps,pv,extV,extS,AV.outs,AV.outF,packD,AV.dl,fieldV,fieldS,AV.cells?,AV.upr,AV.menc,AV.one,D.one,Value.oneCell',tagOf,AV.isApp,strV,strS,bolV,bolS,slcV,AV.isSlD,asrtS,AV.dcells,D.cells?,stcV,stcS,leafOk,eqDs,eqD,packA,D.val?,↓reduceIte,reduceCtorEq,Nat.reduceAdd,Nat.reduceSub,Nat.reduceMul,List.reduceReplicate,Nat.reduceLeDiff,Nat.reduceLT,Nat.reduceBEq,Nat.reduceEqDiff,Int.reduceNeg,Int.reduceEq,Int.reduceLE,Int.reduceLT,tfb,boxAt,key3',key99',mencs_bxs,mencs_ents,kill_bxs,kill_ents,en_bxs,bxs_len,false_implies,ctz17,O17_8,hzb]
theorem late_rng {l : List Ev} {d : Int} (h : lateB l d = true) : 0 ≤ d ∧ d ≤ 16384 := by
  unfold lateB at h
  simp only [Bool.and_eq_true] at h
  exact inB_iff.1 h.1
theorem fl_ic : ∀ {l : List Int}, D.flats (l.map ic).flatten = true
  | [] => rfl
  | n :: l => by simpa [D.flats, D.flat] using fl_ic (l := l)
def ent17 (args : List AV) (K : AV → List AV → Sto → Prop) (e : List AV) (s : Sto) : Prop := ent (α := (List Ev) × (Int)) (fun aa => [.sl 5 (aa.1.map Ev.c), .i aa.2]) (fun aa => ShsOk aa.1 ∧ i64 aa.2) (fun aa => .tup [.i (backR aa.1 aa.2).1.1, .i (backR aa.1 aa.2).1.2, .i (backR aa.1 aa.2).2]) args K e s
theorem ent17_ok {args : List AV} {K : AV → List AV → Sto → Prop} {Q : Kt} {e : List AV} {s : Sto} (h : ent17 args K e s) : pcall Try.prog 17 args K Q e s := ent_ok (fun aa h => pf17 aa.1 aa.2 h) h
theorem eq17 {l : List Ev} {p : Int} {KK : AV → List AV → Sto → Prop} {ee : List AV} {ss : Sto} : ent17 [.d (.sl 5 (l.map Ev.c)), .d (.i p)] KK ee ss = ((ShsOk l ∧ i64 p) ∧ KK (.d (.tup [.i (backR l p).1.1, .i (backR l p).1.2, .i (backR l p).2])) ee ss) := by
  unfold ent17; rw [ent_iff (l, p) (by intro b h; simpa [Prod.ext_iff, and_assoc, Int.ofNat_inj, ints_inj, evs_inj, mems_inj, ev_inj, mem_inj, st_inj] using h) rfl]; simp
theorem eqo17 {l : List Ev} {p : Int} {g1 el1 : Nat} {KK : AV → List AV → Sto → Prop} {ee : List AV} {ss : Sto} : ent17 [.own g1 el1 5 (l.map Ev.c), .d (.i p)] KK ee ss = ((ShsOk l ∧ i64 p) ∧ (.tup [.i (backR l p).1.1, .i (backR l p).1.2, .i (backR l p).2] : D).flat = true ∧ KK (.d (.tup [.i (backR l p).1.1, .i (backR l p).1.2, .i (backR l p).2])) ee ss) := by
  unfold ent17; rw [ent_iff (l, p) (by intro b h; simpa [Prod.ext_iff, and_assoc, Int.ofNat_inj, ints_inj, evs_inj, mems_inj, ev_inj, mem_inj, st_inj] using h) rfl]; simp
end Go.Proofs.Ytohkngiflfkjjaa
