/- A part of the proof that the last text ends: what functions of the program do, told by plain data. -/
import Derived.Test.YtohkngiflfkjjaaRL
set_option linter.unusedVariables false
set_option linter.unusedSimpArgs false
namespace Go.Proofs.Ytohkngiflfkjjaa
open Go Go.E Go.Maps
set_option maxRecDepth 100000
set_option maxHeartbeats 16000000
/-! ### The program: what happens to one member -/
def misV (e : Int) : List PanicEntry := [{ v := .iface 83 (.agg #[.int .i64 e]), recovered := false }]
/-- What is proved of a deed. -/
def Deed (f : Nat) (s : St) (x : Ev) (PM : PMem) (M1 M2 : PSet) : Prop :=
  pcall Try.prog f [.ref 100016 0, .d (.agg x.c)]
    (fun _ e1 s1 => e1 = EB ∧ (doR s x).2 = 0 ∧ ∃ PM' M1' M2', Rl PM' M1' M2' (doR s x).1 ∧ IsB s1 PM' M1' M2' ∧ s1.get 4000100011 = none)
    (fun y e1 s1 => e1 = EB ∧ match y with | .panic c => c = misV (doR s x).2 ∧ (doR s x).2 ≠ 0 ∧ (∃ PM' M1' M2', IsB s1 PM' M1' M2') ∧ s1.get 4000100011 = none | _ => False) EB ((0, []) :: stoB PM M1 M2)
theorem ev_person {x : Ev} (h : evOk x = true) (hk : x.kind ≠ 6) : 0 ≤ x.person ∧ x.person ≤ 4095 := by
  unfold evOk at h
  rw [if_neg hk] at h
  simp only [Bool.and_eq_true] at h
  exact inB_iff.1 h.2.1.1
theorem i64_of {a : Int} (h : 0 ≤ a ∧ a ≤ 100000) : i64 a := by unfold i64; omega
theorem doR_none {s : St} {x : Ev} (h0 : x.kind ≠ 0) (h6 : x.kind ≠ 6) (h : fnd s.mem x.person = -1) : doR s x = (s, 4) := by
  unfold doR; rw [if_neg h0, if_neg h6, if_pos (by omega)]
theorem doR_err {s : St} {x : Ev} {j : Nat} {m : Mem} (h0 : x.kind ≠ 0) (h6 : x.kind ≠ 6) (h : fnd s.mem x.person = (j : Int)) (hm : s.mem.getD j default = m) (h1 : (oneR m x).2 ≠ 0) : doR s x = (s, (oneR m x).2) := by
  unfold doR finR; rw [if_neg h0, if_neg h6, if_neg (by omega), h, Int.toNat_natCast, hm, if_neg h1]
theorem doR_ok {s : St} {x : Ev} {j : Nat} {m : Mem} (h0 : x.kind ≠ 0) (h6 : x.kind ≠ 6) (h : fnd s.mem x.person = (j : Int)) (hm : s.mem.getD j default = m) (h1 : (oneR m x).2 = 0) : doR s x = (⟨s.mem.set j (oneR m x).1, s.evs ++ [x]⟩, 0) := by
  unfold doR finR; rw [if_neg h0, if_neg h6, if_neg (by omega), h, Int.toNat_natCast, hm, if_pos h1]
def O44 : Nat → Sch := fun id => .done
theorem ho44 : Try.f44.body.map (okO O44) = some true := by kernel_rfl
def Cf44 : Nat → List AV → (AV → List AV → Sto → Prop) → Kt → List AV → Sto → Prop := fun f args K Q e s => match f with
  | _ => False
def Ct44 : CT := { f := Cf44, y := noYld, z := fun d => false }
theorem ctz44 {d : Nat} : CT.z Ct44 d = (false) := id rfl
theorem Ct44_ok : Ct44.ok Try.prog := ok_of_f (fun f args K Q e s h => by
  have h : Cf44 f args K Q e s := h
  unfold Cf44 at h; split at h
  · exact h.elim) (fun _ _ _ _ _ _ _ _ _ h => h)
theorem c44 : callable Try.prog 44 = true := by kernel_rfl
def O62 : Nat → Sch := fun id => .done
theorem ho62 : Try.f62.body.map (okO O62) = some true := by kernel_rfl
def Cf62 : Nat → List AV → (AV → List AV → Sto → Prop) → Kt → List AV → Sto → Prop := fun f args K Q e s => match f with
  | 44 => inlE Try.prog Ct44 O44 44000 44 args K Q e s
  | _ => False
def Ct62 : CT := { f := Cf62, y := noYld, z := fun d => false }
theorem ctz62 {d : Nat} : CT.z Ct62 d = (false) := id rfl
theorem Ct62_ok : Ct62.ok Try.prog := ok_of_f (fun f args K Q e s h => by
  have h : Cf62 f args K Q e s := h
  unfold Cf62 at h; split at h
  · exact inlE_ok Ct44_ok hmix ho44 h
  · exact h.elim) (fun _ _ _ _ _ _ _ _ _ h => h)
theorem z62_44 : type_of% (@xinl Try.prog Ct62 Ct44 O44 44000 44 _ _ _ _ rfl c44 Try.func44 rfl Try.ntmps44 Try.results44) := @xinl Try.prog Ct62 Ct44 O44 44000 44 _ _ _ _ rfl c44 Try.func44 rfl Try.ntmps44 Try.results44
theorem c62 : callable Try.prog 62 = true := by kernel_rfl
def O64 : Nat → Sch := fun id => .done
theorem ho64 : Try.f64.body.map (okO O64) = some true := by kernel_rfl
def Cf64 : Nat → List AV → (AV → List AV → Sto → Prop) → Kt → List AV → Sto → Prop := fun f args K Q e s => match f with
  | _ => False
def Ct64 : CT := { f := Cf64, y := noYld, z := fun d => false }
theorem ctz64 {d : Nat} : CT.z Ct64 d = (false) := id rfl
theorem Ct64_ok : Ct64.ok Try.prog := ok_of_f (fun f args K Q e s h => by
  have h : Cf64 f args K Q e s := h
  unfold Cf64 at h; split at h
  · exact h.elim) (fun _ _ _ _ _ _ _ _ _ h => h)
theorem c64 : callable Try.prog 64 = true := by kernel_rfl
def O69 : Nat → Sch := fun id => .done
theorem ho69 : Try.f69.body.map (okO O69) = some true := by kernel_rfl
def Cf69 : Nat → List AV → (AV → List AV → Sto → Prop) → Kt → List AV → Sto → Prop := fun f args K Q e s => match f with
  | _ => False
def Ct69 : CT := { f := Cf69, y := noYld, z := fun d => false }
theorem ctz69 {d : Nat} : CT.z Ct69 d = (false) := id rfl
theorem Ct69_ok : Ct69.ok Try.prog := ok_of_f (fun f args K Q e s h => by
  have h : Cf69 f args K Q e s := h
  unfold Cf69 at h; split at h
  · exact h.elim) (fun _ _ _ _ _ _ _ _ _ h => h)
theorem c69 : callable Try.prog 69 = true := by kernel_rfl
def O61 : Nat → Sch := fun id => if id = 1 then .one 0 (.one 1 (.one 2 (.one 7 (.alt (.one 3 (.one 4 (.one 5 (.one 6 (.one 8 (.one 9 (.one 10 (.one 11 (.one 12 (.done)))))))))) (.one 8 (.one 3 (.one 4 (.one 5 (.one 6 (.one 9 (.one 10 (.one 11 (.one 12 (.done)))))))))))))) else .done
theorem O61_1 : O61 1 = .one 0 (.one 1 (.one 2 (.one 7 (.alt (.one 3 (.one 4 (.one 5 (.one 6 (.one 8 (.one 9 (.one 10 (.one 11 (.one 12 (.done)))))))))) (.one 8 (.one 3 (.one 4 (.one 5 (.one 6 (.one 9 (.one 10 (.one 11 (.one 12 (.done)))))))))))))) := rfl
theorem ho61 : Try.f61.body.map (okO O61) = some true := by kernel_rfl
def Cf61 : Nat → List AV → (AV → List AV → Sto → Prop) → Kt → List AV → Sto → Prop := fun f args K Q e s => match f with
  | 62 => inlE Try.prog Ct62 O62 62000 62 args K Q e s
  | _ => False
def Ct61 : CT := { f := Cf61, y := noYld, z := fun d => false }
theorem ctz61 {d : Nat} : CT.z Ct61 d = (false) := id rfl
theorem Ct61_ok : Ct61.ok Try.prog := ok_of_f (fun f args K Q e s h => by
  have h : Cf61 f args K Q e s := h
  unfold Cf61 at h; split at h
  · exact inlE_ok Ct62_ok hmix ho62 h
  · exact h.elim) (fun _ _ _ _ _ _ _ _ _ h => h)
theorem z61_62 : type_of% (@xinl Try.prog Ct61 Ct62 O62 62000 62 _ _ _ _ rfl c62 Try.func62 rfl Try.ntmps62 Try.results62) := @xinl Try.prog Ct61 Ct62 O62 62000 62 _ _ _ _ rfl c62 Try.func62 rfl Try.ntmps62 Try.results62
theorem c61 : callable Try.prog 61 = true := by kernel_rfl
def O63 : Nat → Sch := fun id => if id = 1 then .one 0 (.one 1 (.one 2 (.one 4 (.alt (.one 3 (.one 5 (.one 6 (.done)))) (.one 5 (.one 3 (.one 6 (.done)))))))) else .done
theorem O63_1 : O63 1 = .one 0 (.one 1 (.one 2 (.one 4 (.alt (.one 3 (.one 5 (.one 6 (.done)))) (.one 5 (.one 3 (.one 6 (.done)))))))) := rfl
theorem ho63 : Try.f63.body.map (okO O63) = some true := by kernel_rfl
def Cf63 : Nat → List AV → (AV → List AV → Sto → Prop) → Kt → List AV → Sto → Prop := fun f args K Q e s => match f with
  | 62 => inlE Try.prog Ct62 O62 62000 62 args K Q e s
  | 64 => inlE Try.prog Ct64 O64 64000 64 args K Q e s
  | _ => False
def Ct63 : CT := { f := Cf63, y := noYld, z := fun d => false }
theorem ctz63 {d : Nat} : CT.z Ct63 d = (false) := id rfl
theorem Ct63_ok : Ct63.ok Try.prog := ok_of_f (fun f args K Q e s h => by
  have h : Cf63 f args K Q e s := h
  unfold Cf63 at h; split at h
  · exact inlE_ok Ct62_ok hmix ho62 h
  · exact inlE_ok Ct64_ok hmix ho64 h
  · exact h.elim) (fun _ _ _ _ _ _ _ _ _ h => h)
theorem z63_62 : type_of% (@xinl Try.prog Ct63 Ct62 O62 62000 62 _ _ _ _ rfl c62 Try.func62 rfl Try.ntmps62 Try.results62) := @xinl Try.prog Ct63 Ct62 O62 62000 62 _ _ _ _ rfl c62 Try.func62 rfl Try.ntmps62 Try.results62
theorem z63_64 : type_of% (@xinl Try.prog Ct63 Ct64 O64 64000 64 _ _ _ _ rfl c64 Try.func64 rfl Try.ntmps64 Try.results64) := @xinl Try.prog Ct63 Ct64 O64 64000 64 _ _ _ _ rfl c64 Try.func64 rfl Try.ntmps64 Try.results64
theorem c63 : callable Try.prog 63 = true := by kernel_rfl
def O65 : Nat → Sch := fun id => .done
theorem ho65 : Try.f65.body.map (okO O65) = some true := by kernel_rfl
def Cf65 : Nat → List AV → (AV → List AV → Sto → Prop) → Kt → List AV → Sto → Prop := fun f args K Q e s => match f with
  | 44 => inlE Try.prog Ct44 O44 44000 44 args K Q e s
  | 62 => inlE Try.prog Ct62 O62 62000 62 args K Q e s
  | 64 => inlE Try.prog Ct64 O64 64000 64 args K Q e s
  | _ => False
def Ct65 : CT := { f := Cf65, y := noYld, z := fun d => false }
theorem ctz65 {d : Nat} : CT.z Ct65 d = (false) := id rfl
theorem Ct65_ok : Ct65.ok Try.prog := ok_of_f (fun f args K Q e s h => by
  have h : Cf65 f args K Q e s := h
  unfold Cf65 at h; split at h
  · exact inlE_ok Ct44_ok hmix ho44 h
  · exact inlE_ok Ct62_ok hmix ho62 h
  · exact inlE_ok Ct64_ok hmix ho64 h
  · exact h.elim) (fun _ _ _ _ _ _ _ _ _ h => h)
theorem z65_62 : type_of% (@xinl Try.prog Ct65 Ct62 O62 62000 62 _ _ _ _ rfl c62 Try.func62 rfl Try.ntmps62 Try.results62) := @xinl Try.prog Ct65 Ct62 O62 62000 62 _ _ _ _ rfl c62 Try.func62 rfl Try.ntmps62 Try.results62
theorem z65_44 : type_of% (@xinl Try.prog Ct65 Ct44 O44 44000 44 _ _ _ _ rfl c44 Try.func44 rfl Try.ntmps44 Try.results44) := @xinl Try.prog Ct65 Ct44 O44 44000 44 _ _ _ _ rfl c44 Try.func44 rfl Try.ntmps44 Try.results44
theorem z65_64 : type_of% (@xinl Try.prog Ct65 Ct64 O64 64000 64 _ _ _ _ rfl c64 Try.func64 rfl Try.ntmps64 Try.results64) := @xinl Try.prog Ct65 Ct64 O64 64000 64 _ _ _ _ rfl c64 Try.func64 rfl Try.ntmps64 Try.results64
theorem c65 : callable Try.prog 65 = true := by kernel_rfl
def O66 : Nat → Sch := fun id => if id = 3 then .one 0 (.one 1 (.one 2 (.one 3 (.one 4 (.one 5 (.one 6 (.one 7 (.done)))))))) else if id = 4 then .one 0 (.one 1 (.one 2 (.one 3 (.one 4 (.one 5 (.one 6 (.one 7 (.one 8 (.done))))))))) else .done
theorem O66_3 : O66 3 = .one 0 (.one 1 (.one 2 (.one 3 (.one 4 (.one 5 (.one 6 (.one 7 (.done)))))))) := rfl
theorem O66_4 : O66 4 = .one 0 (.one 1 (.one 2 (.one 3 (.one 4 (.one 5 (.one 6 (.one 7 (.one 8 (.done))))))))) := rfl
theorem ho66 : Try.f66.body.map (okO O66) = some true := by kernel_rfl
def Cf66 : Nat → List AV → (AV → List AV → Sto → Prop) → Kt → List AV → Sto → Prop := fun f args K Q e s => match f with
  | 44 => inlE Try.prog Ct44 O44 44000 44 args K Q e s
  | 62 => inlE Try.prog Ct62 O62 62000 62 args K Q e s
  | 64 => inlE Try.prog Ct64 O64 64000 64 args K Q e s
  | _ => False
def Ct66 : CT := { f := Cf66, y := noYld, z := fun d => false }
theorem ctz66 {d : Nat} : CT.z Ct66 d = (false) := id rfl
theorem Ct66_ok : Ct66.ok Try.prog := ok_of_f (fun f args K Q e s h => by
  have h : Cf66 f args K Q e s := h
  unfold Cf66 at h; split at h
  · exact inlE_ok Ct44_ok hmix ho44 h
  · exact inlE_ok Ct62_ok hmix ho62 h
  · exact inlE_ok Ct64_ok hmix ho64 h
  · exact h.elim) (fun _ _ _ _ _ _ _ _ _ h => h)
theorem z66_62 : type_of% (@xinl Try.prog Ct66 Ct62 O62 62000 62 _ _ _ _ rfl c62 Try.func62 rfl Try.ntmps62 Try.results62) := @xinl Try.prog Ct66 Ct62 O62 62000 62 _ _ _ _ rfl c62 Try.func62 rfl Try.ntmps62 Try.results62
theorem z66_44 : type_of% (@xinl Try.prog Ct66 Ct44 O44 44000 44 _ _ _ _ rfl c44 Try.func44 rfl Try.ntmps44 Try.results44) := @xinl Try.prog Ct66 Ct44 O44 44000 44 _ _ _ _ rfl c44 Try.func44 rfl Try.ntmps44 Try.results44
theorem z66_64 : type_of% (@xinl Try.prog Ct66 Ct64 O64 64000 64 _ _ _ _ rfl c64 Try.func64 rfl Try.ntmps64 Try.results64) := @xinl Try.prog Ct66 Ct64 O64 64000 64 _ _ _ _ rfl c64 Try.func64 rfl Try.ntmps64 Try.results64
theorem c66 : callable Try.prog 66 = true := by kernel_rfl
def O67 : Nat → Sch := fun id => if id = 3 then .one 0 (.one 1 (.one 2 (.one 3 (.one 4 (.one 5 (.one 6 (.one 7 (.done)))))))) else .done
theorem O67_3 : O67 3 = .one 0 (.one 1 (.one 2 (.one 3 (.one 4 (.one 5 (.one 6 (.one 7 (.done)))))))) := rfl
theorem ho67 : Try.f67.body.map (okO O67) = some true := by kernel_rfl
def Cf67 : Nat → List AV → (AV → List AV → Sto → Prop) → Kt → List AV → Sto → Prop := fun f args K Q e s => match f with
  | 44 => inlE Try.prog Ct44 O44 44000 44 args K Q e s
  | 62 => inlE Try.prog Ct62 O62 62000 62 args K Q e s
  | 64 => inlE Try.prog Ct64 O64 64000 64 args K Q e s
  | _ => False
def Ct67 : CT := { f := Cf67, y := noYld, z := fun d => false }
theorem ctz67 {d : Nat} : CT.z Ct67 d = (false) := id rfl
theorem Ct67_ok : Ct67.ok Try.prog := ok_of_f (fun f args K Q e s h => by
  have h : Cf67 f args K Q e s := h
  unfold Cf67 at h; split at h
  · exact inlE_ok Ct44_ok hmix ho44 h
  · exact inlE_ok Ct62_ok hmix ho62 h
  · exact inlE_ok Ct64_ok hmix ho64 h
  · exact h.elim) (fun _ _ _ _ _ _ _ _ _ h => h)
theorem z67_62 : type_of% (@xinl Try.prog Ct67 Ct62 O62 62000 62 _ _ _ _ rfl c62 Try.func62 rfl Try.ntmps62 Try.results62) := @xinl Try.prog Ct67 Ct62 O62 62000 62 _ _ _ _ rfl c62 Try.func62 rfl Try.ntmps62 Try.results62
theorem z67_44 : type_of% (@xinl Try.prog Ct67 Ct44 O44 44000 44 _ _ _ _ rfl c44 Try.func44 rfl Try.ntmps44 Try.results44) := @xinl Try.prog Ct67 Ct44 O44 44000 44 _ _ _ _ rfl c44 Try.func44 rfl Try.ntmps44 Try.results44
theorem z67_64 : type_of% (@xinl Try.prog Ct67 Ct64 O64 64000 64 _ _ _ _ rfl c64 Try.func64 rfl Try.ntmps64 Try.results64) := @xinl Try.prog Ct67 Ct64 O64 64000 64 _ _ _ _ rfl c64 Try.func64 rfl Try.ntmps64 Try.results64
theorem c67 : callable Try.prog 67 = true := by kernel_rfl
theorem set2 {PM : PMem} {a : Nat} {p : Int} {m : Mem} (h : PM[a]? = some (p, m)) (v : Mem) : (PM.set a (p, v))[a]? = some (p, v) := by
  obtain ⟨h, _⟩ := List.getElem?_eq_some_iff.1 h
  rw [List.getElem?_set, if_pos rfl, if_pos h]
theorem deed61 {i : Nat} {s : St} {x : Ev} {PM : PMem} {M1 M2 : PSet} (hi : i ≤ 256) (hI : InvR i s) (hR : Rl PM M1 M2 s) (hx : evOk x = true) (hk : x.kind = 1) : Deed 61 s x PM M1 M2 := by
  unfold Deed
  have h0 : x.kind ≠ 0 := by omega
  have h6 : x.kind ≠ 6 := by omega
  have hp := keyOf3 (i64_of (a := x.person) (by have := ev_person hx h6; omega))
  have hbm := bm_ok (gb := 4000100011) hR.rg
  rcases hR.look x.person with ⟨h1, h2⟩ | ⟨a, j, m, h1, h2, h3, h4, h5, hm, h7⟩
  · have hd := doR_none h0 h6 h1
    refine pcall_start (O := O61) (tb := 61000) Ct61_ok hmix ho61 Try.func61 c61 rfl Try.ntmps61 Try.results61 ?_
    have hlk := fun {R : Option Nat → Prop} {m : At R} => xLkB_no (gb := 4000100011) h2 (R := R) (m := m)
    simp (maxSteps := 4000000) +contextual (disch := first | omega | exact qdb_ok (by kernel_rfl) | exact okb_ok (by kernel_rfl)) only [bw1,bw2,bw3,bw4,bw5,bw6,bw7,bc0,bc1,bc2,bc3,bc4,bc5,bc6,bc7,bb0,setPs,AV.owns,AV.datF,AV.frz,AV.cpy,ifV,isEqB,nilV,nilX,AV.isNilS,AV.isNoRows,wk,dclo,datOf,binIs,addF,AV.isPtr,idxV,AV.isSl,AV.isSlice,AV.rows,ps,pv,extV,extS,AV.outs,AV.outF,packD,AV.dl,fieldV,fieldS,AV.cells?,AV.upr,AV.menc,AV.one,D.one,Value.oneCell',tagOf,AV.isApp,strV,strS,bolV,bolS,slcV,AV.isSlD,asrtS,AV.dcells,D.cells?,stcV,stcS,leafOk,eqDs,eqD,packA,D.val?,↓reduceIte,reduceCtorEq,Nat.reduceAdd,Nat.reduceSub,Nat.reduceMul,List.reduceReplicate,Nat.reduceLeDiff,Nat.reduceLT,Nat.reduceBEq,Nat.reduceEqDiff,Int.reduceNeg,Int.reduceEq,Int.reduceLE,Int.reduceLT,tfb,boxAt,key3',key99',mencs_bxs,mencs_ents,kill_bxs,kill_ents,ctz61,O61_1,z61_62,ctz62,z62_44,ctz44,hlk, hbm, hp]
    exact ⟨by rw [hd]; rfl, by rw [hd]; simp, PM, M1, M2, ⟨rfl, rfl, rfl, rfl⟩⟩
  have hb := hI.2.1 m h3
  unfold MOk at hb
  have hn := ev_rng hx
  have hlk := fun {R : Option Nat → Prop} {m : At R} => xLkB_at (gb := 4000100011) h1 h7 (R := R) (m := m)
  have hat : bxAt (bxs 4000100011 fki Mem.c PM) 4000100011 a = some (.i x.person, m.c) := bx_at h1
  have hst := fun {a b c d e : Int} => bx_set (gb := 4000100011) h1 (a := a) (b := b) (c := c) (d := d) (e := e)
  have hat2 : ∀ v : Mem, bxAt (bxs 4000100011 fki Mem.c (PM.set a (x.person, v))) 4000100011 a = some (.i x.person, v.c) := fun v => bx_at (set2 h1 v)
  have hst2 := fun {v : Mem} {a b c d e : Int} => bx_set (gb := 4000100011) (set2 h1 v) (a := a) (b := b) (c := c) (d := d) (e := e)
  obtain ⟨mp, mc, mb, ms, mi⟩ := m
  simp only at hb h2
  have ho : oneR ⟨mp, mc, mb, ms, mi⟩ x = (⟨mp, mc, mb + x.n, ms, mi⟩, 0) := by unfold oneR; rw [if_pos hk]
  have hd := doR_ok h0 h6 h5 hm (by rw [ho])
  rw [ho] at hd
  refine pcall_start (O := O61) (tb := 61000) Ct61_ok hmix ho61 Try.func61 c61 rfl Try.ntmps61 Try.results61 ?_
  simp (maxSteps := 4000000) +contextual (disch := first | omega | exact qdb_ok (by kernel_rfl) | exact okb_ok (by kernel_rfl)) only [bw1,bw2,bw3,bw4,bw5,bw6,bw7,bc0,bc1,bc2,bc3,bc4,bc5,bc6,bc7,bb0,setPs,AV.owns,AV.datF,AV.frz,AV.cpy,ifV,isEqB,nilV,nilX,AV.isNilS,AV.isNoRows,wk,dclo,datOf,binIs,addF,AV.isPtr,idxV,AV.isSl,AV.isSlice,AV.rows,ps,pv,extV,extS,AV.outs,AV.outF,packD,AV.dl,fieldV,fieldS,AV.cells?,AV.upr,AV.menc,AV.one,D.one,Value.oneCell',tagOf,AV.isApp,strV,strS,bolV,bolS,slcV,AV.isSlD,asrtS,AV.dcells,D.cells?,stcV,stcS,leafOk,eqDs,eqD,packA,D.val?,↓reduceIte,reduceCtorEq,Nat.reduceAdd,Nat.reduceSub,Nat.reduceMul,List.reduceReplicate,Nat.reduceLeDiff,Nat.reduceLT,Nat.reduceBEq,Nat.reduceEqDiff,Int.reduceNeg,Int.reduceEq,Int.reduceLE,Int.reduceLT,tfb,boxAt,key3',key99',mencs_bxs,mencs_ents,kill_bxs,kill_ents,ctz61,O61_1,z61_62,ctz62,z62_44,ctz44,hlk, hbm, hp, hat, hst, hb, hat2, hst2, List.set_set]
  exact ⟨by rw [hd], _, M1, M2, by rw [hd]; exact hR.set h1 h4 hm h2 h2 h6, ⟨rfl, rfl, rfl, rfl⟩⟩
theorem deed63 {i : Nat} {s : St} {x : Ev} {PM : PMem} {M1 M2 : PSet} (hi : i ≤ 256) (hI : InvR i s) (hR : Rl PM M1 M2 s) (hx : evOk x = true) (hk : x.kind = 2) : Deed 63 s x PM M1 M2 := by
  unfold Deed
  have h0 : x.kind ≠ 0 := by omega
  have h6 : x.kind ≠ 6 := by omega
  have hp := keyOf3 (i64_of (a := x.person) (by have := ev_person hx h6; omega))
  have hbm := bm_ok (gb := 4000100011) hR.rg
  rcases hR.look x.person with ⟨h1, h2⟩ | ⟨a, j, m, h1, h2, h3, h4, h5, hm, h7⟩
  · have hd := doR_none h0 h6 h1
    refine pcall_start (O := O63) (tb := 63000) Ct63_ok hmix ho63 Try.func63 c63 rfl Try.ntmps63 Try.results63 ?_
    have hlk := fun {R : Option Nat → Prop} {m : At R} => xLkB_no (gb := 4000100011) h2 (R := R) (m := m)
    simp (maxSteps := 4000000) +contextual (disch := first | omega | exact qdb_ok (by kernel_rfl) | exact okb_ok (by kernel_rfl)) only [bw1,bw2,bw3,bw4,bw5,bw6,bw7,bc0,bc1,bc2,bc3,bc4,bc5,bc6,bc7,bb0,setPs,AV.owns,AV.datF,AV.frz,AV.cpy,ifV,isEqB,nilV,nilX,AV.isNilS,AV.isNoRows,wk,dclo,datOf,binIs,addF,AV.isPtr,idxV,AV.isSl,AV.isSlice,AV.rows,ps,pv,extV,extS,AV.outs,AV.outF,packD,AV.dl,fieldV,fieldS,AV.cells?,AV.upr,AV.menc,AV.one,D.one,Value.oneCell',tagOf,AV.isApp,strV,strS,bolV,bolS,slcV,AV.isSlD,asrtS,AV.dcells,D.cells?,stcV,stcS,leafOk,eqDs,eqD,packA,D.val?,↓reduceIte,reduceCtorEq,Nat.reduceAdd,Nat.reduceSub,Nat.reduceMul,List.reduceReplicate,Nat.reduceLeDiff,Nat.reduceLT,Nat.reduceBEq,Nat.reduceEqDiff,Int.reduceNeg,Int.reduceEq,Int.reduceLE,Int.reduceLT,tfb,boxAt,key3',key99',mencs_bxs,mencs_ents,kill_bxs,kill_ents,ctz63,O63_1,z63_62,ctz62,z62_44,ctz44,z63_64,ctz64,hlk, hbm, hp]
    exact ⟨by rw [hd]; rfl, by rw [hd]; simp, PM, M1, M2, ⟨rfl, rfl, rfl, rfl⟩⟩
  have hb := hI.2.1 m h3
  unfold MOk at hb
  have hn := ev_rng hx
  have hlk := fun {R : Option Nat → Prop} {m : At R} => xLkB_at (gb := 4000100011) h1 h7 (R := R) (m := m)
  have hat : bxAt (bxs 4000100011 fki Mem.c PM) 4000100011 a = some (.i x.person, m.c) := bx_at h1
  have hst := fun {a b c d e : Int} => bx_set (gb := 4000100011) h1 (a := a) (b := b) (c := c) (d := d) (e := e)
  have hat2 : ∀ v : Mem, bxAt (bxs 4000100011 fki Mem.c (PM.set a (x.person, v))) 4000100011 a = some (.i x.person, v.c) := fun v => bx_at (set2 h1 v)
  have hst2 := fun {v : Mem} {a b c d e : Int} => bx_set (gb := 4000100011) (set2 h1 v) (a := a) (b := b) (c := c) (d := d) (e := e)
  obtain ⟨mp, mc, mb, ms, mi⟩ := m
  simp only at hb h2
  have ho : oneR ⟨mp, mc, mb, ms, mi⟩ x = (⟨mp, mc, mb, 1, x.day⟩, 0) := by unfold oneR; rw [if_neg (by omega), if_pos hk]
  have hd := doR_ok h0 h6 h5 hm (by rw [ho])
  rw [ho] at hd
  refine pcall_start (O := O63) (tb := 63000) Ct63_ok hmix ho63 Try.func63 c63 rfl Try.ntmps63 Try.results63 ?_
  simp (maxSteps := 4000000) +contextual (disch := first | omega | exact qdb_ok (by kernel_rfl) | exact okb_ok (by kernel_rfl)) only [bw1,bw2,bw3,bw4,bw5,bw6,bw7,bc0,bc1,bc2,bc3,bc4,bc5,bc6,bc7,bb0,setPs,AV.owns,AV.datF,AV.frz,AV.cpy,ifV,isEqB,nilV,nilX,AV.isNilS,AV.isNoRows,wk,dclo,datOf,binIs,addF,AV.isPtr,idxV,AV.isSl,AV.isSlice,AV.rows,ps,pv,extV,extS,AV.outs,AV.outF,packD,AV.dl,fieldV,fieldS,AV.cells?,AV.upr,AV.menc,AV.one,D.one,Value.oneCell',tagOf,AV.isApp,strV,strS,bolV,bolS,slcV,AV.isSlD,asrtS,AV.dcells,D.cells?,stcV,stcS,leafOk,eqDs,eqD,packA,D.val?,↓reduceIte,reduceCtorEq,Nat.reduceAdd,Nat.reduceSub,Nat.reduceMul,List.reduceReplicate,Nat.reduceLeDiff,Nat.reduceLT,Nat.reduceBEq,Nat.reduceEqDiff,Int.reduceNeg,Int.reduceEq,Int.reduceLE,Int.reduceLT,tfb,boxAt,key3',key99',mencs_bxs,mencs_ents,kill_bxs,kill_ents,ctz63,O63_1,z63_62,ctz62,z62_44,ctz44,z63_64,ctz64,hlk, hbm, hp, hat, hst, hb, hat2, hst2, List.set_set]
  exact ⟨by rw [hd], _, M1, M2, by rw [hd]; exact hR.set h1 h4 hm h2 h2 h6, ⟨rfl, rfl, rfl, rfl⟩⟩
theorem deed65 {i : Nat} {s : St} {x : Ev} {PM : PMem} {M1 M2 : PSet} (hi : i ≤ 256) (hI : InvR i s) (hR : Rl PM M1 M2 s) (hx : evOk x = true) (hk : x.kind = 3) : Deed 65 s x PM M1 M2 := by
  unfold Deed
  have h0 : x.kind ≠ 0 := by omega
  have h6 : x.kind ≠ 6 := by omega
  have hp := keyOf3 (i64_of (a := x.person) (by have := ev_person hx h6; omega))
  have hbm := bm_ok (gb := 4000100011) hR.rg
  rcases hR.look x.person with ⟨h1, h2⟩ | ⟨a, j, m, h1, h2, h3, h4, h5, hm, h7⟩
  · have hd := doR_none h0 h6 h1
    refine pcall_start (O := O65) (tb := 65000) Ct65_ok hmix ho65 Try.func65 c65 rfl Try.ntmps65 Try.results65 ?_
    have hlk := fun {R : Option Nat → Prop} {m : At R} => xLkB_no (gb := 4000100011) h2 (R := R) (m := m)
    simp (maxSteps := 4000000) +contextual (disch := first | omega | exact qdb_ok (by kernel_rfl) | exact okb_ok (by kernel_rfl)) only [bw1,bw2,bw3,bw4,bw5,bw6,bw7,bc0,bc1,bc2,bc3,bc4,bc5,bc6,bc7,bb0,setPs,AV.owns,AV.datF,AV.frz,AV.cpy,ifV,isEqB,nilV,nilX,AV.isNilS,AV.isNoRows,wk,dclo,datOf,binIs,addF,AV.isPtr,idxV,AV.isSl,AV.isSlice,AV.rows,ps,pv,extV,extS,AV.outs,AV.outF,packD,AV.dl,fieldV,fieldS,AV.cells?,AV.upr,AV.menc,AV.one,D.one,Value.oneCell',tagOf,AV.isApp,strV,strS,bolV,bolS,slcV,AV.isSlD,asrtS,AV.dcells,D.cells?,stcV,stcS,leafOk,eqDs,eqD,packA,D.val?,↓reduceIte,reduceCtorEq,Nat.reduceAdd,Nat.reduceSub,Nat.reduceMul,List.reduceReplicate,Nat.reduceLeDiff,Nat.reduceLT,Nat.reduceBEq,Nat.reduceEqDiff,Int.reduceNeg,Int.reduceEq,Int.reduceLE,Int.reduceLT,tfb,boxAt,key3',key99',mencs_bxs,mencs_ents,kill_bxs,kill_ents,ctz65,z65_62,ctz62,z62_44,ctz44,z65_44,z65_64,ctz64,hlk, hbm, hp]
    exact ⟨by rw [hd]; rfl, by rw [hd]; simp, PM, M1, M2, ⟨rfl, rfl, rfl, rfl⟩⟩
  have hb := hI.2.1 m h3
  unfold MOk at hb
  have hn := ev_rng hx
  have hlk := fun {R : Option Nat → Prop} {m : At R} => xLkB_at (gb := 4000100011) h1 h7 (R := R) (m := m)
  have hat : bxAt (bxs 4000100011 fki Mem.c PM) 4000100011 a = some (.i x.person, m.c) := bx_at h1
  have hst := fun {a b c d e : Int} => bx_set (gb := 4000100011) h1 (a := a) (b := b) (c := c) (d := d) (e := e)
  have hat2 : ∀ v : Mem, bxAt (bxs 4000100011 fki Mem.c (PM.set a (x.person, v))) 4000100011 a = some (.i x.person, v.c) := fun v => bx_at (set2 h1 v)
  have hst2 := fun {v : Mem} {a b c d e : Int} => bx_set (gb := 4000100011) (set2 h1 v) (a := a) (b := b) (c := c) (d := d) (e := e)
  obtain ⟨mp, mc, mb, ms, mi⟩ := m
  simp only at hb h2
  by_cases z : ms = 0
  · have zb : (ms != 0) = false := by simpa using z
    have ho : oneR ⟨mp, mc, mb, ms, mi⟩ x = (⟨mp, mc, mb, ms, mi⟩, 6) := by unfold oneR; rw [if_neg (by omega), if_neg (by omega), if_pos hk, if_pos z]
    have hd := doR_err h0 h6 h5 hm (by rw [ho]; simp)
    rw [ho] at hd
    refine pcall_start (O := O65) (tb := 65000) Ct65_ok hmix ho65 Try.func65 c65 rfl Try.ntmps65 Try.results65 ?_
    simp (maxSteps := 4000000) +contextual (disch := first | omega | exact qdb_ok (by kernel_rfl) | exact okb_ok (by kernel_rfl)) only [bw1,bw2,bw3,bw4,bw5,bw6,bw7,bc0,bc1,bc2,bc3,bc4,bc5,bc6,bc7,bb0,setPs,AV.owns,AV.datF,AV.frz,AV.cpy,ifV,isEqB,nilV,nilX,AV.isNilS,AV.isNoRows,wk,dclo,datOf,binIs,addF,AV.isPtr,idxV,AV.isSl,AV.isSlice,AV.rows,ps,pv,extV,extS,AV.outs,AV.outF,packD,AV.dl,fieldV,fieldS,AV.cells?,AV.upr,AV.menc,AV.one,D.one,Value.oneCell',tagOf,AV.isApp,strV,strS,bolV,bolS,slcV,AV.isSlD,asrtS,AV.dcells,D.cells?,stcV,stcS,leafOk,eqDs,eqD,packA,D.val?,↓reduceIte,reduceCtorEq,Nat.reduceAdd,Nat.reduceSub,Nat.reduceMul,List.reduceReplicate,Nat.reduceLeDiff,Nat.reduceLT,Nat.reduceBEq,Nat.reduceEqDiff,Int.reduceNeg,Int.reduceEq,Int.reduceLE,Int.reduceLT,tfb,boxAt,key3',key99',mencs_bxs,mencs_ents,kill_bxs,kill_ents,ctz65,z65_62,ctz62,z62_44,ctz44,z65_44,z65_64,ctz64,hlk, hbm, hp, hat, hst, hb, zb]
    exact ⟨by rw [hd]; rfl, by rw [hd]; simp, PM, M1, M2, ⟨rfl, rfl, rfl, rfl⟩⟩
  · have zb : (ms != 0) = true := by simpa using z
    have ho : oneR ⟨mp, mc, mb, ms, mi⟩ x = (⟨mp, mc, mb, 1, x.day⟩, 0) := by unfold oneR; rw [if_neg (by omega), if_neg (by omega), if_pos hk, if_neg z]
    have hd := doR_ok h0 h6 h5 hm (by rw [ho])
    rw [ho] at hd
    refine pcall_start (O := O65) (tb := 65000) Ct65_ok hmix ho65 Try.func65 c65 rfl Try.ntmps65 Try.results65 ?_
    simp (maxSteps := 4000000) +contextual (disch := first | omega | exact qdb_ok (by kernel_rfl) | exact okb_ok (by kernel_rfl)) only [bw1,bw2,bw3,bw4,bw5,bw6,bw7,bc0,bc1,bc2,bc3,bc4,bc5,bc6,bc7,bb0,setPs,AV.owns,AV.datF,AV.frz,AV.cpy,ifV,isEqB,nilV,nilX,AV.isNilS,AV.isNoRows,wk,dclo,datOf,binIs,addF,AV.isPtr,idxV,AV.isSl,AV.isSlice,AV.rows,ps,pv,extV,extS,AV.outs,AV.outF,packD,AV.dl,fieldV,fieldS,AV.cells?,AV.upr,AV.menc,AV.one,D.one,Value.oneCell',tagOf,AV.isApp,strV,strS,bolV,bolS,slcV,AV.isSlD,asrtS,AV.dcells,D.cells?,stcV,stcS,leafOk,eqDs,eqD,packA,D.val?,↓reduceIte,reduceCtorEq,Nat.reduceAdd,Nat.reduceSub,Nat.reduceMul,List.reduceReplicate,Nat.reduceLeDiff,Nat.reduceLT,Nat.reduceBEq,Nat.reduceEqDiff,Int.reduceNeg,Int.reduceEq,Int.reduceLE,Int.reduceLT,tfb,boxAt,key3',key99',mencs_bxs,mencs_ents,kill_bxs,kill_ents,ctz65,z65_62,ctz62,z62_44,ctz44,z65_44,z65_64,ctz64,hlk, hbm, hp, hat, hst, hb, hat2, hst2, List.set_set, zb]
    exact ⟨by rw [hd], _, M1, M2, by rw [hd]; exact hR.set h1 h4 hm h2 h2 h6, ⟨rfl, rfl, rfl, rfl⟩⟩
theorem deed66 {i : Nat} {s : St} {x : Ev} {PM : PMem} {M1 M2 : PSet} (hi : i ≤ 256) (hI : InvR i s) (hR : Rl PM M1 M2 s) (hx : evOk x = true) (hk : x.kind = 4) : Deed 66 s x PM M1 M2 := by
  unfold Deed
  have h0 : x.kind ≠ 0 := by omega
  have h6 : x.kind ≠ 6 := by omega
  have hp := keyOf3 (i64_of (a := x.person) (by have := ev_person hx h6; omega))
  have hbm := bm_ok (gb := 4000100011) hR.rg
  rcases hR.look x.person with ⟨h1, h2⟩ | ⟨a, j, m, h1, h2, h3, h4, h5, hm, h7⟩
  · have hd := doR_none h0 h6 h1
    refine pcall_start (O := O66) (tb := 66000) Ct66_ok hmix ho66 Try.func66 c66 rfl Try.ntmps66 Try.results66 ?_
    have hlk := fun {R : Option Nat → Prop} {m : At R} => xLkB_no (gb := 4000100011) h2 (R := R) (m := m)
    simp (maxSteps := 4000000) +contextual (disch := first | omega | exact qdb_ok (by kernel_rfl) | exact okb_ok (by kernel_rfl)) only [bw1,bw2,bw3,bw4,bw5,bw6,bw7,bc0,bc1,bc2,bc3,bc4,bc5,bc6,bc7,bb0,setPs,AV.owns,AV.datF,AV.frz,AV.cpy,ifV,isEqB,nilV,nilX,AV.isNilS,AV.isNoRows,wk,dclo,datOf,binIs,addF,AV.isPtr,idxV,AV.isSl,AV.isSlice,AV.rows,ps,pv,extV,extS,AV.outs,AV.outF,packD,AV.dl,fieldV,fieldS,AV.cells?,AV.upr,AV.menc,AV.one,D.one,Value.oneCell',tagOf,AV.isApp,strV,strS,bolV,bolS,slcV,AV.isSlD,asrtS,AV.dcells,D.cells?,stcV,stcS,leafOk,eqDs,eqD,packA,D.val?,↓reduceIte,reduceCtorEq,Nat.reduceAdd,Nat.reduceSub,Nat.reduceMul,List.reduceReplicate,Nat.reduceLeDiff,Nat.reduceLT,Nat.reduceBEq,Nat.reduceEqDiff,Int.reduceNeg,Int.reduceEq,Int.reduceLE,Int.reduceLT,tfb,boxAt,key3',key99',mencs_bxs,mencs_ents,kill_bxs,kill_ents,ctz66,O66_3,O66_4,z66_62,ctz62,z62_44,ctz44,z66_44,z66_64,ctz64,hlk, hbm, hp]
    exact ⟨by rw [hd]; rfl, by rw [hd]; simp, PM, M1, M2, ⟨rfl, rfl, rfl, rfl⟩⟩
  have hb := hI.2.1 m h3
  unfold MOk at hb
  have hn := ev_rng hx
  have hlk := fun {R : Option Nat → Prop} {m : At R} => xLkB_at (gb := 4000100011) h1 h7 (R := R) (m := m)
  have hat : bxAt (bxs 4000100011 fki Mem.c PM) 4000100011 a = some (.i x.person, m.c) := bx_at h1
  have hst := fun {a b c d e : Int} => bx_set (gb := 4000100011) h1 (a := a) (b := b) (c := c) (d := d) (e := e)
  have hat2 : ∀ v : Mem, bxAt (bxs 4000100011 fki Mem.c (PM.set a (x.person, v))) 4000100011 a = some (.i x.person, v.c) := fun v => bx_at (set2 h1 v)
  have hst2 := fun {v : Mem} {a b c d e : Int} => bx_set (gb := 4000100011) (set2 h1 v) (a := a) (b := b) (c := c) (d := d) (e := e)
  obtain ⟨mp, mc, mb, ms, mi⟩ := m
  simp only at hb h2
  by_cases z : ms = 0
  · have zb : (ms != 0) = false := by simpa using z
    have ho : oneR ⟨mp, mc, mb, ms, mi⟩ x = (⟨mp, mc, mb, ms, mi⟩, 6) := by unfold oneR; rw [if_neg (by omega), if_neg (by omega), if_neg (by omega), if_pos hk, if_pos (.inl z)]
    have hd := doR_err h0 h6 h5 hm (by rw [ho]; simp)
    rw [ho] at hd
    refine pcall_start (O := O66) (tb := 66000) Ct66_ok hmix ho66 Try.func66 c66 rfl Try.ntmps66 Try.results66 ?_
    simp (maxSteps := 4000000) +contextual (disch := first | omega | exact qdb_ok (by kernel_rfl) | exact okb_ok (by kernel_rfl)) only [bw1,bw2,bw3,bw4,bw5,bw6,bw7,bc0,bc1,bc2,bc3,bc4,bc5,bc6,bc7,bb0,setPs,AV.owns,AV.datF,AV.frz,AV.cpy,ifV,isEqB,nilV,nilX,AV.isNilS,AV.isNoRows,wk,dclo,datOf,binIs,addF,AV.isPtr,idxV,AV.isSl,AV.isSlice,AV.rows,ps,pv,extV,extS,AV.outs,AV.outF,packD,AV.dl,fieldV,fieldS,AV.cells?,AV.upr,AV.menc,AV.one,D.one,Value.oneCell',tagOf,AV.isApp,strV,strS,bolV,bolS,slcV,AV.isSlD,asrtS,AV.dcells,D.cells?,stcV,stcS,leafOk,eqDs,eqD,packA,D.val?,↓reduceIte,reduceCtorEq,Nat.reduceAdd,Nat.reduceSub,Nat.reduceMul,List.reduceReplicate,Nat.reduceLeDiff,Nat.reduceLT,Nat.reduceBEq,Nat.reduceEqDiff,Int.reduceNeg,Int.reduceEq,Int.reduceLE,Int.reduceLT,tfb,boxAt,key3',key99',mencs_bxs,mencs_ents,kill_bxs,kill_ents,ctz66,O66_3,O66_4,z66_62,ctz62,z62_44,ctz44,z66_44,z66_64,ctz64,hlk, hbm, hp, hat, hst, hb, zb]
    exact ⟨by rw [hd]; rfl, by rw [hd]; simp, PM, M1, M2, ⟨rfl, rfl, rfl, rfl⟩⟩
  have zb : (ms != 0) = true := by simpa using z
  by_cases y : ms = 6
  · have yb : (ms != 6) = false := by simpa using y
    have ho : oneR ⟨mp, mc, mb, ms, mi⟩ x = (⟨mp, mc, mb, ms, mi⟩, 6) := by unfold oneR; rw [if_neg (by omega), if_neg (by omega), if_neg (by omega), if_pos hk, if_pos (.inr y)]
    have hd := doR_err h0 h6 h5 hm (by rw [ho]; simp)
    rw [ho] at hd
    refine pcall_start (O := O66) (tb := 66000) Ct66_ok hmix ho66 Try.func66 c66 rfl Try.ntmps66 Try.results66 ?_
    simp (maxSteps := 4000000) +contextual (disch := first | omega | exact qdb_ok (by kernel_rfl) | exact okb_ok (by kernel_rfl)) only [bw1,bw2,bw3,bw4,bw5,bw6,bw7,bc0,bc1,bc2,bc3,bc4,bc5,bc6,bc7,bb0,setPs,AV.owns,AV.datF,AV.frz,AV.cpy,ifV,isEqB,nilV,nilX,AV.isNilS,AV.isNoRows,wk,dclo,datOf,binIs,addF,AV.isPtr,idxV,AV.isSl,AV.isSlice,AV.rows,ps,pv,extV,extS,AV.outs,AV.outF,packD,AV.dl,fieldV,fieldS,AV.cells?,AV.upr,AV.menc,AV.one,D.one,Value.oneCell',tagOf,AV.isApp,strV,strS,bolV,bolS,slcV,AV.isSlD,asrtS,AV.dcells,D.cells?,stcV,stcS,leafOk,eqDs,eqD,packA,D.val?,↓reduceIte,reduceCtorEq,Nat.reduceAdd,Nat.reduceSub,Nat.reduceMul,List.reduceReplicate,Nat.reduceLeDiff,Nat.reduceLT,Nat.reduceBEq,Nat.reduceEqDiff,Int.reduceNeg,Int.reduceEq,Int.reduceLE,Int.reduceLT,tfb,boxAt,key3',key99',mencs_bxs,mencs_ents,kill_bxs,kill_ents,ctz66,O66_3,O66_4,z66_62,ctz62,z62_44,ctz44,z66_44,z66_64,ctz64,hlk, hbm, hp, hat, hst, hb, zb, yb]
    exact ⟨by rw [hd]; rfl, by rw [hd]; simp, PM, M1, M2, ⟨rfl, rfl, rfl, rfl⟩⟩
  have yb : (ms != 6) = true := by simpa using y
  by_cases q : x.day ≤ mi
  · have qb : ¬ mi < x.day := by omega
    have ho : oneR ⟨mp, mc, mb, ms, mi⟩ x = (⟨mp, mc, mb, ms, mi⟩, 11) := by unfold oneR; rw [if_neg (by omega), if_neg (by omega), if_neg (by omega), if_pos hk, if_neg (by simp only; omega), if_pos q]
    have hd := doR_err h0 h6 h5 hm (by rw [ho]; simp)
    rw [ho] at hd
    refine pcall_start (O := O66) (tb := 66000) Ct66_ok hmix ho66 Try.func66 c66 rfl Try.ntmps66 Try.results66 ?_
    simp (maxSteps := 4000000) +contextual (disch := first | omega | exact qdb_ok (by kernel_rfl) | exact okb_ok (by kernel_rfl)) only [bw1,bw2,bw3,bw4,bw5,bw6,bw7,bc0,bc1,bc2,bc3,bc4,bc5,bc6,bc7,bb0,setPs,AV.owns,AV.datF,AV.frz,AV.cpy,ifV,isEqB,nilV,nilX,AV.isNilS,AV.isNoRows,wk,dclo,datOf,binIs,addF,AV.isPtr,idxV,AV.isSl,AV.isSlice,AV.rows,ps,pv,extV,extS,AV.outs,AV.outF,packD,AV.dl,fieldV,fieldS,AV.cells?,AV.upr,AV.menc,AV.one,D.one,Value.oneCell',tagOf,AV.isApp,strV,strS,bolV,bolS,slcV,AV.isSlD,asrtS,AV.dcells,D.cells?,stcV,stcS,leafOk,eqDs,eqD,packA,D.val?,↓reduceIte,reduceCtorEq,Nat.reduceAdd,Nat.reduceSub,Nat.reduceMul,List.reduceReplicate,Nat.reduceLeDiff,Nat.reduceLT,Nat.reduceBEq,Nat.reduceEqDiff,Int.reduceNeg,Int.reduceEq,Int.reduceLE,Int.reduceLT,tfb,boxAt,key3',key99',mencs_bxs,mencs_ents,kill_bxs,kill_ents,ctz66,O66_3,O66_4,z66_62,ctz62,z62_44,ctz44,z66_44,z66_64,ctz64,hlk, hbm, hp, hat, hst, hb, zb, yb, qb]
    exact ⟨by rw [hd]; rfl, by rw [hd]; simp, PM, M1, M2, ⟨rfl, rfl, rfl, rfl⟩⟩
  · have qb : mi < x.day := by omega
    have ho : oneR ⟨mp, mc, mb, ms, mi⟩ x = (⟨mp, mc, mb, ms + 1, x.day⟩, 0) := by unfold oneR; rw [if_neg (by omega), if_neg (by omega), if_neg (by omega), if_pos hk, if_neg (by simp only; omega), if_neg q]
    have hd := doR_ok h0 h6 h5 hm (by rw [ho])
    rw [ho] at hd
    refine pcall_start (O := O66) (tb := 66000) Ct66_ok hmix ho66 Try.func66 c66 rfl Try.ntmps66 Try.results66 ?_
    simp (maxSteps := 4000000) +contextual (disch := first | omega | exact qdb_ok (by kernel_rfl) | exact okb_ok (by kernel_rfl)) only [bw1,bw2,bw3,bw4,bw5,bw6,bw7,bc0,bc1,bc2,bc3,bc4,bc5,bc6,bc7,bb0,setPs,AV.owns,AV.datF,AV.frz,AV.cpy,ifV,isEqB,nilV,nilX,AV.isNilS,AV.isNoRows,wk,dclo,datOf,binIs,addF,AV.isPtr,idxV,AV.isSl,AV.isSlice,AV.rows,ps,pv,extV,extS,AV.outs,AV.outF,packD,AV.dl,fieldV,fieldS,AV.cells?,AV.upr,AV.menc,AV.one,D.one,Value.oneCell',tagOf,AV.isApp,strV,strS,bolV,bolS,slcV,AV.isSlD,asrtS,AV.dcells,D.cells?,stcV,stcS,leafOk,eqDs,eqD,packA,D.val?,↓reduceIte,reduceCtorEq,Nat.reduceAdd,Nat.reduceSub,Nat.reduceMul,List.reduceReplicate,Nat.reduceLeDiff,Nat.reduceLT,Nat.reduceBEq,Nat.reduceEqDiff,Int.reduceNeg,Int.reduceEq,Int.reduceLE,Int.reduceLT,tfb,boxAt,key3',key99',mencs_bxs,mencs_ents,kill_bxs,kill_ents,ctz66,O66_3,O66_4,z66_62,ctz62,z62_44,ctz44,z66_44,z66_64,ctz64,hlk, hbm, hp, hat, hst, hb, hat2, hst2, List.set_set, zb, yb, qb]
    exact ⟨by rw [hd], _, M1, M2, by rw [hd]; exact hR.set h1 h4 hm h2 h2 h6, ⟨rfl, rfl, rfl, rfl⟩⟩
theorem deed67 {i : Nat} {s : St} {x : Ev} {PM : PMem} {M1 M2 : PSet} (hi : i ≤ 256) (hI : InvR i s) (hR : Rl PM M1 M2 s) (hx : evOk x = true) (hk : x.kind = 5) : Deed 67 s x PM M1 M2 := by
  unfold Deed
  have h0 : x.kind ≠ 0 := by omega
  have h6 : x.kind ≠ 6 := by omega
  have hp := keyOf3 (i64_of (a := x.person) (by have := ev_person hx h6; omega))
  have hbm := bm_ok (gb := 4000100011) hR.rg
  rcases hR.look x.person with ⟨h1, h2⟩ | ⟨a, j, m, h1, h2, h3, h4, h5, hm, h7⟩
  · have hd := doR_none h0 h6 h1
    refine pcall_start (O := O67) (tb := 67000) Ct67_ok hmix ho67 Try.func67 c67 rfl Try.ntmps67 Try.results67 ?_
    have hlk := fun {R : Option Nat → Prop} {m : At R} => xLkB_no (gb := 4000100011) h2 (R := R) (m := m)
    simp (maxSteps := 4000000) +contextual (disch := first | omega | exact qdb_ok (by kernel_rfl) | exact okb_ok (by kernel_rfl)) only [bw1,bw2,bw3,bw4,bw5,bw6,bw7,bc0,bc1,bc2,bc3,bc4,bc5,bc6,bc7,bb0,setPs,AV.owns,AV.datF,AV.frz,AV.cpy,ifV,isEqB,nilV,nilX,AV.isNilS,AV.isNoRows,wk,dclo,datOf,binIs,addF,AV.isPtr,idxV,AV.isSl,AV.isSlice,AV.rows,ps,pv,extV,extS,AV.outs,AV.outF,packD,AV.dl,fieldV,fieldS,AV.cells?,AV.upr,AV.menc,AV.one,D.one,Value.oneCell',tagOf,AV.isApp,strV,strS,bolV,bolS,slcV,AV.isSlD,asrtS,AV.dcells,D.cells?,stcV,stcS,leafOk,eqDs,eqD,packA,D.val?,↓reduceIte,reduceCtorEq,Nat.reduceAdd,Nat.reduceSub,Nat.reduceMul,List.reduceReplicate,Nat.reduceLeDiff,Nat.reduceLT,Nat.reduceBEq,Nat.reduceEqDiff,Int.reduceNeg,Int.reduceEq,Int.reduceLE,Int.reduceLT,tfb,boxAt,key3',key99',mencs_bxs,mencs_ents,kill_bxs,kill_ents,ctz67,O67_3,z67_62,ctz62,z62_44,ctz44,z67_44,z67_64,ctz64,hlk, hbm, hp]
    exact ⟨by rw [hd]; rfl, by rw [hd]; simp, PM, M1, M2, ⟨rfl, rfl, rfl, rfl⟩⟩
  have hb := hI.2.1 m h3
  unfold MOk at hb
  have hn := ev_rng hx
  have hlk := fun {R : Option Nat → Prop} {m : At R} => xLkB_at (gb := 4000100011) h1 h7 (R := R) (m := m)
  have hat : bxAt (bxs 4000100011 fki Mem.c PM) 4000100011 a = some (.i x.person, m.c) := bx_at h1
  have hst := fun {a b c d e : Int} => bx_set (gb := 4000100011) h1 (a := a) (b := b) (c := c) (d := d) (e := e)
  have hat2 : ∀ v : Mem, bxAt (bxs 4000100011 fki Mem.c (PM.set a (x.person, v))) 4000100011 a = some (.i x.person, v.c) := fun v => bx_at (set2 h1 v)
  have hst2 := fun {v : Mem} {a b c d e : Int} => bx_set (gb := 4000100011) (set2 h1 v) (a := a) (b := b) (c := c) (d := d) (e := e)
  obtain ⟨mp, mc, mb, ms, mi⟩ := m
  simp only at hb h2
  by_cases y : ms = 6
  case neg =>
    have yb : (ms == 6) = false := by simpa using y
    have ho : oneR ⟨mp, mc, mb, ms, mi⟩ x = (⟨mp, mc, mb, ms, mi⟩, 6) := by unfold oneR; rw [if_neg (by omega), if_neg (by omega), if_neg (by omega), if_neg (by omega), if_pos y]
    have hd := doR_err h0 h6 h5 hm (by rw [ho]; simp)
    rw [ho] at hd
    refine pcall_start (O := O67) (tb := 67000) Ct67_ok hmix ho67 Try.func67 c67 rfl Try.ntmps67 Try.results67 ?_
    simp (maxSteps := 4000000) +contextual (disch := first | omega | exact qdb_ok (by kernel_rfl) | exact okb_ok (by kernel_rfl)) only [bw1,bw2,bw3,bw4,bw5,bw6,bw7,bc0,bc1,bc2,bc3,bc4,bc5,bc6,bc7,bb0,setPs,AV.owns,AV.datF,AV.frz,AV.cpy,ifV,isEqB,nilV,nilX,AV.isNilS,AV.isNoRows,wk,dclo,datOf,binIs,addF,AV.isPtr,idxV,AV.isSl,AV.isSlice,AV.rows,ps,pv,extV,extS,AV.outs,AV.outF,packD,AV.dl,fieldV,fieldS,AV.cells?,AV.upr,AV.menc,AV.one,D.one,Value.oneCell',tagOf,AV.isApp,strV,strS,bolV,bolS,slcV,AV.isSlD,asrtS,AV.dcells,D.cells?,stcV,stcS,leafOk,eqDs,eqD,packA,D.val?,↓reduceIte,reduceCtorEq,Nat.reduceAdd,Nat.reduceSub,Nat.reduceMul,List.reduceReplicate,Nat.reduceLeDiff,Nat.reduceLT,Nat.reduceBEq,Nat.reduceEqDiff,Int.reduceNeg,Int.reduceEq,Int.reduceLE,Int.reduceLT,tfb,boxAt,key3',key99',mencs_bxs,mencs_ents,kill_bxs,kill_ents,ctz67,O67_3,z67_62,ctz62,z62_44,ctz44,z67_44,z67_64,ctz64,hlk, hbm, hp, hat, hst, hb, yb]
    exact ⟨by rw [hd]; rfl, by rw [hd]; simp, PM, M1, M2, ⟨rfl, rfl, rfl, rfl⟩⟩
  have yb : (ms == 6) = true := by simpa using y
  by_cases q : x.day ≤ mi
  · have qb : ¬ mi < x.day := by omega
    have ho : oneR ⟨mp, mc, mb, ms, mi⟩ x = (⟨mp, mc, mb, ms, mi⟩, 11) := by unfold oneR; rw [if_neg (by omega), if_neg (by omega), if_neg (by omega), if_neg (by omega), if_neg (by simp only; omega), if_pos q]
    have hd := doR_err h0 h6 h5 hm (by rw [ho]; simp)
    rw [ho] at hd
    refine pcall_start (O := O67) (tb := 67000) Ct67_ok hmix ho67 Try.func67 c67 rfl Try.ntmps67 Try.results67 ?_
    simp (maxSteps := 4000000) +contextual (disch := first | omega | exact qdb_ok (by kernel_rfl) | exact okb_ok (by kernel_rfl)) only [bw1,bw2,bw3,bw4,bw5,bw6,bw7,bc0,bc1,bc2,bc3,bc4,bc5,bc6,bc7,bb0,setPs,AV.owns,AV.datF,AV.frz,AV.cpy,ifV,isEqB,nilV,nilX,AV.isNilS,AV.isNoRows,wk,dclo,datOf,binIs,addF,AV.isPtr,idxV,AV.isSl,AV.isSlice,AV.rows,ps,pv,extV,extS,AV.outs,AV.outF,packD,AV.dl,fieldV,fieldS,AV.cells?,AV.upr,AV.menc,AV.one,D.one,Value.oneCell',tagOf,AV.isApp,strV,strS,bolV,bolS,slcV,AV.isSlD,asrtS,AV.dcells,D.cells?,stcV,stcS,leafOk,eqDs,eqD,packA,D.val?,↓reduceIte,reduceCtorEq,Nat.reduceAdd,Nat.reduceSub,Nat.reduceMul,List.reduceReplicate,Nat.reduceLeDiff,Nat.reduceLT,Nat.reduceBEq,Nat.reduceEqDiff,Int.reduceNeg,Int.reduceEq,Int.reduceLE,Int.reduceLT,tfb,boxAt,key3',key99',mencs_bxs,mencs_ents,kill_bxs,kill_ents,ctz67,O67_3,z67_62,ctz62,z62_44,ctz44,z67_44,z67_64,ctz64,hlk, hbm, hp, hat, hst, hb, yb, qb]
    exact ⟨by rw [hd]; rfl, by rw [hd]; simp, PM, M1, M2, ⟨rfl, rfl, rfl, rfl⟩⟩
  · have qb : mi < x.day := by omega
    have ho : oneR ⟨mp, mc, mb, ms, mi⟩ x = (⟨mp, mc, mb, 0, x.day⟩, 0) := by unfold oneR; rw [if_neg (by omega), if_neg (by omega), if_neg (by omega), if_neg (by omega), if_neg (by simp only; omega), if_neg q]
    have hd := doR_ok h0 h6 h5 hm (by rw [ho])
    rw [ho] at hd
    refine pcall_start (O := O67) (tb := 67000) Ct67_ok hmix ho67 Try.func67 c67 rfl Try.ntmps67 Try.results67 ?_
    simp (maxSteps := 4000000) +contextual (disch := first | omega | exact qdb_ok (by kernel_rfl) | exact okb_ok (by kernel_rfl)) only [bw1,bw2,bw3,bw4,bw5,bw6,bw7,bc0,bc1,bc2,bc3,bc4,bc5,bc6,bc7,bb0,setPs,AV.owns,AV.datF,AV.frz,AV.cpy,ifV,isEqB,nilV,nilX,AV.isNilS,AV.isNoRows,wk,dclo,datOf,binIs,addF,AV.isPtr,idxV,AV.isSl,AV.isSlice,AV.rows,ps,pv,extV,extS,AV.outs,AV.outF,packD,AV.dl,fieldV,fieldS,AV.cells?,AV.upr,AV.menc,AV.one,D.one,Value.oneCell',tagOf,AV.isApp,strV,strS,bolV,bolS,slcV,AV.isSlD,asrtS,AV.dcells,D.cells?,stcV,stcS,leafOk,eqDs,eqD,packA,D.val?,↓reduceIte,reduceCtorEq,Nat.reduceAdd,Nat.reduceSub,Nat.reduceMul,List.reduceReplicate,Nat.reduceLeDiff,Nat.reduceLT,Nat.reduceBEq,Nat.reduceEqDiff,Int.reduceNeg,Int.reduceEq,Int.reduceLE,Int.reduceLT,tfb,boxAt,key3',key99',mencs_bxs,mencs_ents,kill_bxs,kill_ents,ctz67,O67_3,z67_62,ctz62,z62_44,ctz44,z67_44,z67_64,ctz64,hlk, hbm, hp, hat, hst, hb, hat2, hst2, List.set_set, yb, qb]
    exact ⟨by rw [hd], _, M1, M2, by rw [hd]; exact hR.set h1 h4 hm h2 h2 h6, ⟨rfl, rfl, rfl, rfl⟩⟩
end Go.Proofs.Ytohkngiflfkjjaa
