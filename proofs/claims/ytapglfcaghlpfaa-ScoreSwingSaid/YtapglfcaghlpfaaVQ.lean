/- A part of the proof that the last text ends: what functions of the program do, told by plain data. -/
import Derived.Test.YtapglfcaghlpfaaUE
import Derived.Test.YtapglfcaghlpfaaVE
import Derived.Test.YtapglfcaghlpfaaEc
set_option linter.unusedVariables false
set_option linter.unusedSimpArgs false
namespace Go.Proofs.Ytapglfcaghlpfaa
open Go Go.E Go.Maps
set_option maxRecDepth 100000
set_option maxHeartbeats 16000000
abbrev bc (b : Int) : List D := [.v (.int .u8 b)]
theorem bc_row {l : List Int} {i : Nat} (h : i < l.length) : (l.map bc).getD i [] = bc (l.getD i default) := by
  rw [List.getD_eq_getElem?_getD, List.getElem?_map, List.getElem?_eq_getElem h, at_lt h]; rfl
theorem bcs_inj {a b : List Int} : (a.map bc = b.map bc) = (a = b) := inj_map fun _ _ h => by simpa using h
def chC (bs : List Int) (j z : Nat) (c : Cal) : Cal := { c with marks := c.marks.set j (bs.getD (z % bs.length) default % 11 - 5) }
def chP (bs : List Int) (j z : Nat) (p : List Int) : List Int := p.set j (bs.getD (z % bs.length) default % 41)
theorem chC_row {bs : List Int} {j t : Nat} {c : Cal} : Cal.c (chC bs j t c) = [.i c.place, .i c.elem, .i c.under, .b c.late, .b c.fall, .sl 1 ((c.marks.map ic).set j [.i (bs.getD (t % bs.length) default % 11 - 5)])] := by
  show [_, _, _, _, _, D.sl 1 (List.map ic (List.set _ _ _))] = _
  rw [List.map_set]; rfl
theorem chP_row {bs : List Int} {j t : Nat} {p : List Int} : pc (chP bs j t p) = [.sl 1 ((p.map ic).set j [.i (bs.getD (t % bs.length) default % 41)])] := by
  show [D.sl 1 (List.map ic (List.set _ _ _))] = _
  rw [List.map_set]
def chcN (s : Ska) (j : Nat) (bs : List Int) (z k : Nat) : List Cal := (List.range k).map fun i => chC bs j (z + i) (s.calls.getD i default)
def chpN (s : Ska) (j : Nat) (bs : List Int) (z k : Nat) : List (List Int) := (List.range k).map fun i => chP bs j (z + i + 1) (s.parts.getD i default)
theorem chcN_succ {s : Ska} {j : Nat} {bs : List Int} {z k : Nat} : chcN s j bs z (k + 1) = chcN s j bs z k ++ [chC bs j (z + k) (s.calls.getD k default)] := by
  unfold chcN; rw [List.range_succ, List.map_append]; rfl
theorem chpN_succ {s : Ska} {j : Nat} {bs : List Int} {z k : Nat} : chpN s j bs z (k + 1) = chpN s j bs z k ++ [chP bs j (z + k + 1) (s.parts.getD k default)] := by
  unfold chpN; rw [List.range_succ, List.map_append]; rfl
theorem chcN_len {s : Ska} {j : Nat} {bs : List Int} {z k : Nat} : (chcN s j bs z k).length = k := by unfold chcN; rw [List.length_map, List.length_range]
theorem chpN_len {s : Ska} {j : Nat} {bs : List Int} {z k : Nat} : (chpN s j bs z k).length = k := by unfold chpN; rw [List.length_map, List.length_range]
def chS (s : Ska) (j : Nat) (bs : List Int) (z : Nat) : Ska := ⟨chcN s j bs z s.calls.length, chpN s j bs z s.parts.length, s.over⟩
def O18 : Nat → Sch := fun id => if id = 6 then .one 0 (.one 1 (.one 2 (.one 3 (.one 4 (.one 5 (.one 6 (.one 7 (.one 8 (.one 9 (.one 10 (.one 11 (.one 12 (.one 13 (.one 14 (.one 15 (.one 16 (.done))))))))))))))))) else .done
theorem O18_6 : O18 6 = .one 0 (.one 1 (.one 2 (.one 3 (.one 4 (.one 5 (.one 6 (.one 7 (.one 8 (.one 9 (.one 10 (.one 11 (.one 12 (.one 13 (.one 14 (.one 15 (.one 16 (.done))))))))))))))))) := rfl
theorem ho18 : Try.f18.body.map (okO O18) = some true := by kernel_rfl
def Cf18 : Nat → List AV → (AV → List AV → Sto → Prop) → Kt → List AV → Sto → Prop := fun f args K Q e s => match f with
  | _ => False
def Ct18 : CT := { f := Cf18, y := noYld, z := fun d => d == 49 || d == 82 }
theorem ctz18 {d : Nat} : CT.z Ct18 d = (d == 49 || d == 82) := id rfl
theorem Ct18_ok : Ct18.ok Try.prog := ok_of_f (fun f args K Q e s h => by
  have h : Cf18 f args K Q e s := h
  unfold Cf18 at h; split at h
  · exact h.elim) (fun _ _ _ _ _ _ _ _ _ h => h)
theorem c18 : callable Try.prog 18 = true := by kernel_rfl
theorem pf18 (s : Ska) (j : Nat) (bs : List Int) (z : Nat) (h : (((s.calls.length ≤ 1000 ∧ s.parts.length ≤ 1000) ∧ z ≤ 1000) ∧ 1 ≤ bs.length ∧ ∀ b ∈ bs, 0 ≤ b ∧ b ≤ 255) ∧ (∀ c ∈ s.calls, j < c.marks.length ∧ c.marks.length ≤ 1000) ∧ ∀ p ∈ s.parts, j < p.length ∧ p.length ≤ 1000) : PF Try.prog 18 [.agg s.c, .i (j : Int), .sl 1 (bs.map bc), .i (z : Int)] (fun zz => zz = .ret (.agg (chS s j bs z).c)) := by
  obtain ⟨⟨⟨⟨hl1, hl2⟩, hz⟩, hb1, hb2⟩, hc, hp⟩ := h
  have k0 : chcN s j bs z 0 = [] := rfl
  have k1 := fun k => chcN_succ (s := s) (j := j) (bs := bs) (z := z) (k := k)
  have kl := fun k => chcN_len (s := s) (j := j) (bs := bs) (z := z) (k := k)
  have q0 : chpN s j bs z 0 = [] := rfl
  have q1 := fun k => chpN_succ (s := s) (j := j) (bs := bs) (z := z) (k := k)
  have ql := fun k => chpN_len (s := s) (j := j) (bs := bs) (z := z) (k := k)
  have hbz : ¬ (bs.length : Int) = 0 := by omega
  refine PF_nil (PF_start (O := O18) Ct18_ok hmix ho18 Try.func18 c18 rfl Try.ntmps18 Try.results18 ?_)
  simp (maxSteps := 4000000) +contextual (disch := first | omega | exact qdb_ok (by kernel_rfl) | exact okb_ok (by kernel_rfl)) only [bw1,bw2,bw3,bw4,bw5,bw6,bw7,bc0,bc1,bc2,bc3,bc4,bc5,bc6,bc7,setPs,AV.owns,AV.datF,AV.frz,AV.cpy,ifV,isEqB,nilV,nilX,AV.isNilS,AV.isNoRows,wk,dclo,datOf,binIs,addF,AV.isPtr,idxV,AV.isSl,AV.isSlice,AV.rows,ps,pv,extV,extS,AV.outs,AV.outF,packD,AV.dl,fieldV,fieldS,AV.cells?,AV.upr,AV.menc,AV.one,D.one,Value.oneCell',tagOf,AV.isApp,strV,strS,bolV,bolS,slcV,AV.isSlD,asrtS,AV.dcells,D.cells?,stcV,stcS,leafOk,eqDs,eqD,packA,D.val?,↓reduceIte,reduceCtorEq,Nat.reduceAdd,Nat.reduceSub,Nat.reduceMul,List.reduceReplicate,Nat.reduceLeDiff,Nat.reduceLT,Nat.reduceBEq,Nat.reduceEqDiff,Int.reduceNeg,Int.reduceEq,Int.reduceLE,Int.reduceLT,tfb,ctz18,O18_6]
  refine seedS 10 0 51 37 6 _ (by decide) (by decide) rfl rfl (by simp [AV.mens, AV.men]) (by simp [Sto.mens, AV.mens, AV.men]) rfl ?_
  refine loop_u (O := O18) (tb := 0) Ct18_ok hmix (by kernel_rfl) (σ := Nat) (fun k => [(20, .i k)]) (fun k => [(10, [.own 51 37 6 ((chcN s j bs z k).map Cal.c), .d (.v (.slice none 0 0)), .d (.i s.over)])]) (fun k => k ≤ s.calls.length) (fun k => s.calls.length - k) (fun k => k + 1) 0 (by omega) ?_ ?_
  · simp (maxSteps := 4000000) +contextual (disch := first | omega | exact qdb_ok (by kernel_rfl) | exact okb_ok (by kernel_rfl)) only [bw1,bw2,bw3,bw4,bw5,bw6,bw7,bc0,bc1,bc2,bc3,bc4,bc5,bc6,bc7,setPs,AV.owns,AV.datF,AV.frz,AV.cpy,ifV,isEqB,nilV,nilX,AV.isNilS,AV.isNoRows,wk,dclo,datOf,binIs,addF,AV.isPtr,idxV,AV.isSl,AV.isSlice,AV.rows,ps,pv,extV,extS,AV.outs,AV.outF,packD,AV.dl,fieldV,fieldS,AV.cells?,AV.upr,AV.menc,AV.one,D.one,Value.oneCell',tagOf,AV.isApp,strV,strS,bolV,bolS,slcV,AV.isSlD,asrtS,AV.dcells,D.cells?,stcV,stcS,leafOk,eqDs,eqD,packA,D.val?,↓reduceIte,reduceCtorEq,Nat.reduceAdd,Nat.reduceSub,Nat.reduceMul,List.reduceReplicate,Nat.reduceLeDiff,Nat.reduceLT,Nat.reduceBEq,Nat.reduceEqDiff,Int.reduceNeg,Int.reduceEq,Int.reduceLE,Int.reduceLT,tfb,ctz18,O18_6,eq_self, k0]
  intro k hk
  by_cases hlt : k < s.calls.length
  · have hlt' : (k : Int) < s.calls.length := by omega
    obtain ⟨c1, c2⟩ := hc (s.calls.getD k default) (by rw [at_lt hlt]; exact List.getElem_mem _)
    have c1' : (j : Int) < (s.calls.getD k default).marks.length := by omega
    have k1k := k1 k
    obtain ⟨m, hm⟩ : ∃ m : Nat, m = (z + k) % bs.length := ⟨_, rfl⟩
    have hml : m < bs.length := by rw [hm]; exact Nat.mod_lt _ (by omega)
    have hml' : (m : Int) < bs.length := by omega
    have hm1 : ((z : Int) + (k : Int)) % (bs.length : Int) = m := by rw [hm, Int.natCast_emod]; rfl
    have hwr : IntKind.i64.wrap ((z : Int) + (k : Int)) = (z : Int) + k := wrap_ok (by omega) (by omega)
    have hbm := hb2 (bs.getD m default) (by rw [at_lt hml]; exact List.getElem_mem _)
    have hrow := bc_row hml
    simp (maxSteps := 4000000) +contextual (disch := first | omega | exact qdb_ok (by kernel_rfl) | exact okb_ok (by kernel_rfl)) only [bw1,bw2,bw3,bw4,bw5,bw6,bw7,bc0,bc1,bc2,bc3,bc4,bc5,bc6,bc7,setPs,AV.owns,AV.datF,AV.frz,AV.cpy,ifV,isEqB,nilV,nilX,AV.isNilS,AV.isNoRows,wk,dclo,datOf,binIs,addF,AV.isPtr,idxV,AV.isSl,AV.isSlice,AV.rows,ps,pv,extV,extS,AV.outs,AV.outF,packD,AV.dl,fieldV,fieldS,AV.cells?,AV.upr,AV.menc,AV.one,D.one,Value.oneCell',tagOf,AV.isApp,strV,strS,bolV,bolS,slcV,AV.isSlD,asrtS,AV.dcells,D.cells?,stcV,stcS,leafOk,eqDs,eqD,packA,D.val?,↓reduceIte,reduceCtorEq,Nat.reduceAdd,Nat.reduceSub,Nat.reduceMul,List.reduceReplicate,Nat.reduceLeDiff,Nat.reduceLT,Nat.reduceBEq,Nat.reduceEqDiff,Int.reduceNeg,Int.reduceEq,Int.reduceLE,Int.reduceLT,tfb,ctz18,O18_6,eq_self, hlt', hwr, hbz, hm1, hml', hrow, c1', kl, List.length_map]
    refine ⟨by omega, by omega, by omega, by omega, by omega, by omega, by omega, by omega, ?_⟩
    rw [k1k, List.map_append]
    show _ = _ ++ [Cal.c (chC bs j (z + k) (s.calls.getD k default))]
    rw [chC_row, ← hm]
  have hlt' : ¬ (k : Int) < s.calls.length := by omega
  obtain rfl : k = s.calls.length := by omega
  simp (maxSteps := 4000000) +contextual (disch := first | omega | exact qdb_ok (by kernel_rfl) | exact okb_ok (by kernel_rfl)) only [bw1,bw2,bw3,bw4,bw5,bw6,bw7,bc0,bc1,bc2,bc3,bc4,bc5,bc6,bc7,setPs,AV.owns,AV.datF,AV.frz,AV.cpy,ifV,isEqB,nilV,nilX,AV.isNilS,AV.isNoRows,wk,dclo,datOf,binIs,addF,AV.isPtr,idxV,AV.isSl,AV.isSlice,AV.rows,ps,pv,extV,extS,AV.outs,AV.outF,packD,AV.dl,fieldV,fieldS,AV.cells?,AV.upr,AV.menc,AV.one,D.one,Value.oneCell',tagOf,AV.isApp,strV,strS,bolV,bolS,slcV,AV.isSlD,asrtS,AV.dcells,D.cells?,stcV,stcS,leafOk,eqDs,eqD,packA,D.val?,↓reduceIte,reduceCtorEq,Nat.reduceAdd,Nat.reduceSub,Nat.reduceMul,List.reduceReplicate,Nat.reduceLeDiff,Nat.reduceLT,Nat.reduceBEq,Nat.reduceEqDiff,Int.reduceNeg,Int.reduceEq,Int.reduceLE,Int.reduceLT,tfb,ctz18,O18_6,eq_self, hlt', Int.lt_irrefl]
  refine seedS 10 1 84 22 1 _ (by decide) (by decide) rfl rfl (by simp [AV.mens, AV.men]) (by simp [Sto.mens, AV.mens, AV.men]) rfl ?_
  refine loop_u (O := O18) (tb := 0) Ct18_ok hmix (by kernel_rfl) (σ := Nat) (fun k => [(56, .i k)]) (fun k => [(10, [.own 51 37 6 ((chcN s j bs z s.calls.length).map Cal.c), .own 84 22 1 ((chpN s j bs z k).map pc), .d (.i s.over)])]) (fun k => k ≤ s.parts.length) (fun k => s.parts.length - k) (fun k => k + 1) 0 (by omega) ?_ ?_
  · simp (maxSteps := 4000000) +contextual (disch := first | omega | exact qdb_ok (by kernel_rfl) | exact okb_ok (by kernel_rfl)) only [bw1,bw2,bw3,bw4,bw5,bw6,bw7,bc0,bc1,bc2,bc3,bc4,bc5,bc6,bc7,setPs,AV.owns,AV.datF,AV.frz,AV.cpy,ifV,isEqB,nilV,nilX,AV.isNilS,AV.isNoRows,wk,dclo,datOf,binIs,addF,AV.isPtr,idxV,AV.isSl,AV.isSlice,AV.rows,ps,pv,extV,extS,AV.outs,AV.outF,packD,AV.dl,fieldV,fieldS,AV.cells?,AV.upr,AV.menc,AV.one,D.one,Value.oneCell',tagOf,AV.isApp,strV,strS,bolV,bolS,slcV,AV.isSlD,asrtS,AV.dcells,D.cells?,stcV,stcS,leafOk,eqDs,eqD,packA,D.val?,↓reduceIte,reduceCtorEq,Nat.reduceAdd,Nat.reduceSub,Nat.reduceMul,List.reduceReplicate,Nat.reduceLeDiff,Nat.reduceLT,Nat.reduceBEq,Nat.reduceEqDiff,Int.reduceNeg,Int.reduceEq,Int.reduceLE,Int.reduceLT,tfb,ctz18,O18_6,eq_self, q0]
  intro k hk
  by_cases hlt : k < s.parts.length
  · have hlt' : (k : Int) < s.parts.length := by omega
    obtain ⟨c1, c2⟩ := hp (s.parts.getD k default) (by rw [at_lt hlt]; exact List.getElem_mem _)
    have c1' : (j : Int) < (s.parts.getD k default).length := by omega
    have k1k := q1 k
    obtain ⟨m, hm⟩ : ∃ m : Nat, m = (z + k + 1) % bs.length := ⟨_, rfl⟩
    have hml : m < bs.length := by rw [hm]; exact Nat.mod_lt _ (by omega)
    have hml' : (m : Int) < bs.length := by omega
    have hm1 : ((z : Int) + (k : Int) + 1) % (bs.length : Int) = m := by rw [hm, Int.natCast_emod]; rfl
    have hwr : IntKind.i64.wrap ((z : Int) + (k : Int)) = (z : Int) + k := wrap_ok (by omega) (by omega)
    have hwr2 : IntKind.i64.wrap ((z : Int) + (k : Int) + 1) = (z : Int) + k + 1 := wrap_ok (by omega) (by omega)
    have hbm := hb2 (bs.getD m default) (by rw [at_lt hml]; exact List.getElem_mem _)
    have hrow := bc_row hml
    simp (maxSteps := 4000000) +contextual (disch := first | omega | exact qdb_ok (by kernel_rfl) | exact okb_ok (by kernel_rfl)) only [bw1,bw2,bw3,bw4,bw5,bw6,bw7,bc0,bc1,bc2,bc3,bc4,bc5,bc6,bc7,setPs,AV.owns,AV.datF,AV.frz,AV.cpy,ifV,isEqB,nilV,nilX,AV.isNilS,AV.isNoRows,wk,dclo,datOf,binIs,addF,AV.isPtr,idxV,AV.isSl,AV.isSlice,AV.rows,ps,pv,extV,extS,AV.outs,AV.outF,packD,AV.dl,fieldV,fieldS,AV.cells?,AV.upr,AV.menc,AV.one,D.one,Value.oneCell',tagOf,AV.isApp,strV,strS,bolV,bolS,slcV,AV.isSlD,asrtS,AV.dcells,D.cells?,stcV,stcS,leafOk,eqDs,eqD,packA,D.val?,↓reduceIte,reduceCtorEq,Nat.reduceAdd,Nat.reduceSub,Nat.reduceMul,List.reduceReplicate,Nat.reduceLeDiff,Nat.reduceLT,Nat.reduceBEq,Nat.reduceEqDiff,Int.reduceNeg,Int.reduceEq,Int.reduceLE,Int.reduceLT,tfb,ctz18,O18_6,eq_self, hlt', hwr, hwr2, hbz, hm1, hml', hrow, c1', ql, List.length_map]
    refine ⟨by omega, by omega, by omega, by omega, by omega, by omega, by omega, by omega, ?_⟩
    rw [k1k, List.map_append]
    show _ = _ ++ [pc (chP bs j (z + k + 1) (s.parts.getD k default))]
    rw [chP_row, ← hm]
  have hlt' : ¬ (k : Int) < s.parts.length := by omega
  obtain rfl : k = s.parts.length := by omega
  simp (maxSteps := 4000000) +contextual (disch := first | omega | exact qdb_ok (by kernel_rfl) | exact okb_ok (by kernel_rfl)) only [bw1,bw2,bw3,bw4,bw5,bw6,bw7,bc0,bc1,bc2,bc3,bc4,bc5,bc6,bc7,setPs,AV.owns,AV.datF,AV.frz,AV.cpy,ifV,isEqB,nilV,nilX,AV.isNilS,AV.isNoRows,wk,dclo,datOf,binIs,addF,AV.isPtr,idxV,AV.isSl,AV.isSlice,AV.rows,ps,pv,extV,extS,AV.outs,AV.outF,packD,AV.dl,fieldV,fieldS,AV.cells?,AV.upr,AV.menc,AV.one,D.one,Value.oneCell',tagOf,AV.isApp,strV,strS,bolV,bolS,slcV,AV.isSlD,asrtS,AV.dcells,D.cells?,stcV,stcS,leafOk,eqDs,eqD,packA,D.val?,↓reduceIte,reduceCtorEq,Nat.reduceAdd,Nat.reduceSub,Nat.reduceMul,List.reduceReplicate,Nat.reduceLeDiff,Nat.reduceLT,Nat.reduceBEq,Nat.reduceEqDiff,Int.reduceNeg,Int.reduceEq,Int.reduceLE,Int.reduceLT,tfb,ctz18,O18_6,eq_self, hlt', Int.lt_irrefl]
  exact ⟨rfl, rfl, rfl⟩
def ent18 (args : List AV) (K : AV → List AV → Sto → Prop) (e : List AV) (s : Sto) : Prop := ent (α := (Ska) × (Nat) × (List Int) × (Nat)) (fun aa => [.agg aa.1.c, .i (aa.2.1 : Int), .sl 1 (aa.2.2.1.map bc), .i (aa.2.2.2 : Int)]) (fun aa => (((aa.1.calls.length ≤ 1000 ∧ aa.1.parts.length ≤ 1000) ∧ aa.2.2.2 ≤ 1000) ∧ 1 ≤ aa.2.2.1.length ∧ ∀ b ∈ aa.2.2.1, 0 ≤ b ∧ b ≤ 255) ∧ (∀ c ∈ aa.1.calls, aa.2.1 < c.marks.length ∧ c.marks.length ≤ 1000) ∧ ∀ p ∈ aa.1.parts, aa.2.1 < p.length ∧ p.length ≤ 1000) (fun aa => .agg (chS aa.1 aa.2.1 aa.2.2.1 aa.2.2.2).c) args K e s
theorem ent18_ok {args : List AV} {K : AV → List AV → Sto → Prop} {Q : Kt} {e : List AV} {s : Sto} (h : ent18 args K e s) : pcall Try.prog 18 args K Q e s := ent_ok (fun aa h => pf18 aa.1 aa.2.1 aa.2.2.1 aa.2.2.2 h) h
theorem eq18 {s : Ska} {j : Nat} {bs : List Int} {z : Nat} {KK : AV → List AV → Sto → Prop} {ee : List AV} {ss : Sto} : ent18 [.d (.agg s.c), .d (.i (j : Int)), .d (.sl 1 (bs.map bc)), .d (.i (z : Int))] KK ee ss = (((((s.calls.length ≤ 1000 ∧ s.parts.length ≤ 1000) ∧ z ≤ 1000) ∧ 1 ≤ bs.length ∧ ∀ b ∈ bs, 0 ≤ b ∧ b ≤ 255) ∧ (∀ c ∈ s.calls, j < c.marks.length ∧ c.marks.length ≤ 1000) ∧ ∀ p ∈ s.parts, j < p.length ∧ p.length ≤ 1000) ∧ KK (.d (.agg (chS s j bs z).c)) ee ss) := by
  unfold ent18; rw [ent_iff (s, j, bs, z) (by intro b h; simpa [Prod.ext_iff, and_assoc, Int.ofNat_inj, ints_inj, cals_inj, pcs_inj, skas_inj, scos_inj, ska_inj, rul_inj, sco_inj, cal_inj, ods_inj, od_inj, spns_inj, bcs_inj] using h) rfl]; simp
theorem eqo18 {s : Ska} {j : Nat} {bs : List Int} {z : Nat} {g1 el1 : Nat} {KK : AV → List AV → Sto → Prop} {ee : List AV} {ss : Sto} : ent18 [.d (.agg s.c), .d (.i (j : Int)), .own g1 el1 1 (bs.map bc), .d (.i (z : Int))] KK ee ss = (((((s.calls.length ≤ 1000 ∧ s.parts.length ≤ 1000) ∧ z ≤ 1000) ∧ 1 ≤ bs.length ∧ ∀ b ∈ bs, 0 ≤ b ∧ b ≤ 255) ∧ (∀ c ∈ s.calls, j < c.marks.length ∧ c.marks.length ≤ 1000) ∧ ∀ p ∈ s.parts, j < p.length ∧ p.length ≤ 1000) ∧ (.agg (chS s j bs z).c : D).flat = true ∧ KK (.d (.agg (chS s j bs z).c)) ee ss) := by
  unfold ent18; rw [ent_iff (s, j, bs, z) (by intro b h; simpa [Prod.ext_iff, and_assoc, Int.ofNat_inj, ints_inj, cals_inj, pcs_inj, skas_inj, scos_inj, ska_inj, rul_inj, sco_inj, cal_inj, ods_inj, od_inj, spns_inj, bcs_inj] using h) rfl]; simp
end Go.Proofs.Ytapglfcaghlpfaa
