/- A part of the proof that the last text ends: what functions of the program do, told by plain data. -/
import Derived.Test.YtapglfcaghlpfaaGreatZSW
set_option linter.unusedVariables false
set_option linter.unusedSimpArgs false
namespace Go.Proofs.YtapglfcaghlpfaaGreat
open Go Go.E Go.Maps
set_option maxRecDepth 100000
set_option maxHeartbeats 16000000
structure VS (r : Rul) (s : Ska) : Prop where
  len : s.calls.length ≤ 16
  call : ∀ c ∈ s.calls, VC r c
  dist : (s.calls.map Cal.place).Nodup
  most : 0 ≤ r.most ∧ r.most ≤ 1000
def odN (s : Ska) (k : Nat) : List Od := (List.range k).map fun (i : Nat) => ⟨s.calls.getD i default, (i : Int)⟩
theorem odN_succ {s : Ska} {k : Nat} : odN s (k + 1) = odN s k ++ [⟨s.calls.getD k default, (k : Int)⟩] := by unfold odN; simp [List.range_succ]
theorem odN_len {s : Ska} {k : Nat} : (odN s k).length = k := by simp [odN]
theorem odN_call {s : Ska} : (odN s s.calls.length).map Od.call = s.calls := by
  unfold odN
  apply List.ext_getElem (by simp)
  intro i h1 h2
  simp [List.getD, h2]
theorem odN_dst {s : Ska} (h : (s.calls.map Cal.place).Nodup) : Dst ky (odN s s.calls.length) := by
  unfold Dst
  have : (odN s s.calls.length).map ky = ((odN s s.calls.length).map Od.call).map Cal.place := by rw [List.map_map]; rfl
  rw [this, odN_call]; exact h
def cntL (l : List Od) (k : Nat) (e : Int) : Int := (l.take k).countP fun x => decide (x.call.elem = e)
theorem cntL_succ {l : List Od} {k : Nat} (h : k < l.length) (e : Int) : cntL l (k + 1) e = cntL l k e + if (l.getD k default).call.elem = e then 1 else 0 := by
  unfold cntL
  rw [List.take_succ_eq_append_getElem h, List.countP_append, getD_el h]
  by_cases c : l[k].call.elem = e <;> simp [c]
theorem cntL_b (l : List Od) (k : Nat) (e : Int) : 0 ≤ cntL l k e ∧ cntL l k e ≤ k := by
  unfold cntL
  have h1 := List.countP_le_length (p := fun x : Od => decide (x.call.elem = e)) (l := l.take k)
  rw [List.length_take] at h1
  omega
theorem cntE_count (l : List Cal) (c : Cal) : ∀ k, k ≤ l.length → cntE l c k = ((l.take k).countP fun x => decide (x.elem = c.elem ∧ x.place < c.place) : Nat)
  | 0, _ => rfl
  | k + 1, h => by
    unfold cntE
    rw [cntE_count l c k (by omega), List.take_succ_eq_append_getElem (by omega), List.countP_append, at_lt (by omega)]
    by_cases q : l[k].elem = c.elem ∧ l[k].place < c.place <;> simp [q]
theorem cnt_eq {s : Ska} {l : List Od} (hd : (s.calls.map Cal.place).Nodup) (h : SrtP (odN s s.calls.length) l) {p : Nat} (hp : p < l.length) : cntE s.calls (l.getD p default).call s.calls.length = cntL l p (l.getD p default).call.elem := by
  rw [cntE_count _ _ _ (Nat.le_refl _), List.take_length]
  unfold cntL
  have hD : Dst ky l := (odN_dst hd).perm h.1
  generalize hc : (l.getD p default).call = c
  have hkc : ky (l.getD p default) = c.place := by unfold ky; rw [hc]
  have e1 : s.calls.countP (fun x => decide (x.elem = c.elem ∧ x.place < c.place)) = l.countP (fun x => decide (x.call.elem = c.elem ∧ x.call.place < c.place)) := by
    rw [h.1.countP_eq]
    conv => lhs; rw [← odN_call (s := s)]
    rw [List.countP_map]; rfl
  rw [e1]
  conv => lhs; rw [← List.take_append_drop p l, List.countP_append]
  have hpw := List.pairwise_iff_getElem.1 h.2
  have e2 : (l.drop p).countP (fun x => decide (x.call.elem = c.elem ∧ x.call.place < c.place)) = 0 := by
    rw [List.countP_eq_zero]
    intro x hx
    obtain ⟨i, hi, rfl⟩ := List.getElem_of_mem hx
    rw [List.length_drop] at hi
    rw [List.getElem_drop]
    have hle : c.place ≤ (l[p + i]'(by omega)).call.place := by
      rw [← hkc, getD_el hp]
      by_cases q : i = 0
      · subst q; exact Int.le_refl _
      · exact hpw p (p + i) hp (by omega) (by omega)
    simp; intro _; omega
  rw [e2, Nat.add_zero]
  congr 1
  apply List.countP_congr
  intro x hx
  obtain ⟨i, hi, rfl⟩ := List.getElem_of_mem hx
  rw [List.length_take] at hi
  have hlt : (l.take p)[i].call.place < c.place := by
    have h1 := hD.ne (p := i) (q := p) (by omega) hp
    have h2 := hpw i p (by omega) hp (by omega)
    rw [← hkc, List.getElem_take]
    rw [getD_el hp, getD_el (by omega)] at h1
    rw [getD_el hp]
    unfold ky at *; omega
  rw [List.getElem_take] at hlt
  simp [hlt]
theorem valR_eq {r : Rul} {s : Ska} {i : Nat} : valR r s i = if countsB r s i = true then valC r (s.calls.getD i default) else 0 := by unfold valR valC basC; rfl
def outOk (r : Rul) (s : Ska) (l : List Od) (k : Nat) (O : List Int) : Prop := O.length = s.calls.length ∧ ∀ p, p < l.length → O.getD (l.getD p default).index.toNat default = if p < k then valR r s (l.getD p default).index.toNat else 0
theorem od_at {s : Ska} {l : List Od} (h : l.Perm (odN s s.calls.length)) {p : Nat} (hp : p < l.length) : ∃ i : Nat, i < s.calls.length ∧ l.getD p default = ⟨s.calls.getD i default, (i : Int)⟩ := by
  have : l.getD p default ∈ odN s s.calls.length := h.mem_iff.1 (by rw [getD_el hp]; exact List.getElem_mem _)
  obtain ⟨i, hi, e⟩ := List.mem_map.1 this
  exact ⟨i, List.mem_range.1 hi, e.symm⟩
theorem od_inj' {s : Ska} {l : List Od} (hd : (s.calls.map Cal.place).Nodup) (h : l.Perm (odN s s.calls.length)) {p q : Nat} (hp : p < l.length) (hq : q < l.length) (he : (l.getD p default).index.toNat = (l.getD q default).index.toNat) : p = q := by
  obtain ⟨i, hi, e1⟩ := od_at h hp
  obtain ⟨j, hj, e2⟩ := od_at h hq
  rw [e1, e2] at he
  have he : i = j := by simpa using he
  subst he
  have hD : Dst ky l := (odN_dst hd).perm h
  rcases Nat.lt_trichotomy p q with c | c | c
  · exact absurd (by rw [e1, e2]) (hD.ne c hq)
  · exact c
  · exact absurd (by rw [e1, e2]) (hD.ne c hp)
theorem out_end {r : Rul} {s : Ska} {l : List Od} (h : l.Perm (odN s s.calls.length)) {O : List Int} (ho : outOk r s l l.length O) : O = valsR r s s.calls.length := by
  apply List.ext_getElem (by rw [ho.1, valsR_len])
  intro j h1 h2
  have hj : j < s.calls.length := by rw [← ho.1]; exact h1
  have hm : (⟨s.calls.getD j default, (j : Int)⟩ : Od) ∈ l := h.mem_iff.2 (List.mem_map.2 ⟨j, List.mem_range.2 hj, rfl⟩)
  obtain ⟨p, hp, e⟩ := List.getElem_of_mem hm
  have := ho.2 p hp
  rw [getD_el hp, e, if_pos hp] at this
  simp only [Int.toNat_natCast] at this
  rw [at_lt h1] at this
  rw [this]; simp [valsR]
theorem out_step {r : Rul} {s : Ska} {l : List Od} (hd : (s.calls.map Cal.place).Nodup) (h : l.Perm (odN s s.calls.length)) {k : Nat} (hk : k < l.length) {O : List Int} (ho : outOk r s l k O) (v : Int) (hv : v = valR r s (l.getD k default).index.toNat) : outOk r s l (k + 1) (O.set (l.getD k default).index.toNat v) := by
  obtain ⟨i, hi, e1⟩ := od_at h hk
  refine ⟨by rw [List.length_set]; exact ho.1, fun p hp => ?_⟩
  have hil : (l.getD k default).index.toNat < O.length := by rw [ho.1, e1]; simpa using hi
  rw [getD_set hil]
  by_cases c : p = k
  · subst c; rw [if_pos rfl, if_pos (by omega)]; exact hv
  · rw [if_neg (fun he => c (od_inj' hd h hp hk he)), ho.2 p hp]
    by_cases c2 : p < k
    · rw [if_pos c2, if_pos (by omega)]
    · rw [if_neg c2, if_neg (by omega)]
theorem out_skip {r : Rul} {s : Ska} {l : List Od} {k : Nat} (hk : k < l.length) {O : List Int} (ho : outOk r s l k O) (hv : valR r s (l.getD k default).index.toNat = 0) : outOk r s l (k + 1) O := by
  refine ⟨ho.1, fun p hp => ?_⟩
  rw [ho.2 p hp]
  by_cases c : p = k
  · subst c; rw [if_neg (by omega), if_pos (by omega), hv]
  · by_cases c2 : p < k
    · rw [if_pos c2, if_pos (by omega)]
    · rw [if_neg c2, if_neg (by omega)]
def MapOk (l : List Od) (k : Nat) (M : List (Int × Int)) : Prop := (M.map Prod.fst).Nodup ∧ (∀ e v, (e, v) ∈ M → v = cntL l k e ∧ i64 e) ∧ ∀ e, (∀ v, (e, v) ∉ M) → cntL l k e = 0
theorem row_set {O : List Int} {i : Nat} {v : Int} (h : i < O.length) : (O.map ic).set i (((O.map ic).getD i []).set 0 (.i v)) = (O.set i v).map ic := by
  rw [row_at h, List.map_set]; rfl
theorem upr_ents {α β : Type} {fk : α → D} {fv : β → D} {M : List (α × β)} {g sz i off : Nat} {vs : List D} : (ents fk fv M).map (AV.upr g sz i off vs) = ents fk fv M := by simp [ents, List.map_map, Function.comp_def, AV.upr, AV.menc]
def O50 : Nat → Sch := fun id => if id = 15 then .one 0 (.one 1 (.one 3 (.one 4 (.one 5 (.alt (.one 2 (.one 6 (.one 7 (.one 8 (.done))))) (.one 6 (.one 2 (.one 7 (.one 8 (.done)))))))))) else .done
theorem O50_15 : O50 15 = .one 0 (.one 1 (.one 3 (.one 4 (.one 5 (.alt (.one 2 (.one 6 (.one 7 (.one 8 (.done))))) (.one 6 (.one 2 (.one 7 (.one 8 (.done)))))))))) := rfl
theorem ho50 : Tryz.f50.body.map (okO O50) = some true := by kernel_rfl
def Cf50 : Nat → List AV → (AV → List AV → Sto → Prop) → Kt → List AV → Sto → Prop := fun f args K Q e s => match f with
  | 82 => ent82 args K e s
  | 84 => ent84 args K e s
  | _ => False
def Ct50 : CT := { f := Cf50, y := noYld, z := fun d => false }
theorem ctz50 {d : Nat} : CT.z Ct50 d = (false) := id rfl
theorem Ct50_ok : Ct50.ok Tryz.prog := ok_of_f (fun f args K Q e s h => by
  have h : Cf50 f args K Q e s := h
  unfold Cf50 at h; split at h
  · exact ent82_ok h
  · exact ent84_ok h
  · exact h.elim) (fun _ _ _ _ _ _ _ _ _ h => h)
theorem x50_82 {l : List Od} {gg : Nat} {KK : AV → List AV → Sto → Prop} {QQ : Kt} {ii : At KK} {jj : At QQ} {ee : List AV} {ss : Sto} : xC Ct50 82 [.own gg 111 7 (l.map oc), .d (cl67)] KK QQ ii jj ee ss = ((l.length ≤ 16 ∧ Dst ky l) ∧ upOk gg 111 7 (l.map oc) ee ss ∧ ∀ (l' : List Od), (SrtP l l') → KK (.d (.tup [])) (ee.map (AV.ups gg (l'.map oc))) (ss.ups gg (l'.map oc))) := eq82
theorem x50_84 {r : Rul} {c : Cal} {KK : AV → List AV → Sto → Prop} {QQ : Kt} {ii : At KK} {jj : At QQ} {ee : List AV} {ss : Sto} : xC Ct50 84 [.d (r.d), .d (.agg c.c)] KK QQ ii jj ee ss = ((VC r c) ∧ KK (.d (.i (valC r c))) ee ss) := eq84
theorem c50 : callable Tryz.prog 50 = true := by kernel_rfl
theorem pf50 (r : Rul) (s : Ska) (h : VS r s) : PF Tryz.prog 50 [r.d, .agg s.c] (fun zz => zz = .ret (.sl 1 ((valsR r s s.calls.length).map ic))) := by
  obtain ⟨h16, hcall, hdist, hmost⟩ := h
  have hod0 : odN s 0 = [] := rfl
  have hod1 : ∀ k, odN s (k + 1) = odN s k ++ [⟨s.calls.getD k default, (k : Int)⟩] := fun k => odN_succ
  have hodl : ∀ k, (odN s k).length = k := fun k => odN_len
  refine PF_nil (PF_start (O := O50) Ct50_ok hmix ho50 Tryz.func50 c50 rfl Tryz.ntmps50 Tryz.results50 ?_)
  simp (maxSteps := 4000000) +contextual (disch := first | omega | exact qdb_ok (by kernel_rfl) | exact okb_ok (by kernel_rfl)) only [bw1,bw2,bw4,bw5,bw6,bc2,bc3,bc4,bc5,bc6,addF,AV.isPtr,AV.isSlice,AV.rows,AV.cells?,↓reduceIte,reduceCtorEq,Nat.reduceAdd,Nat.reduceSub,List.reduceReplicate,Nat.reduceLeDiff,Nat.reduceLT,Nat.reduceBEq,Nat.reduceEqDiff,tfb]
  refine seed (m1 := mk _) (m2 := mk _) 5 26 111 7 (by decide) rfl rfl (by simp [Sto.mens, AV.mens, AV.men]) rfl ?_
  refine loop_u (O := O50) (tb := 0) Ct50_ok hmix (by kernel_rfl) (σ := Nat) (fun k => [(5, .own 26 111 7 ((odN s k).map oc)), (6, .any), (7, .any), (15, .i k)]) (fun k => []) (fun k => k ≤ s.calls.length) (fun k => s.calls.length - k) (fun k => k + 1) 0 (by omega) ?_ ?_
  · simp (maxSteps := 4000000) +contextual (disch := first | omega | exact qdb_ok (by kernel_rfl) | exact okb_ok (by kernel_rfl)) only [bw4,bw5,bw6,bc0,bc3,bc4,bc5,bc6,AV.isNilS,AV.isNoRows,wk,↓reduceIte,reduceCtorEq,Nat.reduceEqDiff,eq_self, hod0]
  intro k hk
  by_cases hlt : k < s.calls.length
  · have hlt' : (k : Int) < s.calls.length := by omega
    have hod1k := hod1 k
    have hodlk := hodl k
    simp (maxSteps := 4000000) +contextual (disch := first | omega | exact qdb_ok (by kernel_rfl) | exact okb_ok (by kernel_rfl)) only [bw1,bw2,bw4,bw5,bw6,bw7,bc0,bc1,bc2,bc3,bc4,bc5,bc6,AV.isNilS,AV.isNoRows,wk,binIs,idxV,AV.isSl,AV.rows,ps,pv,AV.dl,AV.cells?,AV.menc,AV.one,D.one,Value.oneCell',tagOf,AV.isApp,AV.dcells,D.cells?,↓reduceIte,reduceCtorEq,Nat.reduceAdd,Nat.reduceMul,List.reduceReplicate,Nat.reduceLeDiff,Nat.reduceLT,Nat.reduceBEq,Nat.reduceEqDiff,tfb,ctz50,eq_self, hlt', hod1k, hodlk]
    refine ⟨by omega, by omega, by omega, by omega, ?_⟩
    rw [List.map_append]; rfl
  have hlt' : ¬ (k : Int) < s.calls.length := by omega
  obtain rfl : k = s.calls.length := by omega
  have hdo := odN_dst hdist
  have hol := hodl s.calls.length
  simp (maxSteps := 4000000) +contextual (disch := first | omega | exact qdb_ok (by kernel_rfl) | exact okb_ok (by kernel_rfl)) only [bw1,bw2,bw4,bw5,bw6,bw7,bc0,bc1,bc2,bc3,bc4,bc5,bc6,bb0,binIs,addF,AV.isPtr,AV.isSlice,AV.rows,D.one,Value.oneCell',↓reduceIte,reduceCtorEq,Nat.reduceAdd,Nat.reduceLeDiff,Nat.reduceLT,Nat.reduceBEq,Nat.reduceEqDiff,tfb,upOk,bu0,x50_82,eq_self, hlt', hol]
  refine ⟨⟨h16, hdo⟩, fun l hso => ⟨by omega, by omega, by omega, ?_⟩⟩
  have hll : l.length = s.calls.length := by rw [hso.1.length_eq, odN_len]
  have hrep : List.replicate s.calls.length [D.v (Value.int .i64 0)] = (List.replicate s.calls.length (0 : Int)).map ic := by rw [List.map_replicate]
  refine loop_xu (O := O50) (tb := 0) Ct50_ok hmix (by kernel_rfl) (σ := Nat × List (Int × Int) × List Int) (fun x => [(9, .own 34 3 1 (x.2.2.map ic)), (33, .any), (11, .any), (36, .i x.1)]) (fun x => [(2000000029, ents fki fki x.2.1)]) (fun x => x.1 ≤ l.length ∧ MapOk l x.1 x.2.1 ∧ outOk r s l x.1 x.2.2) (fun x => l.length - x.1) (0, [], List.replicate s.calls.length (0 : Int)) ⟨by omega, ⟨by simp, by simp, fun e _ => rfl⟩, by simp, fun p hp => ?_⟩ ?_ ?_
  · rw [if_neg (by omega)]
    obtain ⟨i, hi, e1⟩ := od_at hso.1 hp
    rw [e1]; simp [List.getD, hi]
  · simp (maxSteps := 4000000) +contextual (disch := first | omega | exact qdb_ok (by kernel_rfl) | exact okb_ok (by kernel_rfl)) only [bw4,bw5,bw6,bc0,bc3,bc5,bc6,AV.isNilS,AV.isNoRows,wk,↓reduceIte,reduceCtorEq,Nat.reduceEqDiff,eq_self, hrep]
    exact trivial
  rintro ⟨k, M, O⟩ ⟨hk, ⟨hM1, hM2, hM3⟩, hO⟩
  dsimp only at hk hM1 hM2 hM3 hO ⊢
  by_cases hlt : k < l.length
  case neg =>
    have hlt' : ¬ (k : Int) < l.length := by omega
    obtain rfl : k = l.length := by omega
    have hend := out_end hso.1 hO
    simp (maxSteps := 4000000) +contextual (disch := first | omega | exact qdb_ok (by kernel_rfl) | exact okb_ok (by kernel_rfl)) only [bw1,bw2,bw3,bw5,bw6,bw7,bc0,bc1,bc2,bc3,bc4,bc5,bc6,binIs,AV.outs,AV.outF,packD,↓reduceIte,reduceCtorEq,Nat.reduceEqDiff,tfb,eq_self, Int.lt_irrefl, hend, hll]
  have hlt' : (k : Int) < l.length := by omega
  obtain ⟨ix, hixl, hod⟩ := od_at hso.1 hlt
  have hix : (l.getD k default).index = (ix : Int) := by rw [hod]
  have hxc : (l.getD k default).call = s.calls.getD ix default := by rw [hod]
  have hce0 := cnt_eq hdist hso hlt
  obtain ⟨c, hcc⟩ : ∃ c, s.calls.getD ix default = c := ⟨_, rfl⟩
  have hxc' : (l.getD k default).call = c := by rw [hxc, hcc]
  have heE : (l.getD k default).call.elem = c.elem := by rw [hxc']
  have hce : cntE s.calls (s.calls.getD ix default) s.calls.length = cntL l k c.elem := by rw [hcc, ← hxc', hce0, heE]
  have hvc : VC r c := hcall c (by rw [← hcc, at_lt hixl]; exact List.getElem_mem _)
  have hie : i64 c.elem := by have := hvc.elem; have := hvc.blen; unfold i64; omega
  have hko := keyOf3 hie
  have hmo : mapOk Tryz.prog 3 (ents fki fki M) := ents_ok' (fkv := fun n => Value.int .i64 n) fki_val fun p hp => keyOf3 (hM2 p.1 p.2 hp).2
  have r1 : (l.map oc).getD k [] = oc ⟨c, (ix : Int)⟩ := by rw [row_at hlt, hod, hcc]
  clear hce0 hxc
  simp (maxSteps := 4000000) +contextual (disch := first | omega | exact qdb_ok (by kernel_rfl) | exact okb_ok (by kernel_rfl)) only [bw1,bw2,bw4,bw5,bw6,bw7,bc0,bc1,bc2,bc3,bc4,bc5,bc6,binIs,addF,AV.isPtr,idxV,AV.isSl,AV.rows,ps,pv,AV.cells?,AV.menc,AV.one,D.one,Value.oneCell',D.val?,↓reduceIte,reduceCtorEq,Nat.reduceAdd,Nat.reduceLeDiff,Nat.reduceLT,Nat.reduceBEq,Nat.reduceEqDiff,tfb,eq_self, hlt', r1, key3', kill_ents, mencs_ents, hko, hmo]
  refine ⟨by omega, ?_⟩
  refine xLk_ents (fkv := fun n => Value.int .i64 n) fki_val fki_inj (fun v hv => ?_) (fun hno => ?_)
  · have hc : v = cntL l k c.elem := (hM2 c.elem v hv).1
    have hcb := cntL_b l k c.elem
    have hw1 : (v : Int) + 1 ≤ 1000 := by omega
    simp (maxSteps := 4000000) +contextual (disch := first | omega | exact qdb_ok (by kernel_rfl) | exact okb_ok (by kernel_rfl)) only [bw1,bw2,bw5,bw6,bw7,bc1,bc3,bc4,bc5,bc6,binIs,AV.menc,D.val?,↓reduceIte,reduceCtorEq,Nat.reduceLT,Nat.reduceBEq,Nat.reduceEqDiff,tfb,eq_self, key3', mencs_ents, hko, hmo]
    refine xUp_put (fkv := fun n => Value.int .i64 n) (k := c.elem) (v := v + 1) fki_val fki_inj rfl rfl hM1 (fun M' hn' hm' => ?_)
    have hM' : MapOk l (k + 1) M' := by
      refine ⟨hn', fun e' v' hv' => ?_, fun e' hno => ?_⟩
      · rw [cntL_succ hlt, heE]
        rcases (hm' e' v').1 hv' with ⟨rfl, rfl⟩ | ⟨h1, h2⟩
        · rw [if_pos rfl, hc]; exact ⟨rfl, hie⟩
        · rw [if_neg (Ne.symm h1)]
          have := hM2 e' v' h2
          exact ⟨by omega, this.2⟩
      · rw [cntL_succ hlt, heE]
        by_cases h1 : e' = c.elem
        · exact absurd ((hm' e' (v + 1)).2 (.inl ⟨h1, rfl⟩)) (hno _)
        · rw [if_neg (Ne.symm h1), hM3 e' (fun v hv => hno v ((hm' e' v).2 (.inr ⟨h1, hv⟩)))]; rfl
    have hmo' : mapOk Tryz.prog 3 (ents fki fki M') := ents_ok' (fkv := fun n => Value.int .i64 n) fki_val fun p hp => keyOf3 (hM'.2.1 p.1 p.2 hp).2
    simp (maxSteps := 4000000) +contextual (disch := first | omega | exact qdb_ok (by kernel_rfl) | exact okb_ok (by kernel_rfl)) only [bw1,bw2,bw5,bw6,bc2,bc3,bc4,bc5,bc6,addF,AV.isPtr,D.val?,↓reduceIte,reduceCtorEq,Nat.reduceAdd,Nat.reduceLeDiff,Nat.reduceLT,Nat.reduceEqDiff,tfb,eq_self, key3', hko, hmo']
    refine xLk_ents (fkv := fun n => Value.int .i64 n) fki_val fki_inj (fun v2 hv2 => ?_) (fun hno => absurd ((hm' c.elem (v + 1)).2 (.inl ⟨rfl, rfl⟩)) (hno _))
    have hv2e : v2 = v + 1 := by
      rcases (hm' c.elem v2).1 hv2 with h1 | h1
      · exact h1.2
      · exact absurd rfl h1.1
    subst hv2e
    by_cases hq : (v : Int) + 1 ≤ r.most
    · have hcB : countsB r s ix = true := by unfold countsB; rw [hce]; exact decide_eq_true (by omega)
      have hst := out_step hdist hso.1 hlt hO (valC r c) (by rw [hix, Int.toNat_natCast, valR_eq, hcB, if_pos rfl, hcc])
      rw [hix, Int.toNat_natCast] at hst
      have hrs := row_set (O := O) (i := ix) (v := valC r c) (by rw [hO.1]; exact hixl)
      have hol2 : (ix : Int) < O.length := by rw [hO.1]; omega
      simp (maxSteps := 4000000) +contextual (disch := first | omega | exact qdb_ok (by kernel_rfl) | exact okb_ok (by kernel_rfl)) only [bw1,bw2,bw3,bw4,bw5,bw6,bw7,bc0,bc1,bc2,bc3,bc4,bc5,bc6,AV.isNilS,AV.isNoRows,wk,binIs,addF,AV.isPtr,idxV,AV.isSl,AV.rows,ps,pv,AV.dl,AV.upr,AV.menc,D.one,Value.oneCell',AV.dcells,D.cells?,↓reduceIte,reduceCtorEq,Nat.reduceAdd,Nat.reduceLeDiff,Nat.reduceEqDiff,tfb,O50_15,x50_84,eq_self, hq, hol2]
      refine ⟨hvc, by omega, (k + 1, M', O.set ix (valC r c)), ⟨⟨hlt, hM', hst⟩, by dsimp only; omega⟩, ⟨List.map_set.symm, rfl⟩, ?_⟩
      rw [upr_ents]
      exact wk_ents _
    · have hcB : countsB r s ix = false := by unfold countsB; rw [hce]; exact decide_eq_false (by omega)
      have hst := out_skip hlt hO (by rw [hix, Int.toNat_natCast, valR_eq, hcB]; rfl)
      simp (maxSteps := 4000000) +contextual (disch := first | omega | exact qdb_ok (by kernel_rfl) | exact okb_ok (by kernel_rfl)) only [bw1,bw2,bw5,bw6,bw7,bc0,bc1,bc2,bc3,bc4,bc5,bc6,AV.isNilS,AV.isNoRows,wk,binIs,addF,AV.isPtr,↓reduceIte,reduceCtorEq,Nat.reduceAdd,Nat.reduceLeDiff,Nat.reduceEqDiff,tfb,eq_self, hq]
      exact ⟨(k + 1, M', O), ⟨⟨hlt, hM', hst⟩, by dsimp only; omega⟩, ⟨rfl, rfl⟩, wk_ents _⟩
  · have hc : (0 : Int) = cntL l k c.elem := (hM3 c.elem hno).symm
    have hcb := cntL_b l k c.elem
    have hw1 : (0 : Int) + 1 ≤ 1000 := by omega
    simp (maxSteps := 4000000) +contextual (disch := first | omega | exact qdb_ok (by kernel_rfl) | exact okb_ok (by kernel_rfl)) only [bw1,bw2,bw5,bw6,bw7,bc1,bc3,bc4,bc5,bc6,binIs,AV.menc,D.val?,↓reduceIte,reduceCtorEq,Nat.reduceLT,Nat.reduceBEq,Nat.reduceEqDiff,tfb,eq_self, key3', mencs_ents, hko, hmo]
    refine xUp_put (fkv := fun n => Value.int .i64 n) (k := c.elem) (v := 0 + 1) fki_val fki_inj rfl rfl hM1 (fun M' hn' hm' => ?_)
    have hM' : MapOk l (k + 1) M' := by
      refine ⟨hn', fun e' v' hv' => ?_, fun e' hno => ?_⟩
      · rw [cntL_succ hlt, heE]
        rcases (hm' e' v').1 hv' with ⟨rfl, rfl⟩ | ⟨h1, h2⟩
        · rw [if_pos rfl, hc]; exact ⟨rfl, hie⟩
        · rw [if_neg (Ne.symm h1)]
          have := hM2 e' v' h2
          exact ⟨by omega, this.2⟩
      · rw [cntL_succ hlt, heE]
        by_cases h1 : e' = c.elem
        · exact absurd ((hm' e' (0 + 1)).2 (.inl ⟨h1, rfl⟩)) (hno _)
        · rw [if_neg (Ne.symm h1), hM3 e' (fun v hv => hno v ((hm' e' v).2 (.inr ⟨h1, hv⟩)))]; rfl
    have hmo' : mapOk Tryz.prog 3 (ents fki fki M') := ents_ok' (fkv := fun n => Value.int .i64 n) fki_val fun p hp => keyOf3 (hM'.2.1 p.1 p.2 hp).2
    simp (maxSteps := 4000000) +contextual (disch := first | omega | exact qdb_ok (by kernel_rfl) | exact okb_ok (by kernel_rfl)) only [bw1,bw2,bw5,bw6,bc2,bc3,bc4,bc5,bc6,addF,AV.isPtr,D.val?,↓reduceIte,reduceCtorEq,Nat.reduceAdd,Nat.reduceLeDiff,Nat.reduceLT,Nat.reduceEqDiff,tfb,eq_self, key3', hko, hmo']
    refine xLk_ents (fkv := fun n => Value.int .i64 n) fki_val fki_inj (fun v2 hv2 => ?_) (fun hno => absurd ((hm' c.elem (0 + 1)).2 (.inl ⟨rfl, rfl⟩)) (hno _))
    have hv2e : v2 = 0 + 1 := by
      rcases (hm' c.elem v2).1 hv2 with h1 | h1
      · exact h1.2
      · exact absurd rfl h1.1
    subst hv2e
    by_cases hq : (0 : Int) + 1 ≤ r.most
    · have hcB : countsB r s ix = true := by unfold countsB; rw [hce]; exact decide_eq_true (by omega)
      have hst := out_step hdist hso.1 hlt hO (valC r c) (by rw [hix, Int.toNat_natCast, valR_eq, hcB, if_pos rfl, hcc])
      rw [hix, Int.toNat_natCast] at hst
      have hrs := row_set (O := O) (i := ix) (v := valC r c) (by rw [hO.1]; exact hixl)
      have hol2 : (ix : Int) < O.length := by rw [hO.1]; omega
      simp (maxSteps := 4000000) +contextual (disch := first | omega | exact qdb_ok (by kernel_rfl) | exact okb_ok (by kernel_rfl)) only [bw1,bw2,bw3,bw4,bw5,bw6,bw7,bc0,bc1,bc2,bc3,bc4,bc5,bc6,AV.isNilS,AV.isNoRows,wk,binIs,addF,AV.isPtr,idxV,AV.isSl,AV.rows,ps,pv,AV.dl,AV.upr,AV.menc,D.one,Value.oneCell',AV.dcells,D.cells?,↓reduceIte,reduceCtorEq,Nat.reduceAdd,Nat.reduceLeDiff,Nat.reduceEqDiff,tfb,O50_15,x50_84,eq_self, hq, hol2]
      refine ⟨hvc, by omega, (k + 1, M', O.set ix (valC r c)), ⟨⟨hlt, hM', hst⟩, by dsimp only; omega⟩, ⟨List.map_set.symm, rfl⟩, ?_⟩
      rw [upr_ents]
      exact wk_ents _
    · have hcB : countsB r s ix = false := by unfold countsB; rw [hce]; exact decide_eq_false (by omega)
      have hst := out_skip hlt hO (by rw [hix, Int.toNat_natCast, valR_eq, hcB]; rfl)
      simp (maxSteps := 4000000) +contextual (disch := first | omega | exact qdb_ok (by kernel_rfl) | exact okb_ok (by kernel_rfl)) only [bw1,bw2,bw5,bw6,bw7,bc0,bc1,bc2,bc3,bc4,bc5,bc6,AV.isNilS,AV.isNoRows,wk,binIs,addF,AV.isPtr,↓reduceIte,reduceCtorEq,Nat.reduceAdd,Nat.reduceLeDiff,Nat.reduceEqDiff,tfb,eq_self, hq]
      exact ⟨(k + 1, M', O), ⟨⟨hlt, hM', hst⟩, by dsimp only; omega⟩, ⟨rfl, rfl⟩, wk_ents _⟩
def ent50 (args : List AV) (K : AV → List AV → Sto → Prop) (e : List AV) (s : Sto) : Prop := ent (α := (Rul) × (Ska)) (fun aa => [aa.1.d, .agg aa.2.c]) (fun aa => VS aa.1 aa.2) (fun aa => .sl 1 ((valsR aa.1 aa.2 aa.2.calls.length).map ic)) args K e s
theorem ent50_ok {args : List AV} {K : AV → List AV → Sto → Prop} {Q : Kt} {e : List AV} {s : Sto} (h : ent50 args K e s) : pcall Tryz.prog 50 args K Q e s := ent_ok (fun aa h => pf50 aa.1 aa.2 h) h
theorem eq50 {r : Rul} {s : Ska} {KK : AV → List AV → Sto → Prop} {ee : List AV} {ss : Sto} : ent50 [.d (r.d), .d (.agg s.c)] KK ee ss = ((VS r s) ∧ KK (.d (.sl 1 ((valsR r s s.calls.length).map ic))) ee ss) := by
  unfold ent50; rw [ent_iff (r, s) (by intro b h; simpa [Prod.ext_iff, and_assoc, Int.ofNat_inj, ints_inj, cals_inj, pcs_inj, skas_inj, scos_inj, ska_inj, rul_inj, sco_inj, cal_inj, ods_inj, od_inj] using h) rfl]; simp
end Go.Proofs.YtapglfcaghlpfaaGreat
