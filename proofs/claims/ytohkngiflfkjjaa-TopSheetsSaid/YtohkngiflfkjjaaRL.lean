/- A part of the proof that the last text ends: what functions of the program do, told by plain data. -/
import Derived.Test.YtohkngiflfkjjaaRK
import Derived.DeepKeys4
import Derived.WideKeyPair
set_option linter.unusedVariables false
set_option linter.unusedSimpArgs false
namespace Go.Proofs.Ytohkngiflfkjjaa
open Go Go.E Go.Maps
set_option maxRecDepth 100000
/-! ### Keys, and where the book lies -/
theorem laid : laidOutB Try.prog = true := by kernel_rfl
theorem un3 : Try.prog.underlying 3 = some (.int .i64) := by kernel_rfl
theorem key3 : Keyed Try.prog 3 := int_keyed un3
theorem key3' : Keyed Try.prog 3 = True := propext ⟨fun _ => trivial, fun _ => key3⟩
theorem row99 : (99 : TypeId) < Try.prog.types.size := of_decide_eq_true (by kernel_rfl)
theorem wide99 : (match Try.prog.underlying 99 with | some (.array _ _) | some (.struct _) => true | _ => false) = true := by kernel_rfl
theorem key99 : Keyed Try.prog 99 := Keyed.of_law (deep_law_laid laid (m := 2) (by omega) row99 (by kernel_rfl) wide99)
theorem key99' : Keyed Try.prog 99 = True := propext ⟨fun _ => trivial, fun _ => key99⟩
theorem i64_wf {a : Int} (ha : i64 a) : (Lit.int .i64 a).wf = true := by
  unfold i64 at ha
  simp [Lit.wf, IntKind.min, IntKind.max, IntKind.signed, IntKind.bits]; omega
theorem keyOf3 {a : Int} (ha : i64 a) : (keyOf Try.prog 3 (.int .i64 a)).isSome = true := by
  rw [keyOf_int_mk un3 (i64_wf ha)]; rfl
noncomputable def fs99 : Array Field := match Try.prog.underlying 99 with | some (.struct fs) => fs | _ => #[]
theorem un99 : Try.prog.underlying 99 = some (.struct fs99) := by kernel_rfl
theorem fs99_l : (fs99.toList.map fun f => (f.name == "_", f.type, f.offset)) = [(false, 3, 0), (false, 3, 1)] := by kernel_rfl
theorem cells99 : Try.prog.cellsOf 99 = 2 := by kernel_rfl
theorem cells3 : Try.prog.cellsOf 3 = 1 := by kernel_rfl
theorem kt99 : Try.prog.keyType 99 = true := by kernel_rfl
theorem size_pos : ∃ m, Try.prog.types.size = m + 1 := ⟨Try.prog.types.size - 1, by have h : 99 < Try.prog.types.size := row99; omega⟩
theorem keyOf99 {a b : Int} (ha : i64 a) (hb : i64 b) : (keyOf Try.prog 99 (.agg #[.int .i64 a, .int .i64 b])).isSome = true := by
  obtain ⟨m, hm⟩ := size_pos
  have wa := i64_wf ha
  have wb := i64_wf hb
  obtain ⟨f0, f1, hf, h0, h1⟩ : ∃ f0 f1, fs99.toList = [f0, f1] ∧ (f0.name == "_", f0.type, f0.offset) = (false, 3, 0) ∧ (f1.name == "_", f1.type, f1.offset) = (false, 3, 1) := by
    have h := fs99_l
    rcases hl : fs99.toList with _ | ⟨f0, _ | ⟨f1, _ | ⟨f2, r⟩⟩⟩ <;> rw [hl] at h
    · simp at h
    · simp at h
    · simp only [List.map_cons, List.map_nil, List.cons.injEq, and_true] at h
      exact ⟨f0, f1, rfl, h.1, h.2⟩
    · simp at h
  simp only [Prod.mk.injEq] at h0 h1
  unfold keyOf
  simp only [un99]
  rw [if_pos (by simp [kt99, Value.formed, un99, cells99]), hm]
  unfold Program.keyLits
  simp only [un99, Value.cells]
  rw [if_pos (by rw [cells99, ← Array.all_toList, hf]; simp [h0.1, h1.1, bne]), hf, List.mapM_cons, List.mapM_cons, List.mapM_nil]
  simp [Program.keyLits, un3, h0.2.1, h0.2.2, h1.2.1, h1.2.2, cells3, wa, wb]
theorem fki_val (n : Int) : (fki n).val? = some (.int .i64 n) := rfl
theorem fki_inj (x y : Int) (h : Value.int .i64 x = Value.int .i64 y) : x = y := by simpa using h
abbrev pV (q : Int × Int) : Value := .agg #[.int .i64 q.1, .int .i64 q.2]
theorem fkp_val (q : Int × Int) : (fkp q).val? = some (pV q) := rfl
theorem fkp_inj (x y : Int × Int) (h : pV x = pV y) : x = y := by
  simp only [pV, Value.agg.injEq, Array.mk.injEq, List.cons.injEq, Value.int.injEq, true_and, and_true] at h
  exact Prod.ext h.1 h.2
theorem mencs_ents {α β : Type} {fk : α → D} {fv : β → D} {M : List (α × β)} {g : Nat} : AV.mencs g (ents fk fv M) = false := by
  unfold ents; induction M with
  | nil => rfl
  | cons p M ih => simp [AV.mencs, AV.menc, ih]
theorem kill_ents {α β : Type} {fk : α → D} {fv : β → D} {M : List (α × β)} {g : Nat} : (ents fk fv M).map (AV.kill g) = ents fk fv M := by simp [ents, List.map_map, Function.comp_def, AV.kill, AV.men]
theorem stays_ents {α β : Type} {fk : α → D} {fv : β → D} {M : List (α × β)} {T : List Nat} : AV.onlys T (ents fk fv M) = true := by
  unfold ents; induction M with
  | nil => rfl
  | cons p M ih => simp [AV.onlys, AV.only, ih]
theorem onlys_bxs {α β : Type} {fk : α → D} {fc : β → List D} {M : List (α × β)} {T : List Nat} {gb : Nat} (h : T.contains gb = true) : AV.onlys T (bxs gb fk fc M) = true := by
  unfold bxs
  generalize 0 = j
  induction M generalizing j with
  | nil => rfl
  | cons p M ih => simp only [bxsF, AV.onlys, AV.only, h, ih, Bool.and_self, Bool.and_true]
section
variable {PM : PMem} {M : PSet} {gb : Nat}
theorem xLkB_at {i : Nat} {p : Int} {z : Mem} (h : PM[i]? = some (p, z)) (hu : ∀ (i' : Nat) (z' : Int × Mem), PM[i']? = some z' → z'.1 = p → i' = i) {R : Option Nat → Prop} {m : At R} : xLkB gb (bxs gb fki Mem.c PM) (.int .i64 p) R m = R (some i) := by
  apply propext
  constructor
  · intro hx
    exact hx.1 i (fki p) z.c (by rw [bxs_get, h]; rfl) rfl
  · intro hR
    refine xLkB_bxs (k := p) fki_val fki_inj (fun i' z' h1 h2 => ?_) (fun hn => absurd rfl (hn i (p, z) h))
    rw [hu i' z' h1 h2]; exact hR
theorem xLkB_no {p : Int} (hn : ∀ (i : Nat) (z : Int × Mem), PM[i]? = some z → z.1 ≠ p) {R : Option Nat → Prop} {m : At R} : xLkB gb (bxs gb fki Mem.c PM) (.int .i64 p) R m = R none := by
  apply propext
  constructor
  · intro hx
    refine hx.2 fun i kd cs hj hv => ?_
    rw [bxs_get] at hj
    cases hM : PM[i]? with
    | none => rw [hM] at hj; simp at hj
    | some z =>
      rw [hM] at hj
      simp only [Option.map_some, Option.some.injEq, AV.tup.injEq, List.cons.injEq, AV.d.injEq, D.agg.injEq, and_true] at hj
      rw [← hj.1] at hv
      exact hn i z hM (fki_inj _ _ (Option.some.inj hv))
  · intro hR
    exact xLkB_bxs (k := p) fki_val fki_inj (fun i z h1 h2 => absurd h2 (hn i z h1)) (fun _ => hR)
theorem xLk_yes {q : Int × Int} (h : q ∈ M.map (·.1)) (ht : ∀ q b, (q, b) ∈ M → b = true) {R : Option D → Prop} {m : At R} : xLk (ents fkp fvb M) (pV q) R m = R (some (.b true)) := by
  obtain ⟨⟨q', b⟩, hm, rfl⟩ := List.mem_map.1 h
  apply propext
  constructor
  · intro hx
    have := hx.1 (fvb b) ((hasK_ents fkp_val).2 ⟨_, hm, rfl, rfl⟩)
    rwa [ht _ _ hm] at this
  · intro hR
    refine xLk_ents fkp_val fkp_inj (k := q') (fun v hv => ?_) (fun hn => absurd hm (hn b))
    rw [ht _ _ hv]; exact hR
theorem xLk_none {q : Int × Int} (h : ¬ q ∈ M.map (·.1)) {R : Option D → Prop} {m : At R} : xLk (ents fkp fvb M) (pV q) R m = R none := by
  have hn : ∀ v, (q, v) ∉ M := fun v hv => h (List.mem_map.2 ⟨_, hv, rfl⟩)
  apply propext
  constructor
  · intro hx
    refine hx.2 fun v hv => ?_
    obtain ⟨p, hp, e1, _⟩ := (hasK_ents fkp_val).1 hv
    have := fkp_inj _ _ e1
    exact hn p.2 (by rw [← this]; exact hp)
  · intro hR
    exact xLk_ents fkp_val fkp_inj (k := q) (fun v hv => absurd hv (hn v)) (fun _ => hR)
theorem xUp_no {q : Int × Int} (h : ¬ q ∈ M.map (·.1)) {R : List AV → Prop} {m : At R} : xUp (ents fkp fvb M) (fkp q) (pV q) (.b true) R m = R (ents fkp fvb (M ++ [(q, true)])) := by
  have hn : ∀ v, (q, v) ∉ M := fun v hv => h (List.mem_map.2 ⟨_, hv, rfl⟩)
  have he : ents fkp fvb M ++ [AV.d (.agg [fkp q, .b true])] = ents fkp fvb (M ++ [(q, true)]) := by simp [ents]
  have hno : ∀ kd' v', hasK (ents fkp fvb M) (pV q) v' → ¬ kd' = true → False := fun _ v' hx _ => by
    obtain ⟨p, hp, e1, _⟩ := (hasK_ents fkp_val).1 hx
    have := fkp_inj _ _ e1
    exact hn p.2 (by rw [← this]; exact hp)
  apply propext
  constructor
  · intro hx
    rw [← he]
    refine hx.2 fun v hv => ?_
    exact hno false v hv (by decide)
  · intro hR
    refine ⟨fun j kd' v' hj hv => ?_, fun _ => by rw [he]; exact hR⟩
    exact (hno false v' ⟨kd', List.mem_of_getElem? hj, hv⟩ (by decide)).elim
theorem bm_ok (h : ∀ p ∈ PM, i64 p.1) : bmapOk Try.prog 3 gb (bxs gb fki Mem.c PM) = True := propext ⟨fun _ => trivial, fun _ => bxs_mapOk fki_val fun p hp => keyOf3 (h p hp)⟩
theorem em_ok (h : ∀ p ∈ M, i64 p.1.1 ∧ i64 p.1.2) : mapOk Try.prog 99 (ents fkp fvb M) = True := propext ⟨fun _ => trivial, fun _ => ents_ok' (fkv := pV) fkp_val fun p hp => keyOf99 (h p hp).1 (h p hp).2⟩
theorem bx_at {i : Nat} {z : Int × Mem} (h : PM[i]? = some z) : bxAt (bxs gb fki Mem.c PM) gb i = some (.i z.1, Mem.c z.2) := by
  unfold bxAt
  rw [bxs_get, h]
  simp
theorem bx_set {i : Nat} {p : Int} {z : Mem} (h : PM[i]? = some (p, z)) {a b c d e : Int} : (bxs gb fki Mem.c PM).set i (.tup [.d (.i p), .bx gb i 0, .d (.agg [.i a, .i b, .i c, .i d, .i e])]) = bxs gb fki Mem.c (PM.set i (p, ⟨a, b, c, d, e⟩)) := bxs_set (z := (p, z)) h (v := ⟨a, b, c, d, e⟩) rfl
end
abbrev BK : List AV := [.mp 3000100011, .mp 2000100012, .mp 2000100013]
abbrev TB : List Nat := [100016, 3000100011, 4000100011, 2000100012, 2000100013]
abbrev EB : List AV := [.ref 100016 0, .mp 3000100011, .mp 2000100012, .mp 2000100013]
abbrev stoB (PM : PMem) (M1 M2 : PSet) : Sto := [(100016, BK), (3000100011, bxs 4000100011 fki Mem.c PM), (2000100012, ents fkp fvb M1), (2000100013, ents fkp fvb M2)]
/-- The book is there. -/
structure IsB (s : Sto) (PM : PMem) (M1 M2 : PSet) : Prop where
  b : s.get 100016 = some BK
  g : s.get 3000100011 = some (bxs 4000100011 fki Mem.c PM)
  m1 : s.get 2000100012 = some (ents fkp fvb M1)
  m2 : s.get 2000100013 = some (ents fkp fvb M2)
theorem IsB.onlys {s : Sto} {PM : PMem} {M1 M2 : PSet} (h : IsB s PM M1 M2) (hn : s.get 4000100011 = none) : ∀ g c, TB.contains g = true → s.get g = some c → AV.onlys TB c = true := fun g c hg hc => by
  simp only [TB, List.contains_cons, List.contains_nil, Bool.or_false, Bool.or_eq_true, beq_iff_eq] at hg
  rcases hg with rfl | rfl | rfl | rfl | rfl
  · rw [h.b] at hc; cases hc; rfl
  · rw [h.g] at hc; cases hc; exact onlys_bxs rfl
  · rw [hn] at hc; cases hc
  · rw [h.m1] at hc; cases hc; exact stays_ents
  · rw [h.m2] at hc; cases hc; exact stays_ents
theorem frameB {args e : List AV} {s : Sto} {PM : PMem} {M1 M2 : PSet} (ha : AV.onlys TB args = true) (h : IsB s PM M1 M2) (h2 : AV.stays TB EB e) (h3 : othL TB EB s) : FrameOk TB EB args (stoB PM M1 M2) e s where
  tags := fun g hg => by
    simp only [TB, List.mem_cons, List.not_mem_nil, or_false] at hg
    omega
  sub := fun g c hg => by
    simp only [stoB, Sto.get] at hg
    repeat' split at hg
    · rename_i e; subst e; cases hg; exact ⟨rfl, h.b, rfl⟩
    · rename_i e; subst e; cases hg; exact ⟨rfl, h.g, onlys_bxs rfl⟩
    · rename_i e; subst e; cases hg; exact ⟨rfl, h.m1, stays_ents⟩
    · rename_i e; subst e; cases hg; exact ⟨rfl, h.m2, stays_ents⟩
    · cases hg
  args := ha
  eo := rfl
  av := fun x hx => by
    simp only [EB, List.mem_cons, List.not_mem_nil, or_false] at hx
    rcases hx with rfl | rfl | rfl | rfl
    · exact .inr (.inr ⟨rfl, by omega⟩)
    · exact .inr (.inr (show 2000000000 ≤ 3000100011 by omega))
    · exact .inr (.inr (show 2000000000 ≤ 2000100012 by omega))
    · exact .inr (.inr (show 2000000000 ≤ 2000100013 by omega))
  slots := h2
  others := fun g c hg hT => othL_get h3 hg hT
end Go.Proofs.Ytohkngiflfkjjaa
