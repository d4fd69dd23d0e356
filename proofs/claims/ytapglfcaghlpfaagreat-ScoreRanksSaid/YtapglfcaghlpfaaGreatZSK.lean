/- A part of the proof that the last text ends: what functions of the program do, told by plain data. -/
import Derived.Test.YtapglfcaghlpfaaGreatZSC
set_option linter.unusedVariables false
set_option linter.unusedSimpArgs false
namespace Go.Proofs.YtapglfcaghlpfaaGreat
open Go Go.E Go.Maps
set_option maxRecDepth 100000
theorem laid : laidOutB Tryz.prog = true := by kernel_rfl
theorem un3 : Tryz.prog.underlying 3 = some (.int .i64) := by kernel_rfl
theorem key3 : Keyed Tryz.prog 3 := int_keyed un3
theorem key3' : Keyed Tryz.prog 3 = True := propext ⟨fun _ => trivial, fun _ => key3⟩
def i64 (a : Int) : Prop := -9223372036854775808 ≤ a ∧ a ≤ 9223372036854775807
theorem keyOf3 {a : Int} (ha : i64 a) : (keyOf Tryz.prog 3 (.int .i64 a)).isSome = true := by
  unfold i64 at ha
  rw [keyOf_int_mk un3 (by simp [Lit.wf, IntKind.min, IntKind.max, IntKind.signed, IntKind.bits]; omega)]; rfl
theorem xUp_new {α β : Type} {fk : α → D} {fv : β → D} {fkv : α → Value} {M : List (α × β)} (hk : ∀ x, (fk x).val? = some (fkv x)) (hi : ∀ x y, fkv x = fkv y → x = y) {k : α} {v : β} {kd vd : D} (e1 : kd = fk k) (e2 : vd = fv v) {R : List AV → Prop} {m : At R} (h0 : ∀ v, (k, v) ∉ M) (h1 : R (ents fk fv (M ++ [(k, v)]))) : xUp (ents fk fv M) kd (fkv k) vd R m := by
  subst e1; subst e2
  refine ⟨fun j kd' v' hj hv => ?_, fun _ => ?_⟩
  · have hx : hasK (ents fk fv M) (fkv k) v' := ⟨kd', List.mem_of_getElem? hj, hv⟩
    obtain ⟨p, hp, e1, _⟩ := (hasK_ents hk).1 hx
    have := hi _ _ e1
    exact absurd hp (by rw [show p = (k, p.2) by rw [← this]]; exact h0 _)
  · simpa [ents] using h1
theorem kill_ents {α β : Type} {fk : α → D} {fv : β → D} {M : List (α × β)} {g : Nat} : (ents fk fv M).map (AV.kill g) = ents fk fv M := by simp [ents, List.map_map, Function.comp_def, AV.kill, AV.men]
theorem mencs_ents {α β : Type} {fk : α → D} {fv : β → D} {M : List (α × β)} {g : Nat} : AV.mencs g (ents fk fv M) = false := by
  unfold ents; induction M with
  | nil => rfl
  | cons p M ih => simp [AV.mencs, AV.menc, ih]
theorem mens_ents {α β : Type} {fk : α → D} {fv : β → D} {M : List (α × β)} {g : Nat} : AV.mens g (ents fk fv M) = false := by
  unfold ents; induction M with
  | nil => rfl
  | cons p M ih => simp [AV.mens, AV.men, ih]
theorem wk_ents : ∀ l : List AV, wk l l
  | [] => trivial
  | _ :: c => ⟨.inr (.inl rfl), wk_ents c⟩
abbrev fki (n : Int) : D := .i n
abbrev fvb (b : Bool) : D := .b b
theorem fki_val (n : Int) : (fki n).val? = some (.int .i64 n) := rfl
theorem fki_inj (x y : Int) (h : Value.int .i64 x = Value.int .i64 y) : x = y := by simpa using h
def seenN (l : List Cal) (i : Nat) : List (Int × Bool) := (l.take i).map fun x => (x.place, true)
theorem seenN_succ {l : List Cal} {i : Nat} (h : i < l.length) : seenN l (i + 1) = seenN l i ++ [((l.getD i default).place, true)] := by
  unfold seenN
  rw [List.take_succ_eq_append_getElem h, List.map_append, at_lt h]; rfl
def dupB (l : List Cal) (i : Nat) : Bool := (l.take i).any fun y => decide (y.place = (l.getD i default).place)
theorem dup_iff {l : List Cal} {i : Nat} {v : Bool} : ((l.getD i default).place, v) ∈ seenN l i ↔ dupB l i = true ∧ v = true := by
  unfold seenN dupB
  simp only [List.mem_map, List.any_eq_true, decide_eq_true_eq, Prod.mk.injEq]
  constructor
  · rintro ⟨x, h1, h2, h3⟩; exact ⟨⟨x, h1, h2⟩, h3.symm⟩
  · rintro ⟨⟨x, h1, h2⟩, h3⟩; exact ⟨x, h1, h2, h3.symm⟩
def okN (r : Rul) (n : Int) (l : List Cal) : Nat → Nat → Bool
  | 0, _ => true
  | k + 1, i => if dupB l i = true then false else if callOk r (l.getD i default) n = true then okN r n l k (i + 1) else false
def partsOk (n : Int) (l : List (List Int)) : Bool := l.all fun p => marksOk p n 0 40
def skaOk (r : Rul) (s : Ska) (n : Int) : Bool := decide (s.calls.length ≤ 16) && decide (s.parts.length ≤ 5) && inB s.over 0 600 && okN r n s.calls s.calls.length 0 && partsOk n s.parts
end Go.Proofs.YtapglfcaghlpfaaGreat
