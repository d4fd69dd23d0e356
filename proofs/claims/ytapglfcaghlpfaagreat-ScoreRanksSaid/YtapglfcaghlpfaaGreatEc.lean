/- A part of the proof that the last text ends: what functions of the program do, told by plain data. -/
import Derived.Test.YtapglfcaghlpfaaGreatEb
import Derived.ProofKit
import Derived.Deep.Slices
import Derived.ChangeArms
import Derived.Carry
/- The walk on data: a calculus over the weakest preconditions of the kit: what a call does is told by lists of plain data. Part 3 of 3. -/
set_option linter.unusedVariables false
set_option linter.unusedSimpArgs false
namespace Go.E
open Go Go.RowKit Go.Maps

def xLk (c : List AV) (kv : Value) (R : Option D → Prop) (_ : At R) : Prop := lookS c kv R
def xLkB (gb : Nat) (c : List AV) (kv : Value) (R : Option Nat → Prop) (_ : At R) : Prop := lookSB gb c kv R
def xUp (c : List AV) (kd : D) (kv : Value) (vd : D) (R : List AV → Prop) (_ : At R) : Prop := updS c kd kv vd R
def lkP (P : Program) (ok : Bool) (d : Option Nat) (am ak : AV) (T : Option (Nat × Nat)) (K : List AV → Sto → Prop) (_ : At K) (e : List AV) (s : Sto) : Prop :=
  match am, ak, T with
    | .mp g, .d kd, some (kt, et) => (match s.get g, kd.val? with
      | some c, some kv => (Keyed P kt ∧ zeroed P et = true ∧ (keyOf P kt kv).isSome = true) ∧ if g < 3000000000 then mapOk P kt c ∧ lookS c kv (fun r => K (eset e d (lookV (zeroA P et) ok r)) s)
        else bmapOk P kt (g + 1000000000) c ∧ lookSB (g + 1000000000) c kv (fun r => K (eset e d (lookBV (g + 1000000000) (zeroA P et) ok r)) s)
      | _, _ => False)
    | _, _, _ => False
def upP (P : Program) (am ak av : AV) (T : Option (Nat × Nat)) (K : List AV → Sto → Prop) (_ : At K) (e : List AV) (s : Sto) : Prop :=
  match am, ak, av, T with
    | .mp g, .d kd, .d vd, some (kt, _) => (match s.get g, kd.val? with
      | some c, some kv => (Keyed P kt ∧ (keyOf P kt kv).isSome = true ∧ AV.mencs g e = false ∧ s.mencs g = false) ∧ g < 3000000000 ∧ mapOk P kt c ∧ updS c kd kv vd (fun c' => K e (s.upd g c'))
      | _, _ => False)
    | .mp g, .d kd, .ref k off, some (kt, _) => (match s.get g, kd.val?, (s.get k).bind allD with
      | some c, some kv, some ds => (Keyed P kt ∧ (keyOf P kt kv).isSome = true ∧ AV.mencs g e = false ∧ s.mencs g = false) ∧ (3000000000 ≤ g ∧ k ≠ 0 ∧ off = 0) ∧ (bmapOk P kt (g + 1000000000) c ∧ ∀ i kd' cs, c[i]? = some (bxE (g + 1000000000) i kd' cs) → kd'.val? ≠ some kv) ∧
          K ((e.map (AV.kill k)).map (AV.kill (g + 1000000000))) (((s.kill k).kill (g + 1000000000)).upd g (c ++ [bxE (g + 1000000000) c.length kd ds]))
      | _, _, _ => False)
    | _, _, _, _ => False
section
variable {P : Program} {C : CT} {tb : Nat} {Q : Kt} {e : List AV} {s : Sto} {K : List AV → Sto → Prop} {d : Option Nat} {type : Nat} {pos : String} {af : Array Edge} {g : Option (Nat × Bool)}
theorem k_mkmap {t : Nat} {r : Option Operand} : k0 (.makeMap t r) = false := rfl
theorem k_lookup {t : Nat} {x y : Operand} {b : Bool} : k0 (.lookup t x y b) = false := rfl
theorem k_mapup {t : Nat} {x y z : Operand} : k0 (.mapUpdate t x y z) = false := rfl
def mmK (P : Program) (T : Option (Nat × Nat)) (tb d : Nat) (K : List AV → Sto → Prop) (_ : At K) (e : List AV) (s : Sto) : Prop :=
  oK T (fun z => K ((e.map (AV.kill (mtag P z.2 tb d))).set d (.mp (mtag P z.2 tb d))) ((s.kill (mtag P z.2 tb d)).ins (mtag P z.2 tb d) [])) (mk _)
theorem p_mkmap {d : Nat} {m2 : At K} {m3 : At Q} {t : Nat} {m1 : At (⟨some d, .makeMap t none, type, pos, af, g⟩ : Oper)} : xP P C tb ⟨some d, .makeMap t none, type, pos, af, g⟩ K Q m1 m2 m3 e s =
    mmK P (mapTy P t) tb d K (mk _) e s := by
  simp only [xP, pop, mmK, oK]
  cases mapTy P t with
  | none => rfl
  | some z => rfl
def mmG (n tb d : Nat) (K : List AV → Sto → Prop) (_ : At K) (e : List AV) (s : Sto) : Prop :=
  K ((e.map (AV.kill ((if n = 2 then 3000000000 else 2000000000) + tb + d))).set d (.mp ((if n = 2 then 3000000000 else 2000000000) + tb + d))) ((s.kill ((if n = 2 then 3000000000 else 2000000000) + tb + d)).ins ((if n = 2 then 3000000000 else 2000000000) + tb + d) [])
theorem mm_some {kt et : Nat} {tb d : Nat} {m : At K} : mmK P (some (kt, et)) tb d K m e s = mmG (nilTy P et) tb d K (mk _) e s := id rfl
theorem mm_0 {tb d : Nat} {m : At K} : mmG 0 tb d K m e s = K ((e.map (AV.kill (2000000000 + tb + d))).set d (.mp (2000000000 + tb + d))) ((s.kill (2000000000 + tb + d)).ins (2000000000 + tb + d) []) := id rfl
theorem mm_2 {tb d : Nat} {m : At K} : mmG 2 tb d K m e s = K ((e.map (AV.kill (3000000000 + tb + d))).set d (.mp (3000000000 + tb + d))) ((s.kill (3000000000 + tb + d)).ins (3000000000 + tb + d) []) := id rfl
theorem p_lookup {m2 : At K} {m3 : At Q} {t : Nat} {m x : Operand} {ok : Bool} {m1 : At (⟨d, .lookup t m x ok, type, pos, af, g⟩ : Oper)} : xP P C tb ⟨d, .lookup t m x ok, type, pos, af, g⟩ K Q m1 m2 m3 e s = lkP P ok d (aval e m) (aval e x) (mapTy P t) K (mk _) e s := by
  simp only [xP, pop, lkP] <;> (
    generalize aval e m = x1; generalize aval e x = x2; generalize mapTy P t = x3
    cases x1 <;> cases x2 <;> first | rfl | (rcases x3 with _ | ⟨a, b⟩ <;> first | rfl | (generalize s.get _ = y1; generalize D.val? _ = y2; cases y1 <;> cases y2 <;> rfl)))
theorem p_mapup {m2 : At K} {m3 : At Q} {t : Nat} {m x y : Operand} {m1 : At (⟨none, .mapUpdate t m x y, type, pos, af, g⟩ : Oper)} : xP P C tb ⟨none, .mapUpdate t m x y, type, pos, af, g⟩ K Q m1 m2 m3 e s = upP P (aval e m) (aval e x) (aval e y) (mapTy P t) K (mk _) e s := by
  simp only [xP, pop, upP]
  generalize aval e m = x1; generalize aval e x = x2; generalize aval e y = x4; generalize mapTy P t = x3
  cases x1 <;> cases x2 <;> cases x4 <;> first | rfl | (rcases x3 with _ | ⟨a, b⟩ <;> first | rfl | (simp only [true_and] <;> (generalize s.get _ = y1; generalize D.val? _ = y2; first | (cases y1 <;> cases y2 <;> rfl) | (generalize Option.bind _ _ = y3; cases y1 <;> cases y2 <;> cases y3 <;> rfl))))
theorem lk_mp {G : Nat} {kd : D} {T : Option (Nat × Nat)} {ok : Bool} {m : At K} : lkP P ok d (.mp G) (.d kd) T K m e s =
    oK T (fun z => oK (s.get G) (fun c => oK kd.val? (fun kv => (Keyed P z.1 ∧ zeroed P z.2 = true ∧ (keyOf P z.1 kv).isSome = true) ∧ if G < 3000000000 then mapOk P z.1 c ∧ xLk c kv (fun r => K (eset e d (lookV (zeroA P z.2) ok r)) s) (mk _) else bmapOk P z.1 (G + 1000000000) c ∧ xLkB (G + 1000000000) c kv (fun r => K (eset e d (lookBV (G + 1000000000) (zeroA P z.2) ok r)) s) (mk _)) (mk _)) (mk _)) (mk _) := by
  unfold lkP oK xLk xLkB
  cases T with
  | none => rfl
  | some z => obtain ⟨a, b⟩ := z; simp only; cases s.get G <;> simp <;> cases kd.val? <;> simp
theorem up_mp {G : Nat} {kd vd : D} {T : Option (Nat × Nat)} {m : At K} : upP P (.mp G) (.d kd) (.d vd) T K m e s =
    oK T (fun z => oK (s.get G) (fun c => oK kd.val? (fun kv => (Keyed P z.1 ∧ (keyOf P z.1 kv).isSome = true ∧ AV.mencs G e = false ∧ s.mencs G = false) ∧ G < 3000000000 ∧ mapOk P z.1 c ∧ xUp c kd kv vd (fun c' => K e (s.upd G c')) (mk _)) (mk _)) (mk _)) (mk _) := by
  unfold upP oK xUp
  cases T with
  | none => rfl
  | some z => obtain ⟨a, b⟩ := z; simp only; cases s.get G <;> simp <;> cases kd.val? <;> simp
theorem up_bx {G k off : Nat} {kd : D} {T : Option (Nat × Nat)} {m : At K} : upP P (.mp G) (.d kd) (.ref k off) T K m e s =
    oK T (fun z => oK (s.get G) (fun c => oK kd.val? (fun kv => oK ((s.get k).bind allD) (fun ds => (Keyed P z.1 ∧ (keyOf P z.1 kv).isSome = true ∧ AV.mencs G e = false ∧ s.mencs G = false) ∧ (3000000000 ≤ G ∧ k ≠ 0 ∧ off = 0) ∧ (bmapOk P z.1 (G + 1000000000) c ∧ ∀ i kd' cs, c[i]? = some (bxE (G + 1000000000) i kd' cs) → kd'.val? ≠ some kv) ∧
      K ((e.map (AV.kill k)).map (AV.kill (G + 1000000000))) (((s.kill k).kill (G + 1000000000)).upd G (c ++ [bxE (G + 1000000000) c.length kd ds]))) (mk _)) (mk _)) (mk _)) (mk _) := by
  unfold upP oK
  cases T with
  | none => rfl
  | some z => obtain ⟨a, b⟩ := z; simp only; cases s.get G <;> simp <;> cases kd.val? <;> simp <;> cases (s.get k).bind allD <;> simp
theorem lkb_some {z : AV} {gb i : Nat} : lookBV gb z true (some i) = AV.mkTup [.bx gb i 0, .b true] := id rfl
theorem lkb_none {z : AV} {gb : Nat} : lookBV gb z true none = AV.mkTup [z, .b false] := id rfl
theorem lkb_some' {z : AV} {gb i : Nat} : lookBV gb z false (some i) = .bx gb i 0 := id rfl
theorem lkb_none' {z : AV} {gb : Nat} : lookBV gb z false none = z := id rfl
theorem lkv_some {z : AV} {v : D} : lookV z true (some v) = AV.mkTup [.d v, .b true] := id rfl
theorem lkv_none {z : AV} : lookV z true none = AV.mkTup [z, .b false] := id rfl
theorem lkv_some' {z : AV} {v : D} : lookV z false (some v) = .d v := id rfl
theorem lkv_none' {z : AV} : lookV z false none = z := id rfl
end

def ents {α β : Type} (fk : α → D) (fv : β → D) (M : List (α × β)) : List AV := M.map fun p => .d (.agg [fk p.1, fv p.2])
theorem ents_ok' {α β : Type} {P : Program} {kt : Nat} {fk : α → D} {fv : β → D} {fkv : α → Value} {M : List (α × β)} (hk : ∀ x, (fk x).val? = some (fkv x)) (h : ∀ p ∈ M, (keyOf P kt (fkv p.1)).isSome = true) : mapOk P kt (ents fk fv M) := fun x hx => by
  obtain ⟨p, hp, rfl⟩ := List.mem_map.1 hx
  exact ⟨_, _, _, rfl, hk _, h p hp⟩
theorem hasK_ents {α β : Type} {fk : α → D} {fv : β → D} {fkv : α → Value} {M : List (α × β)} (hk : ∀ x, (fk x).val? = some (fkv x)) {kv : Value} {v : D} : hasK (ents fk fv M) kv v ↔ ∃ p ∈ M, fkv p.1 = kv ∧ fv p.2 = v := by
  constructor
  · rintro ⟨kd, h1, h2⟩
    obtain ⟨p, hp, e⟩ := List.mem_map.1 h1
    simp only [AV.d.injEq, D.agg.injEq, List.cons.injEq, and_true] at e
    obtain ⟨rfl, rfl⟩ := e
    rw [hk] at h2
    exact ⟨p, hp, Option.some.inj h2, rfl⟩
  · rintro ⟨p, hp, rfl, rfl⟩
    exact ⟨fk p.1, List.mem_map.2 ⟨p, hp, rfl⟩, hk _⟩
theorem xLk_ents {α β : Type} {fk : α → D} {fv : β → D} {fkv : α → Value} {M : List (α × β)} (hk : ∀ x, (fk x).val? = some (fkv x)) (hi : ∀ x y, fkv x = fkv y → x = y) {k : α} {R : Option D → Prop} {m : At R} (h1 : ∀ v, (k, v) ∈ M → R (some (fv v))) (h2 : (∀ v, (k, v) ∉ M) → R none) : xLk (ents fk fv M) (fkv k) R m := by
  refine ⟨fun v hv => ?_, fun hn => h2 fun v hv => hn (fv v) ((hasK_ents hk).2 ⟨(k, v), hv, rfl, rfl⟩)⟩
  obtain ⟨p, hp, e1, rfl⟩ := (hasK_ents hk).1 hv
  have := hi _ _ e1
  subst this
  exact h1 _ hp
end Go.E

namespace Go.E
open Go Go.RowKit Go.Maps

theorem loop_x {P : Program} {C : CT} {O : Nat → Sch} {tb : Nat} (hC : C.ok P) (hm : P.follows .mixedOrders = true) {c : Code} (ho : okO O c = true) {Q : Kt} {i : At c} {j : At Q} {e : List AV} {s : Sto} {σ : Type} (E : σ → List (Nat × AV)) (S : σ → Sto) (I : σ → Prop) (μ : σ → Nat) (x0 : σ)
    (h0 : I x0) (hw : wk e (setAll e (E x0)) ∧ wkG s (S x0))
    (round : ∀ x, I x → xW P C O tb c (xS (fun e' s' => ∃ y, (I y ∧ μ y < μ x) ∧ wk e' (setAll e (E y)) ∧ wkG s' (S y)) Q (mk _) (mk _)) (mk _) (mk _) (setAll e (E x)) (S x)) : xL P c Q i j e s :=
  fun W0 L0 L w a hr => by
  refine wpIn_loop_ghost (fun n a w => ∃ x, I x ∧ μ x = n ∧ ∃ L, Rel W0 L0 L (setAll e (E x)) (S x) w a) (μ x0) ⟨x0, h0, rfl, L, hr.weaken (wk_Wk hw.1) (wkG_get hw.2)⟩ ?_
  rintro n a w ⟨x, hx, rfl, L, hr⟩
  refine Code.wpIn_mono (lift_seq fun L e' s' a w h1 h2 => ?_) (pwp_sound hC hm c ho (round x hx) W0 L0 L w a hr)
  obtain ⟨y, h3, h4⟩ := h2
  exact ⟨μ y, h3.2, y, h3.1, rfl, L, h1.weaken (wk_Wk h4.1) (wkG_get h4.2)⟩

theorem pcall_start {P : Program} {C : CT} {O : Nat → Sch} {tb f : Nat} {fn : Func} {c : Code} {n : Nat} {rs : Array ResultVar} (hC : C.ok P) (hm : P.follows .mixedOrders = true) (ho : (fn.body.map (okO O)) = some true) (hf : P.funcs[f]? = some fn) (hc : callable P f = true) (hb : fn.body = some c) (hn : fn.ntmps = n) (hrs : fn.results = rs)
    {args : List AV} {K : AV → List AV → Sto → Prop} {Q : Kt} {e : List AV} {s : Sto}
    (h : oK (s.push e) (fun s1 => xW P C O tb c (xI P e.length s.hidn rs.toList K Q (mk _) (mk _) (mk _)) (mk _) (mk _) (args ++ List.replicate (n - args.length) .any) s1) (mk _)) : pcall P f args K Q e s := by
  unfold oK at h
  split at h
  · rename_i s1 hs
    exact pcall_inl hf hc hb hn hrs hs (pwp_sound hC hm c (by rw [hb] at ho; simpa using ho) h)
  · exact h.elim
end Go.E

namespace Go.E
open Go Go.RowKit Go.Maps

def andZ (k : IntKind) (a b : Int) : Int := k.wrap (BitVec.ofInt k.bits a &&& BitVec.ofInt k.bits b).toNat
def xorZ (k : IntKind) (a b : Int) : Int := k.wrap (BitVec.ofInt k.bits a ^^^ BitVec.ofInt k.bits b).toNat
def shlZ (k : IntKind) (a n : Int) : Int := k.wrap (a * 2 ^ (min n.toNat k.bits))
def shrZ (k : IntKind) (a n : Int) : Int := a.fdiv (2 ^ (min n.toNat k.bits))
section
variable {x y : AV}
theorem bi_add : binI .add x y = .d (.v (.int x.kind (x.kind.wrap (x.int + y.int)))) := id rfl
theorem bi_sub : binI .sub x y = .d (.v (.int x.kind (x.kind.wrap (x.int - y.int)))) := id rfl
theorem bi_mul : binI .mul x y = .d (.v (.int x.kind (x.kind.wrap (x.int * y.int)))) := id rfl
theorem bi_quo : binI .quo x y = .d (.v (.int x.kind (x.kind.wrap (x.int.tdiv y.int)))) := id rfl
theorem bi_and : binI .and x y = .d (.v (.int x.kind (andZ x.kind x.int y.int))) := id rfl
theorem bi_xor : binI .xor x y = .d (.v (.int x.kind (xorZ x.kind x.int y.int))) := id rfl
theorem bi_shl : binI .shl x y = .d (.v (.int x.kind (shlZ x.kind x.int y.int))) := id rfl
theorem bi_shr : binI .shr x y = .d (.v (.int x.kind (shrZ x.kind x.int y.int))) := id rfl
theorem bi_leq : binI .leq x y = .b (decide (x.int ≤ y.int)) := id rfl
theorem bi_geq : binI .geq x y = .b (decide (y.int ≤ x.int)) := id rfl
end
theorem wrap_u64 {n : Nat} (h : n < 18446744073709551616) : IntKind.u64.wrap (n : Int) = n := by
  simp [IntKind.wrap, IntKind.signed, IntKind.bits]; omega
theorem and_u64 {a b : Nat} (ha : a < 18446744073709551616) (hb : b < 18446744073709551616) : andZ .u64 (a : Int) (b : Int) = ((a &&& b : Nat) : Int) := by
  unfold andZ
  have h1 : (BitVec.ofInt IntKind.u64.bits (a : Int) &&& BitVec.ofInt IntKind.u64.bits (b : Int)).toNat = a &&& b := by
    show (BitVec.ofInt 64 (a : Int) &&& BitVec.ofInt 64 (b : Int)).toNat = _
    rw [BitVec.toNat_and, BitVec.ofInt_natCast, BitVec.ofInt_natCast, BitVec.toNat_ofNat, BitVec.toNat_ofNat, Nat.mod_eq_of_lt ha, Nat.mod_eq_of_lt hb]
  rw [h1, wrap_u64 (Nat.lt_of_le_of_lt Nat.and_le_left ha)]
end Go.E

namespace Go.E
open Go Go.RowKit Go.Maps
theorem loop_u {P : Program} {C : CT} {O : Nat → Sch} {tb : Nat} (hC : C.ok P) (hm : P.follows .mixedOrders = true) {c : Code} (ho : okO O c = true) {Q : Kt} {i : At c} {j : At Q} {e : List AV} {s : Sto} {σ : Type} (E : σ → List (Nat × AV)) (S : σ → List (Nat × List AV)) (I : σ → Prop) (μ : σ → Nat) (nx : σ → σ) (x0 : σ)
    (h0 : I x0) (hw : wk e (setAll e (E x0)) ∧ wkG s (updAll s (S x0)))
    (round : ∀ x, I x → xW P C O tb c (xS (fun e' s' => (I (nx x) ∧ μ (nx x) < μ x) ∧ wk e' (setAll e (E (nx x))) ∧ wkG s' (updAll s (S (nx x)))) Q (mk _) (mk _)) (mk _) (mk _) (setAll e (E x)) (updAll s (S x))) : xL P c Q i j e s :=
  loop_go' hC hm ho E (fun x => updAll s (S x)) I μ nx x0 h0 hw round
theorem loop_xu {P : Program} {C : CT} {O : Nat → Sch} {tb : Nat} (hC : C.ok P) (hm : P.follows .mixedOrders = true) {c : Code} (ho : okO O c = true) {Q : Kt} {i : At c} {j : At Q} {e : List AV} {s : Sto} {σ : Type} (E : σ → List (Nat × AV)) (S : σ → List (Nat × List AV)) (I : σ → Prop) (μ : σ → Nat) (x0 : σ)
    (h0 : I x0) (hw : wk e (setAll e (E x0)) ∧ wkG s (updAll s (S x0)))
    (round : ∀ x, I x → xW P C O tb c (xS (fun e' s' => ∃ y, (I y ∧ μ y < μ x) ∧ wk e' (setAll e (E y)) ∧ wkG s' (updAll s (S y))) Q (mk _) (mk _)) (mk _) (mk _) (setAll e (E x)) (updAll s (S x))) : xL P c Q i j e s :=
  loop_x hC hm ho E (fun x => updAll s (S x)) I μ x0 h0 hw round
end Go.E

namespace Go.E
open Go Go.RowKit

def rowsFlat (rows : List (List D)) : Bool := rows.all D.flats
theorem D.flats_append : ∀ {xs ys : List D}, D.flats xs = true → D.flats ys = true → D.flats (xs ++ ys) = true
  | [], _, _, k => k
  | x :: xs, _, h, k => by
    simp only [D.flats, Bool.and_eq_true] at h
    simp only [List.cons_append, D.flats, Bool.and_eq_true]
    exact ⟨h.1, D.flats_append h.2 k⟩
theorem rowsFlat_flat : ∀ {rows : List (List D)}, rowsFlat rows = true → D.flats rows.flatten = true
  | [], _ => rfl
  | r :: rs, h => by
    simp only [rowsFlat, List.all_cons, Bool.and_eq_true] at h
    rw [List.flatten_cons]
    exact D.flats_append h.1 (rowsFlat_flat h.2)
theorem rowsFlat_map {α : Type} {f : α → List D} {l : List α} (h : ∀ a, D.flats (f a) = true) : rowsFlat (l.map f) = true := by
  simp [rowsFlat, h]
def AV.outN (x : AV) : Option D :=
  match x with
  | .d x => if x.flat = true then some x else none
  | .own g _ sz rows => if g = 0 then none else if rowsFlat rows = true then some (.sl sz rows) else none
  | _ => none
def retN (P : Program) (rs : List ResultVar) (R : End → Prop) : Kt
  | .normal, e, s | .ret, e, s => s.get 0 = some [] ∧ resAll P e s rs ∧ ∃ ds, outL AV.outN (rs.map (resV P e s)) = some ds ∧ R (.ret (packD ds))
  | .panic c, _, s => s.get 0 = some [] ∧ R (.pan c)
  | _, _, _ => False
def PFn (P : Program) (f : Nat) (ds : List D) (R : End → Prop) : Prop :=
  callable P f = true ∧ ∀ (F : Nat → Prop) (w : World) (vs : Array Value), DReps (look F w) ds vs.toList →
    Calls P f vs w (fun en w' => Below w.heap.size w w' ∧ match en with
      | .returned v => ∃ d, R (.ret d) ∧ DRep (look (fun b => w.heap.size ≤ b) w') d v
      | .panicked c => R (.pan c)
      | .outgrown => False)
theorem PFn_nil {P : Program} {f : Nat} {ds : List D} {d : D} (h : PFn P f ds (fun z => retEq z d)) : PFn P f ds (fun z => z = .ret d) :=
  ⟨h.1, fun F w vs hd => (h.2 F w vs hd).mono fun en w' ⟨h1, h2⟩ => ⟨h1, by
    cases en with
    | returned v => obtain ⟨d', h3, h4⟩ := h2; exact ⟨d, rfl, nilEq_rep h3 h4⟩
    | panicked c => exact h2.elim
    | outgrown => exact h2⟩⟩
theorem outN_rep {L : Lay} {w : World} {n : Nat} (hL : ∀ b g, g ≠ 0 → L.own b = some g → n ≤ b) {x : AV} {d : D} {u : Value} (h : x.outN = some d) (k : ARep L w x u) : DRep (look (fun b => n ≤ b) w) d u := by
  unfold AV.outN at h
  split at h
  · split at h
    · rename_i hf; cases h; exact D.flat_rep hf k
    · cases h
  · rename_i g el sz rows
    split at h
    · cases h
    · rename_i hg
      split at h
      · rename_i hf
        cases h
        obtain ⟨_, xs, h1, h2, h3, h4, h5⟩ := k
        let L2 : Lay := { L with own := fun b => if L.own b = some g then some g else some 0 }
        refine ownRow_read (L := L2) (w := w) (g := g) (e := el) ⟨xs, h1, fun b hb => by simp only [L2]; rw [if_pos (h2 b hb)], h3, h4, D.flats_rep (rowsFlat_flat hf) h5⟩ fun b hb => ?_
        simp only [L2] at hb
        split at hb
        · rename_i ho; exact hL b g hg ho
        · rcases hb with hb | hb
          · cases hb
          · simp at hb; exact absurd hb.symm hg
      · cases h
  · cases h
theorem PFn_intro {P : Program} {f : Nat} {fn : Func} {c : Code} {n : Nat} {rs : Array ResultVar} {ds : List D} {R : End → Prop} (hf : P.funcs[f]? = some fn) (hc : callable P f = true) (hb : fn.body = some c) (hn : fn.ntmps = n) (hrs : fn.results = rs)
    (h : psem P c (retN P rs.toList R) (ds.map .d ++ List.replicate (n - ds.length) .any) [(0, [])]) : PFn P f ds R := by
  refine ⟨hc, fun F w vs hd => (callsFW (r := none) (n := 0)).1 (callsIn_of_wp_marks hf hb trivial (Code.wpIn_mono ?_ (h w (lay0 F w) (lay0 F w) w { tmps := vs ++ Array.replicate (fn.ntmps - vs.size) undef, defers := [] } (by rw [← hn]; exact lay0_rel hd))))⟩
  rintro x a w' ⟨L, e, s, hr', hq⟩
  have fin : (s.get 0 = some [] ∧ resAll P e s rs.toList ∧ ∃ ds, outL AV.outN (rs.toList.map (resV P e s)) = some ds ∧ R (.ret (packD ds))) → LeavesInM (FW none) 0 P fn a.tmps (fun en w' => Below w.heap.size w w' ∧ match en with
      | .returned v => ∃ d, R (.ret d) ∧ DRep (look (fun b => w.heap.size ≤ b) w') d v
      | .panicked c => R (.pan c)
      | .outgrown => False) a.defers .returning w' := fun ⟨h0, hq⟩ =>
    leave_marks (by simp) a.defers w' (rel_none hr' h0).2 hr'.mks.1 (fun r h => (hr'.mks.2 r h).1) fun w'' hsh => by
      have hr2 := hr'.shut (rel_none hr' h0).2 hsh
      obtain ⟨h1, ds', h2, h3⟩ := hq
      obtain ⟨us, g1, g2⟩ := results_run hr2 (fun r => match r with | .tmp t => pure (a.tmps.getD t undef) | .cell x t => do loadVar t (← asAddr (a.tmps.getD x undef))) (fun t => rfl) (fun x t => rfl) rs.toList h1
      have hL : ∀ b g, g ≠ 0 → L.own b = some g → w.heap.size ≤ b := fun b g hg hb => by
        by_cases hlt : b < w.heap.size
        · have h0 : (lay0 F w).own b = none ∨ (lay0 F w).own b = some 0 := by
            simp only [lay0]; rw [if_pos hlt]; by_cases hF : F b
            · rw [if_pos hF]; exact .inl rfl
            · rw [if_neg hF]; exact .inr rfl
          have := (hr2.old b hlt h0).1
          rw [hb] at this
          rcases h0 with h | h <;> rw [h] at this <;> simp at this
          exact absurd this hg
        · omega
      have ho : DReps (look (fun b => w.heap.size ≤ b) w'') ds' us := outL_rep (fun x d u hx hk => outN_rep hL hx hk) h2 g2
      have hol := ho.length
      refine ⟨if h : us.toArray.size = 1 then us.toArray[0] else .tuple us.toArray, ?_, lay0_below hr2, packD ds', h3, ?_⟩
      · unfold results
        rw [hrs, Array.mapM_eq_mapM_toList]
        simp only [Sem.run_bind, Sem.run_map]
        erw [g1]
        rfl
      · match ds', us, hol with
        | [], [], _ => exact ⟨_, rfl, ho⟩
        | [d], [u], _ => obtain ⟨u', ut, e, k1, _⟩ := ho; simp at e; rw [← e.1] at k1; simpa [packD] using k1
        | d1 :: d2 :: dr, u1 :: u2 :: ur, _ => exact ⟨(u1 :: u2 :: ur).toArray, by rw [dif_neg (by simp)], ho⟩
  cases x with
  | normal => exact fin hq
  | ret => exact fin hq
  | panic c => exact leave_marks (by simp) a.defers w' (rel_none hr' hq.1).2 hr'.mks.1 (fun r h => (hr'.mks.2 r h).1) fun w'' hsh => ⟨lay0_below (hr'.shut (rel_none hr' hq.1).2 hsh), hq.2⟩
  | exit i => exact hq
  | goto l => exact hq
  | outgrown => exact hq.elim

def xRn (P : Program) (rs : List ResultVar) (R : End → Prop) (_ : At rs) (_ : At R) : Kt := fun x e s => retN P rs R x e s
section
variable {P : Program} {e : List AV} {s : Sto} {rs : List ResultVar} {R : End → Prop} {i : At rs} {j : At R}
theorem n_retr : xRn P rs R i j .ret e s = (s.get 0 = some [] ∧ resAll P e s rs ∧ oK (outL AV.outN (rs.map (resV P e s))) (fun ds => R (.ret (packD ds))) (mk _)) := by
  simp only [xRn, retN, oK]; cases outL AV.outN (rs.map (resV P e s)) <;> simp
end
theorem PFn_start {P : Program} {C : CT} {O : Nat → Sch} {f : Nat} {fn : Func} {c : Code} {n : Nat} {rs : Array ResultVar} {ds : List D} {R : End → Prop} (hC : C.ok P) (hm : P.follows .mixedOrders = true) (ho : (fn.body.map (okO O)) = some true) (hf : P.funcs[f]? = some fn) (hc : callable P f = true) (hb : fn.body = some c) (hn : fn.ntmps = n) (hrs : fn.results = rs)
    (h : xW P C O 0 c (xRn P rs.toList R (mk _) (mk _)) (mk _) (mk _) (ds.map .d ++ List.replicate (n - ds.length) .any) [(0, [])]) : PFn P f ds R :=
  PFn_intro hf hc hb hn hrs (pwp_sound hC hm c (by rw [hb] at ho; simpa using ho) h)

theorem pcall_n {P : Program} {f : Nat} {args : List AV} {ds : List D} {R : End → Prop} {K : AV → List AV → Sto → Prop} {Q : Exit → List AV → Sto → Prop} {e : List AV} {s : Sto} (h : PFn P f ds R) (ha : AV.rds args = some ds)
    (hK : ∀ d, R (.ret d) → K (.d d) e s) (hQ : ∀ c, R (.pan c) → Q (.panic c) e s) : pcall P f args K Q e s := by
  refine ⟨h.1, fun W0 L0 L w a vs hr hv => (h.2 (fun _ => True) w vs (AV.rds_rep ha hv)).mono fun en w' ⟨hb, hen⟩ => ?_⟩
  have hr' := hr.grow hb
  cases en with
  | returned v =>
    obtain ⟨d, h1, h2⟩ := hen
    refine ⟨L, e, s, .d d, hr', DRep.mono (look_le fun b hb' hlt => ⟨?_, rfl⟩) d v h2, hK d h1⟩
    cases ho : L.own b with
    | none => rfl
    | some g => have := hr.own_lt b g ho; omega
  | panicked c => exact ⟨L, e, s, hr', hQ c hen⟩
  | outgrown => exact hen
def entn {α : Type} (P1 : α → List D) (pre : α → Prop) (R : α → D) (args : List AV) (K : AV → List AV → Sto → Prop) (e : List AV) (s : Sto) : Prop :=
  ∃ a, AV.rds args = some (P1 a) ∧ pre a ∧ K (.d (R a)) e s
theorem entn_ok {α : Type} {P : Program} {f : Nat} {P1 : α → List D} {pre : α → Prop} {R : α → D} (h : ∀ a, pre a → PFn P f (P1 a) (fun x => x = .ret (R a))) {args : List AV} {K : AV → List AV → Sto → Prop} {Q : Kt} {e : List AV} {s : Sto}
    (he : entn P1 pre R args K e s) : pcall P f args K Q e s := by
  obtain ⟨a, h1, h2, h4⟩ := he
  exact pcall_n (h a h2) h1 (fun x hx => by cases hx; exact h4) (fun c hc => by cases hc)
theorem entn_iff {α : Type} {P1 : α → List D} {pre : α → Prop} {R : α → D} {K : AV → List AV → Sto → Prop} {e : List AV} {s : Sto} {args : List AV} (a : α) (hinj : ∀ b, P1 b = P1 a → b = a) (hr : AV.rds args = some (P1 a)) :
    entn P1 pre R args K e s = (pre a ∧ K (.d (R a)) e s) := by
  apply propext
  constructor
  · rintro ⟨b, h1, h2, h4⟩
    rw [hr] at h1
    obtain rfl := hinj b (Option.some.inj h1).symm
    exact ⟨h2, h4⟩
  · rintro ⟨h2, h4⟩
    exact ⟨a, hr, h2, h4⟩
end Go.E

namespace Go.E
open Go Go.RowKit

end Go.E

namespace Go.E
open Go Go.RowKit Go.Maps
def AV.ups (g : Nat) (rows : List (List D)) : AV → AV
  | .own g' e s r => if g' = g then .own g' e s rows else .own g' e s r
  | x => x
def Sto.ups (g : Nat) (rows : List (List D)) : Sto → Sto
  | [] => []
  | (h, c) :: r => (h, c.map (AV.ups g rows)) :: Sto.ups g rows r
section
variable {g : Nat} {rows : List (List D)}
theorem ups_own {g' e s : Nat} {r : List (List D)} : AV.ups g rows (.own g' e s r) = if g' = g then .own g' e s rows else .own g' e s r := rfl
theorem ups_any : AV.ups g rows .any = .any := rfl
theorem ups_d {d : D} : AV.ups g rows (.d d) = .d d := rfl
theorem ups_ref {a b : Nat} : AV.ups g rows (.ref a b) = .ref a b := rfl
theorem ups_clo {f : Fn} {a b : List AV} : AV.ups g rows (.clo f a b) = .clo f a b := rfl
theorem ups_nil : Sto.ups g rows [] = [] := rfl
theorem ups_cons {h : Nat} {c : List AV} {r : Sto} : Sto.ups g rows ((h, c) :: r) = (h, c.map (AV.ups g rows)) :: Sto.ups g rows r := rfl
end
theorem loop_r {P : Program} {C : CT} {O : Nat → Sch} {tb : Nat} (hC : C.ok P) (hm : P.follows .mixedOrders = true) {c : Code} (ho : okO O c = true) {Q : Kt} {i : At c} {j : At Q} {e : List AV} {s : Sto} {σ : Type} (g : Nat) (R : σ → List (List D)) (E : σ → List (Nat × AV)) (I : σ → Prop) (μ : σ → Nat) (nx : σ → σ) (x0 : σ)
    (h0 : I x0) (hw : wk e (setAll e (E x0)) ∧ wkG s (s.ups g (R x0)))
    (round : ∀ x, I x → xW P C O tb c (xS (fun e' s' => (I (nx x) ∧ μ (nx x) < μ x) ∧ wk e' (setAll e (E (nx x))) ∧ wkG s' (s.ups g (R (nx x)))) Q (mk _) (mk _)) (mk _) (mk _) (setAll e (E x)) (s.ups g (R x))) : xL P c Q i j e s :=
  loop_go' hC hm ho E (fun x => s.ups g (R x)) I μ nx x0 h0 hw round
end Go.E

namespace Go.E
open Go Go.RowKit Go.Maps
end Go.E

namespace Go.E
open Go Go.RowKit Go.Maps
theorem pcall_s {P : Program} {f : Nat} {args : List AV} {ds : List D} {R : End → Prop} {K : AV → List AV → Sto → Prop} {Q : Exit → List AV → Sto → Prop} {e : List AV} {s : Sto} (h : PF P f ds R) (ha : AV.outs s args = some ds)
    (hK : ∀ d, R (.ret d) → d.flat = true ∧ K (.d d) e s) (hQ : ∀ c, R (.pan c) → Q (.panic c) e s) : pcall P f args K Q e s := by
  refine ⟨h.1, fun W0 L0 L w a vs hr hv => (h.2 (fun _ => True) w vs (outL_rep (outF_rep hr (fun _ _ => trivial) (fun _ _ _ _ => trivial) 6) ha hv)).mono fun en w' ⟨hb, hen⟩ => ?_⟩
  have hr' := hr.grow hb
  cases en with
  | returned v =>
    obtain ⟨d, h1, h2⟩ := hen
    exact ⟨L, e, s, .d d, hr', D.flat_rep (hK d h1).1 h2, (hK d h1).2⟩
  | panicked c => exact ⟨L, e, s, hr', hQ c hen⟩
  | outgrown => exact hen
def entS {α : Type} (P1 : α → List D) (pre : α → Prop) (R : α → D) (o : Option (List D)) (K : AV → List AV → Sto → Prop) (_ : At K) (e : List AV) (s : Sto) : Prop :=
  ∃ a, o = some (P1 a) ∧ pre a ∧ (R a).flat = true ∧ K (.d (R a)) e s
theorem entS_ok {α : Type} {P : Program} {f : Nat} {P1 : α → List D} {pre : α → Prop} {R : α → D} (h : ∀ a, pre a → PF P f (P1 a) (fun x => x = .ret (R a))) {args : List AV} {K : AV → List AV → Sto → Prop} {Q : Kt} {i : At K} {e : List AV} {s : Sto}
    (he : entS P1 pre R (AV.outs s args) K i e s) : pcall P f args K Q e s := by
  obtain ⟨a, h1, h2, h3, h4⟩ := he
  exact pcall_s (h a h2) h1 (fun x hx => by cases hx; exact ⟨h3, h4⟩) (fun c hc => by cases hc)
theorem entS_iff {α : Type} {P1 : α → List D} {pre : α → Prop} {R : α → D} {K : AV → List AV → Sto → Prop} {i : At K} {e : List AV} {s : Sto} (a : α) (hinj : ∀ b, P1 b = P1 a → b = a) :
    entS P1 pre R (some (P1 a)) K i e s = (pre a ∧ (R a).flat = true ∧ K (.d (R a)) e s) := by
  apply propext
  constructor
  · rintro ⟨b, h1, h2, h3, h4⟩
    obtain rfl := hinj b (Option.some.inj h1).symm
    exact ⟨h2, h3, h4⟩
  · rintro ⟨h2, h3, h4⟩
    exact ⟨a, rfl, h2, h3, h4⟩
end Go.E

namespace Go.E
open Go Go.RowKit
section
variable {P : Program} {C : CT} {O : Nat → Sch} {tb : Nat} {Q : Kt} {e : List AV} {s : Sto}
end
end Go.E

namespace Go.E
open Go Go.Maps
def rgP (k d : Nat) (T : Option (Nat × Nat)) (x : AV) (K : List AV → Sto → Prop) (_ : At K) (e : List AV) (s : Sto) : Prop := match T, x with
  | some _, .mp g => rngM k d (s.get g) g K e s
  | _, _ => False
def rgO (k d : Nat) (o : Option (List AV)) (g : Nat) (K : List AV → Sto → Prop) (_ : At K) (e : List AV) (s : Sto) : Prop := rngM k d o g K e s
def nxP (x : AV) (d : Option Nat) (K : List AV → Sto → Prop) (_ : At K) (e : List AV) (s : Sto) : Prop := match x with
  | .it h => nxtM h d K e s
  | _ => False
def enP (x : AV) (d : Option Nat) (K : List AV → Sto → Prop) (_ : At K) (e : List AV) (s : Sto) : Prop := match x with
  | .it h => entM h d K e s
  | _ => False
def enO (o : Option (List AV)) (d : Option Nat) (K : List AV → Sto → Prop) (_ : At K) (e : List AV) (s : Sto) : Prop :=
  (itX o s fun _ _ seen c => ∃ sn i kd v, seen = sn ++ [i] ∧ c[i]? = some (.d (.agg [kd, v])) ∧ K (eset e d (.tup [.d kd, .d v])) s) ∨
  (itY o s fun g _ seen c => ∃ sn i kd cs, seen = sn ++ [i] ∧ c[i]? = some (bxE (g + 1000000000) i kd cs) ∧ K (eset e d (.tup [.d kd, .bx (g + 1000000000) i 0])) s)
def enC (o : Option (List AV)) (G n i : Nat) (d : Option Nat) (K : List AV → Sto → Prop) (_ : At K) (e : List AV) (s : Sto) : Prop :=
  if G < 3000000000 then ∃ c kd v, o = some c ∧ pairsOk c ∧ c.length = n ∧ c[i]? = some (.d (.agg [kd, v])) ∧ K (eset e d (.tup [.d kd, .d v])) s
  else ∃ c kd cs, o = some c ∧ boxesOk (G + 1000000000) c ∧ c.length = n ∧ c[i]? = some (bxE (G + 1000000000) i kd cs) ∧ K (eset e d (.tup [.d kd, .bx (G + 1000000000) i 0])) s
theorem itc_inj {g g' n n' : Nat} {l l' : List Nat} (h : itc g n l = itc g' n' l') : g = g' ∧ n = n' ∧ l = l' := by
  unfold itc at h
  simp only [List.cons.injEq, AV.mp.injEq, AV.d.injEq, D.v.injEq, Value.int.injEq, true_and, D.agg.injEq, and_true] at h
  refine ⟨h.1, by omega, ?_⟩
  have : ∀ {a b : List Nat}, (a.map fun (i : Nat) => D.v (Value.int .i64 (i : Int))) = (b.map fun (i : Nat) => D.v (Value.int .i64 (i : Int))) → a = b := by
    intro a
    induction a with
    | nil => intro b h; cases b <;> simp at h ⊢
    | cons x a ih =>
      intro b h
      cases b with
      | nil => simp at h
      | cons y b =>
        simp only [List.map_cons, List.cons.injEq, D.v.injEq, Value.int.injEq, true_and] at h
        rw [ih h.2, show x = y by omega]
  exact this h.2.2
section
variable {P : Program} {C : CT} {tb : Nat} {Q : Kt} {e : List AV} {s : Sto} {K : List AV → Sto → Prop} {d : Option Nat} {type : Nat} {pos : String} {af : Array Edge} {g : Option (Nat × Bool)}
theorem k_range {t : Nat} {r : Operand} : k0 (.range t r) = false := rfl
theorem k_next {r : Operand} {b : Bool} : k0 (.next r b) = false := rfl
theorem k_entry {r : Operand} : k0 (.entry r) = false := rfl
theorem p_range {d : Nat} {m2 : At K} {m3 : At Q} {t : Nat} {m : Operand} {m1 : At (⟨some d, .range t m, type, pos, af, g⟩ : Oper)} : xP P C tb ⟨some d, .range t m, type, pos, af, g⟩ K Q m1 m2 m3 e s =
    rgP (2000000000 + tb + d) d (mapTy P t) (aval (e.map (AV.kill (2000000000 + tb + d))) m) K (mk _) (e.map (AV.kill (2000000000 + tb + d))) (s.kill (2000000000 + tb + d)) := by
  simp only [xP, pop, rgP]
  cases mapTy P t with
  | none => rfl
  | some z =>
    simp only
    generalize aval (List.map (AV.kill (2000000000 + tb + d)) e) m = x
    cases x <;> rfl
theorem p_next {m2 : At K} {m3 : At Q} {it : Operand} {m1 : At (⟨d, .next it false, type, pos, af, g⟩ : Oper)} : xP P C tb ⟨d, .next it false, type, pos, af, g⟩ K Q m1 m2 m3 e s = nxP (aval e it) d K (mk _) e s := by
  simp only [xP, pop, nxP] <;> (cases aval e it <;> rfl)
theorem p_entry {m2 : At K} {m3 : At Q} {it : Operand} {m1 : At (⟨d, .entry it, type, pos, af, g⟩ : Oper)} : xP P C tb ⟨d, .entry it, type, pos, af, g⟩ K Q m1 m2 m3 e s = enP (aval e it) d K (mk _) e s := by
  simp only [xP, pop, enP] <;> (cases aval e it <;> rfl)
theorem rg_mp {k d G : Nat} {z : Nat × Nat} {m : At K} : rgP k d (some z) (.mp G) K m e s = rgO k d (s.get G) G K (mk _) e s := id rfl
theorem rg_some {k d G : Nat} {c : List AV} {m : At K} : rgO k d (some c) G K m e s = ((k < 3000000000 ∧ G < 5000000000 ∧ (G < 3000000000 → pairsOk c)) ∧ K (e.set d (.it k)) (s.ins k (itc G c.length []))) := by
  unfold rgO rngM
  exact propext ⟨fun ⟨c', h1, h2, h3⟩ => by cases h1; exact ⟨h2, h3⟩, fun ⟨h2, h3⟩ => ⟨c, rfl, h2, h3⟩⟩
theorem en_it {h : Nat} {m : At K} : enP (.it h) d K m e s = enO (s.get h) d K (mk _) e s := id rfl
theorem en_at {G n i : Nat} {seen : List Nat} {m : At K} : enO (some (itc G n (seen ++ [i]))) d K m e s = enC (s.get G) G n i d K (mk _) e s := by
  unfold enO enC itX itY
  apply propext
  constructor
  · rintro (⟨g', n', se, c, h1, h2, ⟨hg, h3⟩, h4, sn, i', kd, v, h5, h6, h7⟩ | ⟨g', n', se, c, h1, h2, ⟨hg, h3⟩, h4, sn, i', kd, v, h5, h6, h7⟩)
    · obtain ⟨rfl, rfl, rfl⟩ := itc_inj (Option.some.inj h1)
      obtain ⟨rfl, h8⟩ := List.append_inj' h5 rfl
      simp only [List.cons.injEq, and_true] at h8
      subst h8
      rw [if_pos hg]
      exact ⟨c, kd, v, h2, h3, h4, h6, h7⟩
    · obtain ⟨rfl, rfl, rfl⟩ := itc_inj (Option.some.inj h1)
      obtain ⟨rfl, h8⟩ := List.append_inj' h5 rfl
      simp only [List.cons.injEq, and_true] at h8
      subst h8
      rw [if_neg (by omega)]
      exact ⟨c, kd, v, h2, h3, h4, h6, h7⟩
  · split
    · rename_i hg
      rintro ⟨c, kd, v, h2, h3, h4, h6, h7⟩
      exact .inl ⟨G, n, _, c, rfl, h2, ⟨hg, h3⟩, h4, seen, i, kd, v, rfl, h6, h7⟩
    · rename_i hg
      rintro ⟨c, kd, v, h2, h3, h4, h6, h7⟩
      exact .inr ⟨G, n, _, c, rfl, h2, ⟨by omega, h3⟩, h4, seen, i, kd, v, rfl, h6, h7⟩
theorem pairs_ents {α β : Type} {fk : α → D} {fv : β → D} {M : List (α × β)} : pairsOk (ents fk fv M) := fun x hx => by
  obtain ⟨p, _, rfl⟩ := List.mem_map.1 hx
  exact ⟨_, _, rfl⟩
theorem ents_len {α β : Type} {fk : α → D} {fv : β → D} {M : List (α × β)} : (ents fk fv M).length = M.length := List.length_map ..
theorem ents_at {α β : Type} [Inhabited α] [Inhabited β] {fk : α → D} {fv : β → D} {M : List (α × β)} {i : Nat} (h : i < M.length) : (ents fk fv M)[i]? = some (.d (.agg [fk (M.getD i default).1, fv (M.getD i default).2])) := by
  unfold ents
  rw [List.getElem?_map, List.getElem?_eq_getElem h]
  simp [List.getD, List.getElem?_eq_getElem h]
theorem pairs_ents_eq {α β : Type} {fk : α → D} {fv : β → D} {M : List (α × β)} : pairsOk (ents fk fv M) = True := propext ⟨fun _ => trivial, fun _ => pairs_ents⟩
theorem en_ents {α β : Type} [Inhabited α] [Inhabited β] {fk : α → D} {fv : β → D} {M : List (α × β)} {G n i : Nat} {m : At K} : enC (some (ents fk fv M)) G n i d K m e s = ((G < 3000000000 ∧ M.length = n ∧ i < n) ∧ K (eset e d (.tup [.d (fk (M.getD i default).1), .d (fv (M.getD i default).2)])) s) := by
  unfold enC
  apply propext
  constructor
  · split
    · rename_i hG
      rintro ⟨c, kd, v, h2, h3, h4, h6, h7⟩
      cases h2
      rw [ents_len] at h4
      have hi : i < M.length := by have := (List.getElem?_eq_some_iff.1 h6).1; rwa [ents_len] at this
      rw [ents_at hi] at h6
      simp only [Option.some.injEq, AV.d.injEq, D.agg.injEq, List.cons.injEq, and_true] at h6
      rw [h6.1, h6.2]
      exact ⟨⟨hG, h4, by omega⟩, h7⟩
    · rintro ⟨c, kd, v, h2, h3, h4, h6, h7⟩
      cases h2
      have hi : i < M.length := by have := (List.getElem?_eq_some_iff.1 h6).1; rwa [ents_len] at this
      rw [ents_at hi] at h6
      cases h6
  · rintro ⟨⟨hG, h4, hi⟩, h7⟩
    rw [if_pos hG]
    exact ⟨_, _, _, rfl, pairs_ents, by rw [ents_len]; exact h4, ents_at (by omega), h7⟩
theorem nx_ents {α β : Type} [Inhabited α] [Inhabited β] {fk : α → D} {fv : β → D} {M : List (α × β)} {h G n : Nat} {seen : List Nat} {m : At K} (hh : s.get h = some (itc G n seen)) (hc : s.get G = some (ents fk fv M)) (hn : M.length = n) (hm : AV.mencs h e = false ∧ s.mencs h = false)
    (h0 : (∀ i, i < n → i ∈ seen) → K (eset e d (.tup [.b false])) s)
    (h1 : ∀ i, i < n → i ∉ seen → K (eset e d (.tup [.b true, .d (fk (M.getD i default).1), .d (fv (M.getD i default).2)])) (s.upd h (itc G n (seen ++ [i])))) (hG : G < 3000000000 := by decide) (hH : h < 3000000000 := by decide) : nxP (.it h) d K m e s := by
  refine .inl ⟨G, n, seen, _, hh, hc, ⟨hG, pairs_ents⟩, by rw [ents_len]; exact hn, ⟨hH, hm⟩, h0, fun i kd v hi hs hk => ?_⟩
  rw [ents_at (by omega)] at hk
  simp only [Option.some.injEq, AV.d.injEq, D.agg.injEq, List.cons.injEq, and_true] at hk
  rw [← hk.1, ← hk.2]
  exact h1 i hi hs

section
variable {α β : Type} {gb : Nat} {fk : α → D} {fc : β → List D} {M : List (α × β)}
end
end
end Go.E

namespace Go.E
open Go Go.RowKit Go.Maps
theorem get_ups {g : Nat} {rows : List (List D)} : ∀ {s : Sto} {h : Nat}, (s.ups g rows).get h = (s.get h).map (List.map (AV.ups g rows))
  | [], _ => rfl
  | (k, c) :: r, h => by
    unfold Sto.ups Sto.get
    by_cases hk : k = h
    · rw [if_pos hk, if_pos hk]; rfl
    · rw [if_neg hk, if_neg hk]; exact get_ups
theorem loop_rx {P : Program} {C : CT} {O : Nat → Sch} {tb : Nat} (hC : C.ok P) (hm : P.follows .mixedOrders = true) {c : Code} (ho : okO O c = true) {Q : Kt} {i : At c} {j : At Q} {e : List AV} {s : Sto} {σ : Type} (g : Nat) (R : σ → List (List D)) (E : σ → List (Nat × AV)) (I : σ → Prop) (μ : σ → Nat) (x0 : σ)
    (h0 : I x0) (hw : wk e (setAll e (E x0)) ∧ wkG s (s.ups g (R x0)))
    (round : ∀ x, I x → xW P C O tb c (xS (fun e' s' => ∃ y, (I y ∧ μ y < μ x) ∧ wk e' (setAll e (E y)) ∧ wkG s' (s.ups g (R y))) Q (mk _) (mk _)) (mk _) (mk _) (setAll e (E x)) (s.ups g (R x))) : xL P c Q i j e s :=
  loop_x hC hm ho E (fun x => s.ups g (R x)) I μ x0 h0 hw round

theorem loop_rxu {P : Program} {C : CT} {O : Nat → Sch} {tb : Nat} (hC : C.ok P) (hm : P.follows .mixedOrders = true) {c : Code} (ho : okO O c = true) {Q : Kt} {i : At c} {j : At Q} {e : List AV} {s : Sto} {σ : Type} (g : Nat) (R : σ → List (List D)) (E : σ → List (Nat × AV)) (S : σ → List (Nat × List AV)) (I : σ → Prop) (μ : σ → Nat) (x0 : σ)
    (h0 : I x0) (hw : wk e (setAll e (E x0)) ∧ wkG s (updAll (s.ups g (R x0)) (S x0)))
    (round : ∀ x, I x → xW P C O tb c (xS (fun e' s' => ∃ y, (I y ∧ μ y < μ x) ∧ wk e' (setAll e (E y)) ∧ wkG s' (updAll (s.ups g (R y)) (S y))) Q (mk _) (mk _)) (mk _) (mk _) (setAll e (E x)) (updAll (s.ups g (R x)) (S x))) : xL P c Q i j e s :=
  loop_x hC hm ho E (fun x => updAll (s.ups g (R x)) (S x)) I μ x0 h0 hw round

def xM (n : Nat) (M : List AV → Sto → Prop) (Q : Kt) (_ : At M) (_ : At Q) : Kt
  | .exit k, e, s => if k = n then M e s else Q (.exit k) e s
  | x, e, s => Q x e s
section
variable {n : Nat} {M : List AV → Sto → Prop} {Q : Kt} {i : At M} {j : At Q} {e : List AV} {s : Sto}
theorem m_exit {k : Nat} : xM n M Q i j (.exit k) e s = if k = n then M e s else Q (.exit k) e s := id rfl
theorem qd_M {l : List Oper} {m : At l} {k} : xQd l (xM n M Q i j) m k = xQd l Q (mk _) (mk _) := id rfl
end
theorem loop_c {P : Program} {C : CT} {O : Nat → Sch} {tb : Nat} (hC : C.ok P) (hm : P.follows .mixedOrders = true) {c : Code} (ho : okO O c = true) {Q : Kt} {i : At c} {j : At Q} {e : List AV} {s : Sto} {σ : Type} (n : Nat) (E : σ → List (Nat × AV)) (S : σ → Sto) (I J : σ → Prop) (μ : σ → Nat) (x0 : σ)
    (h0 : I x0) (hw : wk e (setAll e (E x0)) ∧ wkG s (S x0))
    (round : ∀ x, I x → xW P C O tb c (xS (fun e' s' => ∃ y, (I y ∧ μ y < μ x) ∧ wk e' (setAll e (E y)) ∧ wkG s' (S y)) (xM n (fun e' s' => ∃ y, J y ∧ wk e' (setAll e (E y)) ∧ wkG s' (S y)) Q (mk _) (mk _)) (mk _) (mk _)) (mk _) (mk _) (setAll e (E x)) (S x))
    (hQ : ∀ y, J y → Q (.exit n) (setAll e (E y)) (S y)) : xL P c Q i j e s := fun W0 L0 L w a hr => by
  have h := loop_x (i := i) (j := mk _) hC hm ho E S I μ x0 h0 hw round
  refine Code.wpIn_mono (fun x a w ⟨L, e', s', h1, h2⟩ => ?_) (h W0 L0 L w a hr)
  cases x with
  | exit k =>
    rw [m_exit] at h2
    split at h2
    · rename_i hk
      subst hk
      obtain ⟨y, h3, h4⟩ := h2
      exact ⟨L, _, _, h1.weaken (wk_Wk h4.1) (wkG_get h4.2), hQ y h3⟩
    · exact ⟨L, e', s', h1, h2⟩
  | _ => exact ⟨L, e', s', h1, h2⟩
theorem loop_cs {P : Program} {C : CT} {O : Nat → Sch} {tb : Nat} (hC : C.ok P) (hm : P.follows .mixedOrders = true) {c : Code} (ho : okO O c = true) {Q : Kt} {i : At c} {j : At Q} {e : List AV} {s : Sto} {σ : Type} (n : Nat) (E : σ → List (Nat × AV)) (I J : σ → Prop) (μ : σ → Nat) (x0 : σ)
    (h0 : I x0) (hw : wk e (setAll e (E x0)))
    (round : ∀ x, I x → xW P C O tb c (xS (fun e' s' => ∃ y, (I y ∧ μ y < μ x) ∧ wk e' (setAll e (E y)) ∧ wkG s' s) (xM n (fun e' s' => ∃ y, J y ∧ wk e' (setAll e (E y)) ∧ wkG s' s) Q (mk _) (mk _)) (mk _) (mk _)) (mk _) (mk _) (setAll e (E x)) s)
    (hQ : ∀ y, J y → Q (.exit n) (setAll e (E y)) s) : xL P c Q i j e s := fun W0 L0 L w a hr => by
  refine wpIn_loop_ghost (fun k a w => ∃ x, I x ∧ μ x = k ∧ ∃ L, Rel W0 L0 L (setAll e (E x)) s w a) (μ x0) ⟨x0, h0, rfl, L, hr.weaken (wk_Wk hw) (wkS_get (wkS_refl s))⟩ ?_
  rintro k a w ⟨x, hx, rfl, L, hr⟩
  refine Code.wpIn_mono (fun x' a w ⟨L, e', s', h1, h2⟩ => ?_) (pwp_sound hC hm c ho (round x hx) W0 L0 L w a hr)
  cases x' with
  | normal => obtain ⟨y, h3, h4⟩ := h2; exact ⟨μ y, h3.2, y, h3.1, rfl, L, h1.weaken (wk_Wk h4.1) (wkG_get h4.2)⟩
  | exit m =>
    have h2 : xM n (fun e' s' => ∃ y, J y ∧ wk e' (setAll e (E y)) ∧ wkG s' s) Q (mk _) (mk _) (.exit m) e' s' := h2
    by_cases hk : m = n
    · subst hk
      rw [m_exit, if_pos rfl] at h2
      obtain ⟨y, h3, h4⟩ := h2
      exact ⟨L, _, _, h1.weaken (wk_Wk h4.1) (wkG_get h4.2), hQ y h3⟩
    · rw [m_exit, if_neg hk] at h2
      exact ⟨L, e', s', h1, h2⟩
  | _ => exact ⟨L, e', s', h1, h2⟩
theorem loop_cr {P : Program} {C : CT} {O : Nat → Sch} {tb : Nat} (hC : C.ok P) (hm : P.follows .mixedOrders = true) {c : Code} (ho : okO O c = true) {Q : Kt} {i : At c} {j : At Q} {e : List AV} {s : Sto} {σ : Type} (n g : Nat) (R : σ → List (List D)) (E : σ → List (Nat × AV)) (I J : σ → Prop) (μ : σ → Nat) (x0 : σ)
    (h0 : I x0) (hw : wk e (setAll e (E x0)) ∧ wkG s (s.ups g (R x0)))
    (round : ∀ x, I x → xW P C O tb c (xS (fun e' s' => ∃ y, (I y ∧ μ y < μ x) ∧ wk e' (setAll e (E y)) ∧ wkG s' (s.ups g (R y))) (xM n (fun e' s' => ∃ y, J y ∧ wk e' (setAll e (E y)) ∧ wkG s' (s.ups g (R y))) Q (mk _) (mk _)) (mk _) (mk _)) (mk _) (mk _) (setAll e (E x)) (s.ups g (R x)))
    (hQ : ∀ y, J y → Q (.exit n) (setAll e (E y)) (s.ups g (R y))) : xL P c Q i j e s := loop_c hC hm ho n E (fun x => s.ups g (R x)) I J μ x0 h0 hw round hQ
theorem wk_killg {g : Nat} : ∀ {e : List AV}, wk e (e.map (AV.kill g))
  | [] => trivial
  | x :: xs => ⟨by unfold AV.kill; split <;> simp, wk_killg (e := xs)⟩
theorem wk_setn : ∀ {e ys : List AV} {n : Nat}, wk e ys → wk e (ys.set n (e.getD n .any))
  | [], [], _, _ => trivial
  | x :: xs, y :: ys, 0, ⟨_, h2⟩ => ⟨.inr (.inl rfl), h2⟩
  | x :: xs, y :: ys, n + 1, ⟨h1, h2⟩ => ⟨h1, by simpa using wk_setn (n := n) h2⟩
  | [], _ :: _, _, h => h.elim
  | _ :: _, [], _, h => h.elim
theorem xl_kg {P : Program} {c : Code} {Q : Kt} {i : At c} {j : At Q} {e : List AV} {s : Sto} (g n : Nat) (h : xL P c Q (mk _) (mk _) ((e.map (AV.kill g)).set n (e.getD n .any)) s) : xL P c Q i j e s := fun W0 L0 L w a hr =>
  h W0 L0 L w a (hr.weaken (wk_Wk (wk_setn wk_killg)) (wkS_get (wkS_refl s)))
def okUp1 (g el sz : Nat) (rows : List (List D)) : AV → Prop
  | .own g' e' s' r' => g' = g → (e' = el ∧ s' = sz ∧ r' = rows)
  | x => x.men g = false
def okUp (g el sz : Nat) (rows : List (List D)) : List AV → Prop
  | [] => True
  | x :: xs => okUp1 g el sz rows x ∧ okUp g el sz rows xs
def okUpS (g el sz : Nat) (rows : List (List D)) : Sto → Prop
  | [] => True
  | (_, c) :: r => okUp g el sz rows c ∧ okUpS g el sz rows r
theorem okUpS_get {g el sz : Nat} {rows : List (List D)} : ∀ {s : Sto} {h : Nat} {c : List AV}, okUpS g el sz rows s → s.get h = some c → okUp g el sz rows c
  | [], _, _, _, h => by simp [Sto.get] at h
  | (k, x) :: r, h, c, ⟨h1, h2⟩, hc => by
    simp only [Sto.get] at hc
    split at hc
    · cases hc; exact h1
    · exact okUpS_get h2 hc
def gU : Nat := 999999999
def renU (g : Nat) (o : Option Nat) : Option Nat := match o with | none => none | some k => if k = g then some gU else some 0
def renB (g : Nat) (o : Option Nat) : Option Nat := match o with | none => none | some k => if k = gU then some g else some 0
theorem renU_none {g : Nat} {o : Option Nat} : renU g o = none ↔ o = none := by
  cases o with
  | none => simp [renU]
  | some k => simp only [renU]; split <;> simp
theorem reps_mem {L L' : Lay} {w w' : World} (h : (L.mem w).le (L'.mem w')) : ∀ {ds : List D} {us : List Value}, AReps L w (ds.map .d) us → AReps L' w' (ds.map .d) us
  | [], _, k => k
  | d :: ds, _, ⟨u, ut, e, k1, k2⟩ => ⟨u, ut, e, DRep.mono h d u k1, reps_mem h (ds := ds) k2⟩
theorem pcall_ups {P : Program} {f g el sz : Nat} {rows : List (List D)} {ds : List D} {e : List AV} {s : Sto} {R : AV → List (List D) → Prop} {K : AV → List AV → Sto → Prop} {Q : Exit → List AV → Sto → Prop}
    (hg : g ≠ 0 ∧ g < 1000000000) (hgs : s.get g = none) (he : okUp g el sz rows e) (hs : okUpS g el sz rows s)
    (h : pcall P f (.own gU el sz rows :: ds.map .d) (fun r e1 _ => ∃ rows', e1 = [.own gU el sz rows'] ∧ R r rows') (fun _ _ _ => False) [.own gU el sz rows] [(0, [])])
    (hK : ∀ r rows', R r rows' → r.only [] = true ∧ K r (e.map (AV.ups g rows')) (s.ups g rows')) : pcall P f (.own g el sz rows :: ds.map .d) K Q e s := by
  refine ⟨h.1, fun W0 L0 L w a vs hr hav => ?_⟩
  have hTf : ∀ {k : Nat}, k ≠ g → [g].contains k = false := fun {k} hk => by simpa using hk
  have hTn : ∀ {k : Nat}, [g].contains k = false → k ≠ g := fun {k} hk => by simpa using hk
  have h0T : [g].contains 0 = false := hTf hg.1.symm
  have hG0 : gU ≠ 0 := by decide
  have hlk : L.lk g = none := by
    cases h : L.lk g with
    | none => rfl
    | some r => have := (hr.lkb g r (by rw [← hr.lke, h])).1; omega
  let L1 : Lay := { own := fun b => renU g (L.own b), blk := L.blk, hdr := fun k => if k = gU then L.hdr g else L.hdr k, hid := [], rd := none, kp := [], lk := fun _ => none }
  have h01m : (L.mem w).le (L1.mem w) := look_le fun b hb _ => ⟨by simp only [L1, hb, renU], rfl⟩
  obtain ⟨u, ut, hvs, hu, hds⟩ := hav
  have hu0 : u = L.hdr g := hu.1
  have hu1 : ARep L1 w (.own gU el sz rows) u := by
    obtain ⟨k1, xs, q1, q2, q3, q4, q5⟩ := hu
    exact ⟨by simp only [L1, if_true]; exact k1, xs, q1, fun b hb => by simp only [L1, q2 b hb, renU, if_true], q3, q4, DReps.mono h01m _ _ q5⟩
  have hr1 : Rel w L1 L1 [.own gU el sz rows] [(0, [])] w { tmps := #[u], defers := [] } :=
    { slots := ⟨u, [], rfl, hu1, rfl⟩
      hid := ⟨[], rfl, rfl⟩
      mks := ⟨by simp [marks], by simp [marks]⟩
      mkb := by simp [marks]
      kept := fun b o hb => by cases hb
      rdk := fun l hb => by cases hb
      lke := rfl
      lkb := fun g r hg => by cases hg
      lki := fun g g' r r' hg => by cases hg
      rd := .inl rfl
      objs := fun k c hk => by
        simp only [Sto.get] at hk
        split at hk
        · rename_i e0; subst e0; cases hk; exact ⟨fun _ => rfl, fun h => absurd rfl h⟩
        · cases hk
      old := fun _ _ _ => ⟨rfl, rfl⟩
      size := Nat.le_refl _
      own_lt := fun b k hb => by
        simp only [L1] at hb
        cases ho : L.own b with
        | none => rw [ho] at hb; cases hb
        | some g' => exact hr.own_lt b g' ho
      os := rfl, tape := rfl, output := rfl }
  refine (h.2 w L1 L1 w _ vs hr1 (by rw [hvs]; exact ⟨u, ut, rfl, hu1, reps_mem h01m hds⟩)).mono fun en w2 hen => ?_
  cases en with
  | panicked c => obtain ⟨_, _, _, _, hq⟩ := hen; exact hq.elim
  | outgrown => exact hen.elim
  | returned v =>
  obtain ⟨L2, e1, s1, r, hr2, hrv, ⟨rows', rfl, hR⟩⟩ := hen
  obtain ⟨q1, q3⟩ := hK r rows' hR
  let L3 : Lay := { L with
    own := fun b => if b < w.heap.size ∧ L.own b ≠ some g then L.own b else renB g (L2.own b)
    hdr := fun k => if k = g then L2.hdr gU else L.hdr k }
  have hold : ∀ b, b < w.heap.size → L.own b ≠ some g → L2.own b = renU g (L.own b) ∧ w2.heap[b]? = w.heap[b]? := fun b hb hk => by
    refine hr2.old b hb ?_
    simp only [L1]
    cases ho : L.own b with
    | none => exact .inl rfl
    | some k => right; simp only [renU]; rw [if_neg (fun e => hk (by rw [ho, e]))]
  have hclean : ∀ b, b < w.heap.size → L.own b ≠ some g → L2.own b ≠ some gU := fun b hb hn he => by
    rw [(hold b hb hn).1] at he
    cases ho : L.own b with
    | none => rw [ho] at he; cases he
    | some g' =>
      rw [ho] at he; simp only [renU] at he
      rw [if_neg (fun e => hn (by rw [ho, e]))] at he
      exact hG0 (Option.some.inj he).symm
  have hown : ∀ b, L2.own b = some gU → L3.own b = some g := fun b he => by
    simp only [L3]
    split
    · rename_i hc; exact absurd he (hclean b hc.1 hc.2)
    · rw [he]; simp [renB]
  have h23m : (L2.mem w2).le (L3.mem w2) := look_le fun b hb _ => ⟨by
    simp only [L3]
    split
    · rename_i hc
      have := (hold b hc.1 hc.2).1
      rw [hb] at this
      exact renU_none.1 this.symm
    · rw [hb]; rfl, rfl⟩
  have h23 : Onto [] L2 w2 L3 w2 := ⟨h23m, fun g e s rows u hg => (by cases hg), fun g hg => (by cases hg), fun g hg => (by cases hg), fun g hg => (by cases hg)⟩
  have hne : ∀ {b : Nat}, (∀ k, L.own b = some k → [g].contains k = false) → L.own b ≠ some g := fun h e => hTn (h g e) rfl
  have hheap' : ∀ b, b < w.heap.size → L.own b ≠ some g → w2.heap[b]? = w.heap[b]? ∧ L3.own b = L.own b := fun b hb hn => ⟨(hold b hb hn).2, by simp only [L3]; rw [if_pos ⟨hb, hn⟩]⟩
  have hheap : ∀ b, b < w.heap.size → (∀ k, L.own b = some k → [g].contains k = false) → w2.heap[b]? = w.heap[b]? ∧ L3.own b = L.own b := fun b hb hn => hheap' b hb (hne hn)
  have hst : Stays [g] [] L w L3 w2 :=
    { heap := hheap
      blk := fun k hk => rfl
      hdr := fun k hk => by simp only [L3]; rw [if_neg (hTn hk)]
      lk := rfl
      E := fun x hx => by cases hx }
  have h0 : ∀ b, L.own b = some 0 → L.own b ≠ some g := fun b hb e => by rw [hb] at e; exact hg.1 (Option.some.inj e).symm
  have hnew : ARep L3 w2 (.own g el sz rows') (L.hdr g) := by
    obtain ⟨u', ut, e1, k1, k2⟩ := hr2.slots
    have e1 : [u] = u' :: ut := e1
    obtain ⟨rfl, rfl⟩ := List.cons.inj e1
    obtain ⟨k1, xs, q1, q2, q3, q4, q5⟩ := k1
    rw [← hu0]
    exact ⟨by simp only [L3, if_true]; exact k1, xs, q1, fun b hb => hown b (q2 b hb), q3, q4, DReps.mono h23m _ _ q5⟩
  have ups1 : ∀ (x : AV) (u : Value), okUp1 g el sz rows x → ARep L w x u → ARep L3 w2 (AV.ups g rows' x) u := fun x u hx hxr => by
    cases x with
    | own g' e' s' r' =>
      rw [ups_own]
      by_cases hgg : g' = g
      · obtain ⟨rfl, rfl, rfl⟩ := hx hgg
        subst hgg
        rw [if_pos rfl, show u = L.hdr g' from hxr.1]
        exact hnew
      · rw [if_neg hgg]
        exact AV.stay_rep hst _ u (.inl (hTf hgg)) hxr
    | _ => exact AV.stay_rep hst _ u (AV.men_stay _ hx) hxr
  have upsl : ∀ (xs : List AV) (us : List Value), okUp g el sz rows xs → AReps L w xs us → AReps L3 w2 (xs.map (AV.ups g rows')) us := by
    intro xs
    induction xs with
    | nil => intro us _ h; exact h
    | cons x xs ih => intro us ⟨h1, h2⟩ ⟨u, ut, e1, k1, k2⟩; exact ⟨u, ut, e1, ups1 x u h1 k1, ih ut h2 k2⟩
  refine ⟨L3, _, _, r, ?_, AV.only_rep h23 _ _ q1 hrv, q3⟩
  exact
    { slots := upsl _ _ he hr.slots
      hid := hr.hid
      mks := ⟨hr.mks.1, fun r hr' => by
        obtain ⟨q1, q2⟩ := hr.mks.2 r hr'
        have := hheap' r (lt_of_heap q1) (h0 r q2)
        exact ⟨this.1.trans q1, this.2.trans q2⟩⟩
      mkb := hr.mkb
      kept := fun b o hb => by
        obtain ⟨⟨o', q1, q3⟩, q2⟩ := hr.kept b o hb
        have := hheap' b (lt_of_heap q1) (h0 b q2)
        exact ⟨⟨o', this.1.trans q1, q3⟩, this.2.trans q2⟩
      rdk := hr.rdk
      lke := hr.lke
      lkb := fun g r hg => ⟨(hr.lkb g r hg).1, (hr.lkb g r hg).2.1, Nat.lt_of_lt_of_le (hr.lkb g r hg).2.2 hr2.size⟩
      lki := hr.lki
      rd := hr.rd
      objs := fun k c hk => by
        rw [get_ups] at hk
        obtain ⟨c0, hc0, rfl⟩ := Option.map_eq_some_iff.1 hk
        have hkg : k ≠ g := fun e => by subst e; rw [hgs] at hc0; cases hc0
        have hok := okUpS_get hs hc0
        refine ⟨fun h => upsl _ _ hok ((hr.objs k c0 hc0).1 h), fun hk0 => ?_⟩
        obtain ⟨ws, k1, k2⟩ := (hr.objs k c0 hc0).2 hk0
        exact ⟨ws, k1.congr rfl (fun _ => hst.blk k (hTf hkg)) (fun b hb ho => hheap b hb fun g' hg' => by
          rcases ho with ho | ho <;> rw [ho] at hg' <;> cases hg'
          · exact hTf hkg
          · exact h0T), upsl _ _ hok k2⟩
      old := fun b hb h1 => by
        have q := hr.old b hb h1
        have hn : L.own b ≠ some g := fun e => by
          rcases h1 with h1 | h1 <;> rw [q.1, h1] at e
          · cases e
          · exact hg.1 (Option.some.inj e).symm
        have := hheap' b (Nat.lt_of_lt_of_le hb hr.size) hn
        exact ⟨this.2.trans q.1, this.1.trans q.2⟩
      size := Nat.le_trans hr.size hr2.size
      own_lt := fun b k hb => by
        simp only [L3] at hb
        split at hb
        · exact Nat.lt_of_lt_of_le (hr.own_lt b k hb) hr2.size
        · cases ho : L2.own b with
          | none => rw [ho] at hb; cases hb
          | some g' => exact hr2.own_lt b g' ho
      os := hr2.os.trans hr.os
      tape := hr2.tape.trans hr.tape
      output := hr2.output.trans hr.output }

def upOk (g el sz : Nat) (rows : List (List D)) (e : List AV) (s : Sto) : Prop := (g ≠ 0 ∧ g < 1000000000) ∧ s.get g = none ∧ okUp g el sz rows e ∧ okUpS g el sz rows s
def PFu (P : Program) (f el sz : Nat) (rows : List (List D)) (ds : List D) (R : AV → List (List D) → Prop) : Prop :=
  pcall P f (.own gU el sz rows :: ds.map .d) (fun r e1 _ => ∃ rows', e1 = [.own gU el sz rows'] ∧ R r rows') (fun _ _ _ => False) [.own gU el sz rows] [(0, [])]
theorem PFu_start {P : Program} {C : CT} {O : Nat → Sch} {f el sz : Nat} {rows : List (List D)} {ds : List D} {R : AV → List (List D) → Prop} {fn : Func} {c : Code} {n : Nat} {rs : Array ResultVar} (hC : C.ok P) (hm : P.follows .mixedOrders = true) (ho : (fn.body.map (okO O)) = some true) (hf : P.funcs[f]? = some fn) (hc : callable P f = true) (hb : fn.body = some c) (hn : fn.ntmps = n) (hrs : fn.results = rs)
    (h : xW P C O 0 c (xI P 1 0 rs.toList (fun r e1 _ => ∃ rows', e1 = [.own gU el sz rows'] ∧ R r rows') (fun _ _ _ => False) (mk _) (mk _) (mk _)) (mk _) (mk _) ((.own gU el sz rows :: ds.map .d) ++ List.replicate (n - (ds.length + 1)) .any) [(0, [.own gU el sz rows])]) : PFu P f el sz rows ds R :=
  pcall_start hC hm ho hf hc hb hn hrs (by simpa [Sto.push, Sto.get, Sto.upd, oK, Sto.hidn] using h)
theorem PFu.mono {P : Program} {f el sz : Nat} {rows : List (List D)} {ds : List D} {R R' : AV → List (List D) → Prop} (h : PFu P f el sz rows ds R) (hR : ∀ r x, R r x → R' r x) : PFu P f el sz rows ds R' :=
  ⟨h.1, fun W0 L0 L w a vs h1 h2 => (h.2 W0 L0 L w a vs h1 h2).mono fun en w' hen => by
    cases en with
    | returned v => obtain ⟨L', e', s', r, k1, k2, rows', k3, k4⟩ := hen; exact ⟨L', e', s', r, k1, k2, rows', k3, hR _ _ k4⟩
    | panicked c => exact hen
    | outgrown => exact hen⟩
def entU {α : Type} (el sz : Nat) (P1 : α → List (List D)) (A : α → List D) (pre : α → Prop) (post : α → AV → List (List D) → Prop) (args : List AV) (K : AV → List AV → Sto → Prop) (e : List AV) (s : Sto) : Prop :=
  ∃ a g, args = .own g el sz (P1 a) :: (A a).map .d ∧ pre a ∧ upOk g el sz (P1 a) e s ∧ ∀ r rows', post a r rows' → K r (e.map (AV.ups g rows')) (s.ups g rows')
theorem entU_ok {α : Type} {P : Program} {f el sz : Nat} {P1 : α → List (List D)} {A : α → List D} {pre : α → Prop} {post : α → AV → List (List D) → Prop} (h : ∀ a, pre a → PFu P f el sz (P1 a) (A a) (post a)) (hp : ∀ a r x, post a r x → ∃ d, r = .d d) {args : List AV} {K : AV → List AV → Sto → Prop} {Q : Kt} {e : List AV} {s : Sto}
    (he : entU el sz P1 A pre post args K e s) : pcall P f args K Q e s := by
  obtain ⟨a, g, rfl, h1, ⟨h2, h3, h4, h5⟩, h6⟩ := he
  exact pcall_ups h2 h3 h4 h5 (h a h1) fun r rows' k => ⟨by obtain ⟨d, hd⟩ := hp a r rows' k; rw [hd]; rfl, h6 r rows' k⟩
theorem own_args {g g' el sz : Nat} {r r' : List (List D)} {x y : List D} (h : AV.own g el sz r :: x.map .d = .own g' el sz r' :: y.map .d) : g = g' ∧ r = r' ∧ x = y := by
  obtain ⟨h5, h6⟩ := List.cons.inj h
  simp only [AV.own.injEq, true_and] at h5
  exact ⟨h5.1, h5.2, (List.map_inj_right (fun a b h => by cases h; rfl)).1 h6⟩
theorem entU_iff {α : Type} {el sz : Nat} {P1 : α → List (List D)} {A : α → List D} {pre : α → Prop} {post : α → AV → List (List D) → Prop} {K : AV → List AV → Sto → Prop} {e : List AV} {s : Sto} {args : List AV} {g : Nat} (a : α) (hinj : ∀ b, P1 b = P1 a → A b = A a → b = a) (ha : args = .own g el sz (P1 a) :: (A a).map .d) :
    entU el sz P1 A pre post args K e s = (pre a ∧ upOk g el sz (P1 a) e s ∧ ∀ r rows', post a r rows' → K r (e.map (AV.ups g rows')) (s.ups g rows')) := by
  subst ha
  apply propext
  constructor
  · rintro ⟨b, g', h1, h2, h3, h4⟩
    obtain ⟨rfl, h5, h6⟩ := own_args h1
    obtain rfl := hinj b h5.symm h6.symm
    exact ⟨h2, h3, h4⟩
  · rintro ⟨h2, h3, h4⟩
    exact ⟨a, g, rfl, h2, h3, h4⟩
def entUF {α : Type} (el sz : Nat) (P1 : α → List (List D)) (A : α → List D) (pre : α → Prop) (post : α → AV → List (List D) → Prop) (args : List AV) (K : AV → List AV → Sto → Prop) (e : List AV) (s : Sto) : Prop :=
  ∃ a g, args = .own g el sz (P1 a) :: (A a).map .d ∧ pre a ∧ upOk g el sz (P1 a) e s ∧ ∀ r rows', post a r rows' → K r ((e.map (AV.ups g rows')).map (AV.frz g el sz)) ((s.ups g rows').frz g el sz)
theorem pcall_frz {P : Program} {f g el sz : Nat} {args : List AV} {K : AV → List AV → Sto → Prop} {Q : Exit → List AV → Sto → Prop} {e : List AV} {s : Sto} (hg : g ≠ 0)
    (h : pcall P f args (fun r e s => s.get g = none ∧ (∃ d, r = .d d) ∧ K r (e.map (AV.frz g el sz)) (s.frz g el sz)) Q e s) : pcall P f args K Q e s :=
  ⟨h.1, fun W0 L0 L w a vs h1 h2 => (h.2 W0 L0 L w a vs h1 h2).mono fun en w' hen => by
    cases en with
    | returned v =>
      obtain ⟨L', e', s', r, k1, k2, k3, k4, k5⟩ := hen
      obtain ⟨L2, q1, q2, _⟩ := frz_rel (el := el) (sz := sz) k1 hg k3
      obtain ⟨d, rfl⟩ := k4
      obtain ⟨u1, ut, e1, k6, _⟩ := q2 [.d d] [v] ⟨_, _, rfl, k2, rfl⟩
      obtain ⟨rfl, rfl⟩ := List.cons.inj e1
      exact ⟨L2, _, _, _, q1, by simpa [AV.frz, AV.men] using k6, k5⟩
    | panicked c => exact hen
    | outgrown => exact hen⟩
theorem entUF_ok {α : Type} {P : Program} {f el sz : Nat} {P1 : α → List (List D)} {A : α → List D} {pre : α → Prop} {post : α → AV → List (List D) → Prop} (h : ∀ a, pre a → PFu P f el sz (P1 a) (A a) (post a)) (hp : ∀ a r x, post a r x → ∃ d, r = .d d) {args : List AV} {K : AV → List AV → Sto → Prop} {Q : Kt} {e : List AV} {s : Sto}
    (he : entUF el sz P1 A pre post args K e s) : pcall P f args K Q e s := by
  obtain ⟨a, g, rfl, h1, ⟨h2, h3, h4, h5⟩, h6⟩ := he
  refine pcall_frz (el := el) (sz := sz) h2.1 (pcall_ups h2 h3 h4 h5 (h a h1) fun r rows' k => ⟨by obtain ⟨d, hd⟩ := hp a r rows' k; rw [hd]; rfl, ?_, hp a r rows' k, h6 r rows' k⟩)
  rw [get_ups, h3]; rfl
theorem entUF_iff {α : Type} {el sz : Nat} {P1 : α → List (List D)} {A : α → List D} {pre : α → Prop} {post : α → AV → List (List D) → Prop} {K : AV → List AV → Sto → Prop} {e : List AV} {s : Sto} {args : List AV} {g : Nat} (a : α) (hinj : ∀ b, P1 b = P1 a → A b = A a → b = a) (ha : args = .own g el sz (P1 a) :: (A a).map .d) :
    entUF el sz P1 A pre post args K e s = (pre a ∧ upOk g el sz (P1 a) e s ∧ ∀ r rows', post a r rows' → K r ((e.map (AV.ups g rows')).map (AV.frz g el sz)) ((s.ups g rows').frz g el sz)) := by
  subst ha
  apply propext
  constructor
  · rintro ⟨b, g', h1, h2, h3, h4⟩
    obtain ⟨rfl, h5, h6⟩ := own_args h1
    obtain rfl := hinj b h5.symm h6.symm
    exact ⟨h2, h3, h4⟩
  · rintro ⟨h2, h3, h4⟩
    exact ⟨a, g, rfl, h2, h3, h4⟩
section
variable {g el sz : Nat} {rows : List (List D)}
theorem oku_nil : okUp g el sz rows [] = True := rfl
theorem oku_cons {x : AV} {xs : List AV} : okUp g el sz rows (x :: xs) = (okUp1 g el sz rows x ∧ okUp g el sz rows xs) := rfl
theorem okuS_nil : okUpS g el sz rows [] = True := rfl
theorem okuS_cons {h : Nat} {c : List AV} {r : Sto} : okUpS g el sz rows ((h, c) :: r) = (okUp g el sz rows c ∧ okUpS g el sz rows r) := rfl
theorem oku_own {g' e' s' : Nat} {r' : List (List D)} : okUp1 g el sz rows (.own g' e' s' r') = (g' = g → (e' = el ∧ s' = sz ∧ r' = rows)) := rfl
theorem oku_any : okUp1 g el sz rows .any = True := propext ⟨fun _ => trivial, fun _ => rfl⟩
theorem oku_d {x : D} : okUp1 g el sz rows (.d x) = True := propext ⟨fun _ => trivial, fun _ => rfl⟩
theorem oku_eref {a b c i o : Nat} {r : List (List D)} : okUp1 g el sz rows (.eref a b c r i o) = ((AV.eref a b c r i o).men g = false) := rfl
theorem oku_ref {a b : Nat} : okUp1 g el sz rows (.ref a b) = ((AV.ref a b).men g = false) := rfl
theorem oku_tup {xs : List AV} : okUp1 g el sz rows (.tup xs) = ((AV.tup xs).men g = false) := rfl
theorem oku_agg {xs : List AV} : okUp1 g el sz rows (.agg xs) = ((AV.agg xs).men g = false) := rfl
theorem oku_clo {f : Fn} {x y : List AV} : okUp1 g el sz rows (.clo f x y) = ((AV.clo f x y).men g = false) := rfl
theorem oku_iface {t : TypeId} {x : AV} : okUp1 g el sz rows (.iface t x) = ((AV.iface t x).men g = false) := rfl
theorem oku_mp {a : Nat} : okUp1 g el sz rows (.mp a) = ((AV.mp a).men g = false) := rfl
theorem oku_bx {a b c : Nat} : okUp1 g el sz rows (.bx a b c) = ((AV.bx a b c).men g = false) := rfl
theorem oku_it {a : Nat} : okUp1 g el sz rows (.it a) = ((AV.it a).men g = false) := rfl
theorem ups_eref {h a b c i o : Nat} {r : List (List D)} : AV.ups g rows (.eref a b c r i o) = .eref a b c r i o := rfl
theorem ups_tup {xs : List AV} : AV.ups g rows (.tup xs) = .tup xs := rfl
theorem ups_agg {xs : List AV} : AV.ups g rows (.agg xs) = .agg xs := rfl
theorem ups_iface {t : TypeId} {x : AV} : AV.ups g rows (.iface t x) = .iface t x := rfl
theorem ups_mp {a : Nat} : AV.ups g rows (.mp a) = .mp a := rfl
theorem ups_bx {a b c : Nat} : AV.ups g rows (.bx a b c) = .bx a b c := rfl
theorem ups_it {a : Nat} : AV.ups g rows (.it a) = .it a := rfl
end
end Go.E

namespace Go.E
section
variable {α : Type} [Inhabited α]
def swp (l : List α) (i j : Nat) : List α := (l.set i (l.getD j default)).set j (l.getD i default)
theorem swp_len {l : List α} {i j : Nat} : (swp l i j).length = l.length := by simp [swp]
theorem getD_set {l : List α} {i k : Nat} {x : α} (h : i < l.length) : (l.set i x).getD k default = if k = i then x else l.getD k default := by
  by_cases hk : k = i
  · subst hk; simp [List.getD, h]
  · rw [if_neg hk]; simp [List.getD, List.getElem?_set_ne (Ne.symm hk)]
theorem swp_at {l : List α} {i j k : Nat} (hi : i < l.length) (hj : j < l.length) : (swp l i j).getD k default = if k = j then l.getD i default else if k = i then l.getD j default else l.getD k default := by
  unfold swp
  rw [getD_set (by simpa using hj), getD_set hi]
theorem getD_el {l : List α} {i : Nat} (h : i < l.length) : l.getD i default = l[i] := by simp [List.getD, List.getElem?_eq_getElem h]
theorem swp_perm {l : List α} {i j : Nat} (hi : i < l.length) (hj : j < l.length) : (swp l i j).Perm l := by
  unfold swp
  rw [getD_el hi, getD_el hj]
  by_cases hij : i = j
  · subst hij; simp
  · have := List.set_set_perm hi hj
    exact this
inductive Swp (a b : Nat) : List α → List α → Prop
  | refl (l : List α) : Swp a b l l
  | step {l m : List α} (i j : Nat) : Swp a b l m → (a ≤ i ∧ i < b) → (a ≤ j ∧ j < b) → b ≤ l.length → Swp a b l (swp m i j)
theorem Swp.len {a b : Nat} {l m : List α} (h : Swp a b l m) : m.length = l.length := by
  induction h with
  | refl => rfl
  | step i j _ _ _ _ ih => rw [swp_len, ih]
theorem Swp.perm {a b : Nat} {l m : List α} (h : Swp a b l m) : m.Perm l := by
  induction h with
  | refl => exact .refl _
  | step i j h1 h2 h3 h4 ih => exact (swp_perm (by rw [h1.len]; omega) (by rw [h1.len]; omega)).trans ih
theorem Swp.out {a b : Nat} {l m : List α} (h : Swp a b l m) {k : Nat} (hk : k < a ∨ b ≤ k) : m.getD k default = l.getD k default := by
  induction h with
  | refl => rfl
  | step i j h1 h2 h3 h4 ih => rw [swp_at (by rw [h1.len]; omega) (by rw [h1.len]; omega), if_neg (by omega), if_neg (by omega), ih]
theorem Swp.all {a b : Nat} {l m : List α} (h : Swp a b l m) {p : α → Prop} (hp : ∀ k, a ≤ k → k < b → p (l.getD k default)) : ∀ k, a ≤ k → k < b → p (m.getD k default) := by
  induction h with
  | refl => exact hp
  | step i j h1 h2 h3 h4 ih =>
    intro k k1 k2
    rw [swp_at (by rw [h1.len]; omega) (by rw [h1.len]; omega)]
    split
    · exact ih i h2.1 h2.2
    · split
      · exact ih j h3.1 h3.2
      · exact ih k k1 k2
theorem Swp.trans {a b : Nat} {l m n : List α} (h : Swp a b l m) (k : Swp a b m n) : Swp a b l n := by
  induction k with
  | refl => exact h
  | step i j h1 h2 h3 h4 ih => exact .step i j ih h2 h3 (by rw [← h.len]; exact h4)
theorem Swp.mono {a b a' b' : Nat} {l m : List α} (h : Swp a b l m) (ha : a' ≤ a) (hb : b ≤ b') (hl : b' ≤ l.length) : Swp a' b' l m := by
  induction h with
  | refl => exact .refl _
  | step i j _ h2 h3 _ ih => exact .step i j ih (by omega) (by omega) hl
theorem Swp.one {a b : Nat} {l : List α} (i j : Nat) (h2 : a ≤ i ∧ i < b) (h3 : a ≤ j ∧ j < b) (h4 : b ≤ l.length) : Swp a b l (swp l i j) := .step i j (.refl l) h2 h3 h4

variable (ky : α → Int)
def SrtI (a b : Nat) (l : List α) : Prop := ∀ p q, a ≤ p → p < q → q < b → ky (l.getD p default) ≤ ky (l.getD q default)
def InsI (a i j : Nat) (l : List α) : Prop := (∀ p q, a ≤ p → p < q → q ≤ i → p ≠ j → q ≠ j → ky (l.getD p default) ≤ ky (l.getD q default)) ∧ ∀ q, j < q → q ≤ i → ky (l.getD j default) ≤ ky (l.getD q default)
variable {ky}
theorem SrtI.one {a b : Nat} {l : List α} (h : b ≤ a + 1) : SrtI ky a b l := fun p q _ _ _ => by omega
theorem InsI.top {a i : Nat} {l : List α} (h : SrtI ky a i l) : InsI ky a i i l := ⟨fun p q h1 h2 h3 _ h5 => h p q h1 h2 (by omega), fun q h1 h2 => by omega⟩
theorem InsI.step {a i j : Nat} {l : List α} (h : InsI ky a i j l) (haj : a < j) (hji : j ≤ i) (hi : i < l.length) (hlt : ky (l.getD j default) < ky (l.getD (j - 1) default)) : InsI ky a i (j - 1) (swp l j (j - 1)) := by
  have hat := fun k => swp_at (l := l) (i := j) (j := j - 1) (k := k) (by omega) (by omega)
  refine ⟨fun p q h1 h2 h3 h4 h5 => ?_, fun q h1 h2 => ?_⟩
  · rw [hat, hat, if_neg h4, if_neg h5]
    by_cases e1 : p = j
    · rw [if_pos e1, if_neg (by omega)]
      exact h.1 (j - 1) q (by omega) (by omega) h3 (by omega) (by omega)
    · rw [if_neg e1]
      by_cases e2 : q = j
      · rw [if_pos e2]
        exact h.1 p (j - 1) h1 (by omega) (by omega) e1 (by omega)
      · rw [if_neg e2]
        exact h.1 p q h1 h2 h3 e1 e2
  · rw [hat, hat, if_pos rfl, if_neg (by omega)]
    by_cases e2 : q = j
    · rw [if_pos e2]; omega
    · rw [if_neg e2]; exact h.2 q (by omega) h2
theorem InsI.done {a i j : Nat} {l : List α} (h : InsI ky a i j l) (hji : j ≤ i) (haj : a ≤ j) (hd : j = a ∨ ¬ ky (l.getD j default) < ky (l.getD (j - 1) default)) : SrtI ky a (i + 1) l := fun p q h1 h2 h3 => by
  by_cases e1 : p = j
  · rw [e1]; exact h.2 q (by omega) (by omega)
  · by_cases e2 : q = j
    · rw [e2]
      rcases hd with hd | hd
      · omega
      · by_cases e3 : p = j - 1
        · rw [e3]; omega
        · have := h.1 p (j - 1) h1 (by omega) (by omega) e1 (by omega)
          omega
    · exact h.1 p q h1 h2 (by omega) e1 e2
theorem SrtI.ext {a i : Nat} {l : List α} (h : SrtI ky a i l) (hi : a + 1 ≤ i) (hc : ¬ ky (l.getD i default) < ky (l.getD (i - 1) default)) : SrtI ky a (i + 1) l := fun p q p1 p2 p3 => by
  by_cases e : q = i
  · subst e
    by_cases f : p = q - 1
    · rw [f]; omega
    · have := h p (q - 1) p1 (by omega) (by omega); omega
  · exact h p q p1 p2 (by omega)
def PrtI (ky : α → Int) (a b i j : Nat) (l : List α) : Prop := (a + 1 ≤ i ∧ i ≤ j + 1 ∧ j < b) ∧ (∀ p, a < p → p < i → ky (l.getD p default) < ky (l.getD a default)) ∧ ∀ q, j < q → q < b → ky (l.getD a default) ≤ ky (l.getD q default)
theorem PrtI.start {a b : Nat} {l : List α} (h : a < b) : PrtI ky a b (a + 1) (b - 1) l := ⟨⟨by omega, by omega, by omega⟩, fun p h1 h2 => by omega, fun q h1 h2 => by omega⟩
theorem PrtI.up {a b i j : Nat} {l : List α} (h : PrtI ky a b i j l) (hij : i ≤ j) (hlt : ky (l.getD i default) < ky (l.getD a default)) : PrtI ky a b (i + 1) j l := ⟨⟨by have := h.1; omega, by omega, h.1.2.2⟩, fun p h1 h2 => by
  by_cases e : p = i
  · rw [e]; exact hlt
  · exact h.2.1 p h1 (by omega), h.2.2⟩
theorem PrtI.down {a b i j : Nat} {l : List α} (h : PrtI ky a b i j l) (hij : i ≤ j) (hlt : ¬ ky (l.getD j default) < ky (l.getD a default)) : PrtI ky a b i (j - 1) l := ⟨⟨h.1.1, by omega, by have := h.1; omega⟩, h.2.1, fun q h1 h2 => by
  by_cases e : q = j
  · rw [e]; omega
  · exact h.2.2 q (by omega) h2⟩
theorem PrtI.swap {a b i j : Nat} {l : List α} (h : PrtI ky a b i j l) (hij : i < j) (hb : b ≤ l.length) (h1 : ¬ ky (l.getD i default) < ky (l.getD a default)) (h2 : ky (l.getD j default) < ky (l.getD a default)) : PrtI ky a b (i + 1) (j - 1) (swp l i j) := by
  have hh := h.1
  have hat := fun k => swp_at (l := l) (i := i) (j := j) (k := k) (by omega) (by omega)
  refine ⟨⟨by omega, by omega, by omega⟩, fun p p1 p2 => ?_, fun q q1 q2 => ?_⟩
  · rw [hat, hat, if_neg (show p ≠ j by omega), if_neg (show a ≠ j by omega), if_neg (show a ≠ i by omega)]
    split
    · exact h2
    · exact h.2.1 p p1 (by omega)
  · rw [hat, hat, if_neg (show a ≠ j by omega), if_neg (show a ≠ i by omega)]
    split
    · omega
    · rw [if_neg (by omega)]; exact h.2.2 q (by omega) q2
def Prt (ky : α → Int) (a b m : Nat) (l : List α) : Prop := (a ≤ m ∧ m < b) ∧ (∀ p, a ≤ p → p < m → ky (l.getD p default) ≤ ky (l.getD m default)) ∧ ∀ q, m < q → q < b → ky (l.getD m default) ≤ ky (l.getD q default)
theorem PrtI.done {a b i j : Nat} {l : List α} (h : PrtI ky a b i j l) (hij : j < i) (hb : b ≤ l.length) : Prt ky a b j (swp l j a) := by
  have hh := h.1
  have hat := fun k => swp_at (l := l) (i := j) (j := a) (k := k) (by omega) (by omega)
  refine ⟨⟨by omega, by omega⟩, fun p p1 p2 => ?_, fun q q1 q2 => ?_⟩
  · rw [hat, hat]
    by_cases e : p = a
    · rw [if_pos e]
      by_cases e2 : j = a
      · rw [if_pos e2]; exact Int.le_refl _
      · rw [if_neg e2, if_pos rfl]
        exact Int.le_of_lt (h.2.1 j (by omega) (by omega))
    · rw [if_neg e, if_neg (by omega)]
      by_cases e2 : j = a
      · omega
      · rw [if_neg e2, if_pos rfl]
        exact Int.le_of_lt (h.2.1 p (by omega) (by omega))
  · rw [hat, hat, if_neg (show q ≠ a by omega), if_neg (show q ≠ j by omega)]
    have := h.2.2 q q1 q2
    by_cases e2 : j = a
    · rw [if_pos e2, e2]; exact this
    · rw [if_neg e2, if_pos rfl]; exact this
theorem prt_join {a b m : Nat} {l l' : List α} (h : Prt ky a b m l) (hs : Swp a m l l') (hm : m ≤ l.length) : Prt ky a b m l' :=
  ⟨h.1, fun p p1 p2 => by
    rw [hs.out (.inr (Nat.le_refl m))]
    exact hs.all (p := fun x => ky x ≤ ky (l.getD m default)) (fun k k1 k2 => h.2.1 k k1 k2) p p1 p2, fun q q1 q2 => by
    rw [hs.out (.inr (Nat.le_refl m)), hs.out (.inr (by omega))]; exact h.2.2 q q1 q2⟩
theorem prt_join' {a b m : Nat} {l l' : List α} (h : Prt ky a b m l) (hs : Swp (m + 1) b l l') : Prt ky a b m l' :=
  ⟨h.1, fun p p1 p2 => by rw [hs.out (.inl (by omega)), hs.out (.inl (by omega))]; exact h.2.1 p p1 p2, fun q q1 q2 => by
    rw [hs.out (.inl (show m < m + 1 by omega))]
    exact hs.all (p := fun x => ky (l.getD m default) ≤ ky x) (fun k k1 k2 => h.2.2 k (by omega) k2) q (by omega) q2⟩
def OutI (ky : α → Int) (A B a b : Nat) (l : List α) : Prop := ∀ p q, A ≤ p → p < q → q < B → (p < a ∨ b ≤ q) → ky (l.getD p default) ≤ ky (l.getD q default)
theorem OutI.start {A B : Nat} {l : List α} : OutI ky A B A B l := fun p q h1 h2 h3 h4 => by omega
theorem OutI.swp {A B a b : Nat} {l l' : List α} (h : OutI ky A B a b l) (hs : Swp a b l l') (hA : A ≤ a) (hB : b ≤ B) : OutI ky A B a b l' := fun p q h1 h2 h3 h4 => by
  rcases h4 with h4 | h4
  · rw [hs.out (.inl h4)]
    by_cases e : a ≤ q ∧ q < b
    · exact hs.all (p := fun x => ky (l.getD p default) ≤ ky x) (fun k k1 k2 => h p k h1 (by omega) (by omega) (.inl h4)) q e.1 e.2
    · rw [hs.out (by omega)]; exact h p q h1 h2 h3 (.inl h4)
  · rw [hs.out (.inr h4)]
    by_cases e : a ≤ p ∧ p < b
    · exact hs.all (p := fun x => ky x ≤ ky (l.getD q default)) (fun k k1 k2 => h k q (by omega) (by omega) h3 (.inr h4)) p e.1 e.2
    · rw [hs.out (by omega)]; exact h p q h1 h2 h3 (.inr h4)
theorem OutI.left {A B a b m : Nat} {l : List α} (h : OutI ky A B a b l) (hA : A ≤ a) (hB : b ≤ B) (hp : Prt ky a b m l) (hs : SrtI ky a m l) : OutI ky A B (m + 1) b l := fun p q h1 h2 h3 h4 => by
  have hm := hp.1
  by_cases e : p < a ∨ b ≤ q
  · exact h p q h1 h2 h3 e
  · rcases h4 with h4 | h4
    · rcases Nat.lt_trichotomy q m with f | f | f
      · exact hs p q (by omega) h2 f
      · subst f; exact hp.2.1 p (by omega) h2
      · by_cases g : p = m
        · subst g; exact hp.2.2 q f (by omega)
        · exact Int.le_trans (hp.2.1 p (by omega) (by omega)) (hp.2.2 q f (by omega))
    · omega
theorem OutI.right {A B a b m : Nat} {l : List α} (h : OutI ky A B a b l) (hA : A ≤ a) (hB : b ≤ B) (hp : Prt ky a b m l) (hs : SrtI ky (m + 1) b l) : OutI ky A B a m l := fun p q h1 h2 h3 h4 => by
  have hm := hp.1
  by_cases e : p < a ∨ b ≤ q
  · exact h p q h1 h2 h3 e
  · rcases h4 with h4 | h4
    · omega
    · rcases Nat.lt_trichotomy p m with f | f | f
      · by_cases g : q = m
        · subst g; exact hp.2.1 p (by omega) f
        · exact Int.le_trans (hp.2.1 p (by omega) f) (hp.2.2 q (by omega) (by omega))
      · subst f; exact hp.2.2 q h2 (by omega)
      · exact hs p q (by omega) h2 (by omega)
theorem OutI.done {A B a b : Nat} {l : List α} (h : OutI ky A B a b l) (hs : SrtI ky a b l) : SrtI ky A B l := fun p q h1 h2 h3 => by
  by_cases e : p < a ∨ b ≤ q
  · exact h p q h1 h2 h3 e
  · exact hs p q (by omega) h2 (by omega)
def Dst (ky : α → Int) (l : List α) : Prop := (l.map ky).Nodup
theorem Dst.ne {l : List α} (h : Dst ky l) {p q : Nat} (hp : p < q) (hq : q < l.length) : ky (l.getD p default) ≠ ky (l.getD q default) := by
  rw [getD_el (by omega), getD_el hq]
  have := List.pairwise_iff_getElem.1 (show (l.map ky).Pairwise (· ≠ ·) from h) p q (by simp; omega) (by simpa using hq) hp
  simpa using this
omit [Inhabited α] in
theorem Dst.perm {l l' : List α} (h : Dst ky l) (hp : l'.Perm l) : Dst ky l' := ((hp.map ky).nodup_iff).2 h
omit [Inhabited α] in
theorem srt_uniq : ∀ {l l' : List α}, l.Perm l' → l.Pairwise (fun a b => ky a ≤ ky b) → l'.Pairwise (fun a b => ky a ≤ ky b) → (∀ a ∈ l, ∀ b ∈ l, ky a = ky b → a = b) → l = l' := fun hp h1 h2 hu =>
  hp.eq_of_pairwise (fun a b ha hb h3 h4 => hu a ha b (hp.mem_iff.2 hb) (by omega)) h1 h2
theorem SrtI.pw {l : List α} (h : SrtI ky 0 l.length l) : l.Pairwise (fun a b => ky a ≤ ky b) := List.pairwise_iff_getElem.2 fun i j h1 h2 h3 => by
  have := h i j (by omega) h3 h2
  rwa [getD_el h1, getD_el h2] at this
end
end Go.E

namespace Go.E
open Go Go.RowKit Go.Maps
def othL (T : List Nat) (E : List AV) : Sto → Prop
  | [] => True
  | (g, c) :: r => (T.contains g = true ∨ AV.stays T E c) ∧ othL T E r
theorem othL_get {T : List Nat} {E : List AV} {g : Nat} {c : List AV} : ∀ {s : Sto}, othL T E s → s.get g = some c → T.contains g = false → AV.stays T E c
  | [], _, h, _ => by simp [Sto.get] at h
  | (k, x) :: r, ho, h, hg => by
    simp only [Sto.get] at h
    split at h
    · rename_i e; subst e; cases h
      rcases ho.1 with h' | h'
      · rw [hg] at h'; cases h'
      · exact h'
    · exact othL_get ho.2 h hg
theorem frameR {G : Nat} (hG : G ≠ 0 ∧ G < 1000000000) {cells args e : List AV} {s : Sto} (hc : AV.onlys [G] cells = true) (ha : AV.onlys [G] args = true) (h1 : s.get G = some cells) (h2 : AV.stays [G] [.ref G 0] e) (h3 : othL [G] [.ref G 0] s) :
    FrameOk [G] [.ref G 0] args [(G, cells)] e s where
  tags := fun g hg => by simp at hg; subst hg; exact ⟨hG.1, .inl hG.2⟩
  sub := fun g c hg => by
    simp only [Sto.get] at hg
    split at hg
    · rename_i e; subst e; cases hg; exact ⟨by simp, h1, hc⟩
    · cases hg
  args := ha
  eo := by simp [AV.onlys, AV.only]
  av := fun x hx => by simp at hx; subst hx; exact .inr (.inr ⟨rfl, hG.2⟩)
  slots := h2
  others := fun g c hg hT => othL_get h3 hg hT
theorem and_le (x : Int) {m : Nat} (hm : m < 18446744073709551616) : 0 ≤ andZ .u64 x m ∧ andZ .u64 x m ≤ m := by
  have h : andZ .u64 x m = (((BitVec.ofInt 64 x).toNat &&& m : Nat) : Int) := by
    have := and_u64 (a := (BitVec.ofInt 64 x).toNat) (b := m) (BitVec.ofInt 64 x).isLt hm
    rw [← this]
    unfold andZ
    rw [show BitVec.ofInt IntKind.u64.bits (((BitVec.ofInt 64 x).toNat : Nat) : Int) = BitVec.ofInt IntKind.u64.bits x by
      show BitVec.ofInt 64 (((BitVec.ofInt 64 x).toNat : Nat) : Int) = BitVec.ofInt 64 x
      rw [BitVec.ofInt_natCast, BitVec.ofNat_toNat, BitVec.setWidth_eq]]
  rw [h]
  have := @Nat.and_le_right (BitVec.ofInt 64 x).toNat m
  omega
end Go.E

namespace Go.E
open Go Go.RowKit Go.Maps
def xZ (P : Program) (c : Code) (Q : Kt) (_ : At c) (_ : At Q) (e : List AV) (s : Sto) : Prop := psem P c Q e s
section
variable {P : Program} {C : CT} {O : Nat → Sch} {tb : Nat} {c x y : Code} {Q : Kt} {e : List AV} {s : Sto}
theorem z_w {i : At c} {j : At Q} (hC : C.ok P) (hm : P.follows .mixedOrders = true) (ho : okO O c = true) (h : xW P C O tb c Q (mk _) (mk _) e s) : xZ P c Q i j e s := pwp_sound hC hm c ho h
theorem z_block {n : Nat} {i : At (Code.block n c)} {j : At Q} (h : xZ P c (xB n Q (mk _)) (mk _) (mk _) e s) : xZ P (.block n c) Q i j e s := fun W0 L0 L w a hr => wpIn_block (Code.wpIn_mono (fun x a w ⟨L, e, s, h1, h2⟩ => by
  cases x with
  | exit i =>
    have h2 : blkK n Q (.exit i) e s := h2
    simp only [blkK] at h2
    simp only [Exit.inBlock]
    split at h2
    · rename_i hi; rw [if_pos hi]; exact ⟨L, e, s, h1, h2⟩
    · rename_i hi; rw [if_neg hi]; exact ⟨L, e, s, h1, h2⟩
  | _ => exact ⟨L, e, s, h1, h2⟩) (h W0 L0 L w a hr))
theorem z_seq {i : At (Code.seq x y)} {j : At Q} (hC : C.ok P) (hm : P.follows .mixedOrders = true) (ho : okO O x = true) (h : xW P C O tb x (xS (fun e s => xZ P y Q (mk _) (mk _) e s) Q (mk _) (mk _)) (mk _) (mk _) e s) : xZ P (.seq x y) Q i j e s := fun W0 L0 L w a hr =>
  wpIn_seq (Code.wpIn_mono (lift_seq fun L e s a w h1 h2 => h2 W0 L0 L w a h1) (pwp_sound hC hm x ho h W0 L0 L w a hr))
theorem z_cut {i : At (Code.seq x y)} {j : At Q} (hC : C.ok P) (hm : P.follows .mixedOrders = true) (ho : okO O x = true) {σ : Type} (g : Nat) (R : σ → List (List D)) (E : σ → List (Nat × AV)) (J : σ → Prop)
    (h1 : xW P C O tb x (xS (fun e' s' => ∃ y, J y ∧ wk e' (setAll (e.map (AV.kill g)) (E y)) ∧ wkG s' (s.ups g (R y))) Q (mk _) (mk _)) (mk _) (mk _) e s)
    (h2 : ∀ z, J z → xZ P y Q (mk _) (mk _) (setAll (e.map (AV.kill g)) (E z)) (s.ups g (R z))) : xZ P (.seq x y) Q i j e s := fun W0 L0 L w a hr =>
  wpIn_seq (Code.wpIn_mono (lift_seq fun L e' s' a w h3 ⟨z, h4, h5, h6⟩ => h2 z h4 W0 L0 L w a (h3.weaken (wk_Wk h5) (wkG_get h6))) (pwp_sound hC hm x ho h1 W0 L0 L w a hr))
theorem loop_z {i : At c} {j : At Q} {σ : Type} (g : Nat) (R : σ → List (List D)) (E : σ → List (Nat × AV)) (I : σ → Prop) (μ : σ → Nat) (x0 : σ)
    (h0 : I x0) (hw : wk e (setAll e (E x0)) ∧ wkG s (s.ups g (R x0)))
    (round : ∀ x, I x → xZ P c (xS (fun e' s' => ∃ y, (I y ∧ μ y < μ x) ∧ wk e' (setAll e (E y)) ∧ wkG s' (s.ups g (R y))) Q (mk _) (mk _)) (mk _) (mk _) (setAll e (E x)) (s.ups g (R x))) : xL P c Q i j e s :=
  fun W0 L0 L w a hr => by
  refine wpIn_loop_ghost (fun n a w => ∃ x, I x ∧ μ x = n ∧ ∃ L, Rel W0 L0 L (setAll e (E x)) (s.ups g (R x)) w a) (μ x0) ⟨x0, h0, rfl, L, hr.weaken (wk_Wk hw.1) (wkG_get hw.2)⟩ ?_
  rintro n a w ⟨x, hx, rfl, L, hr⟩
  refine Code.wpIn_mono (lift_seq fun L e' s' a w h1 h2 => ?_) (round x hx W0 L0 L w a hr)
  obtain ⟨y, h3, h4⟩ := h2
  exact ⟨μ y, h3.2, y, h3.1, rfl, L, h1.weaken (wk_Wk h4.1) (wkG_get h4.2)⟩
end
end Go.E
namespace Go.E
open Go Go.RowKit Go.Maps
theorem xUp_put {α β : Type} {fk : α → D} {fv : β → D} {fkv : α → Value} {M : List (α × β)} (hk : ∀ x, (fk x).val? = some (fkv x)) (hi : ∀ x y, fkv x = fkv y → x = y) {k : α} {v : β} {kd vd : D} (e1 : kd = fk k) (e2 : vd = fv v) (hn : (M.map Prod.fst).Nodup) {R : List AV → Prop} {m : At R}
    (h1 : ∀ M', (M'.map Prod.fst).Nodup → (∀ e w, (e, w) ∈ M' ↔ (e = k ∧ w = v) ∨ (e ≠ k ∧ (e, w) ∈ M)) → R (ents fk fv M')) : xUp (ents fk fv M) kd (fkv k) vd R m := by
  subst e1; subst e2
  refine ⟨fun j kd' v' hj hv => ?_, fun hno => ?_⟩
  · have hj' : j < M.length := by have := (List.getElem?_eq_some_iff.1 hj).1; simpa [ents] using this
    have hjk : M[j].1 = k := by
      have h2 := (List.getElem?_eq_some_iff.1 hj).2
      simp only [ents, List.getElem_map, AV.d.injEq, D.agg.injEq, List.cons.injEq, and_true] at h2
      have h3 := hk M[j].1
      rw [h2.1, hv] at h3
      exact hi _ _ (Option.some.inj h3).symm
    have hset : (M.set j (k, v)).map Prod.fst = M.map Prod.fst := by
      rw [List.map_set]
      apply List.ext_getElem?
      intro i
      by_cases h : j = i
      · subst h; rw [List.getElem?_set_self (by simpa using hj')]; simp [hj', hjk]
      · rw [List.getElem?_set_ne h]
    have hw : ∀ e w, (e, w) ∈ M.set j (k, v) ↔ (e = k ∧ w = v) ∨ (e ≠ k ∧ (e, w) ∈ M) := fun e w => by
      constructor
      · intro h
        obtain ⟨i, hi', h⟩ := List.getElem_of_mem h
        rw [List.getElem_set] at h
        split at h
        · simp only [Prod.mk.injEq] at h; exact .inl ⟨h.1.symm, h.2.symm⟩
        · rename_i hji
          right
          have hil : i < M.length := by simpa using hi'
          refine ⟨fun e1 => hji ?_, by rw [← h]; exact List.getElem_mem _⟩
          have hpw := List.pairwise_iff_getElem.1 (show (M.map Prod.fst).Pairwise (· ≠ ·) from hn)
          have hei : M[i].1 = k := by rw [h]; exact e1
          rcases Nat.lt_trichotomy j i with q | q | q
          · exact (hpw j i (by simpa using hj') (by simpa using hil) q (by rw [List.getElem_map, List.getElem_map, hjk, hei])).elim
          · exact q
          · exact (hpw i j (by simpa using hil) (by simpa using hj') q (by rw [List.getElem_map, List.getElem_map, hjk, hei])).elim
      · rintro (⟨rfl, rfl⟩ | ⟨h1, h2⟩)
        · exact List.mem_iff_getElem.2 ⟨j, by simpa using hj', by simp⟩
        · obtain ⟨i, hi', h⟩ := List.getElem_of_mem h2
          refine List.mem_iff_getElem.2 ⟨i, by simpa using hi', ?_⟩
          rw [List.getElem_set]
          split
          · rename_i q; subst q; rw [h] at hjk; exact absurd hjk h1
          · exact h
    have := h1 (M.set j (k, v)) (by rw [hset]; exact hn) hw
    simpa [ents, List.map_set] using this
  · have hno' : ∀ w, (k, w) ∉ M := fun w hw => hno (fv w) ((hasK_ents hk).2 ⟨(k, w), hw, rfl, rfl⟩)
    have := h1 (M ++ [(k, v)]) (by
      rw [List.map_append]
      refine List.nodup_append.2 ⟨hn, by simp, fun a ha b hb hab => ?_⟩
      simp at hb; subst hb; subst hab
      obtain ⟨p, hp, e1⟩ := List.mem_map.1 ha
      exact hno' p.2 (by rw [← e1]; exact hp)) (fun e w => by
      constructor
      · intro h
        rcases List.mem_append.1 h with h | h
        · by_cases q : e = k
          · rw [q] at h; exact absurd h (hno' w)
          · exact .inr ⟨q, h⟩
        · simp only [List.mem_singleton, Prod.mk.injEq] at h; exact .inl h
      · rintro (⟨rfl, rfl⟩ | ⟨_, h⟩)
        · exact List.mem_append_right _ (by simp)
        · exact List.mem_append_left _ h)
    simpa [ents] using this
end Go.E

namespace Go.E
open Go Go.RowKit Go.Maps
def xNl (x : AV) (R : Bool → Prop) (_ : At R) : Prop := nlC x R
section
variable {P : Program} {C : CT} {tb : Nat} {Q : Kt} {e : List AV} {s : Sto} {K : List AV → Sto → Prop} {d : Option Nat} {type : Nat} {pos : String} {af : Array Edge} {g : Option (Nat × Bool)}
theorem p_bnsl {m2 : At K} {m3 : At Q} {op : BinOp} {t t' : Nat} {x : Operand} {m1 : At (⟨d, .binOp op t x (.const (.slice none 0 0)) t', type, pos, af, g⟩ : Oper)} : xP P C tb ⟨d, .binOp op t x (.const (.slice none 0 0)) t', type, pos, af, g⟩ K Q m1 m2 m3 e s =
    ((isEqB op ∧ isSliceTy P t = true) ∧ xNl (aval e x) (fun b => K (eset e d (.b (nlR op b))) s) (mk _)) := by simp only [xP, pop, isNilSl, if_true, nlP, xNl]
theorem nl_sl {R : Bool → Prop} {m : At R} {n : Nat} {rows : List (List D)} : xNl (.d (.sl n rows)) R m = ((rows = [] → R true) ∧ R false) := id rfl
theorem nlR_e {b : Bool} : nlR .eql b = b := rfl
end

theorem rel_rowN {W0 : World} {L0 L : Lay} {env : List AV} {S : Sto} {w w' : World} {a : Act} (hr : Rel W0 L0 L env S w a) {k : Nat} (hk : k ≠ 0) (hm : AV.mens k env = false) (hs : S.mens k = false) (hg : S.get k = none)
    {e s : Nat} {rows : List (List D)} {v : Value} {xs : List Value} (hsz : w.heap.size ≤ w'.heap.size) (ho : w'.os = w.os) (ht : w'.tape = w.tape) (hout : w'.output = w.output)
    (hb : ∀ b, b < w.heap.size → w'.heap[b]? = w.heap[b]?)
    (hv : ∀ b, v.ownBlock = some b → w.heap.size ≤ b) (hown : w'.ownsRow 0 e s v rows.length xs) (hl : ∀ r ∈ rows, r.length = s) (h1 : ∀ x ∈ xs, x.oneCell' = true)
    (hx : DReps (look (fun b => (b < w.heap.size → L.own b = none) ∧ v.ownBlock ≠ some b) w') rows.flatten xs) :
    ∃ L', Rel W0 L0 L' env S w' a ∧ ARep L' w' (.own k e s rows) v := by
  classical
  let L' : Lay := { L with own := fun b => if v.ownBlock = some b then some k else L.own b, hdr := fun g => if g = k then v else L.hdr g }
  have hsame : Same k L w L' w' := ⟨fun b hlt hne => ⟨hb b hlt, by
    simp only [L']
    split
    · rename_i e; have := hv b e; omega
    · rfl⟩, fun _ _ => rfl, fun g hg => by simp [L', hg], rfl, fun _ _ => rfl⟩
  have hrel := hr.step hk hsame hm hs hg (hr.not_old hk) hsz (fun b g hb => by
    simp only [L'] at hb
    split at hb
    · rename_i e; exact (hown.lt b e).2
    · exact Nat.lt_of_lt_of_le (hr.own_lt b g hb) hsz) ho ht hout
  refine ⟨L', hrel, by simp [L'], xs, hown, fun b hb => by simp [L', hb], hl, h1, DReps.mono (look_le fun b hb _ => ⟨?_, rfl⟩) _ _ hx⟩
  simp only [L']
  rw [if_neg hb.2]
  cases ho : L.own b with
  | none => rfl
  | some g => have := hb.1 (hr.own_lt b g ho); rw [ho] at this; cases this
def PFo (P : Program) (f el sz : Nat) (ds : List D) (R : List (List D) → Prop) : Prop :=
  callable P f = true ∧ ∀ (F : Nat → Prop) (w : World) (vs : Array Value), DReps (look F w) ds vs.toList →
    Calls P f vs w (fun en w' => Below w.heap.size w w' ∧ match en with
      | .returned v => ∃ rows, R rows ∧ ∃ xs, w'.ownsRow 0 el sz v rows.length xs ∧ (∀ b, v.ownBlock = some b → w.heap.size ≤ b) ∧ (∀ r ∈ rows, r.length = sz) ∧ (∀ x ∈ xs, x.oneCell' = true) ∧ DReps (look (fun b => (b < w.heap.size → F b) ∧ v.ownBlock ≠ some b) w') rows.flatten xs
      | .panicked _ => False
      | .outgrown => False)
def oRow (el sz : Nat) : AV → Option (List (List D))
  | .own g el' sz' rows => if g = 0 then none else if el' = el ∧ sz' = sz then some rows else none
  | .d (.v (.slice none 0 0)) => some []
  | _ => none
def retO (P : Program) (rs : List ResultVar) (el sz : Nat) (R : List (List D) → Prop) : Kt
  | .normal, e, s | .ret, e, s => s.get 0 = some [] ∧ resAll P e s rs ∧ ∃ x, rs.map (resV P e s) = [x] ∧ ∃ rows, oRow el sz x = some rows ∧ R rows
  | _, _, _ => False
def xRo (P : Program) (rs : List ResultVar) (el sz : Nat) (R : List (List D) → Prop) (_ : At rs) (_ : At R) : Kt := fun x e s => retO P rs el sz R x e s
def oX (l : List AV) (el sz : Nat) (R : List (List D) → Prop) (_ : At R) : Prop := match l with | [x] => oK (oRow el sz x) R (mk _) | _ => False
theorem oX_eq {l : List AV} {el sz : Nat} {R : List (List D) → Prop} {m : At R} : oX l el sz R m = (∃ x, l = [x] ∧ ∃ rows, oRow el sz x = some rows ∧ R rows) := by
  apply propext
  constructor
  · intro h
    unfold oX at h
    split at h
    · rename_i x
      unfold oK at h
      split at h
      · rename_i rows hx; exact ⟨x, rfl, rows, hx, h⟩
      · exact h.elim
    · exact h.elim
  · rintro ⟨x, rfl, rows, hx, h⟩
    simp only [oX, oK, hx]; exact h
section
variable {P : Program} {e : List AV} {s : Sto} {rs : List ResultVar} {el sz : Nat} {R : List (List D) → Prop} {i : At rs} {j : At R}
theorem ro_r : xRo P rs el sz R i j .ret e s = (s.get 0 = some [] ∧ resAll P e s rs ∧ oX (rs.map (resV P e s)) el sz R (mk _)) := by rw [oX_eq]; rfl
theorem ox_1 {x : AV} {m : At R} : oX [x] el sz R m = oK (oRow el sz x) R (mk _) := id rfl
theorem or_own {g el' sz' : Nat} {rows : List (List D)} : oRow el sz (.own g el' sz' rows) = if g = 0 then none else if el' = el ∧ sz' = sz then some rows else none := id rfl
theorem or_nil : oRow el sz (.d (.v (.slice none 0 0))) = some [] := id rfl
end
theorem PFo_start {P : Program} {C : CT} {O : Nat → Sch} {f el sz : Nat} {fn : Func} {c : Code} {n : Nat} {rs : Array ResultVar} {ds : List D} {R : List (List D) → Prop} (hC : C.ok P) (hm : P.follows .mixedOrders = true) (ho : (fn.body.map (okO O)) = some true) (hf : P.funcs[f]? = some fn) (hc : callable P f = true) (hb : fn.body = some c) (hn : fn.ntmps = n) (hrs : fn.results = rs)
    (h : xW P C O 0 c (xRo P rs.toList el sz R (mk _) (mk _)) (mk _) (mk _) (ds.map .d ++ List.replicate (n - ds.length) .any) [(0, [])]) : PFo P f el sz ds R := by
  refine ⟨hc, fun F w vs hd => (callsFW (r := none) (n := 0)).1 (callsIn_of_wp_marks hf hb trivial (Code.wpIn_mono ?_ (pwp_sound hC hm c (by rw [hb] at ho; simpa using ho) h w (lay0 F w) (lay0 F w) w { tmps := vs ++ Array.replicate (fn.ntmps - vs.size) undef, defers := [] } (by rw [← hn]; exact lay0_rel hd))))⟩
  rintro x a w' ⟨L, e, s, hr', hq⟩
  have fin : (s.get 0 = some [] ∧ resAll P e s rs.toList ∧ ∃ x, rs.toList.map (resV P e s) = [x] ∧ ∃ rows, oRow el sz x = some rows ∧ R rows) → LeavesInM (FW none) 0 P fn a.tmps (fun en w' => Below w.heap.size w w' ∧ match en with
      | .returned v => ∃ rows, R rows ∧ ∃ xs, w'.ownsRow 0 el sz v rows.length xs ∧ (∀ b, v.ownBlock = some b → w.heap.size ≤ b) ∧ (∀ r ∈ rows, r.length = sz) ∧ (∀ x ∈ xs, x.oneCell' = true) ∧ DReps (look (fun b => (b < w.heap.size → F b) ∧ v.ownBlock ≠ some b) w') rows.flatten xs
      | .panicked _ => False
      | .outgrown => False) a.defers .returning w' := fun ⟨h0, hq⟩ =>
    leave_marks (by simp) a.defers w' (rel_none hr' h0).2 hr'.mks.1 (fun r h => (hr'.mks.2 r h).1) fun w'' hsh => by
      have hr2 := hr'.shut (rel_none hr' h0).2 hsh
      obtain ⟨h1, x, hx1, rows, hx2, hx3⟩ := hq
      obtain ⟨us, g1, g2⟩ := results_run hr2 (fun r => match r with | .tmp t => pure (a.tmps.getD t undef) | .cell x t => do loadVar t (← asAddr (a.tmps.getD x undef))) (fun t => rfl) (fun x t => rfl) rs.toList h1
      rw [hx1] at g2
      obtain ⟨u, ut, rfl, k1, rfl⟩ := g2
      refine ⟨u, ?_, lay0_below hr2, rows, hx3, ?_⟩
      · unfold results
        rw [hrs, Array.mapM_eq_mapM_toList]
        simp only [Sem.run_bind, Sem.run_map]
        erw [g1]
        rfl
      · unfold oRow at hx2
        split at hx2
        · rename_i g el' sz' rows'
          split at hx2
          · cases hx2
          · rename_i hg0
            split at hx2
            · rename_i he
              obtain ⟨rfl, rfl⟩ := he
              cases hx2
              obtain ⟨_, xs, q1, q2, q3, q4, q5⟩ := k1
              refine ⟨xs, q1, fun b hb => ?_, q3, q4, DReps.mono (look_le fun b hb _ => ⟨⟨fun hlt => ?_, fun hvb => ?_⟩, rfl⟩) _ _ q5⟩
              · have hb := q2 b hb
                by_cases hlt : b < w.heap.size
                · have h0 : (lay0 F w).own b = none ∨ (lay0 F w).own b = some 0 := by
                    simp only [lay0]; rw [if_pos hlt]; by_cases hF : F b
                    · rw [if_pos hF]; exact .inl rfl
                    · rw [if_neg hF]; exact .inr rfl
                  have := (hr2.old b hlt h0).1
                  rw [hb] at this
                  rcases h0 with h | h <;> rw [h] at this <;> simp at this
                  exact absurd this hg0
                · omega
              · apply Classical.byContradiction
                intro hF
                have h0 : (lay0 F w).own b = some 0 := by simp only [lay0]; rw [if_pos hlt, if_neg hF]
                have := (hr2.old b hlt (.inr h0)).1
                rw [hb, h0] at this; cases this
              · rw [q2 b hvb] at hb; cases hb
            · cases hx2
        · cases hx2
          have k1 : u = .slice none 0 0 := k1
          subst k1
          exact ⟨[], World.ownsRow_nil w'' 0 el sz, by simp [Value.ownBlock], by simp, by simp, rfl⟩
        · cases hx2
  cases x with
  | normal => exact fin hq
  | ret => exact fin hq
  | panic c => exact hq.elim
  | exit i => exact hq.elim
  | goto l => exact hq.elim
  | outgrown => exact hq.elim
theorem pcall_o {P : Program} {f el sz : Nat} {ds : List D} {R : List (List D) → Prop} (G : Nat) (hG : G ≠ 0) {K : AV → List AV → Sto → Prop} {Q : Exit → List AV → Sto → Prop} {e : List AV} {s : Sto} (h : PFo P f el sz ds R)
    (hK : ∀ rows, R rows → K (.own G el sz rows) (e.map (AV.kill G)) (s.kill G)) : pcall P f (ds.map .d) K Q e s := by
  refine ⟨h.1, fun W0 L0 L w a vs hr hv => (h.2 (fun b => L.own b = none) w vs (reps_of_d hv)).mono fun en w' ⟨hb, hen⟩ => ?_⟩
  cases en with
  | returned v =>
    obtain ⟨rows, h1, xs, h2, h3, h4, h5, h6⟩ := hen
    obtain ⟨L', k1, k2⟩ := rel_rowN (hr.kill G) hG (mens_kill G e) (Sto.mens_killed G s) (Sto.kill_none G s) hb.size hb.os hb.tape hb.output hb.block h3 h2 h4 h5 h6
    exact ⟨L', _, _, _, k1, k2, hK rows h1⟩
  | panicked c => exact hen.elim
  | outgrown => exact hen
def ento {α : Type} (G el sz : Nat) (A : α → List D) (pre : α → Prop) (R : α → List (List D)) (args : List AV) (K : AV → List AV → Sto → Prop) (e : List AV) (s : Sto) : Prop :=
  ∃ a, args = (A a).map .d ∧ pre a ∧ K (.own G el sz (R a)) (e.map (AV.kill G)) (s.kill G)
theorem ento_ok {α : Type} {P : Program} {f G el sz : Nat} (hG : G ≠ 0) {A : α → List D} {pre : α → Prop} {R : α → List (List D)} (h : ∀ a, pre a → PFo P f el sz (A a) (fun x => x = R a)) {args : List AV} {K : AV → List AV → Sto → Prop} {Q : Kt} {e : List AV} {s : Sto}
    (he : ento G el sz A pre R args K e s) : pcall P f args K Q e s := by
  obtain ⟨a, rfl, h1, h2⟩ := he
  exact pcall_o G hG (h a h1) fun rows hr => by rw [hr]; exact h2
theorem ento_iff {α : Type} {G el sz : Nat} {A : α → List D} {pre : α → Prop} {R : α → List (List D)} {K : AV → List AV → Sto → Prop} {e : List AV} {s : Sto} {args : List AV} (a : α) (hinj : ∀ b, A b = A a → b = a) (ha : args = (A a).map .d) :
    ento G el sz A pre R args K e s = (pre a ∧ K (.own G el sz (R a)) (e.map (AV.kill G)) (s.kill G)) := by
  subst ha
  apply propext
  constructor
  · rintro ⟨b, h1, h2, h3⟩
    have : ∀ {x y : List D}, x.map AV.d = y.map AV.d → x = y := fun {x y} h => (List.map_inj_right (fun a b h => by cases h; rfl)).1 h
    obtain rfl := hinj b (this h1).symm
    exact ⟨h2, h3⟩
  · rintro ⟨h2, h3⟩
    exact ⟨a, rfl, h2, h3⟩
theorem pcall_sn {P : Program} {f : Nat} {args : List AV} {ds : List D} {R : End → Prop} {K : AV → List AV → Sto → Prop} {Q : Exit → List AV → Sto → Prop} {e : List AV} {s : Sto} (h : PFn P f ds R) (ha : AV.outs s args = some ds)
    (hK : ∀ d, R (.ret d) → K (.d d) e s) (hQ : ∀ c, R (.pan c) → Q (.panic c) e s) : pcall P f args K Q e s := by
  refine ⟨h.1, fun W0 L0 L w a vs hr hv => (h.2 (fun _ => True) w vs (outL_rep (outF_rep hr (fun _ _ => trivial) (fun _ _ _ _ => trivial) 6) ha hv)).mono fun en w' ⟨hb, hen⟩ => ?_⟩
  have hr' := hr.grow hb
  cases en with
  | returned v =>
    obtain ⟨d, h1, h2⟩ := hen
    refine ⟨L, e, s, .d d, hr', DRep.mono (look_le fun b hb' hlt => ⟨?_, rfl⟩) d v h2, hK d h1⟩
    cases ho : L.own b with
    | none => rfl
    | some g => have := hr.own_lt b g ho; omega
  | panicked c => exact ⟨L, e, s, hr', hQ c hen⟩
  | outgrown => exact hen
def entSn {α : Type} (P1 : α → List D) (pre : α → Prop) (R : α → D) (o : Option (List D)) (K : AV → List AV → Sto → Prop) (_ : At K) (e : List AV) (s : Sto) : Prop :=
  ∃ a, o = some (P1 a) ∧ pre a ∧ K (.d (R a)) e s
theorem entSn_ok {α : Type} {P : Program} {f : Nat} {P1 : α → List D} {pre : α → Prop} {R : α → D} (h : ∀ a, pre a → PFn P f (P1 a) (fun x => x = .ret (R a))) {args : List AV} {K : AV → List AV → Sto → Prop} {Q : Kt} {i : At K} {e : List AV} {s : Sto}
    (he : entSn P1 pre R (AV.outs s args) K i e s) : pcall P f args K Q e s := by
  obtain ⟨a, h1, h2, h4⟩ := he
  exact pcall_sn (h a h2) h1 (fun x hx => by cases hx; exact h4) (fun c hc => by cases hc)
theorem entSn_iff {α : Type} {P1 : α → List D} {pre : α → Prop} {R : α → D} {K : AV → List AV → Sto → Prop} {i : At K} {e : List AV} {s : Sto} (a : α) (hinj : ∀ b, P1 b = P1 a → b = a) :
    entSn P1 pre R (some (P1 a)) K i e s = (pre a ∧ K (.d (R a)) e s) := by
  apply propext
  constructor
  · rintro ⟨b, h1, h2, h4⟩
    obtain rfl := hinj b (Option.some.inj h1).symm
    exact ⟨h2, h4⟩
  · rintro ⟨h2, h4⟩
    exact ⟨a, rfl, h2, h4⟩
end Go.E

namespace Go.E
open Go Go.RowKit
mutual
inductive NilD : D → D → Prop
  | refl (x : D) : NilD x x
  | nil (s : Nat) : NilD (.v (.slice none 0 0)) (.sl s [])
  | sl {s : Nat} {r r' : List (List D)} : NilRs r r' → NilD (.sl s r) (.sl s r')
  | agg {xs ys : List D} : NilDs xs ys → NilD (.agg xs) (.agg ys)
  | tup {xs ys : List D} : NilDs xs ys → NilD (.tup xs) (.tup ys)
  | ptr {xs ys : List D} {o : Nat} : NilDs xs ys → NilD (.ptr xs o) (.ptr ys o)
inductive NilDs : List D → List D → Prop
  | refl (x : List D) : NilDs x x
  | cons {x y : D} {xs ys : List D} : NilD x y → NilDs xs ys → NilDs (x :: xs) (y :: ys)
inductive NilRs : List (List D) → List (List D) → Prop
  | refl (x : List (List D)) : NilRs x x
  | cons {x y : List D} {xs ys : List (List D)} : NilDs x y → NilRs xs ys → NilRs (x :: xs) (y :: ys)
end
theorem NilDs.len : ∀ {x y : List D}, NilDs x y → x.length = y.length
  | _, _, .refl _ => rfl
  | _, _, .cons _ h => by simp [NilDs.len h]
theorem NilRs.len : ∀ {x y : List (List D)}, NilRs x y → x.length = y.length
  | _, _, .refl _ => rfl
  | _, _, .cons _ h => by simp [NilRs.len h]
mutual
theorem NilD.rep {m : Mem} : ∀ {x y : D} {u : Value}, NilD x y → DRep m x u → DRep m y u
  | _, _, _, .refl _, k => k
  | _, _, _, .nil _, k => ⟨none, 0, 0, k, rfl, Nat.le_refl _, .inl ⟨rfl, rfl, rfl⟩⟩
  | _, _, _, .sl h, ⟨a, n, c, e, e2, e3, k⟩ => ⟨a, n, c, e, by rw [e2]; exact NilRs.len h, e3, k.imp id fun ⟨b, o, e, k⟩ => ⟨b, o, e, NilRs.rep h k⟩⟩
  | _, _, _, .agg h, ⟨us, e, k⟩ => ⟨us, e, NilDs.reps h k⟩
  | _, _, _, .tup h, ⟨us, e, k⟩ => ⟨us, e, NilDs.reps h k⟩
  | _, _, _, .ptr h, ⟨b, o, e, k⟩ => ⟨b, o, e, NilDs.cells h k⟩
theorem NilDs.reps {m : Mem} : ∀ {x y : List D} {us : List Value}, NilDs x y → DReps m x us → DReps m y us
  | _, _, _, .refl _, k => k
  | _, _, _, .cons h1 h2, ⟨u, ut, e, k1, k2⟩ => ⟨u, ut, e, NilD.rep h1 k1, NilDs.reps h2 k2⟩
theorem NilDs.cells {m : Mem} {b : Nat} : ∀ {x y : List D} {o : Nat}, NilDs x y → DCells m b o x → DCells m b o y
  | _, _, _, .refl _, k => k
  | _, _, _, .cons h1 h2, ⟨⟨u, hu, k1, k2⟩, k3⟩ => ⟨⟨u, hu, k1, NilD.rep h1 k2⟩, NilDs.cells h2 k3⟩
theorem NilRs.rep {m : Mem} {b o s : Nat} : ∀ {x y : List (List D)} {i : Nat}, NilRs x y → DRows m b o s i x → DRows m b o s i y
  | _, _, _, .refl _, k => k
  | _, _, _, .cons h1 h2, ⟨e, k1, k2⟩ => ⟨by rw [← e]; exact (NilDs.len h1).symm, NilDs.cells h1 k1, NilRs.rep h2 k2⟩
end
theorem PF_deep {P : Program} {f : Nat} {ds : List D} {x y : D} (h : NilD x y) (k : PF P f ds (fun z => z = .ret x)) : PF P f ds (fun z => z = .ret y) :=
  ⟨k.1, fun F w vs hd => (k.2 F w vs hd).mono fun en w' ⟨h1, h2⟩ => ⟨h1, by
    cases en with
    | returned v => obtain ⟨d', h3, h4⟩ := h2; cases h3; exact ⟨y, rfl, NilD.rep h h4⟩
    | panicked c => obtain h2 := h2; cases h2
    | outgrown => exact h2⟩⟩
end Go.E

namespace Go.E
open Go Go.RowKit Go.ChangeShapes Go.WideShapes

section
variable {H : Type} {enc : TypeId × Value → H} {P : Program} {w : World} {base : Nat} {sp : Nat → Bool} {held : Bool} {m : Mem}
end
theorem PF.walk {P : Program} {f : Nat} {ds : List D} (h : PF P f ds (fun z => z = .ret (.b true))) {w : World} {vs : Array Value} (hd : DReps (look (fun _ => True) w) ds vs.toList) :
    Calls P f vs w (fun e w' => e = .returned (.bool true) ∧ Below w.heap.size w w') :=
  (h.2 (fun _ => True) w vs hd).mono fun e w' ⟨hb, he⟩ => by
    cases e with
    | returned v =>
      obtain ⟨d, h1, h2⟩ := he
      cases h1
      exact ⟨by rw [show v = _ from h2], hb⟩
    | panicked c => cases he
    | outgrown => exact he.elim
end Go.E

namespace Go.E
open Go Go.RowKit Go.ChangeShapes Go.WideShapes

inductive Sh where
  | leaf (l : Leaf)
  | sl (ss : List Sh)
mutual
def shD : Sh → D → Prop
  | .leaf (.int k), .v (.int k' n) => k = k' ∧ (Lit.int k n).wf = true
  | .leaf .bool, .v (.bool _) => True
  | .leaf .str, .v (.string s) => s.size ≤ maxLen
  | .sl ss, .sl sz rows => sz = ss.length ∧ ∀ r ∈ rows, shDs ss r
  | _, _ => False
def shDs : List Sh → List D → Prop
  | [], [] => True
  | s :: ss, d :: ds => shD s d ∧ shDs ss ds
  | _, _ => False
end
def shF (f : TypeId → Option (List Sh)) : Nat → List Field → Option (List Sh)
  | _, [] => some []
  | o, x :: xs => if x.offset ≠ o then none else match f x.type with | some l => (shF f (o + l.length) xs).map (l ++ ·) | none => none
def sh (P : Program) : Nat → TypeId → Option (List Sh)
  | 0, _ => none
  | n + 1, t => match P.underlying t with
    | some (.int k) => if P.cellsOf t = 1 then some [.leaf (.int k)] else none
    | some .bool => if P.cellsOf t = 1 then some [.leaf .bool] else none
    | some .string => if P.cellsOf t = 1 then some [.leaf .str] else none
    | some (.slice e) => if P.cellsOf t = 1 ∧ P.cellsOf e ≠ 0 then (sh P n e).map (fun ss => [.sl ss]) else none
    | some (.struct fs) => match shF (sh P n) 0 fs.toList with
      | some l => if l.length = P.cellsOf t then some l else none
      | none => none
    | _ => none
theorem sh_cells {P : Program} {n : Nat} {t : TypeId} {ls : List Sh} (h : sh P n t = some ls) : P.cellsOf t = ls.length := by
  cases n with
  | zero => simp [sh] at h
  | succ n =>
    unfold sh at h
    split at h
    · split at h
      · cases h; assumption
      · cases h
    · split at h
      · cases h; assumption
      · cases h
    · split at h
      · cases h; assumption
      · cases h
    · split at h
      · rename_i hh; obtain ⟨ss, _, rfl⟩ := Option.map_eq_some_iff.1 h; exact hh.1
      · cases h
    · split at h
      · split at h
        · cases h; rename_i h1; exact h1.symm
        · cases h
      · cases h
    · cases h
theorem shDs_append : ∀ {l1 l2 : List Sh} {x1 x2 : List D}, shDs l1 x1 → shDs l2 x2 → shDs (l1 ++ l2) (x1 ++ x2)
  | [], _, [], _, _, h => h
  | [], _, _ :: _, _, h, _ => h.elim
  | _ :: _, _, [], _, h, _ => h.elim
  | _ :: _, _, _ :: _, _, h, k => ⟨h.1, shDs_append h.2 k⟩
theorem shDs_len : ∀ {l : List Sh} {x : List D}, shDs l x → x.length = l.length
  | [], [], _ => rfl
  | [], _ :: _, h => h.elim
  | _ :: _, [], h => h.elim
  | _ :: l, _ :: x, h => by simp [shDs_len h.2]
section
variable {H : Type} {enc : TypeId × Value → H} {P : Program} {w : World} {base : Nat} {held : Bool}
theorem shF_d {n : Nat} {cs : List Value} (ih : ∀ t ls, sh P n t = some ls → ∀ fuel cs x, DataW.trod enc P w base (fun _ => true) held fuel t cs = some x → ∃ ds, DReps (look (fun _ => True) w) ds cs ∧ shDs ls ds ∧ ∀ u ∈ cs, u.oneCell' = true) (fuel : Nat) :
    ∀ (fs : List Field) (o : Nat) (ls : List Sh), shF (sh P n) o fs = some ls → (∀ f ∈ fs, ∃ y, DataW.trod enc P w base (fun _ => true) held fuel f.type ((cs.drop f.offset).take (P.cellsOf f.type)) = some y) →
      ∃ ds, DReps (look (fun _ => True) w) ds ((cs.drop o).take ls.length) ∧ shDs ls ds ∧ ∀ u ∈ (cs.drop o).take ls.length, u.oneCell' = true
  | [], o, ls, h, _ => by
    simp [shF] at h; subst h
    exact ⟨[], by simp [DReps], trivial, by simp⟩
  | f :: fs, o, ls, h, hf => by
    unfold shF at h
    split at h
    · cases h
    · rename_i ho
      have ho : f.offset = o := by simpa using ho
      split at h
      · rename_i l1 h1
        obtain ⟨l2, h2, rfl⟩ := Option.map_eq_some_iff.1 h
        obtain ⟨y, hy⟩ := hf f (by simp)
        rw [ho, sh_cells h1] at hy
        obtain ⟨d1, k1, k2, k3⟩ := ih f.type l1 h1 fuel _ y hy
        obtain ⟨d2, q1, q2, q3⟩ := shF_d ih fuel fs (o + l1.length) l2 h2 (fun g hg => hf g (List.mem_cons_of_mem _ hg))
        have e : (cs.drop o).take (l1 ++ l2).length = (cs.drop o).take l1.length ++ (cs.drop (o + l1.length)).take l2.length := by
          rw [List.length_append, List.take_add, List.drop_drop]
        rw [e]
        exact ⟨d1 ++ d2, DReps.append k1 q1, shDs_append k2 q2, fun u hu => by rcases List.mem_append.1 hu with h | h; exact k3 u h; exact q3 u h⟩
      · cases h
theorem sh_d : ∀ (n : Nat) (t : TypeId) (ls : List Sh), sh P n t = some ls → ∀ (fuel : Nat) (cs : List Value) (x : DataW H × List MemPlace), DataW.trod enc P w base (fun _ => true) held fuel t cs = some x → ∃ ds, DReps (look (fun _ => True) w) ds cs ∧ shDs ls ds ∧ ∀ u ∈ cs, u.oneCell' = true
  | 0, t, ls, h, _, _, _, _ => by simp [sh] at h
  | n + 1, t, ls, h, fuel, cs, x, hx => by
    unfold sh at h
    split at h
    · rename_i k hu
      split at h
      · cases h
        obtain ⟨a, rfl, _, hw⟩ := DataW.trod_int hu hx
        exact ⟨[.v (.int k a)], ⟨_, [], rfl, rfl, rfl⟩, ⟨⟨rfl, hw⟩, trivial⟩, fun u hu => by simp at hu; subst hu; rfl⟩
      · cases h
    · rename_i hu
      split at h
      · cases h
        obtain ⟨b, rfl, _⟩ := DataW.trod_bool hu hx
        exact ⟨[.v (.bool b)], ⟨_, [], rfl, rfl, rfl⟩, ⟨trivial, trivial⟩, fun u hu => by simp at hu; subst hu; rfl⟩
      · cases h
    · rename_i hu
      split at h
      · cases h
        obtain ⟨s, rfl, _, hs⟩ := DataW.trod_string hu hx
        exact ⟨[.v (.string s)], ⟨_, [], rfl, rfl, rfl⟩, ⟨hs, trivial⟩, fun u hu => by simp at hu; subst hu; rfl⟩
      · cases h
    · rename_i e hu
      split at h
      · rename_i hce
        obtain ⟨ss, hss, rfl⟩ := Option.map_eq_some_iff.1 h
        have hcells := sh_cells hss
        rcases Deep.open_slice hu hx with ⟨rfl, _⟩ | ⟨a, len, cap, k, q, Dd, Pl, rfl, hb, hl, hm, hk, hxx, hi⟩
        · exact ⟨[.sl ss.length []], ⟨_, [], rfl, ⟨none, 0, 0, rfl, rfl, Nat.le_refl _, .inl ⟨rfl, rfl, rfl⟩⟩, rfl⟩, ⟨⟨rfl, by simp⟩, trivial⟩, fun u hu => by simp at hu; subst hu; rfl⟩
        · by_cases hcap : cap = 0
          · obtain rfl : len = 0 := by omega
            subst hcap
            exact ⟨[.sl ss.length []], ⟨_, [], rfl, ⟨some a, 0, 0, rfl, rfl, Nat.le_refl _, .inl ⟨rfl, rfl, rfl⟩⟩, rfl⟩, ⟨⟨rfl, by simp⟩, trivial⟩, fun u hu => by simp at hu; subst hu; rfl⟩
          have hspot : a.spot = none := by
            obtain ⟨cs0, hc0, _⟩ := hi 0 (by rw [hk]; simp; omega)
            obtain ⟨_, hcl0, hat0⟩ := World.cells?_some hc0
            have h0 := hat0 0 (by omega)
            rw [List.getElem?_eq_getElem (by omega)] at h0
            have h0 := h0.symm
            unfold World.cell? at h0
            simp [Addr.add] at h0
            split at h0
            · split at h0
              · cases h0
              · rename_i hsp
                simpa using hsp
            · cases h0
          obtain ⟨b, o, s⟩ := a
          simp only at hspot
          subst hspot
          have hk' : len ≤ k := by rw [hk]; split <;> omega
          have hrow : ∀ i, i < len → ∃ x, shDs ss x ∧ x.length = ss.length ∧ DCells (look (fun _ => True) w) b (o + i * ss.length) x := fun i hil => by
            obtain ⟨cs', hc, ht⟩ := hi i (by omega)
            rw [hcells] at hc
            obtain ⟨_, hcl, hat⟩ := World.cells?_some hc
            obtain ⟨ds, k1, k2, k3⟩ := sh_d n e ss hss _ _ _ ht
            have hdl := shDs_len k2
            refine ⟨ds, k2, hdl, DCells.of_get fun j d hd => ?_⟩
            obtain ⟨x, hxj, hdx⟩ := k1.get j d hd
            have hj : j < ss.length := by rw [← hdl]; exact (List.getElem?_eq_some_iff.1 hd).1
            have := hat j hj
            rw [hxj, add_none, add_none] at this
            exact ⟨x, look_some.2 ⟨trivial, this⟩, k3 x (List.mem_of_getElem? hxj), hdx⟩
          have hall : ∃ rows : List (List D), rows.length = len ∧ ∀ i x, rows[i]? = some x → shDs ss x ∧ x.length = ss.length ∧ DCells (look (fun _ => True) w) b (o + i * ss.length) x := by
            clear hxx hi hx hk hk' hl
            induction len with
            | zero => exact ⟨[], rfl, by simp⟩
            | succ q ih =>
              obtain ⟨rows, h1, h2⟩ := ih (fun i hi => hrow i (by omega))
              obtain ⟨x, h3⟩ := hrow q (by omega)
              refine ⟨rows ++ [x], by simp [h1], fun i y hy => ?_⟩
              rw [List.getElem?_append] at hy
              split at hy
              · exact h2 i y hy
              · rename_i hge
                have hi0 : i - rows.length = 0 := by
                  cases hz : i - rows.length with
                  | zero => rfl
                  | succ z => rw [hz] at hy; simp at hy
                rw [hi0] at hy
                simp at hy; subst hy
                have : i = q := by omega
                subst this; exact h3
          obtain ⟨rows, h1, h2⟩ := hall
          refine ⟨[.sl ss.length rows], ⟨_, [], rfl, ⟨_, _, _, rfl, h1.symm, hl, .inr ⟨b, o, rfl, DRows.of_get fun i x hx => ?_⟩⟩, rfl⟩, ⟨⟨rfl, fun x hx => ?_⟩, trivial⟩, fun u hu => by simp at hu; subst hu; rfl⟩
          · have := h2 i x (by simpa using hx)
            exact ⟨this.2.1, by simpa using this.2.2⟩
          · obtain ⟨i, hi, e⟩ := List.getElem_of_mem hx
            exact (h2 i x (by rw [List.getElem?_eq_getElem hi, e])).1
      · cases h
    · rename_i fs hu
      split at h
      · rename_i l hl
        split at h
        · rename_i hlen
          cases h
          obtain ⟨ys, n', hn', hy, hc, hyl, hf⟩ := DataW.trod_struct hu hx
          obtain ⟨ds, k1, k2, k3⟩ := shF_d (cs := cs) (fun t ls h fuel cs x hx => sh_d n t ls h fuel cs x hx) n' fs.toList 0 ls hl (fun f hfm => by
            obtain ⟨i, hi, he⟩ := List.getElem_of_mem hfm
            have hfi : fs[i]? = some f := by rw [← Array.getElem?_toList, List.getElem?_eq_getElem hi, he]
            have := hf i f hfi
            have hys : i < ys.length := by rw [hyl]; simpa using hi
            exact ⟨ys[i], this.trans (List.getElem?_eq_getElem hys)⟩)
          have e : (cs.drop 0).take ls.length = cs := by rw [List.drop_zero, hlen, ← hc, List.take_length]
          rw [e] at k1 k3
          exact ⟨ds, k1, k2, k3⟩
        · cases h
      · cases h
    · cases h
theorem arg_shS {r : Reach} {b0 n : Nat} {t : TypeId} {fs : Array Field} {ls : List Sh} {v : Value} {d : DataW H} {ps : List MemPlace} (hu : P.underlying t = some (.struct fs)) (hf : sh P n t = some ls) (hv : Value.okWide P w r b0 t v) (h : DataW.Trod enc P w base (fun _ => true) held t v d ps) :
    ∃ ds, shDs ls ds ∧ DRep (look (fun _ => True) w) (.agg ds) v := by
  simp only [Value.okWide, hu] at hv
  obtain ⟨cs, rfl, _, ts, _, _, hok⟩ := hv
  obtain ⟨fuel, hx⟩ := h
  obtain ⟨ds, k1, k2, _⟩ := sh_d n t ls hf fuel _ _ hx
  exact ⟨ds, k2, cs, rfl, k1⟩
theorem arg_shL {r : Reach} {b0 n : Nat} {t e : TypeId} {ss : List Sh} {v : Value} {d : DataW H} {ps : List MemPlace} (hu : P.underlying t = some (.slice e)) (hf : sh P n t = some [.sl ss]) (hv : Value.okWide P w r b0 t v) (h : DataW.Trod enc P w base (fun _ => true) held t v d ps) :
    ∃ rows, (∀ x ∈ rows, shDs ss x) ∧ DRep (look (fun _ => True) w) (.sl ss.length rows) v := by
  obtain ⟨a0, len0, cap0, rfl⟩ := okWide_slice hu hv
  obtain ⟨fuel, hx⟩ := h
  simp only [Value.okWide, hu] at hv
  obtain ⟨ds, k1, k2, _⟩ := sh_d n t _ hf fuel _ _ hx
  match ds, k2 with
  | [.sl sz rows], ⟨⟨h1, h2⟩, _⟩ =>
    subst h1
    obtain ⟨u, ut, e1, e2, _⟩ := k1
    simp [Value.cells] at e1
    obtain ⟨rfl, rfl⟩ := e1
    exact ⟨rows, h2, e2⟩
end
end Go.E

namespace Go.E
open Go Go.RowKit Go.Maps
section
variable {P : Program} {C : CT} {O : Nat → Sch} {tb : Nat} {c x y : Code} {Q : Kt} {e : List AV} {s : Sto}
end
end Go.E
