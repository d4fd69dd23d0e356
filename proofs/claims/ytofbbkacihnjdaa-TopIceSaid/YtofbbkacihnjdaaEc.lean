/- A part of the proof that the last text ends: what functions of the program do, told by plain data. -/
import Derived.Test.YtofbbkacihnjdaaEb
import Derived.Recover
import Derived.Sort.OwnSorted
import Derived.ProofKit
import Derived.Deep.Slices
import Derived.ChangeArms
import Derived.Carry
/- The walk on data: a calculus over the weakest preconditions of the kit: what a call does is told by lists of plain data. Part 3 of 3. -/
set_option linter.unusedVariables false
set_option linter.unusedSimpArgs false
namespace Go.E
open Go Go.RowKit

def datOf : Nat → Value → D
  | 0, v => .v v
  | n + 1, .iface t y => .iface t (datOf n y)
  | n + 1, .agg us => .agg (us.toList.map (datOf n))
  | _ + 1, v => .v v
theorem datOf_rep {m : Mem} : ∀ (n : Nat) (v : Value), DRep m (datOf n v) v
  | 0, v => rfl
  | n + 1, v => by
    unfold datOf
    split
    · rename_i h; cases h
    · rename_i h; cases h; exact ⟨_, rfl, datOf_rep _ _⟩
    · rename_i k us h
      cases h
      refine ⟨us, rfl, DReps.of_get (by simp) fun i d x h1 h2 => ?_⟩
      rw [List.getElem?_map, h2] at h1
      simp at h1; subst h1
      exact datOf_rep _ _
    · exact rfl

section
variable {P : Program}
theorem wpOpsS_of_list {ops : Array Oper} {Q1 : Exit → Act → World → Prop} {Q : Exit → Act → List Frame → World → Prop} (hO : ∀ a w, ¬ Q1 .outgrown a w) (cs : List Frame) (hQ : ∀ e a w, Q1 e a w → Q e a cs w) : ∀ (l : List Oper) (k : Nat) (a : Act) (w : World), (∀ j, l[j]? = ops[k + j]?) →
    wpList P ops Q1 l a w → wpOpsS P ops Q (List.range' k l.length) a cs w
  | [], k, a, w, _, h => hQ _ _ _ h
  | o :: l, k, a, w, hl, h => by
    have h0 : ops[k]? = some o := by simpa using (hl 0).symm
    have hl' : ∀ j, l[j]? = ops[k + 1 + j]? := fun j => by have := hl (j + 1); simpa [Nat.add_assoc, Nat.add_comm 1 j] using this
    have ih := fun a w h => wpOpsS_of_list hO cs hQ l (k + 1) a w hl' h
    rw [show (o :: l).length = l.length + 1 from rfl, List.range'_succ]
    unfold wpOpsS
    simp only [h0]
    unfold wpList at h
    by_cases hw : Region.wanted o (yielded ops a.tmps) = true
    · rw [if_pos hw] at h ⊢
      rcases h with h | ⟨_, _, _, h⟩
      · unfold Oper.wp at h
        generalize hr : (execOp a.eval o).run P w = r at h ⊢
        cases r with
        | ok n w' =>
          cases n with
          | value v => exact ih _ _ h
          | skip => exact ih _ _ h
          | defer d => exact ih _ _ h
          | enter f args =>
            refine Calls.mono h fun en w'' hen => ?_
            cases en with
            | returned v => exact ih _ _ hen
            | panicked c => exact hQ _ _ _ hen
            | outgrown => obtain ⟨_, _, hen⟩ := hen; exact (hO _ _ hen).elim
          | row r args => intro b cs'; obtain ⟨v, w'', h1, h2⟩ := h b cs'; exact ⟨v, w'', ih _ _ h1, h2⟩
          | _ => exact h.elim
        | halt x w' =>
          cases x with
          | panic v => exact hQ _ _ _ h
          | _ => exact h.elim
      · exact (hO _ _ h).elim
    · rw [if_neg hw] at h ⊢
      exact ih _ _ h

def popsP (P : Program) (C : CT) (tb : Nat) : List Oper → (Exit → List AV → Sto → Prop) → List AV → Sto → Prop
  | [], Q, e, s => Q .normal e s
  | o :: r, Q, e, s => o.guard = none ∧ pop P C tb o (popsP P C tb r Q) Q e s
theorem popsP_sound {C : CT} {tb : Nat} (hC : C.okf P) (hY : C.noY) {W0 : World} {L0 : Lay} {ops : List Oper} {Q : Exit → List AV → Sto → Prop} : ∀ (l : List Oper) {L : Lay} {e : List AV} {s : Sto} {w : World} {a : Act}, popsP P C tb l Q e s → Rel W0 L0 L e s w a →
    wpList P ops.toArray (lift W0 L0 Q) l a w
  | [], L, e, s, w, a, h, hr => ⟨L, e, s, hr, h⟩
  | o :: rest, L, e, s, w, a, ⟨hg, h⟩, hr => wpList_step fun K' hK' => by
    rw [if_pos (by simp [Region.wanted, hg])]
    exact Oper.wp_mono (fun a w ⟨L, e, s, h1, h2⟩ => hK' a w (popsP_sound hC hY rest h2 h1)) (pop_sound hC hY o h hr)
def dclo (fd : Nat) : Option (List AV) → Option (List AV)
  | some [.clo (.func f) a b] => if f = fd then some (a ++ b) else none
  | _ => none
structure DText where
  fd : Nat
  nt : Nat
  k : Nat
  l : List Oper
  l' : List Oper
  rest : Code
  rsd : List ResultVar
  m : List Bool
def maskB : List Bool → List AV → List AV
  | _, [] => []
  | [], _ :: xs => .any :: maskB [] xs
  | true :: m, x :: xs => x :: maskB m xs
  | false :: m, _ :: xs => .any :: maskB m xs
theorem maskB_wk : ∀ (m : List Bool) (e : List AV), wk e (maskB m e)
  | _, [] => by simp [maskB, wk]
  | [], _ :: xs => ⟨.inl rfl, maskB_wk [] xs⟩
  | true :: m, x :: xs => ⟨.inr (.inl rfl), maskB_wk m xs⟩
  | false :: m, _ :: xs => ⟨.inl rfl, maskB_wk m xs⟩
theorem maskB_set : ∀ (m : List Bool) (e : List AV) (d : Nat), m.getD d false = false → maskB m (e.set d .any) = maskB m e
  | _, [], _, _ => by simp
  | [], _ :: xs, 0, _ => rfl
  | [], x :: xs, d + 1, _ => by simp [maskB, maskB_set [] xs d (by simp)]
  | true :: m, x :: xs, 0, h => by simp at h
  | false :: m, _ :: xs, 0, _ => rfl
  | true :: m, x :: xs, d + 1, h => by simp [maskB, maskB_set m xs d (by simpa using h)]
  | false :: m, x :: xs, d + 1, h => by simp [maskB, maskB_set m xs d (by simpa using h)]
theorem wkS_refl : ∀ s : Sto, wkS s s
  | [] => trivial
  | (_, c) :: r => ⟨rfl, wk_refl c, wkS_refl r⟩
 where wk_refl : ∀ c : List AV, wk c c
  | [] => trivial
  | _ :: c => ⟨.inr (.inl rfl), wk_refl c⟩
def dgoG (P : Program) (C : CT) (O : Nat → Sch) (tb : Nat) (T : DText) (Kf : List AV → Sto → Prop) (x : AV) (e : List AV) (s : Sto) : Prop :=
  match dclo T.fd (s.get 0) with
  | some args => popsP P C tb T.l' (seqK (fun e' s' => pwp P C O tb T.rest (inlK P e.length 0 T.rsd (fun _ e s => Kf e s) (fun _ _ _ => False)) e' s') (inlK P e.length 0 T.rsd (fun _ e s => Kf e s) (fun _ _ _ => False)))
      ((args ++ List.replicate (T.nt - args.length) AV.any).set T.k x) (s.upd 0 e)
  | none => False
def dgo (P : Program) (C : CT) (O : Nat → Sch) (tb : Nat) (T : DText) (rs : List ResultVar) (R : End → Prop) (x : AV) (e : List AV) (s : Sto) : Prop := dgoG P C O tb T (fun e s => outK P rs R e s) x e s
def dKG (P : Program) (C : CT) (O : Nat → Sch) (tb : Nat) (T : DText) (Kf : List AV → Sto → Prop) : Exit → List AV → Sto → Prop
  | .normal, e, s | .ret, e, s => if (s.get 0).any List.isEmpty = true then Kf e s else dgoG P C O tb T Kf (.d (.v .nilIface)) e s
  | .panic c, e, s => match c with | [p] => p.recovered = false ∧ p.goexit = false ∧ dgoG P C O tb T Kf (.d (datOf 9 p.v)) (maskB T.m e) s | _ => False
  | _, _, _ => False
def dK (P : Program) (C : CT) (O : Nat → Sch) (tb : Nat) (T : DText) (rs : List ResultVar) (R : End → Prop) : Exit → List AV → Sto → Prop
  | .normal, e, s | .ret, e, s => if (s.get 0).any List.isEmpty = true then outK P rs R e s else dgo P C O tb T rs R (.d (.v .nilIface)) e s
  | .panic c, e, s => match c with | [p] => p.recovered = false ∧ p.goexit = false ∧ dgo P C O tb T rs R (.d (datOf 9 p.v)) (maskB T.m e) s | _ => False
  | _, _, _ => False

def postSM (P : Program) (fn : Func) (c₀ : Frame) (cs : List Frame) (R : Ending → FrameMode → World → Prop) : Exit → Act → List Frame → World → Prop
  | .normal, a, cs', w | .ret, a, cs', w =>
    (strip a.defers = [] ∧ (marks a.defers).Nodup ∧ ∀ r ∈ marks a.defers, w.heap[r]? = some (.deferred (some []))) ∧ ∃ u', cs' = { c₀ with mode := u' } :: cs ∧ ∀ w'', Shut (marks a.defers) w w'' → ∃ v, (results fn a.tmps).run P w'' = .ok v w'' ∧ R (.returned v) u' w''
  | _, _, _, _ => False
theorem callsDIn_of_wpSM {f : FuncId} {fn : Func} {c : Code} {args : Array Value} {u : FrameMode} {w : World} {R : Ending → FrameMode → World → Prop} {n : Nat}
    (hf : P.funcs[f]? = some fn) (hb : fn.body = some c)
    (h : ∀ (c₀ : Frame) (cs : List Frame), c₀.mode = u →
      wpSX P c (postSM P fn c₀ cs R) { tmps := args ++ Array.replicate (fn.ntmps - args.size) undef, defers := [] } (c₀ :: cs) w) :
    CallsDIn (FW none) n P f args u w R := by
  refine ⟨trivial, fun c₀ cs hu _ => ?_⟩
  let b : Frame := { (default : Frame) with fn := f, kind := .deferred }
  have henter : Frame.enter P f args .deferred = b.at { tmps := args ++ Array.replicate (fn.ntmps - args.size) undef, defers := [] } [.code c] := by
    simp [Frame.enter, Frame.at, hf, hb, b]
  obtain ⟨e, a', cs', w', hq, harr⟩ := h c₀ cs hu b [] rfl rfl (Array.getElem?_eq_some_iff.1 hf).1
  rw [← henter] at harr
  cases e with
  | normal =>
    obtain ⟨⟨h1, h2, h3⟩, u', rfl, hR⟩ := hq
    obtain ⟨w'', hs, hst⟩ := marks_steps (P := P) (cs := { c₀ with mode := u' } :: cs) a'.defers { b.at a' [] with mode := .returning } w' (by simp) rfl h1 h2 h3
    obtain ⟨v, hv, hR⟩ := hR w'' hs
    exact ⟨.returned v, u', w'', _, hR, comesIn_wide.2 (Steps.trans harr (Steps.trans (.one step_end) hst)), rfl, rfl, rfl, rfl, fn, hf, hv⟩
  | ret =>
    obtain ⟨⟨h1, h2, h3⟩, u', rfl, hR⟩ := hq
    obtain ⟨todo, hs0⟩ := harr
    obtain ⟨w'', hs, hst⟩ := marks_steps (P := P) (cs := { c₀ with mode := u' } :: cs) a'.defers { b.at a' todo with mode := .returning } w' (by simp) rfl h1 h2 h3
    obtain ⟨v, hv, hR⟩ := hR w'' hs
    exact ⟨.returned v, u', w'', _, hR, comesIn_wide.2 (Steps.trans hs0 hst), rfl, rfl, rfl, rfl, fn, hf, hv⟩
  | panic chain => exact hq.elim
  | exit id => exact hq.elim
  | goto l => exact hq.elim
  | outgrown => exact hq.elim

@[reducible] def layB (lo : Nat → Option Nat) (lb : Nat → Nat) (lh : Nat → Value) (ll : Nat → Option LoopS) : Lay := { own := lo, blk := lb, hdr := lh, hid := [], rd := none, kp := [], lk := ll }
theorem dgo_sound {C : CT} {O : Nat → Sch} {tb : Nat} (hC : C.ok P) (hY : C.noY) (hm : P.follows .mixedOrders = true) {T : DText} {fnd : Func} {id : Nat} {lo : Nat → Option Nat} {lb : Nat → Nat} {lh : Nat → Value} {ll : Nat → Option LoopS} {w w' : World} {L : Lay} {e : List AV} {s : Sto} {a : Act} {fn : Func} {Kf : List AV → Sto → Prop} {o0 : Oper}
    (hfd : P.funcs[T.fd]? = some fnd) (hcd : callable P T.fd = true) (hbd : fnd.body = some (.seq (.region id T.l.toArray false) T.rest)) (hnd : fnd.ntmps = T.nt) (hrd : fnd.results.toList = T.rsd) (hl : T.l = o0 :: T.l') (hk : o0.dst = some T.k) (hg : o0.guard = none) (hx : ∀ ρ w, (execOp ρ o0).run P w = .ok .recover w) (hO : okO O T.rest = true)
    (hr : Rel w (layB lo lb lh ll) L e s w' a) (x : AV) {u u1 : FrameMode} {vx : Value} (hu : u ≠ .run) (hvx : ∀ (c₀ : Frame) (cs : List Frame), c₀.mode = u → ∃ cs1, (match recoverD (c₀ :: cs) with | some (v, cs') => v = vx ∧ cs' = cs1 | none => vx = .nilIface ∧ c₀ :: cs = cs1) ∧ cs1 = { c₀ with mode := u1 } :: cs)
    (hset : settle u1 = .returning) (hrx : ∀ m : Mem, ∃ d, x = .d d ∧ DRep m d vx) (h : dgoG P C O tb T Kf x e s) {R' : Ending → World → Prop} (hfin : ∀ (L' : Lay) (e' : List AV) (s' : Sto) (w'' : World) (a' : Act), Rel w (layB lo lb lh ll) L' e' s' w'' a' → a'.tmps = a.tmps ∧ a'.defers = [] → Kf e' s' → ∃ v, (results fn a.tmps).run P w'' = .ok v w'' ∧ R' (.returned v) w'') : LeavesInM (FW none) 0 P fn a.tmps R' a.defers u w' := by
  unfold dgoG at h
  split at h
  case h_2 => exact h.elim
  rename_i args hargs
  unfold dclo at hargs
  split at hargs
  case h_2 => cases hargs
  rename_i f a1 b1 hs0
  split at hargs
  case isFalse => cases hargs
  rename_i hff
  cases hargs
  have hobj := (hr.objs 0 _ hs0).1 rfl
  obtain ⟨vs, hv1, hv2⟩ := hr.hid
  have hv1 : L.hid = vs := by rw [hv1]; exact List.append_nil _
  rw [hv1] at hobj
  obtain ⟨v, vt, rfl, ⟨us, ws, rfl, k1, k2⟩, hvt⟩ := hobj
  obtain rfl : vt = [] := hvt
  subst hff
  obtain ⟨m1, m2, hds, hm1, hm2⟩ := strip_one (d0 := { target := .fn (.func T.fd) ws, args := us }) (ds := a.defers) (by rw [hv2]; rfl)
  have hmks : marks a.defers = marks m1 ++ marks m2 := by rw [hds, marks_app]; rfl
  have hnd2 := hr.mks.1
  rw [hmks] at hnd2
  have hnd3 := List.nodup_append.1 hnd2
  rw [hds]
  refine leave_app hu _ m1 w' hm1 hnd3.1 (fun r h' => (hr.mks.2 r (by rw [hmks]; exact List.mem_append_left _ h')).1) fun w1 hsh => ?_
  have hr0 : Rel w (layB lo lb lh ll) L e s w1 { tmps := a.tmps, defers := { target := .fn (.func T.fd) ws, args := us } :: m2 } :=
    hr.shutP hsh (fun b hb => by rw [hmks]; exact List.mem_append_left _ hb) rfl (by
      have e1 : strip ({ target := .fn (.func T.fd) ws, args := us } :: m2) = { target := .fn (.func T.fd) ws, args := us } :: strip m2 := by simp [strip, isMark]
      rw [e1, hm2, hv2]; rfl) (fun r h' => ⟨by rw [hmks]; exact List.mem_append_right _ h', fun h'' => hnd3.2.2 r h'' r h' rfl⟩) hnd3.2.1
  clear hr
  have hr := hr0
  refine ⟨hu, .inr ⟨FW_depth, .func T.fd, ws, T.fd, us ++ ws, rfl, by simp only [invoke]; exact callable_run hcd _ _, fun _ _ => trivial, ?_⟩⟩
  refine callsDIn_of_wpSM hfd hbd fun c₀ cs hc => ?_
  refine wpSX_region_seq ?_
  have hlr : AReps L w1 (a1 ++ b1) (us ++ ws).toList := by
    have hobj := (hr.objs 0 _ hs0).1 rfl
    rw [hv1] at hobj
    obtain ⟨v', vt', e', ⟨us', ws', e2, k1', k2'⟩, _⟩ := hobj
    obtain ⟨rfl, _⟩ := List.cons.inj e'
    cases e2
    rw [Array.toList_append]; exact areps_append k1' k2'
  have hlen := hlr.length
  have hr1 := hr.hide (L0' := (layB lo lb lh ll).with (a.tmps.toList ++ []) ([] ++ markObjs m2)) (a' := { tmps := (us ++ ws) ++ Array.replicate (fnd.ntmps - (us ++ ws).size) undef, defers := [] }) (s' := s.upd 0 e) (c := e) (h := a.tmps.toList) (e' := (a1 ++ b1) ++ List.replicate (fnd.ntmps - (a1 ++ b1).length) .any) (kp := []) (by simp [hs0]) hr.slots ⟨[], by show _ = _ ++ (_ ++ _); simp, rfl⟩
    ⟨by simp [marks], by simp [marks]⟩ (by simp [marks]) (fun b o hb => by
      rcases List.mem_append.1 hb with hb | hb
      · cases hb
      · obtain ⟨r, h1, h2⟩ := List.mem_map.1 hb
        cases h2
        exact ⟨⟨_, (hr.mks.2 _ h1).1, rfl⟩, (hr.mks.2 _ h1).2⟩) (fun l hb => by cases hb)
    (by
      rw [Array.toList_append, Array.toList_replicate]
      refine areps_append hlr (AReps.of_get ?_ fun i d u h1 h2 => ?_)
      · simp only [List.length_replicate]; rw [← hlen]; simp
      · have := List.mem_of_getElem? h1
        rw [List.eq_of_mem_replicate this]; trivial) (fun _ => rfl) (.inl rfl) (fun g => by
      rw [Sto.get_upd]
      by_cases h : 0 = g
      · subst h; simp [hs0]
      · simp [h])
  obtain ⟨dx, rfl, hdx⟩ := hrx ((L.with a.tmps.toList []).mem w1)
  have hr2 := hr1.put (some T.k) (x := .d dx) (u := vx) hdx
  obtain ⟨cs1, hcs1, hcs2⟩ := hvx c₀ cs hc
  let R2 : Ending → FrameMode → World → Prop := fun en u' w' => match en, u', w' with
        | .returned _, u', w' => LeavesInM (FW none) 0 P fn a.tmps R' m2 (settle u') w'
        | .panicked chain, u', w' => LeavesInM (FW none) 0 P fn a.tmps R' m2 (raised u' chain) w'
        | .outgrown, _, w' => R' .outgrown w'
  have hpost : ∀ (x' : Exit) (a' : Act) (w'' : World), lift w ((layB lo lb lh ll).with (a.tmps.toList ++ []) ([] ++ markObjs m2)) (inlK P e.length 0 T.rsd (fun _ e s => Kf e s) (fun _ _ _ => False)) x' a' w'' →
      postSM P fnd c₀ cs R2 x' a' cs1 w'' := by
    rintro x' a' w'' ⟨L', e', s', hr', hq⟩
    have pull : ∀ {w3 : World} {L3 : Lay} {e3 : List AV} {s3 : Sto} {a3 : Act}, Rel w ((layB lo lb lh ll).with (a.tmps.toList ++ []) ([] ++ markObjs m2)) L3 e3 s3 w3 a3 → (s3.get 0).isSome = true ∧ s3.hidn = e.length + 0 → Rel w (layB lo lb lh ll) (L3.with [] []) (s3.top e.length) (s3.pull e.length) w3 { tmps := a.tmps, defers := m2 } ∧ strip a3.defers = [] := fun hr3 h0 =>
      rel_pull (L0 := layB lo lb lh ll) (a := { tmps := a.tmps, defers := m2 }) (Lh := []) (kp := []) hr3 hr.slots.length rfl ⟨[], rfl, hm2⟩ (.inl rfl) (fun l hb => by cases hb) hnd3.2.1 (fun r hb => ⟨(hr.mkb r hb).1, fun o ho => by cases ho⟩) h0
    have fin : (((s'.get 0).isSome = true ∧ s'.hidn = e.length + 0) ∧ resAll P e' s' T.rsd ∧ Kf (s'.top e.length) (s'.pull e.length)) →
        (strip a'.defers = [] ∧ (marks a'.defers).Nodup ∧ ∀ r ∈ marks a'.defers, w''.heap[r]? = some (.deferred (some []))) ∧ ∃ u', cs1 = { c₀ with mode := u' } :: cs ∧ ∀ w3, Shut (marks a'.defers) w'' w3 → ∃ v, (results fnd a'.tmps).run P w3 = .ok v w3 ∧ R2 (.returned v) u' w3 := by
      rintro ⟨h0, h1, h2⟩
      have hst := (pull hr' h0).2
      refine ⟨⟨hst, hr'.mks.1, fun r h => (hr'.mks.2 r h).1⟩, u1, hcs2, fun w3 hsh3 => ?_⟩
      have hr3 := hr'.shut hst hsh3
      obtain ⟨us', g1, g2⟩ := results_run hr3 (fun r => match r with | .tmp t => pure (a'.tmps.getD t undef) | .cell x t => do loadVar t (← asAddr (a'.tmps.getD x undef))) (fun t => rfl) (fun x t => rfl) T.rsd h1
      have q1 := (pull hr3 h0).1
      refine ⟨if h : us'.toArray.size = 1 then us'.toArray[0] else .tuple us'.toArray, ?_, ?_⟩
      · unfold results
        rw [Array.mapM_eq_mapM_toList, hrd]
        simp only [Sem.run_bind, Sem.run_map]
        erw [g1]
        rfl
      · show LeavesInM (FW none) 0 P fn a.tmps R' m2 (settle u1) w3
        rw [hset]
        refine leave_marks (by simp) m2 w3 hm2 hnd3.2.1 (fun r h => (q1.mks.2 r h).1) fun w4 hsh4 => ?_
        exact hfin _ _ _ _ _ (q1.shut hm2 hsh4) ⟨rfl, rfl⟩ h2
    cases x' with
    | normal => exact fin hq
    | ret => exact fin hq
    | panic ch => exact hq.2.elim
    | exit i => exact hq.elim
    | goto l => exact hq.elim
    | outgrown => exact hq.elim
  have hops := popsP_sound (ops := T.l) hC.f hY T.l' (by rw [← hnd] at h; exact h) hr2
  have hrest : wpOpsS P T.l.toArray (Exit.thenS (wpSX P T.rest (postSM P fnd c₀ cs R2)) (postSM P fnd c₀ cs R2)) (List.range' 1 T.l'.length) (Act.put { tmps := (us ++ ws) ++ Array.replicate (fnd.ntmps - (us ++ ws).size) undef, defers := [] } (some T.k) vx) cs1 w1 := by
    refine wpOpsS_of_list ?_ cs1 ?_ T.l' 1 _ _ (fun j => by rw [hl]; simp [Nat.add_comm 1 j]) hops
    · rintro a' w'' ⟨L', e', s', hr', hq⟩; exact hq
    · rintro x' a' w'' ⟨L', e', s', hr', hq⟩
      cases x' with
      | normal => exact wpSX_of (wpX_mono hpost (pwp_sound hC hm T.rest hO hq _ _ _ _ _ hr'))
      | ret => exact hpost .ret a' w'' ⟨L', e', s', hr', hq⟩
      | panic ch => exact hpost (.panic ch) a' w'' ⟨L', e', s', hr', hq⟩
      | exit i => exact hpost (.exit i) a' w'' ⟨L', e', s', hr', hq⟩
      | goto l => exact hpost (.goto l) a' w'' ⟨L', e', s', hr', hq⟩
      | outgrown => exact hpost .outgrown a' w'' ⟨L', e', s', hr', hq⟩
  rw [List.range_eq_range', show T.l.toArray.size = T.l'.length + 1 by rw [hl]; simp, List.range'_succ]
  unfold wpOpsS
  simp only [show T.l.toArray[0]? = some o0 by rw [hl]; rfl, show Region.wanted o0 (yielded T.l.toArray (us ++ ws ++ Array.replicate (fnd.ntmps - (us ++ ws).size) undef)) = true by simp [Region.wanted, hg], if_true, hx, hk]
  cases hrec : recoverD (c₀ :: cs) with
  | none => rw [hrec] at hcs1; obtain ⟨rfl, rfl⟩ := hcs1; exact hrest
  | some p => obtain ⟨v, cs'⟩ := p; rw [hrec] at hcs1; obtain ⟨rfl, rfl⟩ := hcs1; exact hrest
end
end Go.E

namespace Go.E
open Go Go.RowKit
section
variable {P : Program}

def xD (P : Program) (C : CT) (O : Nat → Sch) (tb : Nat) (T : DText) (rs : List ResultVar) (R : End → Prop) (_ : At T) (_ : At rs) (_ : At R) : Kt := fun x e s => dK P C O tb T rs R x e s
def xDG (P : Program) (C : CT) (O : Nat → Sch) (tb : Nat) (T : DText) (rs : List ResultVar) (R : End → Prop) (_ : At T) (_ : At rs) (_ : At R) (x : AV) (e : List AV) (s : Sto) : Prop := dgo P C O tb T rs R x e s
def noK : Kt := fun _ _ _ => False
def xY (P : Program) (rs : List ResultVar) (R : End → Prop) (_ : At rs) (_ : At R) (e : List AV) (s : Sto) : Prop := outK P rs R e s
def xOP (P : Program) (C : CT) (tb : Nat) (l : List Oper) (Q : Kt) (_ : At l) (_ : At Q) (e : List AV) (s : Sto) : Prop := popsP P C tb l Q e s
theorem op_nil {C : CT} {tb : Nat} {Q : Kt} {i : At []} {j : At Q} {e : List AV} {s : Sto} : xOP P C tb [] Q i j e s = Q .normal e s := id rfl
theorem op_cons {C : CT} {tb : Nat} {Q : Kt} {d : Option Nat} {op : Op} {type : Nat} {pos : String} {af : Array Edge} {r : List Oper} {i : At ((⟨d, op, type, pos, af, none⟩ : Oper) :: r)} {j : At Q} {e : List AV} {s : Sto} : xOP P C tb (⟨d, op, type, pos, af, none⟩ :: r) Q i j e s = xP P C tb ⟨d, op, type, pos, af, none⟩ (fun e s => xOP P C tb r Q (mk _) (mk _) e s) Q (mk _) (mk _) (mk _) e s := by
  simp only [xOP, popsP, xP, true_and]
variable {C : CT} {O : Nat → Sch} {tb : Nat} {T : DText} {rs : List ResultVar} {R : End → Prop} {i : At T} {j : At rs} {k : At R} {e : List AV} {s : Sto}
theorem d_y : xY P rs R j k e s = (resAll P e s rs ∧ oK (AV.outs s (rs.map (resV P e s))) (fun ds => R (.ret (packD ds))) (mk _)) := by
  simp only [xY, outK, oK]; cases AV.outs s (rs.map (resV P e s)) <;> simp
theorem d_n : xD P C O tb T rs R i j k .normal e s = if (s.get 0).any List.isEmpty = true then xY P rs R (mk _) (mk _) e s else xDG P C O tb T rs R (mk _) (mk _) (mk _) (.d (.v .nilIface)) e s := id rfl
theorem d_r : xD P C O tb T rs R i j k .ret e s = if (s.get 0).any List.isEmpty = true then xY P rs R (mk _) (mk _) e s else xDG P C O tb T rs R (mk _) (mk _) (mk _) (.d (.v .nilIface)) e s := id rfl
theorem d_p {fd nt kk : Nat} {l l' : List Oper} {rest : Code} {rsd : List ResultVar} {mm : List Bool} {i : At (⟨fd, nt, kk, l, l', rest, rsd, mm⟩ : DText)} {v : Value} : xD P C O tb ⟨fd, nt, kk, l, l', rest, rsd, mm⟩ rs R i j k (.panic [{ v := v, recovered := false }]) e s = xDG P C O tb ⟨fd, nt, kk, l, l', rest, rsd, mm⟩ rs R (mk _) (mk _) (mk _) (.d (datOf 9 v)) (maskB mm e) s := by
  simp [xD, xDG, dK]
theorem d_g {fd nt kk : Nat} {l l' : List Oper} {rest : Code} {rsd : List ResultVar} {mm : List Bool} {i : At (⟨fd, nt, kk, l, l', rest, rsd, mm⟩ : DText)} {x : AV} : xDG P C O tb ⟨fd, nt, kk, l, l', rest, rsd, mm⟩ rs R i j k x e s =
    oK (dclo fd (s.get 0)) (fun args => xOP P C tb l' (xS (fun e' s' => xW P C O tb rest (xI P e.length 0 rsd (fun _ e s => xY P rs R (mk _) (mk _) e s) noK (mk _) (mk _) (mk _)) (mk _) (mk _) e' s') (xI P e.length 0 rsd (fun _ e s => xY P rs R (mk _) (mk _) e s) noK (mk _) (mk _) (mk _)) (mk _) (mk _)) (mk _) (mk _)
      ((args ++ List.replicate (nt - args.length) AV.any).set kk x) (s.upd 0 e)) (mk _) := by
  simp only [xDG, dgo, dgoG, oK]; cases dclo fd (s.get 0) <;> rfl
def qdb (l : List Oper) (m : List Bool) : Bool := l.all fun o => match o.dst with | some d => !(m.getD d false) | none => true
theorem qdb_ok {l : List Oper} {m : List Bool} (h : id (qdb l m) = true) : qdb l m = true := h
theorem qd_D {fd nt kk : Nat} {l0 l l' : List Oper} {rest : Code} {rsd : List ResultVar} {mm : List Bool} {i : At (⟨fd, nt, kk, l, l', rest, rsd, mm⟩ : DText)} {m : At l0} {k'} (h : qdb l0 mm = true) : xQd l0 (xD P C O tb ⟨fd, nt, kk, l, l', rest, rsd, mm⟩ rs R i j k) m k' = True :=
  propext ⟨fun _ => trivial, fun _ c e s d ⟨o, ho, hd⟩ hq => by
    have h1 := List.all_eq_true.1 h o ho
    rw [hd] at h1
    have h2 : mm.getD d false = false := by simpa using h1
    simp only [xD, dK] at hq ⊢
    rw [maskB_set _ _ _ h2]
    exact hq⟩

def dfK (x : AV) (c : Option (List AV)) (K : List AV → Prop) (_ : At K) : Prop := match x, c with | .clo fn a b, some c => c = [] ∧ K (.clo fn a b :: c) | _, _ => False
theorem p_defer {tb : Nat} {type : Nat} {pos : String} {af : Array Edge} {g : Option (Nat × Bool)} {K : List AV → Sto → Prop} {Q : Kt} {f : Operand} {ts : Array TypeId} {m1 : At (⟨none, .defer ⟨.value f, #[], ts⟩, type, pos, af, g⟩ : Oper)} {m2 : At K} {m3 : At Q} :
    xP P C tb ⟨none, .defer ⟨.value f, #[], ts⟩, type, pos, af, g⟩ K Q m1 m2 m3 e s = dfK (aval e f) (s.get 0) (fun c => K e (s.upd 0 c)) (mk _) := by
  simp only [xP, pop, dfK]
  split <;> simp_all
theorem df_clo {fn : Fn} {a b : List AV} {K : List AV → Prop} {m : At K} : dfK (.clo fn a b) (some []) K m = K [.clo fn a b] := by simp [dfK]
theorem k_dfr {c : Call} : k0 (.defer c) = false := rfl

theorem seed {Q : Kt} {e : List AV} {s : Sto} {c : Code} {m1 : At c} {m2 : At Q} (n g el sz : Nat) (hg : g ≠ 0) (he : e[n]? = some (.d (.v (.slice none 0 0)))) (hm : AV.mens g e = false) (hs : s.mens g = false) (hn : s.get g = none)
    (h : xL P c Q m1 m2 (e.set n (.own g el sz [])) s) : xL P c Q m1 m2 e s := fun W0 L0 L w a hr => by
  let L' : Lay := { L with hdr := fun g' => if g' = g then .slice none 0 0 else L.hdr g' }
  have hsame : Same g L w L' w := ⟨fun b hb _ => ⟨rfl, rfl⟩, fun _ _ => rfl, fun g' hg' => by simp [L', hg'], rfl, fun _ _ => rfl⟩
  have h1 := hr.step hg hsame hm hs hn (hr.not_old hg) (Nat.le_refl _) hr.own_lt rfl rfl rfl
  obtain ⟨u, hu, hx⟩ := h1.slots.get n _ he
  have hx : u = .slice none 0 0 := hx
  subst hx
  refine h W0 L0 L' w a { h1 with slots := ?_ }
  have hrow : ARep L' w (.own g el sz []) (.slice none 0 0) := ⟨by simp [L'], [], World.ownsRow_nil w 0 el sz, by simp [Value.ownBlock], by simp, by simp, rfl⟩
  have := AReps.set h1.slots n hrow
  have hset : a.tmps.toList.set n (.slice none 0 0) = a.tmps.toList := by
    apply List.ext_getElem?
    intro i
    by_cases hi : n = i
    · subst hi; rw [List.getElem?_set_self', hu]; rfl
    · rw [List.getElem?_set_ne hi]
  rwa [hset] at this
end
end Go.E
namespace Go.E
open Go Go.RowKit
def wkG (s : Sto) : Sto → Prop
  | [] => True
  | (h, c) :: r => oK (s.get h) (fun c0 => wk c0 c) (mk _) ∧ wkG s r
theorem wkG_get {s : Sto} : ∀ {s' : Sto}, wkG s s' → ∀ g c, s'.get g = some c → ∃ c0, s.get g = some c0 ∧ Wk c0 c
  | [], _, g, c, hc => by simp [Sto.get] at hc
  | (h, y) :: r, ⟨h1, h2⟩, g, c, hc => by
    simp only [Sto.get] at hc
    by_cases hg : h = g
    · rw [if_pos hg] at hc; cases hc
      subst hg
      unfold oK at h1
      split at h1
      · rename_i c0 e0; exact ⟨c0, e0, wk_Wk h1⟩
      · exact h1.elim
    · rw [if_neg hg] at hc; exact wkG_get h2 g c hc
theorem loop_go' {P : Program} {C : CT} {O : Nat → Sch} {tb : Nat} (hC : C.ok P) (hm : P.follows .mixedOrders = true) {c : Code} (ho : okO O c = true) {Q : Kt} {i : At c} {j : At Q} {e : List AV} {s : Sto} {σ : Type} (E : σ → List (Nat × AV)) (S : σ → Sto) (I : σ → Prop) (μ : σ → Nat) (nx : σ → σ) (x0 : σ)
    (h0 : I x0) (hw : wk e (setAll e (E x0)) ∧ wkG s (S x0))
    (round : ∀ x, I x → xW P C O tb c (xS (fun e' s' => (I (nx x) ∧ μ (nx x) < μ x) ∧ wk e' (setAll e (E (nx x))) ∧ wkG s' (S (nx x))) Q (mk _) (mk _)) (mk _) (mk _) (setAll e (E x)) (S x)) : xL P c Q i j e s :=
  fun W0 L0 L w a hr => by
  refine wpX_loop_ghost (fun n a w => ∃ x, I x ∧ μ x = n ∧ ∃ L, Rel W0 L0 L (setAll e (E x)) (S x) w a) (μ x0) ⟨x0, h0, rfl, L, hr.weaken (wk_Wk hw.1) (wkG_get hw.2)⟩ ?_
  rintro n a w ⟨x, hx, rfl, L, hr⟩
  refine wpX_mono (lift_seq fun L e' s' a w h1 h2 => ?_) (pwp_sound hC hm c ho (round x hx) W0 L0 L w a hr)
  exact ⟨μ (nx x), h2.1.2, nx x, h2.1.1, rfl, L, h1.weaken (wk_Wk h2.2.1) (wkG_get h2.2.2)⟩
theorem loop_s {P : Program} {C : CT} {O : Nat → Sch} {tb : Nat} (hC : C.ok P) (hm : P.follows .mixedOrders = true) {c : Code} (ho : okO O c = true) {Q : Kt} {i : At c} {j : At Q} {e : List AV} {s : Sto} {σ : Type} (E : σ → List (Nat × AV)) (I : σ → Prop) (μ : σ → Nat) (nx : σ → σ) (x0 : σ)
    (h0 : I x0) (hw : wk e (setAll e (E x0)))
    (round : ∀ x, I x → xW P C O tb c (xS (fun e' s' => (I (nx x) ∧ μ (nx x) < μ x) ∧ wk e' (setAll e (E (nx x))) ∧ wkG s' s) Q (mk _) (mk _)) (mk _) (mk _) (setAll e (E x)) s) : xL P c Q i j e s :=
  fun W0 L0 L w a hr => by
  refine wpX_loop_ghost (fun n a w => ∃ x, I x ∧ μ x = n ∧ ∃ L, Rel W0 L0 L (setAll e (E x)) s w a) (μ x0) ⟨x0, h0, rfl, L, hr.weaken (wk_Wk hw) (wkS_get (wkS_refl s))⟩ ?_
  rintro n a w ⟨x, hx, rfl, L, hr⟩
  refine wpX_mono (lift_seq fun L e' s' a w h1 h2 => ?_) (pwp_sound hC hm c ho (round x hx) W0 L0 L w a hr)
  exact ⟨μ (nx x), h2.1.2, nx x, h2.1.1, rfl, L, h1.weaken (wk_Wk h2.2.1) (wkG_get h2.2.2)⟩
end Go.E

namespace Go.E
open Go Go.RowKit

mutual
def nilEq : D → D → Prop
  | .tup xs, y => match y with | .tup ys => nilEqs xs ys | _ => False
  | .agg xs, y => match y with | .agg ys => nilEqs xs ys | _ => False
  | .v x, y => match y with | .v z => x = z | .sl _ rows => x = .slice none 0 0 ∧ rows = [] | _ => False
  | .sl s r, y => match y with | .sl s' r' => s = s' ∧ r = r' | _ => False
  | .ptr xs o, y => match y with | .ptr ys o' => o = o' ∧ nilEqs xs ys | _ => False
  | x, y => x = y
def nilEqs : List D → List D → Prop
  | [], ys => match ys with | [] => True | _ => False
  | x :: xs, ys => match ys with | y :: ys => nilEq x y ∧ nilEqs xs ys | _ => False
end
mutual
theorem nilEq_rep {m : Mem} : ∀ {x y : D} {u : Value}, nilEq x y → DRep m x u → DRep m y u
  | .tup xs, y, u, h, ⟨us, e, k⟩ => by
    unfold nilEq at h; split at h
    · exact ⟨us, e, nilEqs_rep h k⟩
    · exact h.elim
  | .agg xs, y, u, h, ⟨us, e, k⟩ => by
    unfold nilEq at h; split at h
    · exact ⟨us, e, nilEqs_rep h k⟩
    · exact h.elim
  | .v x, y, u, h, k => by
    unfold nilEq at h; split at h
    · subst h; exact k
    · obtain ⟨rfl, rfl⟩ := h
      have hu : u = .slice none 0 0 := k
      exact ⟨none, 0, 0, hu, rfl, Nat.le_refl _, .inl ⟨rfl, rfl, rfl⟩⟩
    · exact h.elim
  | .sl s r, y, u, h, k => by
    unfold nilEq at h; split at h
    · obtain ⟨rfl, rfl⟩ := h; exact k
    · exact h.elim
  | .iface t x, y, u, h, k => by
    unfold nilEq at h; subst h; exact k
  | .ptr xs o, y, u, h, ⟨b, p, e, k⟩ => by
    unfold nilEq at h; split at h
    · obtain ⟨rfl, h⟩ := h
      exact ⟨b, p, e, nilEqs_cells h k⟩
    · exact h.elim
  | .clo _ _ _, y, u, h, k => by
    unfold nilEq at h; subst h; exact k
theorem nilEqs_rep {m : Mem} : ∀ {xs ys : List D} {us : List Value}, nilEqs xs ys → DReps m xs us → DReps m ys us
  | [], ys, us, h, k => by
    unfold nilEqs at h; split at h
    · exact k
    · exact h.elim
  | x :: xs, ys, us, h, ⟨u, ut, e, k1, k2⟩ => by
    unfold nilEqs at h; split at h
    · exact ⟨u, ut, e, nilEq_rep h.1 k1, nilEqs_rep h.2 k2⟩
    · exact h.elim
theorem nilEqs_cells {m : Mem} {b : Nat} : ∀ {xs ys : List D} {o : Nat}, nilEqs xs ys → DCells m b o xs → DCells m b o ys
  | [], ys, o, h, k => by
    unfold nilEqs at h; split at h
    · exact k
    · exact h.elim
  | x :: xs, ys, o, h, ⟨⟨u, e, e1, k1⟩, k2⟩ => by
    unfold nilEqs at h; split at h
    · exact ⟨⟨u, e, e1, nilEq_rep h.1 k1⟩, nilEqs_cells h.2 k2⟩
    · exact h.elim
end
def retEq (z : End) (d : D) : Prop := match z with | .ret x => nilEq x d | .pan _ => False
theorem re_r {x d : D} : retEq (.ret x) d = nilEq x d := id rfl
theorem re_p {c : List PanicEntry} {d : D} : retEq (.pan c) d = False := id rfl
theorem n_tup {xs ys : List D} : nilEq (.tup xs) (.tup ys) = nilEqs xs ys := by simp only [nilEq]
theorem n_agg {xs ys : List D} : nilEq (.agg xs) (.agg ys) = nilEqs xs ys := by simp only [nilEq]
theorem n_v {x y : Value} : nilEq (.v x) (.v y) = (x = y) := by simp only [nilEq]
theorem n_nil {s : Nat} {rows : List (List D)} : nilEq (.v (.slice none 0 0)) (.sl s rows) = (rows = []) := by simp [nilEq]
theorem n_sl {s s' : Nat} {r r' : List (List D)} : nilEq (.sl s r) (.sl s' r') = (s = s' ∧ r = r') := by simp only [nilEq]
theorem n_ptr {xs ys : List D} {o o' : Nat} : nilEq (.ptr xs o) (.ptr ys o') = (o = o' ∧ nilEqs xs ys) := by simp only [nilEq]
theorem n_if {t : Nat} {x : D} {y : D} : nilEq (.iface t x) y = (.iface t x = y) := by simp only [nilEq]
theorem ns_nil : nilEqs [] [] = True := by simp only [nilEqs]
theorem ns_cons {x y : D} {xs ys : List D} : nilEqs (x :: xs) (y :: ys) = (nilEq x y ∧ nilEqs xs ys) := by simp only [nilEqs]
theorem nm_nil {α : Type} {f : α → List D} {l : List α} : (l.map f = []) = (l = []) := by simp

theorem PF_nil {P : Program} {f : Nat} {ds : List D} {d : D} (h : PF P f ds (fun z => retEq z d)) : PF P f ds (fun z => z = .ret d) :=
  ⟨h.1, fun F w vs hd => (h.2 F w vs hd).mono fun en w' ⟨h1, h2⟩ => ⟨h1, by
    cases en with
    | returned v => obtain ⟨d', h3, h4⟩ := h2; exact ⟨d, rfl, nilEq_rep h3 h4⟩
    | panicked c => exact h2.elim
    | outgrown => exact h2⟩⟩

def cpK (P : Program) (t : Nat) (x y : AV) (d : Option Nat) (K : List AV → Sto → Prop) (_ : At K) (e : List AV) (s : Sto) : Prop :=
  match x with
  | .own g el' sz' rows => oK (rowTy P t) (fun z => (g ≠ 0 ∧ s.get g = none ∧ el' = z.1 ∧ sz' = z.2.1) ∧ y.isSl z.2.1 ∧ y.rows.length ≤ rows.length ∧ K (eset (e.map (AV.cpy g z.2.1 y.rows)) d (.i y.rows.length)) (s.cpy g z.2.1 y.rows)) (mk _)
  | _ => False
theorem p_copy {P : Program} {C : CT} {tb : Nat} {d : Option Nat} {type : Nat} {pos : String} {af : Array Edge} {g : Option (Nat × Bool)} {K : List AV → Sto → Prop} {Q : Kt} {x y : Operand} {t t' : Nat} {e : List AV} {s : Sto} {m1 : At (⟨d, .call ⟨.builtin .copy, #[x, y], #[t, t']⟩, type, pos, af, g⟩ : Oper)} {m2 : At K} {m3 : At Q} :
    xP P C tb ⟨d, .call ⟨.builtin .copy, #[x, y], #[t, t']⟩, type, pos, af, g⟩ K Q m1 m2 m3 e s = cpK P t (aval e x) (aval e y) d K (mk _) e s := by
  simp only [xP, pop, cpK, oK, List.getD, Array.getD_eq_getD_getElem?]
  cases h : rowTy P t with
  | none => generalize aval e x = q; cases q <;> simp [h]
  | some z => obtain ⟨a, b, c⟩ := z; simp only [List.getElem?_toArray, List.getElem?_cons_zero, Option.getD_some, h] <;> (generalize aval e x = q; cases q <;> simp)
theorem cp_own {P : Program} {t g el' sz' : Nat} {rows : List (List D)} {y : AV} {d : Option Nat} {K : List AV → Sto → Prop} {m : At K} {e : List AV} {s : Sto} : cpK P t (.own g el' sz' rows) y d K m e s = oK (rowTy P t) (fun z => (g ≠ 0 ∧ s.get g = none ∧ el' = z.1 ∧ sz' = z.2.1) ∧ y.isSl z.2.1 ∧ y.rows.length ≤ rows.length ∧ K (eset (e.map (AV.cpy g z.2.1 y.rows)) d (.i y.rows.length)) (s.cpy g z.2.1 y.rows)) (mk _) := id rfl
theorem k_copy {x : Array Operand} {ts : Array Nat} : k0 (.call ⟨.builtin .copy, x, ts⟩) = false := rfl
theorem p_mki {P : Program} {C : CT} {tb : Nat} {d : Option Nat} {type : Nat} {pos : String} {af : Array Edge} {g : Option (Nat × Bool)} {K : List AV → Sto → Prop} {Q : Kt} {t : Nat} {x : Operand} {e : List AV} {s : Sto} {m1 : At (⟨d, .makeInterface t x, type, pos, af, g⟩ : Oper)} {m2 : At K} {m3 : At Q} :
    xP P C tb ⟨d, .makeInterface t x, type, pos, af, g⟩ K Q m1 m2 m3 e s = (notIface P t = true ∧ K (eset e d (ifV t (aval e x))) s) := by simp [xP, pop, k0, ps, pv]
theorem p_asrt {P : Program} {C : CT} {tb : Nat} {d : Option Nat} {type : Nat} {pos : String} {af : Array Edge} {g : Option (Nat × Bool)} {K : List AV → Sto → Prop} {Q : Kt} {x : Operand} {u t : Nat} {ok : Bool} {e : List AV} {s : Sto} {m1 : At (⟨d, .typeAssert x u t ok, type, pos, af, g⟩ : Oper)} {m2 : At K} {m3 : At Q} :
    xP P C tb ⟨d, .typeAssert x u t ok, type, pos, af, g⟩ K Q m1 m2 m3 e s = (asrtS P (aval e x) t ok ∧ K (eset e d (asrt P (aval e x) t ok)) s) := by simp [xP, pop, k0, ps, pv]
theorem p_index {P : Program} {C : CT} {tb : Nat} {d : Option Nat} {type : Nat} {pos : String} {af : Array Edge} {g : Option (Nat × Bool)} {K : List AV → Sto → Prop} {Q : Kt} {x i : Operand} {t : Nat} {e : List AV} {s : Sto} {m1 : At (⟨d, .index t x i, type, pos, af, g⟩ : Oper)} {m2 : At K} {m3 : At Q} :
    xP P C tb ⟨d, .index t x i, type, pos, af, g⟩ K Q m1 m2 m3 e s = (ps P s [] (.index t x i) (aval e) ∧ K (eset e d (pv P s (.index t x i) (aval e))) s) := by simp [xP, pop, k0]
theorem p_slice {P : Program} {C : CT} {tb : Nat} {d : Option Nat} {type : Nat} {pos : String} {af : Array Edge} {g : Option (Nat × Bool)} {K : List AV → Sto → Prop} {Q : Kt} {x : Operand} {t : Nat} {lo hi mx : Option Operand} {e : List AV} {s : Sto} {m1 : At (⟨d, .slice t x lo hi mx, type, pos, af, g⟩ : Oper)} {m2 : At K} {m3 : At Q} :
    xP P C tb ⟨d, .slice t x lo hi mx, type, pos, af, g⟩ K Q m1 m2 m3 e s = (ps P s [] (.slice t x lo hi mx) (aval e) ∧ K (eset e d (pv P s (.slice t x lo hi mx) (aval e))) s) := by simp [xP, pop, k0]
theorem t_clo {P : Program} {f : Nat} {a b args : List AV} : target P (.clo (.func f) a b) args = some (f, a ++ args ++ b) := id rfl
theorem t_dclo {P : Program} {f : Nat} {a b : List D} {args : List AV} : target P (.d (.clo (.func f) a b)) args = some (f, a.map .d ++ args ++ b.map .d) := id rfl
theorem iv_d {P : Program} {t : Nat} {y : D} {nm : String} {args : List AV} : invTarget P (.d (.iface t y)) nm args = (mth P t nm).map fun f => (f, .d y :: args) := id rfl
theorem iv_i {P : Program} {t : Nat} {y : AV} {nm : String} {args : List AV} : invTarget P (.iface t y) nm args = (mth P t nm).map fun f => (f, y :: args) := id rfl
theorem p_mkf {P : Program} {C : CT} {tb : Nat} {d : Option Nat} {type : Nat} {pos : String} {af : Array Edge} {g : Option (Nat × Bool)} {K : List AV → Sto → Prop} {Q : Kt} {f : Fn} {x y : Array Operand} {e : List AV} {s : Sto} {m1 : At (⟨d, .makeFunc f x y, type, pos, af, g⟩ : Oper)} {m2 : At K} {m3 : At Q} :
    xP P C tb ⟨d, .makeFunc f x y, type, pos, af, g⟩ K Q m1 m2 m3 e s = K (eset e d (cloV f (x.toList.map (aval e)) (y.toList.map (aval e)))) s := by simp [xP, pop, k0, ps, pv]
theorem as_d {P : Program} {u t : Nat} {y : D} {ok : Bool} : asrt P (.d (.iface u y)) t ok = if u = t then (if ok = true then AV.mkTup [.d y, .b true] else .d y) else AV.mkTup [zeroA P t, .b false] := id rfl
theorem as_i {P : Program} {u t : Nat} {y : AV} {ok : Bool} : asrt P (.iface u y) t ok = if u = t then (if ok = true then AV.mkTup [y, .b true] else y) else AV.mkTup [zeroA P t, .b false] := id rfl
theorem as_n {P : Program} {t : Nat} {ok : Bool} : asrt P (.d (.v .nilIface)) t ok = AV.mkTup [zeroA P t, .b false] := id rfl

theorem seedS {P : Program} {Q : Kt} {e : List AV} {s : Sto} {c : Code} {m1 : At c} {m2 : At Q} (k n g el sz : Nat) (cells : List AV) (hg : g ≠ 0) (hk : k ≠ 0) (hc : s.get k = some cells) (he : cells[n]? = some (.d (.v (.slice none 0 0)))) (hm : AV.mens g e = false) (hs : s.mens g = false) (hn : s.get g = none)
    (h : xL P c Q m1 m2 e (s.upd k (cells.set n (.own g el sz [])))) : xL P c Q m1 m2 e s := fun W0 L0 L w a hr => by
  let L' : Lay := { L with hdr := fun g' => if g' = g then .slice none 0 0 else L.hdr g' }
  have hsame : Same g L w L' w := ⟨fun b hb _ => ⟨rfl, rfl⟩, fun _ _ => rfl, fun g' hg' => by simp [L', hg'], rfl, fun _ _ => rfl⟩
  have h1 := hr.step hg hsame hm hs hn (hr.not_old hg) (Nat.le_refl _) hr.own_lt rfl rfl rfl
  refine h W0 L0 L' w a { h1 with objs := fun g' c' hc' => ?_ }
  rw [Sto.get_upd] at hc'
  by_cases hkg : k = g'
  · subst hkg
    rw [if_pos rfl, hc] at hc'
    simp at hc'; subst hc'
    refine ⟨fun h0 => absurd h0 hk, fun _ => ?_⟩
    obtain ⟨vs, e1, e3⟩ := (h1.objs k cells hc).2 hk
    obtain ⟨u, hu, hx⟩ := e3.get n _ he
    have hx : u = .slice none 0 0 := hx
    subst hx
    have hrow : ARep L' w (.own g el sz []) (.slice none 0 0) := ⟨by simp [L'], [], World.ownsRow_nil w 0 el sz, by simp [Value.ownBlock], by simp, by simp, rfl⟩
    have := AReps.set e3 n hrow
    refine ⟨vs, e1, ?_⟩
    have hset : vs.set n (.slice none 0 0) = vs := by
      apply List.ext_getElem?
      intro i
      by_cases hi : n = i
      · subst hi; rw [List.getElem?_set_self', hu]; rfl
      · rw [List.getElem?_set_ne hi]
    rwa [hset] at this
  · rw [if_neg hkg] at hc'
    exact h1.objs g' c' hc'
end Go.E

namespace Go.E
open Go Go.RowKit
def roundPostX (P : Program) (l : Nat) (R : Ending → World → Prop) : Exit → Act → World → Prop
  | .panic c, a, w => (strip a.defers = [] ∧ (marks a.defers).Nodup ∧ ∀ r ∈ marks a.defers, w.heap[r]? = some (.deferred (some []))) ∧ ∀ w', Shut (marks a.defers) w w' → R (.panicked c) w'
  | x, a, w => roundPost P l R x a w
theorem round_panics {P : Program} {b c : Frame} {cs : List Frame} {a : Act} {todo : List Item} {w : World} {chain : List PanicEntry} {R : Ending → World → Prop} (hb : b.fn < P.funcs.size) (hd : (strip a.defers = [] ∧ (marks a.defers).Nodup ∧ ∀ r ∈ marks a.defers, w.heap[r]? = some (.deferred (some []))) ∧ ∀ w', Shut (marks a.defers) w w' → R (.panicked chain) w') :
    ∃ w', R (.panicked chain) w' ∧ StepsIn (IW P) P (lone { b.atR a todo with mode := .panicking chain } (c :: cs) w) (lone (c.raise chain) cs w') := by
  obtain ⟨⟨h1, h2, h3⟩, hR⟩ := hd
  obtain ⟨w', hsh, hst⟩ := marks_steps (P := P) (cs := c :: cs) a.defers { b.atR a todo with mode := .panicking chain } w (by simp) rfl h1 h2 h3
  refine ⟨w', hR w' hsh, (stepsIn_wide.2 hst).trans (one_step (step_leave_panicked ⟨rfl, rfl, P.funcs[b.fn], ?_⟩))⟩
  exact Array.getElem?_eq_getElem hb
theorem round_of_wpX {P : Program} {l f : Nat} {tmps : Array Value} {assign body : Code} {w : World} {R : Ending → World → Prop} {r : Option Nat} (hf : f < P.funcs.size)
    (h : wpX (some l) P assign (Exit.then (fun a1 w1 => ∃ w2, (Instr.beginRound l).run P w1 = .ok () w2 ∧ wpX (some l) P body (roundPostX P l R) a1 w2) (roundPostX P l fun e w => match e with | .panicked _ => R e w | _ => False)) { tmps := tmps, defers := [] } w) :
    RoundIn (FW r) 0 P l f tmps assign body w R := by
  refine ⟨trivial, fun c cs _ => ?_⟩
  let b : Frame := { (default : Frame) with fn := f, kind := .normal, roundOf := some l }
  have hb0 : Frame.round l f tmps assign body .normal = b.atR { tmps := tmps, defers := [] } [.code assign, .beginRound, .code body] := by
    simp [Frame.round, Frame.atR, b]
  rw [hb0]
  obtain ⟨e, a1, w1, q, s⟩ := h b [.beginRound, .code body] (c :: cs) rfl hf
  cases e with
  | normal =>
    obtain ⟨w2, hbr, hbody⟩ := q
    have s1 : StepsIn (IW P) P _ _ := StepsIn.trans s (one_step (stepR_beginRound (cs := c :: cs) (k := [.code body]) (a := a1) (b := b) rfl hbr))
    obtain ⟨e2, a2, w3, q2, t⟩ := hbody b [] (c :: cs) rfl hf
    cases e2 with
    | normal =>
      obtain ⟨v, w4, hend, hR⟩ := q2
      exact ⟨.returned v, w4, hR, s1.trans (StepsIn.trans t (one_step (stepR_round_end rfl rfl hend)))⟩
    | ret =>
      obtain ⟨v, w4, hend, hR⟩ := q2
      obtain ⟨k1, p⟩ := t.2 rfl
      exact ⟨.returned v, w4, hR, s1.trans (p.trans (one_step (stepR_round_ret rfl rfl hend)))⟩
    | exit id =>
      obtain ⟨v, w4, hend, hR⟩ := q2
      obtain ⟨k1, hk, p⟩ := t.2 rfl rfl
      exact ⟨.returned v, w4, hR, s1.trans (p.trans (one_step (stepR_round_exit rfl rfl hk hend)))⟩
    | goto i =>
      obtain ⟨v, w4, hend, hR⟩ := q2
      obtain ⟨k1, hk, p⟩ := t.2 rfl rfl
      exact ⟨.returned v, w4, hR, s1.trans (p.trans (one_step (stepR_round_goto rfl rfl hk hend)))⟩
    | panic ch =>
      obtain ⟨todo, p⟩ := t
      obtain ⟨w', hR, p2⟩ := round_panics (b := b) (todo := todo) (c := c) (cs := cs) hf q2
      exact ⟨.panicked ch, w', hR, s1.trans (p.trans p2)⟩
    | outgrown => exact q2.elim
  | panic ch =>
    obtain ⟨todo, p⟩ := s
    obtain ⟨w', hR, p2⟩ := round_panics (b := b) (todo := todo) (c := c) (cs := cs) (R := fun e w => match e with | .panicked _ => R e w | _ => False) hf q
    exact ⟨.panicked ch, w', hR, StepsIn.trans p p2⟩
  | exit id => obtain ⟨_, _, _, h⟩ := q; exact h.elim
  | goto t => obtain ⟨_, _, _, h⟩ := q; exact h.elim
  | ret => obtain ⟨_, _, _, h⟩ := q; exact h.elim
  | outgrown => exact q.elim

end Go.E

namespace Go.E
open Go Go.RowKit

def setPs : List AV → List Nat → List AV → List AV
  | e, p :: ps, x :: xs => setPs (e.set p x) ps xs
  | e, _, _ => e
def roundF (g n m : Nat) (z : Int) (b : Bool) (K : AV → List AV → Sto → Prop) (s : Sto) : Prop :=
  ((s.get 0).isSome = true ∧ s.hidn = n + m) ∧ match s.get g with
    | some (h :: sn) => h = zcell 1 ∧ K (.d (.v (.bool b))) (s.top n) ((s.pull n).upd g (zcell z :: sn))
    | _ => False
def roundK (g n m : Nat) (K : AV → List AV → Sto → Prop) : Exit → List AV → Sto → Prop
  | .normal, _, s => roundF g n m 0 true K s
  | .ret, _, s => roundF g n m (-1) false K s
  | .exit id, _, s => roundF g n m ((id : Int) + 2) false K s
  | .goto l, _, s => roundF g n m (-((l : Int) + 2)) false K s
  | _, _, _ => False
def begunK (P : Program) (C : CT) (O : Nat → Sch) (tb g : Nat) (bd : Code) (Q : Exit → List AV → Sto → Prop) : Exit → List AV → Sto → Prop
  | .normal, e, s => (match s.get g with
    | some (h :: sn) => h = zcell 0 ∧ pwp P C O tb bd Q e (s.upd g (zcell 1 :: sn))
    | _ => False)
  | _, _, _ => False
def roundKX (g n m : Nat) (K : AV → List AV → Sto → Prop) (Q : Exit → List AV → Sto → Prop) : Exit → List AV → Sto → Prop
  | .panic c, _, s => ((s.get 0).isSome = true ∧ s.hidn = n + m) ∧ Q (.panic c) (s.top n) (s.pull n)
  | x, e, s => roundK g n m K x e s
def yldG (P : Program) (C : CT) (O : Nat → Sch) (tb g : Nat) (ps : List Nat) (as bd : Code) (args : List AV) (RK : Nat → Nat → Exit → List AV → Sto → Prop) (e : List AV) (s : Sto) : Prop :=
  match s.get g, s.push e with
  | some (h :: sn), some s1 => (h = zcell 0 ∧ ps.length = args.length ∧ 0 < e.length) ∧ pwp P C O tb as (begunK P C O tb g bd (RK e.length s.hidn)) (setPs sn ps args) s1
  | _, _ => False
def yldP (P : Program) (C : CT) (O : Nat → Sch) (tb g : Nat) (ps : List Nat) (as bd : Code) (args : List AV) (K : AV → List AV → Sto → Prop) (e : List AV) (s : Sto) : Prop :=
  match s.get g, s.push e with
  | some (h :: sn), some s1 => (h = zcell 0 ∧ ps.length = args.length ∧ 0 < e.length) ∧ pwp P C O tb as (begunK P C O tb g bd (roundK g e.length s.hidn K)) (setPs sn ps args) s1
  | _, _ => False

theorem setPs_rep {L : Lay} {w : World} : ∀ {ps : List Nat} {sn args : List AV} {tm : Array Value} {vs : List Value}, AReps L w sn tm.toList → AReps L w args vs →
    AReps L w (setPs sn ps args) ((ps.zip vs).foldl (fun tmps (t, a) => tmps.setIfInBounds t a) tm).toList
  | [], sn, args, tm, vs, h, _ => by cases args <;> simpa [setPs] using h
  | p :: ps, sn, [], tm, vs, h, k => by rw [show vs = [] from k]; simpa [setPs] using h
  | p :: ps, sn, x :: args, tm, vs, h, ⟨u, ut, e, k1, k2⟩ => by
    subst e
    simp only [setPs, List.zip_cons_cons, List.foldl_cons]
    exact setPs_rep (by simpa using h.set p k1) k2
theorem Sto.upd_comm {g h : Nat} {c d : List AV} (hgh : g ≠ h) : ∀ s : Sto, (s.upd g c).upd h d = (s.upd h d).upd g c
  | [] => rfl
  | (k, x) :: r => by
    by_cases h1 : k = g
    · subst h1
      simp [Sto.upd, hgh]
    · by_cases h2 : k = h
      · subst h2; simp [Sto.upd, h1]
      · simp [Sto.upd, h1, h2, Sto.upd_comm hgh r]
theorem get0_upd {g : Nat} {c : List AV} {s : Sto} (hg : g ≠ 0) : (s.upd g c).get 0 = s.get 0 := by rw [Sto.get_upd, if_neg hg]
theorem rel_pull' {W0 : World} {L0 L1 L' : Lay} {e' : List AV} {s' : Sto} {w' : World} {a a' : Act} {n m : Nat} {Lh : List Value} {kp : List (Nat × Obj)} (hr : Rel W0 L1 L' e' s' w' a') (h1 : L1.hid = a.tmps.toList ++ Lh) (h2 : ∀ x ∈ L0.kp ++ markObjs a.defers, x ∈ L1.kp) (h3 : L0.lk = L1.lk) (h4 : ∀ b, L0.own b = L1.own b) (hl : a.tmps.toList.length = n) (hm : Lh.length = m)
    (hd : ∃ vs, Lh = vs ++ L0.hid ∧ strip a.defers = vs.map undv) (hrd : L0.rd = none ∨ L0.hid ≠ []) (hrk : ∀ l, L0.rd = some l → ∃ r, (l, Obj.loop r) ∈ L0.kp) (hnd : (marks a.defers).Nodup) (hmb : ∀ r ∈ marks a.defers, W0.heap.size ≤ r ∧ ∀ o, (r, o) ∉ L0.kp)
    (h0 : (s'.get 0).isSome = true ∧ s'.hidn = n + m) : Rel W0 L0 (L'.with Lh kp) (s'.top n) (s'.pull n) w' a := by
  obtain ⟨h0, hh⟩ := h0
  obtain ⟨c, hc⟩ := Option.isSome_iff_exists.1 h0
  have hobj := (hr.objs 0 c hc).1 rfl
  obtain ⟨vs, hv1, hv2⟩ := hr.hid
  rw [hv1, h1] at hobj
  have hlen := hobj.length
  simp only [Sto.hidn, hc, Option.getD_some] at hh
  have hz : vs = [] := by
    apply List.length_eq_zero_iff.1
    simp only [List.length_append] at hlen
    omega
  subst hz
  rw [List.nil_append] at hobj
  obtain ⟨k1, k2⟩ := take_reps hobj hl
  refine hr.hide h0 k2 hd ⟨hnd, fun r h => by obtain ⟨⟨o', q1, q3⟩, q2⟩ := hr.kept _ _ (h2 _ (List.mem_append_right _ (mem_markObjs h))); rw [show o' = _ from q3] at q1; exact ⟨q1, q2⟩⟩ hmb (fun b o h => hr.kept _ _ (h2 _ (List.mem_append_left _ h))) hrk (by simpa [Sto.top, hc] using k1) h4 hrd (fun g => ?_) h3
  unfold Sto.pull
  rw [Sto.get_upd]
  by_cases h : 0 = g
  · subst h; simp [hc]
  · simp [h]

theorem lstate_exit (n : Nat) : lstate ((n : Int) + 2) = (.done, some (.exit n)) := by
  unfold lstate
  rw [if_neg (by omega), if_neg (by omega), if_neg (by omega), if_pos (by omega), show ((n : Int) + 2 - 2).toNat = n by omega]
theorem lstate_goto (n : Nat) : lstate (-((n : Int) + 2)) = (.done, some (.goto n)) := by
  unfold lstate
  rw [if_neg (by omega), if_neg (by omega), if_neg (by omega), if_neg (by omega), show (-(-((n : Int) + 2)) - 2).toNat = n by omega]
theorem yld_soundG {P : Program} {C : CT} {O : Nat → Sch} {tb : Nat} (hC : C.ok P) (hm : P.follows .mixedOrders = true) {g : Nat} {ps : List Nat} {as bd : Code} (hoa : okO O as = true) (hob : okO O bd = true)
    {args' : List AV} {e : List AV} {s : Sto} {K : AV → List AV → Sto → Prop} {Q : Exit → List AV → Sto → Prop} {RK : Nat → Nat → Exit → List AV → Sto → Prop} (hRK : ∀ n m x e s, RK n m x e s → roundKX g n m K Q x e s) (h : yldG P C O tb g ps as bd args' RK e s) : pyld P g ps as bd args' K Q e s := by
  intro dst type pos after guard f args ts W0 L0 L w a hx harg hr
  subst harg
  unfold yldG at h
  split at h
  case h_2 => exact h.elim
  rename_i hd sn s1 hs hp
  obtain ⟨⟨rfl, hlen, hpos⟩, h⟩ := h
  have hf := aval_rep hr.slots f
  rw [hx] at hf
  obtain ⟨r, hk, hfv, hps, has, hbd, hgd⟩ := hf
  obtain ⟨hown, hheap, hsn⟩ := loop_at hr hk hs
  have hk0 : L0.lk g = some r := by rw [← hr.lke]; exact hk
  have hg : g ≠ 0 := fun h => by have := (hr.lkb g r hk0).1; omega
  have hargs : AReps L w (args.toList.map (aval e)) (args.map a.eval).toList := by rw [Array.toList_map]; exact areps_map (fun x => aval_rep hr.slots x) _
  have hsz : (args.map a.eval).size = (r.at 0).params.size := by
    have h1 := hargs.length
    simp only [Array.length_toList] at h1
    rw [h1, ← hlen, ← hps]; simp [LoopS.at]
  have hrun : (execOp a.eval (⟨dst, .call ⟨.value f, args, ts⟩, type, pos, after, guard⟩ : Oper)).run P w = .ok (.round r.l r.fn ((r.params.zip (args.map a.eval)).foldl (fun tmps (t, a) => tmps.setIfInBounds t a) r.tm) r.assign r.body) w := by
    have hy := run_yield (P := P) hheap hsz
    simp only [execOp, resolve, hfv, Deferred.ofValue, Sem.run_bind, Sem.run_pure, Result.andThen_ok, invoke]
    simpa [LoopS.at] using hy
  refine ⟨fun _ _ => trivial, ?_⟩
  rw [semFW (.inr rfl), hrun]
  refine ⟨FW_depth, round_of_wpX hgd ?_⟩
  rw [has, hbd]
  have hp0 := hp
  unfold Sto.push at hp
  obtain ⟨c, hc, rfl⟩ := Option.map_eq_some_iff.1 hp
  have hobj := (hr.objs 0 c hc).1 rfl
  have hobj0 := hobj
  let L0r : Lay := { L0.with (a.tmps.toList ++ L.hid) ((r.l, .loop (r.at 0)) :: (L0.kp ++ markObjs a.defers)) with rd := some r.l }
  have hr1 : Rel W0 L0r (L.with (a.tmps.toList ++ L.hid) []) (setPs sn ps (args.toList.map (aval e))) (s.upd 0 (e ++ c)) w { tmps := (r.params.zip (args.map a.eval)).foldl (fun tmps (t, a) => tmps.setIfInBounds t a) r.tm, defers := [] } := by
    refine hr.hide (L0' := L0r) (a' := { tmps := (r.params.zip (args.map a.eval)).foldl (fun tmps (t, a) => tmps.setIfInBounds t a) r.tm, defers := [] }) (by simp [hc]) (areps_append hr.slots hobj) ⟨[], rfl, rfl⟩ ⟨by simp [marks], by simp [marks]⟩ (by simp [marks]) (fun b o h => ?_) (fun l h => ?_) ?_ (fun _ => rfl) (.inr ?_) (fun g => ?_)
    · rcases List.mem_cons.1 h with h | h
      · cases h; exact ⟨⟨_, hheap, likeObj.refl _⟩, hown⟩
      · rcases List.mem_append.1 h with h | h
        · exact hr.kept b o h
        · obtain ⟨q, h1, h2⟩ := List.mem_map.1 h
          cases h2
          exact ⟨⟨_, (hr.mks.2 _ h1).1, rfl⟩, (hr.mks.2 _ h1).2⟩
    · cases h; exact ⟨_, List.mem_cons_self⟩
    · have := setPs_rep (ps := ps) hsn hargs
      rw [← hps] at this ⊢
      rw [← Array.foldl_toList, Array.toList_zip]
      exact this
    · have hl := hr.slots.length
      show a.tmps.toList ++ L.hid ≠ []
      intro hn
      rw [(List.append_eq_nil_iff.1 hn).1] at hl
      simp at hl; omega
    · rw [Sto.get_upd]
      by_cases h : 0 = g
      · subst h; simp [hc]
      · simp [h]
  refine wpX_mono ?_ (pwp_sound hC hm as hoa h W0 L0r _ w _ hr1)
  rintro x1 a1 w1 ⟨L1, e1, s1, hr2, hq⟩
  cases x1 with
  | normal =>
    unfold begunK at hq
    simp only at hq
    split at hq
    case h_2 => exact hq.elim
    rename_i hd1 sn1 hs1
    obtain ⟨rfl, hq⟩ := hq
    have hk1 : L1.lk g = some r := by rw [hr2.lke]; exact hk0
    refine ⟨_, run_beginRound (loop_at hr2 hk1 hs1).2.1 rfl, ?_⟩
    have hr3 := hr2.turn (z' := 1) hk1 hs1
    refine wpX_mono ?_ (pwp_sound hC hm bd hob hq W0 L0r _ _ _ hr3)
    rintro x2 a2 w2 ⟨L2, e2, s2, hr4, hq2⟩
    have hk2 : L2.lk g = some r := by rw [hr4.lke]; exact hk0
    have fin : ∀ (z : Int) (jump : Option Code), ({ r.at 1 with state := if jump.isNone then .ready else .done, pending := jump } : Loop) = r.at z → roundF g e.length s.hidn z jump.isNone K s2 → ∃ v w', (Instr.endRound r.l jump).run P w2 = .ok v w' ∧ (∃ L e s r, Rel W0 L0 L (eset e dst r) s w' (a.put dst v) ∧ K r e s) := by
      rintro z jump hz ⟨h0, hq⟩
      split at hq
      case h_2 => exact hq.elim
      rename_i hd2 sn2 hs2
      obtain ⟨rfl, hq⟩ := hq
      refine ⟨_, _, run_endRound jump (loop_at hr4 hk2 hs2).2.1, ?_⟩
      rw [hz]
      have hr5 := hr4.turn (z' := z) hk2 hs2
      have hr6 := rel_pull' (L0 := L0) (a := a) (Lh := L.hid) (n := e.length) (m := s.hidn) (kp := []) hr5 rfl (fun x h => List.mem_cons_of_mem _ h) rfl (fun _ => rfl) hr.slots.length (hid_len hr hp0) hr.hid hr.rd hr.rdk hr.mks.1 hr.mkb (by simpa [Sto.hidn, get0_upd hg] using h0)
      have e1 : (s2.upd g (zcell z :: sn2)).top e.length = s2.top e.length := by simp [Sto.top, get0_upd hg]
      have e2 : (s2.upd g (zcell z :: sn2)).pull e.length = (s2.pull e.length).upd g (zcell z :: sn2) := by
        unfold Sto.pull; rw [get0_upd hg, Sto.upd_comm hg]
      rw [e1, e2] at hr6
      exact ⟨_, _, _, _, hr6.put dst (x := .d (.v (.bool jump.isNone))) rfl, hq⟩
    have hq2 := hRK _ _ _ _ _ hq2
    cases x2 with
    | normal => exact fin 0 none rfl hq2
    | ret => exact fin (-1) (some .ret) rfl hq2
    | exit id =>
      refine fin ((id : Int) + 2) (some (.exit id)) ?_ hq2
      simp only [LoopS.at, lstate_exit]; rfl
    | goto l =>
      refine fin (-((l : Int) + 2)) (some (.goto l)) ?_ hq2
      simp only [LoopS.at, lstate_goto]; rfl
    | panic ch =>
      obtain ⟨h0, hq⟩ := hq2
      have hd : strip a2.defers = [] := by
        obtain ⟨c', hc'⟩ := Option.isSome_iff_exists.1 h0.1
        have hobj := (hr4.objs 0 c' hc').1 rfl
        obtain ⟨vs, hv1, hv2⟩ := hr4.hid
        have hlen := hobj.length
        rw [hv1] at hlen
        have hh := h0.2
        have hh3 : s2.hidn = c'.length := by simp only [Sto.hidn, hc', Option.getD_some]
        have hl1 := hr.slots.length
        have hh2 : s.hidn = c.length := by simp only [Sto.hidn, hc, Option.getD_some]
        rw [hh2, hh3] at hh
        have e1 : L0r.hid.length = e.length + c.length := by
          show (a.tmps.toList ++ L.hid).length = _
          rw [List.length_append, hl1, hobj0.length]
        have hz : vs = [] := by
          apply List.length_eq_zero_iff.1
          have hlen' : vs.length + L0r.hid.length = c'.length := by rw [← hlen, List.length_append]
          omega
        rw [hz] at hv2; exact hv2
      refine ⟨⟨hd, hr4.mks.1, fun q hq => (hr4.mks.2 q hq).1⟩, fun w3 hsh => ?_⟩
      have hr6 := rel_pull' (L0 := L0) (a := a) (Lh := L.hid) (n := e.length) (m := s.hidn) (kp := []) (hr4.shut hd hsh) rfl (fun x h => List.mem_cons_of_mem _ h) rfl (fun _ => rfl) hr.slots.length (hid_len hr hp0) hr.hid hr.rd hr.rdk hr.mks.1 hr.mkb h0
      exact ⟨_, _, _, hr6, hq⟩
    | outgrown => exact hq2.elim
  | exit i => exact hq.elim
  | goto l => exact hq.elim
  | ret => exact hq.elim
  | panic ch => exact hq.elim
  | outgrown => exact hq.elim

theorem yld_sound {P : Program} {C : CT} {O : Nat → Sch} {tb : Nat} (hC : C.ok P) (hm : P.follows .mixedOrders = true) {g : Nat} {ps : List Nat} {as bd : Code} (hoa : okO O as = true) (hob : okO O bd = true)
    {args' : List AV} {e : List AV} {s : Sto} {K : AV → List AV → Sto → Prop} {Q : Exit → List AV → Sto → Prop} (h : yldP P C O tb g ps as bd args' K e s) : pyld P g ps as bd args' K Q e s :=
  yld_soundG hC hm hoa hob (RK := fun n m => roundK g n m K) (fun _ _ x _ _ h => by cases x <;> first | exact h | exact h.elim) h
def yldPX (P : Program) (C : CT) (O : Nat → Sch) (tb g : Nat) (ps : List Nat) (as bd : Code) (args : List AV) (K : AV → List AV → Sto → Prop) (Q : Exit → List AV → Sto → Prop) (e : List AV) (s : Sto) : Prop := yldG P C O tb g ps as bd args (fun n m => roundKX g n m K Q) e s
def yldE (P : Program) (C : CT) (O : Nat → Sch) (tb : Nat) : Nat → List Nat → Code → Code → List AV → (AV → List AV → Sto → Prop) → Kt → List AV → Sto → Prop := fun g ps as bd args K _ e s => (okO O as = true ∧ okO O bd = true) ∧ yldP P C O tb g ps as bd args K e s
theorem yldE_ok {P : Program} {C : CT} {O : Nat → Sch} {tb : Nat} (hC : C.ok P) (hm : P.follows .mixedOrders = true) {g : Nat} {ps : List Nat} {as bd : Code} {args : List AV} {K : AV → List AV → Sto → Prop} {Q : Kt} {e : List AV} {s : Sto} (h : yldE P C O tb g ps as bd args K Q e s) : pyld P g ps as bd args K Q e s :=
  yld_sound hC hm h.1.1 h.1.2 h.2

def xRd (g n m : Nat) (K : AV → List AV → Sto → Prop) (_ : At K) : Kt := fun x e s => roundK g n m K x e s
def xBg (P : Program) (C : CT) (O : Nat → Sch) (tb g : Nat) (bd : Code) (Q : Kt) (_ : At bd) (_ : At Q) : Kt := fun x e s => begunK P C O tb g bd Q x e s
def zK (o : Option (List AV)) (z : Int) (k : List AV → Prop) (_ : At k) : Prop := match o with | some (h :: sn) => h = zcell z ∧ k sn | _ => False
theorem z_c {h : AV} {sn : List AV} {z : Int} {k : List AV → Prop} {m : At k} : zK (some (h :: sn)) z k m = (h = zcell z ∧ k sn) := id rfl
def xJp (z : Int) (Q : Kt) (_ : At Q) (e : List AV) (s : Sto) : Prop := jumpK z Q e s
def xRg (G : Nat) (Q : Kt) (_ : At Q) (e : List AV) (s : Sto) : Prop := rngK G Q e s
def jK (o : Option (List AV)) (Q : Kt) (_ : At Q) (e : List AV) (s : Sto) : Prop := match o with | some (.d (.v (.int .i64 z)) :: _) => jumpK z Q e s | _ => False
section
variable {P : Program} {C : CT} {O : Nat → Sch} {tb : Nat} {Q : Kt} {e : List AV} {s : Sto}
def xRF (P : Program) (f : Operand) (ps : Array Nat) (as bd : Code) (Q : Kt) (_ : At as) (_ : At bd) (_ : At Q) (e : List AV) (s : Sto) : Prop := psem P (.rangeFunc f ps as bd) Q e s
theorem w_rng {f : Operand} {ps : Array Nat} {as bd : Code} {i : At (Code.rangeFunc f ps as bd)} {j : At Q} : xW P C O tb (.rangeFunc f ps as bd) Q i j e s = xRF P f ps as bd Q (mk _) (mk _) (mk _) e s := id rfl
def updAll : Sto → List (Nat × List AV) → Sto
  | s, [] => s
  | s, (g, c) :: r => updAll (s.upd g c) r
theorem rg_eq {G : Nat} {j : At Q} : xRg G Q j e s = jK (s.get G) Q (mk _) (e.map (AV.kill G)) (s.kill G) := id rfl
theorem j_z {z : Int} {l : List AV} {j : At Q} : jK (some (.d (.v (.int .i64 z)) :: l)) Q j e s = xJp z Q (mk _) e s := id rfl
theorem jp_0 {j : At Q} : xJp 0 Q j e s = Q .normal e s := id rfl
theorem jp_1 {j : At Q} : xJp (-1) Q j e s = Q .ret e s := id rfl
theorem jp_x {n : Nat} {j : At Q} : xJp ((n : Int) + 2) Q j e s = Q (.exit n) e s := by
  unfold xJp jumpK
  rw [if_neg (by omega), if_neg (by omega), if_pos (by omega), show ((n : Int) + 2 - 2).toNat = n by omega]
theorem jp_g {n : Nat} {j : At Q} : xJp (-((n : Int) + 2)) Q j e s = Q (.goto n) e s := by
  unfold xJp jumpK
  rw [if_neg (by omega), if_neg (by omega), if_neg (by omega), if_pos (by omega), show (-(-((n : Int) + 2)) - 2).toNat = n by omega]
theorem zc (z : Int) : zcell z = .d (.v (.int .i64 z)) := id rfl
variable {g n m : Nat} {K : AV → List AV → Sto → Prop}
theorem rd_n {j : At K} : xRd g n m K j .normal e s = (((s.get 0).isSome = true ∧ s.hidn = n + m) ∧ zK (s.get g) 1 (fun sn => K (.d (.v (.bool true))) (s.top n) ((s.pull n).upd g (zcell 0 :: sn))) (mk _)) := by
  simp only [xRd, roundK, roundF, zK]
theorem rd_r {j : At K} : xRd g n m K j .ret e s = (((s.get 0).isSome = true ∧ s.hidn = n + m) ∧ zK (s.get g) 1 (fun sn => K (.d (.v (.bool false))) (s.top n) ((s.pull n).upd g (zcell (-1) :: sn))) (mk _)) := by
  simp only [xRd, roundK, roundF, zK]
theorem rd_x {j : At K} {id' : Nat} : xRd g n m K j (.exit id') e s = (((s.get 0).isSome = true ∧ s.hidn = n + m) ∧ zK (s.get g) 1 (fun sn => K (.d (.v (.bool false))) (s.top n) ((s.pull n).upd g (zcell ((id' : Int) + 2) :: sn))) (mk _)) := by
  simp only [xRd, roundK, roundF, zK]
theorem bg_n {bd : Code} {i : At bd} {j : At Q} : xBg P C O tb g bd Q i j .normal e s = zK (s.get g) 0 (fun sn => xW P C O tb bd Q (mk _) (mk _) e (s.upd g (zcell 1 :: sn))) (mk _) := by
  simp only [xBg, begunK, zK, xW]
theorem qd_Rd {l : List Oper} {j : At K} {m1 : At l} {k} : xQd l (xRd g n m K j) m1 k = True := propext ⟨fun _ => trivial, fun _ c e s d _ h => h.elim⟩
theorem qd_Bg {l : List Oper} {bd : Code} {i : At bd} {j : At Q} {m1 : At l} {k} : xQd l (xBg P C O tb g bd Q i j) m1 k = True := propext ⟨fun _ => trivial, fun _ c e s d _ h => h.elim⟩
def okb (O : Nat → Sch) (as bd : Code) : Bool := okO O as && okO O bd
theorem okb_ok {O : Nat → Sch} {as bd : Code} (h : id (okb O as bd) = true) : okb O as bd = true := h
end
theorem xyld {P : Program} (C C' : CT) (O : Nat → Sch) (tb g : Nat) (Y : Nat → List Nat → Code → Code → List AV → (AV → List AV → Sto → Prop) → Kt → List AV → Sto → Prop) (hY : C.y = Y) (ps : List Nat) (as bd : Code) (hE : Y g ps as bd = yldE P C' O tb g ps as bd) {args : List AV} {K : AV → List AV → Sto → Prop} {Q : Kt} {e : List AV} {s : Sto} {i1 : At as} {i2 : At bd} {i3 : At K} {i4 : At Q} (h : okb O as bd = true) :
    xYl C g ps as bd args K Q i1 i2 i3 i4 e s = zK (s.get g) 0 (fun sn => oK (s.push e) (fun s1 => (ps.length = args.length ∧ 0 < e.length) ∧ xW P C' O tb as (xBg P C' O tb g bd (xRd g e.length s.hidn K (mk _)) (mk _) (mk _)) (mk _) (mk _) (setPs sn ps args) s1) (mk _)) (mk _) := by
  unfold xYl; rw [hY, hE]
  simp only [okb, Bool.and_eq_true] at h
  simp only [yldE, h, and_self, true_and, yldP, zK, oK]
  cases h1 : s.get g with
  | none => rfl
  | some c =>
    cases c with
    | nil => rfl
    | cons x sn =>
      cases h2 : s.push e with
      | none => simp
      | some s1 => exact propext ⟨fun ⟨⟨q1, q2, q3⟩, q4⟩ => ⟨q1, ⟨q2, q3⟩, q4⟩, fun ⟨q1, ⟨q2, q3⟩, q4⟩ => ⟨⟨q1, q2, q3⟩, q4⟩⟩
end Go.E

namespace Go.E
open Go Go.RowKit
theorem HeldB.own {L L' : Lay} {w : World} {g : Nat} {vs : List Value} (h : HeldB L w g vs) (hb : L'.blk g = L.blk g) (ho : ∀ b, L.own b = some g → L'.own b = some g) : HeldB L' w g vs := by
  unfold HeldB at h ⊢
  rw [hb]
  rcases h with h | h | ⟨h1, es, n, h2, h3, h4, h5⟩
  · exact .inl h
  · exact .inr (.inl h)
  · refine .inr (.inr ⟨h1, es, n, h2, h3, ⟨fun x hx => ?_, h4.2⟩, h5⟩)
    obtain ⟨b, c, t, q1, q2, q3⟩ := h4.1 x hx
    exact ⟨b, c, t, q1, q2, ho b q3⟩

mutual
def AV.only (T : List Nat) : AV → Bool
  | .any => true
  | .d _ => true
  | .own g _ _ _ => T.contains g
  | .eref g _ _ _ _ _ => T.contains g
  | .ref g _ => T.contains g
  | .mp g => T.contains g
  | .it g => T.contains g
  | .bx g _ _ => T.contains g
  | .yld _ _ _ _ _ => false
  | .tup xs => AV.onlys T xs
  | .agg xs => AV.onlys T xs
  | .clo _ x y => AV.onlys T x && AV.onlys T y
  | .iface _ x => x.only T
def AV.onlys (T : List Nat) : List AV → Bool
  | [] => true
  | x :: xs => x.only T && AV.onlys T xs
end
def mer (T : List Nat) (s1 : Sto) : Sto → Sto
  | [] => []
  | (g, c) :: r => if T.contains g = true then (match s1.get g with | some c' => (g, c') :: mer T s1 r | none => mer T s1 r) else (g, c) :: mer T s1 r
theorem mer_get {T : List Nat} {s1 : Sto} {g : Nat} {c : List AV} : ∀ {s : Sto}, (mer T s1 s).get g = some c → (T.contains g = true ∧ s1.get g = some c) ∨ (T.contains g = false ∧ s.get g = some c)
  | [], h => by simp [mer, Sto.get] at h
  | (k, x) :: r, h => by
    unfold mer at h
    split at h
    · rename_i hk
      split at h
      · rename_i c' hc'
        simp only [Sto.get] at h
        split at h
        · rename_i e; subst e; cases h; exact .inl ⟨hk, hc'⟩
        · rename_i hne
          rcases mer_get h with q | ⟨q1, q2⟩
          · exact .inl q
          · exact .inr ⟨q1, by simp [Sto.get, hne, q2]⟩
      · rcases mer_get h with q | ⟨q1, q2⟩
        · exact .inl q
        · exact .inr ⟨q1, by
            have hne : k ≠ g := fun e => by rw [e] at hk; rw [hk] at q1; cases q1
            simp [Sto.get, hne, q2]⟩
    · rename_i hk
      simp only [Sto.get] at h
      split at h
      · rename_i e; subst e; cases h; exact .inr ⟨by simpa using hk, by simp [Sto.get]⟩
      · rename_i hne
        rcases mer_get h with q | ⟨q1, q2⟩
        · exact .inl q
        · exact .inr ⟨q1, by simp [Sto.get, hne, q2]⟩

def avail (e : List AV) (s : Sto) (x : AV) : Prop :=
  x ∈ e ∨ (∃ g c, g ≠ 0 ∧ s.get g = some c ∧ x ∈ c) ∨ match x with
    | .ref g off => off = 0 ∧ g < 1000000000
    | .mp g => 2000000000 ≤ g
    | .it g => 2000000000 ≤ g
    | _ => False

theorem AReps.mem {L : Lay} {w : World} : ∀ {xs : List AV} {us : List Value} {x : AV}, AReps L w xs us → x ∈ xs → ∃ u, ARep L w x u
  | [], _, _, _, h => by cases h
  | y :: ys, _, x, ⟨u, ut, e, k1, k2⟩, h => by
    rcases List.mem_cons.1 h with rfl | h
    · exact ⟨u, k1⟩
    · exact AReps.mem k2 h
theorem avail_rep {W0 : World} {L0 L : Lay} {e : List AV} {s : Sto} {w : World} {a : Act} (hr : Rel W0 L0 L e s w a) {x : AV} (h : avail e s x) : ∃ u, ARep L w x u := by
  have hlk : ∀ g, (g < 1000000000 ∨ 2000000000 ≤ g) → L.lk g = none := fun g hg => by
    cases h : L.lk g with
    | none => rfl
    | some r => have := (hr.lkb g r (by rw [← hr.lke, h])).1; omega
  rcases h with h | ⟨g, c, h0, h1, h2⟩ | h
  · exact AReps.mem hr.slots h
  · obtain ⟨vs, _, q⟩ := (hr.objs g c h1).2 h0
    exact AReps.mem q h2
  · cases x with
    | ref g off => obtain ⟨rfl, h⟩ := h; exact ⟨_, rfl, hlk g (.inl h), by omega⟩
    | mp g => exact ⟨_, rfl, hlk g (.inr h), h⟩
    | it g => exact ⟨_, rfl, hlk g (.inr h), h⟩
    | _ => exact h.elim
theorem avail_reps {W0 : World} {L0 L : Lay} {e : List AV} {s : Sto} {w : World} {a : Act} (hr : Rel W0 L0 L e s w a) : ∀ {E : List AV}, (∀ x ∈ E, avail e s x) → ∃ us, AReps L w E us
  | [], _ => ⟨[], rfl⟩
  | x :: E, h => by
    obtain ⟨u, hu⟩ := avail_rep hr (h x (by simp))
    obtain ⟨us, hus⟩ := avail_reps hr (E := E) fun y hy => h y (by simp [hy])
    exact ⟨u :: us, u, us, rfl, hu, hus⟩
theorem AReps.of_mem {L L' : Lay} {w w' : World} {x : AV} : ∀ {E : List AV} {us : List Value}, x ∈ E → AReps L w E us → AReps L' w' E us → ∃ u, ARep L w x u ∧ ARep L' w' x u
  | [], _, h, _, _ => by cases h
  | y :: E, us, h, ⟨u, ut, e, k1, k2⟩, ⟨u', ut', e', k1', k2'⟩ => by
    rw [e] at e'
    obtain ⟨rfl, rfl⟩ := List.cons.inj e'
    rcases List.mem_cons.1 h with rfl | h
    · exact ⟨u, k1, k1'⟩
    · exact AReps.of_mem h k2 k2'

structure Onto (T : List Nat) (L : Lay) (w : World) (L' : Lay) (w' : World) : Prop where
  mem : (L.mem w).le (L'.mem w')
  row : ∀ g e s rows u, T.contains g = true → OwnRow L w g e s rows u → OwnRow L' w' g e s rows u
  blk : ∀ g, T.contains g = true → L'.blk g = L.blk g
  hdr : ∀ g, T.contains g = true → L'.hdr g = L.hdr g
  lk : ∀ g, T.contains g = true → L'.lk g = none
mutual
theorem AV.only_rep {T : List Nat} {L L' : Lay} {w w' : World} (h : Onto T L w L' w') : ∀ (x : AV) (u : Value), x.only T = true → ARep L w x u → ARep L' w' x u
  | .any, _, _, _ => trivial
  | .d x, u, _, hr => DRep.mono h.mem x u hr
  | .own g _ s rows, u, hm, ⟨e, hr⟩ => ⟨by rw [h.hdr g hm]; exact e, h.row _ _ _ _ _ hm hr⟩
  | .eref g _ s rows i off, u, hm, ⟨hr, hi, b, n, c, e1, e2⟩ => ⟨by rw [h.hdr g hm]; exact h.row _ _ _ _ _ hm hr, hi, b, n, c, by rw [h.hdr g hm]; exact e1, e2⟩
  | .ref g off, u, hm, e => ⟨by rw [h.blk g hm]; exact e.1, h.lk g hm, e.2.2⟩
  | .mp g, u, hm, e => ⟨by rw [h.blk g hm]; exact e.1, h.lk g hm, e.2.2⟩
  | .it g, u, hm, e => ⟨by rw [h.blk g hm]; exact e.1, h.lk g hm, e.2.2⟩
  | .bx g i off, u, hm, ⟨a, b, e1, e2, e3⟩ => ⟨a, b, by rw [h.hdr g hm]; exact e1, e2, e3⟩
  | .tup xs, _, hm, ⟨us, e, k1⟩ => ⟨us, e, AV.onlys_rep h xs _ hm k1⟩
  | .agg xs, _, hm, ⟨us, e, k1⟩ => ⟨us, e, AV.onlys_rep h xs _ hm k1⟩
  | .clo _ x y, _, hm, ⟨xs, ys, e, k1, k2⟩ => by
    simp only [AV.only, Bool.and_eq_true] at hm
    exact ⟨xs, ys, e, AV.onlys_rep h x _ hm.1 k1, AV.onlys_rep h y _ hm.2 k2⟩
  | .iface _ x, _, hm, ⟨y, e, k1⟩ => ⟨y, e, AV.only_rep h x y hm k1⟩
  | .yld _ _ _ _ _, _, hm, _ => by simp [AV.only] at hm
theorem AV.onlys_rep {T : List Nat} {L L' : Lay} {w w' : World} (h : Onto T L w L' w') : ∀ (xs : List AV) (us : List Value), AV.onlys T xs = true → AReps L w xs us → AReps L' w' xs us
  | [], _, _, hr => hr
  | x :: xs, _, hm, ⟨u, ut, e, k1, k2⟩ => by
    simp only [AV.onlys, Bool.and_eq_true] at hm
    exact ⟨u, ut, e, AV.only_rep h x u hm.1 k1, AV.onlys_rep h xs ut hm.2 k2⟩
end
def cleanT (T : List Nat) : Option Nat → Option Nat
  | none => none
  | some g => if T.contains g = true then some g else some 0
theorem cleanT_none {T : List Nat} {o : Option Nat} : cleanT T o = none ↔ o = none := by
  cases o with
  | none => simp [cleanT]
  | some g => simp only [cleanT]; split <;> simp
theorem cleanT_some {T : List Nat} {g : Nat} (h : T.contains g = true) : cleanT T (some g) = some g := by simp only [cleanT]; rw [if_pos h]

structure FrameOk (T : List Nat) (E args : List AV) (s0 : Sto) (e : List AV) (s : Sto) : Prop where
  tags : ∀ g ∈ T, g ≠ 0 ∧ (g < 1000000000 ∨ 2000000000 ≤ g)
  sub : ∀ g c, s0.get g = some c → T.contains g = true ∧ s.get g = some c ∧ AV.onlys T c = true
  args : AV.onlys T args = true
  eo : AV.onlys T E = true
  av : ∀ x ∈ E, avail e s x
  slots : AV.stays T E e
  others : ∀ g c, s.get g = some c → T.contains g = false → AV.stays T E c

theorem pcall_frameB {P : Program} {f : Nat} {T : List Nat} {E args : List AV} {s0 : Sto} {e : List AV} {s : Sto} {R : AV → Sto → Prop} {RQ : List PanicEntry → Sto → Prop} {K : AV → List AV → Sto → Prop} {Q : Exit → List AV → Sto → Prop}
    (hF : FrameOk T E args s0 e s) (h : callable P f = true ∧ ∀ (w : World) (lo : Nat → Option Nat) (lb : Nat → Nat) (lh : Nat → Value) (tm vs : Array Value), Rel w { own := lo, blk := lb, hdr := lh, hid := [], rd := none, kp := [], lk := fun _ => none } { own := lo, blk := lb, hdr := lh, hid := [], rd := none, kp := [], lk := fun _ => none } E ((0, []) :: s0) w { tmps := tm, defers := [] } → AReps { own := lo, blk := lb, hdr := lh, hid := [], rd := none, kp := [], lk := fun _ => none } w args vs.toList →
      Calls P f vs w (fun en w' => match en with
        | .returned v => ∃ L' e' s' r, Rel w { own := lo, blk := lb, hdr := lh, hid := [], rd := none, kp := [], lk := fun _ => none } L' e' s' w' { tmps := tm, defers := [] } ∧ ARep L' w' r v ∧ e' = E ∧ R r s'
        | .panicked c => ∃ L' e' s', Rel w { own := lo, blk := lb, hdr := lh, hid := [], rd := none, kp := [], lk := fun _ => none } L' e' s' w' { tmps := tm, defers := [] } ∧ e' = E ∧ RQ c s'
        | .outgrown => False))
    (hK : ∀ r s1, R r s1 → (r.only T = true ∧ ∀ g c, T.contains g = true → s1.get g = some c → AV.onlys T c = true) ∧ K r e (mer T s1 s))
    (hQ : ∀ c s1, RQ c s1 → (∀ g c, T.contains g = true → s1.get g = some c → AV.onlys T c = true) ∧ Q (.panic c) e (mer T s1 s)) : pcall P f args K Q e s := by
  refine ⟨h.1, fun W0 L0 L w a vs hr ha => ?_⟩
  have h0T : T.contains 0 = false := by
    cases h0 : T.contains 0 with
    | false => rfl
    | true => exact absurd rfl (hF.tags 0 (by simpa using h0)).1
  have hlk : ∀ g, T.contains g = true → L.lk g = none := fun g hg => by
    cases h : L.lk g with
    | none => rfl
    | some r => have := (hr.lkb g r (by rw [← hr.lke, h])).1; have := (hF.tags g (by simpa using hg)).2; omega
  let L1 : Lay := { own := fun b => cleanT T (L.own b), blk := L.blk, hdr := L.hdr, hid := [], rd := none, kp := [], lk := fun _ => none }
  have h01 : Onto T L w L1 w :=
    { mem := look_le fun b hb _ => ⟨by simp only [L1, hb, cleanT], rfl⟩
      row := fun g e s rows u hg ⟨xs, q1, q2, q3, q4, q5⟩ => ⟨xs, q1, fun b hb => by simp only [L1, q2 b hb]; exact cleanT_some hg, q3, q4, DReps.mono (look_le fun b hb _ => ⟨by simp only [L1, hb, cleanT], rfl⟩) _ _ q5⟩
      blk := fun _ _ => rfl, hdr := fun _ _ => rfl, lk := fun _ _ => rfl }
  obtain ⟨us, hus⟩ := avail_reps hr hF.av
  have hr1 : Rel w L1 L1 E ((0, []) :: s0) w { tmps := us.toArray, defers := [] } :=
    { slots := by simpa using AV.onlys_rep h01 _ _ hF.eo hus
      hid := ⟨[], rfl, rfl⟩
      mks := ⟨by simp [marks], by simp [marks]⟩
      mkb := by simp [marks]
      kept := fun b o hb => by cases hb
      rdk := fun l hb => by cases hb
      lke := rfl
      lkb := fun g r hg => by cases hg
      lki := fun g g' r r' hg => by cases hg
      rd := .inl rfl
      objs := fun g c hg => by
        simp only [Sto.get] at hg
        split at hg
        · rename_i e0; subst e0; cases hg; exact ⟨fun _ => rfl, fun h => absurd rfl h⟩
        · rename_i hg0
          obtain ⟨q1, q2, q3⟩ := hF.sub g c hg
          refine ⟨fun h => absurd h.symm hg0, fun hne => ?_⟩
          obtain ⟨ws, k1, k2⟩ := (hr.objs g c q2).2 hne
          refine ⟨ws, ?_, AV.onlys_rep h01 _ _ q3 k2⟩
          unfold Held at k1 ⊢
          rw [hlk g q1] at k1
          rcases k1 with k1 | k1
          rotate_left
          · exact .inr k1
          left
          exact ⟨by simp only [L1]; rw [k1.1]; exact cleanT_some q1, k1.2.own rfl fun b hb => by simp only [L1]; rw [hb]; exact cleanT_some q1⟩
      old := fun _ _ _ => ⟨rfl, rfl⟩
      size := Nat.le_refl _
      own_lt := fun b g hb => by
        simp only [L1] at hb
        cases ho : L.own b with
        | none => rw [ho] at hb; cases hb
        | some g' => exact hr.own_lt b g' ho
      os := rfl, tape := rfl, output := rfl }
  have main : ∀ (L2 : Lay) (s1 : Sto) (w2 : World) (a2 : Act), Rel w L1 L2 E s1 w2 a2 → a2 = { tmps := us.toArray, defers := [] } → (∀ g c, T.contains g = true → s1.get g = some c → AV.onlys T c = true) →
      ∃ L3, Rel W0 L0 L3 e (mer T s1 s) w2 a ∧ Onto T L2 w2 L3 w2 := fun L2 s1 w2 a2 hr2 ha2 hT => by
    subst ha2
    let L3 : Lay := { L with
      own := fun b => if b < w.heap.size ∧ ∀ g, L.own b = some g → T.contains g = false then L.own b else cleanT T (L2.own b),
      blk := fun g => if T.contains g = true then L2.blk g else L.blk g
      hdr := fun g => if T.contains g = true then L2.hdr g else L.hdr g }
    have hold : ∀ b, b < w.heap.size → (∀ g, L.own b = some g → T.contains g = false) → L2.own b = cleanT T (L.own b) ∧ w2.heap[b]? = w.heap[b]? := fun b hb hg => by
      refine hr2.old b hb ?_
      simp only [L1]
      cases ho : L.own b with
      | none => exact .inl rfl
      | some g => right; simp only [cleanT]; rw [hg g ho]; simp
    have hclean : ∀ b, b < w.heap.size → (∀ g, L.own b = some g → T.contains g = false) → ∀ g, T.contains g = true → L2.own b ≠ some g := fun b hb hn g hg he => by
      rw [(hold b hb hn).1] at he
      cases ho : L.own b with
      | none => rw [ho] at he; cases he
      | some g' =>
        rw [ho] at he; simp only [cleanT] at he
        rw [hn g' ho] at he
        simp at he; subst he
        rw [h0T] at hg; cases hg
    have hown : ∀ b g, T.contains g = true → L2.own b = some g → L3.own b = some g := fun b g hg he => by
      simp only [L3]
      split
      · rename_i hc; exact absurd he (hclean b hc.1 hc.2 g hg)
      · rw [he]; exact cleanT_some hg
    have h23 : Onto T L2 w2 L3 w2 := by
      have hm : (L2.mem w2).le (L3.mem w2) := look_le fun b hb _ => ⟨by
        simp only [L3]
        split
        · rename_i hc
          have := (hold b hc.1 hc.2).1
          rw [hb] at this
          exact cleanT_none.1 this.symm
        · rw [hb]; rfl, rfl⟩
      exact
        { mem := hm
          row := fun g e s rows u hg ⟨xs, q1, q2, q3, q4, q5⟩ => ⟨xs, q1, fun b hb => hown b g hg (q2 b hb), q3, q4, DReps.mono hm _ _ q5⟩
          blk := fun g hg => by simp only [L3]; rw [if_pos hg]
          hdr := fun g hg => by simp only [L3]; rw [if_pos hg]
          lk := fun g hg => hlk g hg }
    have hheap : ∀ b, b < w.heap.size → (∀ g, L.own b = some g → T.contains g = false) → w2.heap[b]? = w.heap[b]? ∧ L3.own b = L.own b := fun b hb hn => ⟨(hold b hb hn).2, by simp only [L3]; rw [if_pos ⟨hb, hn⟩]⟩
    have hst : Stays T E L w L3 w2 :=
      { heap := hheap
        blk := fun g hg => by simp only [L3]; rw [hg]; simp
        hdr := fun g hg => by simp only [L3]; rw [hg]; simp
        lk := rfl
        E := fun x hx => AReps.of_mem hx hus (by simpa using AV.onlys_rep h23 _ _ hF.eo hr2.slots) }
    have h0 : ∀ b, L.own b = some 0 → ∀ g, L.own b = some g → T.contains g = false := fun b hb g hg => by rw [hb] at hg; cases hg; exact h0T
    refine ⟨L3, ?_, h23⟩
    exact
      { slots := AV.stays_rep hst _ _ hF.slots hr.slots
        hid := hr.hid
        mks := ⟨hr.mks.1, fun r hr' => by
          obtain ⟨q1, q2⟩ := hr.mks.2 r hr'
          have := hheap r (lt_of_heap q1) (h0 r q2)
          exact ⟨this.1.trans q1, this.2.trans q2⟩⟩
        mkb := hr.mkb
        kept := fun b o hb => by
          obtain ⟨⟨o', q1, q3⟩, q2⟩ := hr.kept b o hb
          have := hheap b (lt_of_heap q1) (h0 b q2)
          exact ⟨⟨o', this.1.trans q1, q3⟩, this.2.trans q2⟩
        rdk := hr.rdk
        lke := hr.lke
        lkb := fun g r hg => ⟨(hr.lkb g r hg).1, (hr.lkb g r hg).2.1, Nat.lt_of_lt_of_le (hr.lkb g r hg).2.2 hr2.size⟩
        lki := hr.lki
        rd := hr.rd
        objs := fun g c hg => by
          rcases mer_get hg with ⟨q1, q2⟩ | ⟨q1, q2⟩
          · have hg0 : g ≠ 0 := (hF.tags g (by simpa using q1)).1
            obtain ⟨ws, k1, k2⟩ := (hr2.objs g c q2).2 hg0
            refine ⟨fun h => absurd h hg0, fun _ => ⟨ws, ?_, AV.onlys_rep h23 _ _ (hT g c q1 q2) k2⟩⟩
            unfold Held at k1 ⊢
            rw [show L2.lk g = none by rw [hr2.lke]] at k1
            rw [show L3.lk g = none from hlk g q1]
            have hb : L3.blk g = L2.blk g := h23.blk g q1
            rcases k1 with k1 | k1
            rotate_left
            · exact .inr k1
            left
            refine ⟨by rw [hb]; exact hown _ g q1 k1.1, ?_⟩
            exact k1.2.own hb fun b hb' => hown b g q1 hb'
          · refine ⟨fun h => AV.stays_rep hst _ _ (hF.others g c q2 q1) ((hr.objs g c q2).1 h), fun hg0 => ?_⟩
            obtain ⟨ws, k1, k2⟩ := (hr.objs g c q2).2 hg0
            exact ⟨ws, k1.congr rfl (fun _ => hst.blk g q1) (fun b hb ho => hheap b hb fun g' hg' => by
              rcases ho with ho | ho <;> rw [ho] at hg' <;> cases hg'
              · exact q1
              · exact h0T), AV.stays_rep hst _ _ (hF.others g c q2 q1) k2⟩
        old := fun b hb h1 => by
          have q := hr.old b hb h1
          have := hheap b (Nat.lt_of_lt_of_le hb hr.size) (fun g hg => by
            rcases h1 with h1 | h1
            · rw [q.1, h1] at hg; cases hg
            · rw [q.1, h1] at hg; cases hg; exact h0T)
          exact ⟨this.2.trans q.1, this.1.trans q.2⟩
        size := Nat.le_trans hr.size hr2.size
        own_lt := fun b g hb => by
          simp only [L3] at hb
          split at hb
          · exact Nat.lt_of_lt_of_le (hr.own_lt b g hb) hr2.size
          · cases ho : L2.own b with
            | none => rw [ho] at hb; cases hb
            | some g' => exact hr2.own_lt b g' ho
        os := hr2.os.trans hr.os
        tape := hr2.tape.trans hr.tape
        output := hr2.output.trans hr.output }
  refine (h.2 w (fun b => cleanT T (L.own b)) L.blk L.hdr _ vs hr1 (AV.onlys_rep h01 _ _ hF.args ha)).mono fun en w2 hen => ?_
  cases en with
  | returned v =>
    obtain ⟨L2, e1, s1, r, hr2, hrv, rfl, hR⟩ := hen
    obtain ⟨⟨q1, q2⟩, q3⟩ := hK r s1 hR
    obtain ⟨L3, k1, k2⟩ := main L2 s1 w2 _ hr2 rfl q2
    exact ⟨L3, e, _, r, k1, AV.only_rep k2 _ _ q1 hrv, q3⟩
  | panicked c =>
    obtain ⟨L2, e1, s1, hr2, rfl, hR⟩ := hen
    obtain ⟨q2, q3⟩ := hQ c s1 hR
    obtain ⟨L3, k1, k2⟩ := main L2 s1 w2 _ hr2 rfl q2
    exact ⟨L3, e, _, k1, q3⟩
  | outgrown => exact hen.elim
theorem pcall_frame {P : Program} {f : Nat} {T : List Nat} {E args : List AV} {s0 : Sto} {e : List AV} {s : Sto} {R : AV → Sto → Prop} {RQ : List PanicEntry → Sto → Prop} {K : AV → List AV → Sto → Prop} {Q : Exit → List AV → Sto → Prop}
    (hF : FrameOk T E args s0 e s) (h : pcall P f args (fun r e1 s1 => e1 = E ∧ R r s1) (fun x e1 s1 => e1 = E ∧ match x with | .panic c => RQ c s1 | _ => False) E ((0, []) :: s0))
    (hK : ∀ r s1, R r s1 → (r.only T = true ∧ ∀ g c, T.contains g = true → s1.get g = some c → AV.onlys T c = true) ∧ K r e (mer T s1 s))
    (hQ : ∀ c s1, RQ c s1 → (∀ g c, T.contains g = true → s1.get g = some c → AV.onlys T c = true) ∧ Q (.panic c) e (mer T s1 s)) : pcall P f args K Q e s := by
  exact pcall_frameB hF ⟨h.1, fun w lo lb lh tm vs hr ha => h.2 w _ _ w _ vs hr ha⟩ hK hQ
end Go.E

namespace Go.E
open Go Go.RowKit Go.Maps

def xLk (c : List AV) (kv : Value) (R : Option D → Prop) (_ : At R) : Prop := lookS c kv R
def xLkB (gb : Nat) (c : List AV) (kv : Value) (R : Option Nat → Prop) (_ : At R) : Prop := lookSB gb c kv R
def xUp (c : List AV) (kd : D) (kv : Value) (vd : D) (R : List AV → Prop) (_ : At R) : Prop := updS c kd kv vd R
def lkP (P : Program) (ok : Bool) (d : Option Nat) (am ak : AV) (T : Option (Nat × Nat)) (K : List AV → Sto → Prop) (_ : At K) (e : List AV) (s : Sto) : Prop :=
  match am, ak, T with
    | .mp g, .d kd, some (kt, et) => (match s.get g, kd.val? with
      | some c, some kv => (Keyed P kt ∧ zeroed P et = true ∧ (keyOf P kt kv).isSome = true) ∧ if g < 3000000000 then mapOk P kt c ∧ lookS c kv (fun r => K (eset e d (lookV (zeroA P et) ok r)) s)
        else bmapOk P kt (g + 1000000000) c ∧ lookSB (g + 1000000000) c kv (fun r => K (eset e d (lookBV (g + 1000000000) (zeroA P et) ok r)) s)
      | _, _ => False)
    | _, _, _ => False
def upP (P : Program) (am ak av : AV) (T : Option (Nat × Nat)) (K : List AV → Sto → Prop) (_ : At K) (e : List AV) (s : Sto) : Prop :=
  match am, ak, av, T with
    | .mp g, .d kd, .d vd, some (kt, _) => (match s.get g, kd.val? with
      | some c, some kv => (Keyed P kt ∧ (keyOf P kt kv).isSome = true ∧ AV.mencs g e = false ∧ s.mencs g = false) ∧ g < 3000000000 ∧ mapOk P kt c ∧ updS c kd kv vd (fun c' => K e (s.upd g c'))
      | _, _ => False)
    | .mp g, .d kd, .ref k off, some (kt, _) => (match s.get g, kd.val?, (s.get k).bind allD with
      | some c, some kv, some ds => (Keyed P kt ∧ (keyOf P kt kv).isSome = true ∧ AV.mencs g e = false ∧ s.mencs g = false) ∧ (3000000000 ≤ g ∧ k ≠ 0 ∧ off = 0) ∧ (bmapOk P kt (g + 1000000000) c ∧ ∀ i kd' cs, c[i]? = some (bxE (g + 1000000000) i kd' cs) → kd'.val? ≠ some kv) ∧
          K ((e.map (AV.kill k)).map (AV.kill (g + 1000000000))) (((s.kill k).kill (g + 1000000000)).upd g (c ++ [bxE (g + 1000000000) c.length kd ds]))
      | _, _, _ => False)
    | _, _, _, _ => False
section
variable {P : Program} {C : CT} {tb : Nat} {Q : Kt} {e : List AV} {s : Sto} {K : List AV → Sto → Prop} {d : Option Nat} {type : Nat} {pos : String} {af : Array Edge} {g : Option (Nat × Bool)}
theorem k_mkmap {t : Nat} {r : Option Operand} : k0 (.makeMap t r) = false := rfl
theorem k_lookup {t : Nat} {x y : Operand} {b : Bool} : k0 (.lookup t x y b) = false := rfl
theorem k_mapup {t : Nat} {x y z : Operand} : k0 (.mapUpdate t x y z) = false := rfl
def mmK (P : Program) (T : Option (Nat × Nat)) (tb d : Nat) (K : List AV → Sto → Prop) (_ : At K) (e : List AV) (s : Sto) : Prop :=
  oK T (fun z => K ((e.map (AV.kill (mtag P z.2 tb d))).set d (.mp (mtag P z.2 tb d))) ((s.kill (mtag P z.2 tb d)).ins (mtag P z.2 tb d) [])) (mk _)
theorem p_mkmap {d : Nat} {m2 : At K} {m3 : At Q} {t : Nat} {m1 : At (⟨some d, .makeMap t none, type, pos, af, g⟩ : Oper)} : xP P C tb ⟨some d, .makeMap t none, type, pos, af, g⟩ K Q m1 m2 m3 e s =
    mmK P (mapTy P t) tb d K (mk _) e s := by
  simp only [xP, pop, mmK, oK]
  cases mapTy P t with
  | none => rfl
  | some z => rfl
def mmG (n tb d : Nat) (K : List AV → Sto → Prop) (_ : At K) (e : List AV) (s : Sto) : Prop :=
  K ((e.map (AV.kill ((if n = 2 then 3000000000 else 2000000000) + tb + d))).set d (.mp ((if n = 2 then 3000000000 else 2000000000) + tb + d))) ((s.kill ((if n = 2 then 3000000000 else 2000000000) + tb + d)).ins ((if n = 2 then 3000000000 else 2000000000) + tb + d) [])
theorem mm_some {kt et : Nat} {tb d : Nat} {m : At K} : mmK P (some (kt, et)) tb d K m e s = mmG (nilTy P et) tb d K (mk _) e s := id rfl
theorem mm_0 {tb d : Nat} {m : At K} : mmG 0 tb d K m e s = K ((e.map (AV.kill (2000000000 + tb + d))).set d (.mp (2000000000 + tb + d))) ((s.kill (2000000000 + tb + d)).ins (2000000000 + tb + d) []) := id rfl
theorem mm_2 {tb d : Nat} {m : At K} : mmG 2 tb d K m e s = K ((e.map (AV.kill (3000000000 + tb + d))).set d (.mp (3000000000 + tb + d))) ((s.kill (3000000000 + tb + d)).ins (3000000000 + tb + d) []) := id rfl
theorem p_lookup {m2 : At K} {m3 : At Q} {t : Nat} {m x : Operand} {ok : Bool} {m1 : At (⟨d, .lookup t m x ok, type, pos, af, g⟩ : Oper)} : xP P C tb ⟨d, .lookup t m x ok, type, pos, af, g⟩ K Q m1 m2 m3 e s = lkP P ok d (aval e m) (aval e x) (mapTy P t) K (mk _) e s := by
  simp only [xP, pop, lkP] <;> (
    generalize aval e m = x1; generalize aval e x = x2; generalize mapTy P t = x3
    cases x1 <;> cases x2 <;> first | rfl | (rcases x3 with _ | ⟨a, b⟩ <;> first | rfl | (generalize s.get _ = y1; generalize D.val? _ = y2; cases y1 <;> cases y2 <;> rfl)))
theorem p_mapup {m2 : At K} {m3 : At Q} {t : Nat} {m x y : Operand} {m1 : At (⟨none, .mapUpdate t m x y, type, pos, af, g⟩ : Oper)} : xP P C tb ⟨none, .mapUpdate t m x y, type, pos, af, g⟩ K Q m1 m2 m3 e s = upP P (aval e m) (aval e x) (aval e y) (mapTy P t) K (mk _) e s := by
  simp only [xP, pop, upP]
  generalize aval e m = x1; generalize aval e x = x2; generalize aval e y = x4; generalize mapTy P t = x3
  cases x1 <;> cases x2 <;> cases x4 <;> first | rfl | (rcases x3 with _ | ⟨a, b⟩ <;> first | rfl | (simp only [true_and] <;> (generalize s.get _ = y1; generalize D.val? _ = y2; first | (cases y1 <;> cases y2 <;> rfl) | (generalize Option.bind _ _ = y3; cases y1 <;> cases y2 <;> cases y3 <;> rfl))))
theorem k_insert {t : Nat} {x y z : Operand} : k0 (.insert t x y z) = false := rfl
def inP (P : Program) (am ak av : AV) (T : Option (Nat × Nat)) (K : List AV → Sto → Prop) (_ : At K) (e : List AV) (s : Sto) : Prop :=
  match am, ak, av, T with
    | .mp g, .d kd, .d vd, some (kt, _) => (match s.get g, kd.val? with
      | some c, some kv => (Keyed P kt ∧ (keyOf P kt kv).isSome = true ∧ AV.mencs g e = false ∧ s.mencs g = false) ∧ g < 3000000000 ∧ mapOk P kt c ∧ updS c kd kv vd (fun c' => K e (s.upd g c'))
      | _, _ => False)
    | _, _, _, _ => False
theorem p_insert {m2 : At K} {m3 : At Q} {t : Nat} {m x y : Operand} {m1 : At (⟨none, .insert t m x y, type, pos, af, g⟩ : Oper)} : xP P C tb ⟨none, .insert t m x y, type, pos, af, g⟩ K Q m1 m2 m3 e s = inP P (aval e m) (aval e x) (aval e y) (mapTy P t) K (mk _) e s := by
  simp only [xP, pop, inP]
  generalize aval e m = x1; generalize aval e x = x2; generalize aval e y = x4; generalize mapTy P t = x3
  cases x1 <;> cases x2 <;> cases x4 <;> first | rfl | (rcases x3 with _ | ⟨a, b⟩ <;> first | rfl | (simp only [true_and] <;> (generalize s.get _ = y1; generalize D.val? _ = y2; (cases y1 <;> cases y2 <;> rfl))))
theorem in_mp {G : Nat} {kd vd : D} {T : Option (Nat × Nat)} {m : At K} : inP P (.mp G) (.d kd) (.d vd) T K m e s =
    oK T (fun z => oK (s.get G) (fun c => oK kd.val? (fun kv => (Keyed P z.1 ∧ (keyOf P z.1 kv).isSome = true ∧ AV.mencs G e = false ∧ s.mencs G = false) ∧ G < 3000000000 ∧ mapOk P z.1 c ∧ xUp c kd kv vd (fun c' => K e (s.upd G c')) (mk _)) (mk _)) (mk _)) (mk _) := by
  unfold inP oK xUp
  cases T with
  | none => rfl
  | some z => obtain ⟨a, b⟩ := z; simp only; cases s.get G <;> simp <;> cases kd.val? <;> simp
theorem lk_mp {G : Nat} {kd : D} {T : Option (Nat × Nat)} {ok : Bool} {m : At K} : lkP P ok d (.mp G) (.d kd) T K m e s =
    oK T (fun z => oK (s.get G) (fun c => oK kd.val? (fun kv => (Keyed P z.1 ∧ zeroed P z.2 = true ∧ (keyOf P z.1 kv).isSome = true) ∧ if G < 3000000000 then mapOk P z.1 c ∧ xLk c kv (fun r => K (eset e d (lookV (zeroA P z.2) ok r)) s) (mk _) else bmapOk P z.1 (G + 1000000000) c ∧ xLkB (G + 1000000000) c kv (fun r => K (eset e d (lookBV (G + 1000000000) (zeroA P z.2) ok r)) s) (mk _)) (mk _)) (mk _)) (mk _) := by
  unfold lkP oK xLk xLkB
  cases T with
  | none => rfl
  | some z => obtain ⟨a, b⟩ := z; simp only; cases s.get G <;> simp <;> cases kd.val? <;> simp
theorem up_mp {G : Nat} {kd vd : D} {T : Option (Nat × Nat)} {m : At K} : upP P (.mp G) (.d kd) (.d vd) T K m e s =
    oK T (fun z => oK (s.get G) (fun c => oK kd.val? (fun kv => (Keyed P z.1 ∧ (keyOf P z.1 kv).isSome = true ∧ AV.mencs G e = false ∧ s.mencs G = false) ∧ G < 3000000000 ∧ mapOk P z.1 c ∧ xUp c kd kv vd (fun c' => K e (s.upd G c')) (mk _)) (mk _)) (mk _)) (mk _) := by
  unfold upP oK xUp
  cases T with
  | none => rfl
  | some z => obtain ⟨a, b⟩ := z; simp only; cases s.get G <;> simp <;> cases kd.val? <;> simp
theorem up_bx {G k off : Nat} {kd : D} {T : Option (Nat × Nat)} {m : At K} : upP P (.mp G) (.d kd) (.ref k off) T K m e s =
    oK T (fun z => oK (s.get G) (fun c => oK kd.val? (fun kv => oK ((s.get k).bind allD) (fun ds => (Keyed P z.1 ∧ (keyOf P z.1 kv).isSome = true ∧ AV.mencs G e = false ∧ s.mencs G = false) ∧ (3000000000 ≤ G ∧ k ≠ 0 ∧ off = 0) ∧ (bmapOk P z.1 (G + 1000000000) c ∧ ∀ i kd' cs, c[i]? = some (bxE (G + 1000000000) i kd' cs) → kd'.val? ≠ some kv) ∧
      K ((e.map (AV.kill k)).map (AV.kill (G + 1000000000))) (((s.kill k).kill (G + 1000000000)).upd G (c ++ [bxE (G + 1000000000) c.length kd ds]))) (mk _)) (mk _)) (mk _)) (mk _) := by
  unfold upP oK
  cases T with
  | none => rfl
  | some z => obtain ⟨a, b⟩ := z; simp only; cases s.get G <;> simp <;> cases kd.val? <;> simp <;> cases (s.get k).bind allD <;> simp
theorem lkb_some {z : AV} {gb i : Nat} : lookBV gb z true (some i) = AV.mkTup [.bx gb i 0, .b true] := id rfl
theorem lkb_none {z : AV} {gb : Nat} : lookBV gb z true none = AV.mkTup [z, .b false] := id rfl
theorem lkb_some' {z : AV} {gb i : Nat} : lookBV gb z false (some i) = .bx gb i 0 := id rfl
theorem lkb_none' {z : AV} {gb : Nat} : lookBV gb z false none = z := id rfl
theorem lkv_some {z : AV} {v : D} : lookV z true (some v) = AV.mkTup [.d v, .b true] := id rfl
theorem lkv_none {z : AV} : lookV z true none = AV.mkTup [z, .b false] := id rfl
theorem lkv_some' {z : AV} {v : D} : lookV z false (some v) = .d v := id rfl
theorem lkv_none' {z : AV} : lookV z false none = z := id rfl
end

def ents {α β : Type} (fk : α → D) (fv : β → D) (M : List (α × β)) : List AV := M.map fun p => .d (.agg [fk p.1, fv p.2])
theorem ents_ok' {α β : Type} {P : Program} {kt : Nat} {fk : α → D} {fv : β → D} {fkv : α → Value} {M : List (α × β)} (hk : ∀ x, (fk x).val? = some (fkv x)) (h : ∀ p ∈ M, (keyOf P kt (fkv p.1)).isSome = true) : mapOk P kt (ents fk fv M) := fun x hx => by
  obtain ⟨p, hp, rfl⟩ := List.mem_map.1 hx
  exact ⟨_, _, _, rfl, hk _, h p hp⟩
theorem hasK_ents {α β : Type} {fk : α → D} {fv : β → D} {fkv : α → Value} {M : List (α × β)} (hk : ∀ x, (fk x).val? = some (fkv x)) {kv : Value} {v : D} : hasK (ents fk fv M) kv v ↔ ∃ p ∈ M, fkv p.1 = kv ∧ fv p.2 = v := by
  constructor
  · rintro ⟨kd, h1, h2⟩
    obtain ⟨p, hp, e⟩ := List.mem_map.1 h1
    simp only [AV.d.injEq, D.agg.injEq, List.cons.injEq, and_true] at e
    obtain ⟨rfl, rfl⟩ := e
    rw [hk] at h2
    exact ⟨p, hp, Option.some.inj h2, rfl⟩
  · rintro ⟨p, hp, rfl, rfl⟩
    exact ⟨fk p.1, List.mem_map.2 ⟨p, hp, rfl⟩, hk _⟩
theorem xLk_ents {α β : Type} {fk : α → D} {fv : β → D} {fkv : α → Value} {M : List (α × β)} (hk : ∀ x, (fk x).val? = some (fkv x)) (hi : ∀ x y, fkv x = fkv y → x = y) {k : α} {R : Option D → Prop} {m : At R} (h1 : ∀ v, (k, v) ∈ M → R (some (fv v))) (h2 : (∀ v, (k, v) ∉ M) → R none) : xLk (ents fk fv M) (fkv k) R m := by
  refine ⟨fun v hv => ?_, fun hn => h2 fun v hv => hn (fv v) ((hasK_ents hk).2 ⟨(k, v), hv, rfl, rfl⟩)⟩
  obtain ⟨p, hp, e1, rfl⟩ := (hasK_ents hk).1 hv
  have := hi _ _ e1
  subst this
  exact h1 _ hp
theorem xUp_ents {α β : Type} {fk : α → D} {fv : β → D} {fkv : α → Value} {M : List (α × β)} (hk : ∀ x, (fk x).val? = some (fkv x)) (hi : ∀ x y, fkv x = fkv y → x = y) {k : α} {v : β} {kd vd : D} (e1 : kd = fk k) (e2 : vd = fv v) {R : List AV → Prop} {m : At R} (h1 : ∀ M', (∀ p ∈ M', p ∈ M ∨ p = (k, v)) → R (ents fk fv M')) : xUp (ents fk fv M) kd (fkv k) vd R m := by
  subst e1; subst e2
  refine ⟨fun j kd' v' hj hv => ?_, fun _ => ?_⟩
  · have := h1 (M.set j (k, v)) fun p hp => by
      rcases List.mem_or_eq_of_mem_set hp with h | h
      · exact .inl h
      · exact .inr h
    simpa [ents, List.map_set] using this
  · have := h1 (M ++ [(k, v)]) fun p hp => by
      rcases List.mem_append.1 hp with h | h
      · exact .inl h
      · exact .inr (by simpa using h)
    simpa [ents] using this
end Go.E

namespace Go.E
open Go Go.RowKit Go.Maps

theorem loop_x {P : Program} {C : CT} {O : Nat → Sch} {tb : Nat} (hC : C.ok P) (hm : P.follows .mixedOrders = true) {c : Code} (ho : okO O c = true) {Q : Kt} {i : At c} {j : At Q} {e : List AV} {s : Sto} {σ : Type} (E : σ → List (Nat × AV)) (S : σ → Sto) (I : σ → Prop) (μ : σ → Nat) (x0 : σ)
    (h0 : I x0) (hw : wk e (setAll e (E x0)) ∧ wkG s (S x0))
    (round : ∀ x, I x → xW P C O tb c (xS (fun e' s' => ∃ y, (I y ∧ μ y < μ x) ∧ wk e' (setAll e (E y)) ∧ wkG s' (S y)) Q (mk _) (mk _)) (mk _) (mk _) (setAll e (E x)) (S x)) : xL P c Q i j e s :=
  fun W0 L0 L w a hr => by
  refine wpX_loop_ghost (fun n a w => ∃ x, I x ∧ μ x = n ∧ ∃ L, Rel W0 L0 L (setAll e (E x)) (S x) w a) (μ x0) ⟨x0, h0, rfl, L, hr.weaken (wk_Wk hw.1) (wkG_get hw.2)⟩ ?_
  rintro n a w ⟨x, hx, rfl, L, hr⟩
  refine wpX_mono (lift_seq fun L e' s' a w h1 h2 => ?_) (pwp_sound hC hm c ho (round x hx) W0 L0 L w a hr)
  obtain ⟨y, h3, h4⟩ := h2
  exact ⟨μ y, h3.2, y, h3.1, rfl, L, h1.weaken (wk_Wk h4.1) (wkG_get h4.2)⟩

theorem pcall_start {P : Program} {C : CT} {O : Nat → Sch} {tb f : Nat} {fn : Func} {c : Code} {n : Nat} {rs : Array ResultVar} (hC : C.ok P) (hm : P.follows .mixedOrders = true) (ho : (fn.body.map (okO O)) = some true) (hf : P.funcs[f]? = some fn) (hc : callable P f = true) (hb : fn.body = some c) (hn : fn.ntmps = n) (hrs : fn.results = rs)
    {args : List AV} {K : AV → List AV → Sto → Prop} {Q : Kt} {e : List AV} {s : Sto}
    (h : oK (s.push e) (fun s1 => xW P C O tb c (xI P e.length s.hidn rs.toList K Q (mk _) (mk _) (mk _)) (mk _) (mk _) (args ++ List.replicate (n - args.length) .any) s1) (mk _)) : pcall P f args K Q e s := by
  unfold oK at h
  split at h
  · rename_i s1 hs
    exact pcall_inl hf hc hb hn hrs hs (pwp_sound hC hm c (by rw [hb] at ho; simpa using ho) h)
  · exact h.elim
end Go.E

namespace Go.E
open Go Go.RowKit Go.Maps

def andZ (k : IntKind) (a b : Int) : Int := k.wrap (BitVec.ofInt k.bits a &&& BitVec.ofInt k.bits b).toNat
def orZ (k : IntKind) (a b : Int) : Int := k.wrap (BitVec.ofInt k.bits a ||| BitVec.ofInt k.bits b).toNat
def xorZ (k : IntKind) (a b : Int) : Int := k.wrap (BitVec.ofInt k.bits a ^^^ BitVec.ofInt k.bits b).toNat
def andNotZ (k : IntKind) (a b : Int) : Int := k.wrap (BitVec.ofInt k.bits a &&& ~~~ BitVec.ofInt k.bits b).toNat
def shlZ (k : IntKind) (a n : Int) : Int := k.wrap (a * 2 ^ (min n.toNat k.bits))
def shrZ (k : IntKind) (a n : Int) : Int := a.fdiv (2 ^ (min n.toNat k.bits))
section
variable {x y : AV}
theorem bi_add : binI .add x y = .d (.v (.int x.kind (x.kind.wrap (x.int + y.int)))) := id rfl
theorem bi_sub : binI .sub x y = .d (.v (.int x.kind (x.kind.wrap (x.int - y.int)))) := id rfl
theorem bi_mul : binI .mul x y = .d (.v (.int x.kind (x.kind.wrap (x.int * y.int)))) := id rfl
theorem bi_quo : binI .quo x y = .d (.v (.int x.kind (x.kind.wrap (x.int.tdiv y.int)))) := id rfl
theorem bi_rem : binI .rem x y = .d (.v (.int x.kind (x.int.tmod y.int))) := id rfl
theorem bi_and : binI .and x y = .d (.v (.int x.kind (andZ x.kind x.int y.int))) := id rfl
theorem bi_or : binI .or x y = .d (.v (.int x.kind (orZ x.kind x.int y.int))) := id rfl
theorem bi_xor : binI .xor x y = .d (.v (.int x.kind (xorZ x.kind x.int y.int))) := id rfl
theorem bi_andNot : binI .andNot x y = .d (.v (.int x.kind (andNotZ x.kind x.int y.int))) := id rfl
theorem bi_shl : binI .shl x y = .d (.v (.int x.kind (shlZ x.kind x.int y.int))) := id rfl
theorem bi_shr : binI .shr x y = .d (.v (.int x.kind (shrZ x.kind x.int y.int))) := id rfl
theorem bi_eql : binI .eql x y = .b (x.int == y.int) := id rfl
theorem bi_neq : binI .neq x y = .b (x.int != y.int) := id rfl
theorem bi_lss : binI .lss x y = .b (decide (x.int < y.int)) := id rfl
theorem bi_leq : binI .leq x y = .b (decide (x.int ≤ y.int)) := id rfl
theorem bi_gtr : binI .gtr x y = .b (decide (y.int < x.int)) := id rfl
theorem bi_geq : binI .geq x y = .b (decide (y.int ≤ x.int)) := id rfl
end
theorem shr_u64 {u p : Nat} (hp : p ≤ 64) : shrZ .u64 (u : Int) (p : Int) = ((u / 2 ^ p : Nat) : Int) := by
  unfold shrZ
  rw [show min (p : Int).toNat IntKind.u64.bits = p by simp [IntKind.bits]; omega, Int.fdiv_eq_ediv_of_nonneg _ (Int.pow_nonneg (by omega))]
  rw [Int.natCast_ediv, Int.natCast_pow]; rfl
end Go.E

namespace Go.E
open Go Go.RowKit Go.Maps
theorem loop_xu {P : Program} {C : CT} {O : Nat → Sch} {tb : Nat} (hC : C.ok P) (hm : P.follows .mixedOrders = true) {c : Code} (ho : okO O c = true) {Q : Kt} {i : At c} {j : At Q} {e : List AV} {s : Sto} {σ : Type} (E : σ → List (Nat × AV)) (S : σ → List (Nat × List AV)) (I : σ → Prop) (μ : σ → Nat) (x0 : σ)
    (h0 : I x0) (hw : wk e (setAll e (E x0)) ∧ wkG s (updAll s (S x0)))
    (round : ∀ x, I x → xW P C O tb c (xS (fun e' s' => ∃ y, (I y ∧ μ y < μ x) ∧ wk e' (setAll e (E y)) ∧ wkG s' (updAll s (S y))) Q (mk _) (mk _)) (mk _) (mk _) (setAll e (E x)) (updAll s (S x))) : xL P c Q i j e s :=
  loop_x hC hm ho E (fun x => updAll s (S x)) I μ x0 h0 hw round
end Go.E

namespace Go.E
open Go Go.RowKit

def rowsFlat (rows : List (List D)) : Bool := rows.all D.flats
theorem D.flats_append : ∀ {xs ys : List D}, D.flats xs = true → D.flats ys = true → D.flats (xs ++ ys) = true
  | [], _, _, k => k
  | x :: xs, _, h, k => by
    simp only [D.flats, Bool.and_eq_true] at h
    simp only [List.cons_append, D.flats, Bool.and_eq_true]
    exact ⟨h.1, D.flats_append h.2 k⟩
theorem rowsFlat_flat : ∀ {rows : List (List D)}, rowsFlat rows = true → D.flats rows.flatten = true
  | [], _ => rfl
  | r :: rs, h => by
    simp only [rowsFlat, List.all_cons, Bool.and_eq_true] at h
    rw [List.flatten_cons]
    exact D.flats_append h.1 (rowsFlat_flat h.2)
def AV.outN (x : AV) : Option D :=
  match x with
  | .d x => if x.flat = true then some x else none
  | .own g _ sz rows => if g = 0 then none else if rowsFlat rows = true then some (.sl sz rows) else none
  | _ => none
def retN (P : Program) (rs : List ResultVar) (R : End → Prop) : Kt
  | .normal, e, s | .ret, e, s => s.get 0 = some [] ∧ resAll P e s rs ∧ ∃ ds, outL AV.outN (rs.map (resV P e s)) = some ds ∧ R (.ret (packD ds))
  | .panic c, _, s => s.get 0 = some [] ∧ R (.pan c)
  | _, _, _ => False
def PFn (P : Program) (f : Nat) (ds : List D) (R : End → Prop) : Prop :=
  callable P f = true ∧ ∀ (F : Nat → Prop) (w : World) (vs : Array Value), DReps (look F w) ds vs.toList →
    Calls P f vs w (fun en w' => Below w.heap.size w w' ∧ match en with
      | .returned v => ∃ d, R (.ret d) ∧ DRep (look (fun b => w.heap.size ≤ b) w') d v
      | .panicked c => R (.pan c)
      | .outgrown => False)
theorem PFn_nil {P : Program} {f : Nat} {ds : List D} {d : D} (h : PFn P f ds (fun z => retEq z d)) : PFn P f ds (fun z => z = .ret d) :=
  ⟨h.1, fun F w vs hd => (h.2 F w vs hd).mono fun en w' ⟨h1, h2⟩ => ⟨h1, by
    cases en with
    | returned v => obtain ⟨d', h3, h4⟩ := h2; exact ⟨d, rfl, nilEq_rep h3 h4⟩
    | panicked c => exact h2.elim
    | outgrown => exact h2⟩⟩
theorem outN_rep {L : Lay} {w : World} {n : Nat} (hL : ∀ b g, g ≠ 0 → L.own b = some g → n ≤ b) {x : AV} {d : D} {u : Value} (h : x.outN = some d) (k : ARep L w x u) : DRep (look (fun b => n ≤ b) w) d u := by
  unfold AV.outN at h
  split at h
  · split at h
    · rename_i hf; cases h; exact D.flat_rep hf k
    · cases h
  · rename_i g el sz rows
    split at h
    · cases h
    · rename_i hg
      split at h
      · rename_i hf
        cases h
        obtain ⟨_, xs, h1, h2, h3, h4, h5⟩ := k
        let L2 : Lay := { L with own := fun b => if L.own b = some g then some g else some 0 }
        refine ownRow_read (L := L2) (w := w) (g := g) (e := el) ⟨xs, h1, fun b hb => by simp only [L2]; rw [if_pos (h2 b hb)], h3, h4, D.flats_rep (rowsFlat_flat hf) h5⟩ fun b hb => ?_
        simp only [L2] at hb
        split at hb
        · rename_i ho; exact hL b g hg ho
        · rcases hb with hb | hb
          · cases hb
          · simp at hb; exact absurd hb.symm hg
      · cases h
  · cases h
theorem PFn_intro {P : Program} {f : Nat} {fn : Func} {c : Code} {n : Nat} {rs : Array ResultVar} {ds : List D} {R : End → Prop} (hf : P.funcs[f]? = some fn) (hc : callable P f = true) (hb : fn.body = some c) (hn : fn.ntmps = n) (hrs : fn.results = rs)
    (h : psem P c (retN P rs.toList R) (ds.map .d ++ List.replicate (n - ds.length) .any) [(0, [])]) : PFn P f ds R := by
  refine ⟨hc, fun F w vs hd => (calls_of_wpX hf hb (wpX_mono ?_ (h w (lay0 F w) (lay0 F w) w { tmps := vs ++ Array.replicate (fn.ntmps - vs.size) undef, defers := [] } (by rw [← hn]; exact lay0_rel hd))))⟩
  rintro x a w' ⟨L, e, s, hr', hq⟩
  have fin : (s.get 0 = some [] ∧ resAll P e s rs.toList ∧ ∃ ds, outL AV.outN (rs.toList.map (resV P e s)) = some ds ∧ R (.ret (packD ds))) → LeavesInM (FW none) 0 P fn a.tmps (fun en w' => Below w.heap.size w w' ∧ match en with
      | .returned v => ∃ d, R (.ret d) ∧ DRep (look (fun b => w.heap.size ≤ b) w') d v
      | .panicked c => R (.pan c)
      | .outgrown => False) a.defers .returning w' := fun ⟨h0, hq⟩ =>
    leave_marks (by simp) a.defers w' (rel_none hr' h0).2 hr'.mks.1 (fun r h => (hr'.mks.2 r h).1) fun w'' hsh => by
      have hr2 := hr'.shut (rel_none hr' h0).2 hsh
      obtain ⟨h1, ds', h2, h3⟩ := hq
      obtain ⟨us, g1, g2⟩ := results_run hr2 (fun r => match r with | .tmp t => pure (a.tmps.getD t undef) | .cell x t => do loadVar t (← asAddr (a.tmps.getD x undef))) (fun t => rfl) (fun x t => rfl) rs.toList h1
      have hL : ∀ b g, g ≠ 0 → L.own b = some g → w.heap.size ≤ b := fun b g hg hb => by
        by_cases hlt : b < w.heap.size
        · have h0 : (lay0 F w).own b = none ∨ (lay0 F w).own b = some 0 := by
            simp only [lay0]; rw [if_pos hlt]; by_cases hF : F b
            · rw [if_pos hF]; exact .inl rfl
            · rw [if_neg hF]; exact .inr rfl
          have := (hr2.old b hlt h0).1
          rw [hb] at this
          rcases h0 with h | h <;> rw [h] at this <;> simp at this
          exact absurd this hg
        · omega
      have ho : DReps (look (fun b => w.heap.size ≤ b) w'') ds' us := outL_rep (fun x d u hx hk => outN_rep hL hx hk) h2 g2
      have hol := ho.length
      refine ⟨if h : us.toArray.size = 1 then us.toArray[0] else .tuple us.toArray, ?_, lay0_below hr2, packD ds', h3, ?_⟩
      · unfold results
        rw [hrs, Array.mapM_eq_mapM_toList]
        simp only [Sem.run_bind, Sem.run_map]
        erw [g1]
        rfl
      · match ds', us, hol with
        | [], [], _ => exact ⟨_, rfl, ho⟩
        | [d], [u], _ => obtain ⟨u', ut, e, k1, _⟩ := ho; simp at e; rw [← e.1] at k1; simpa [packD] using k1
        | d1 :: d2 :: dr, u1 :: u2 :: ur, _ => exact ⟨(u1 :: u2 :: ur).toArray, by rw [dif_neg (by simp)], ho⟩
  cases x with
  | normal => exact fin hq
  | ret => exact fin hq
  | panic c => exact leave_marks (by simp) a.defers w' (rel_none hr' hq.1).2 hr'.mks.1 (fun r h => (hr'.mks.2 r h).1) fun w'' hsh => ⟨lay0_below (hr'.shut (rel_none hr' hq.1).2 hsh), hq.2⟩
  | exit i => exact hq
  | goto l => exact hq
  | outgrown => exact hq.elim

def xRn (P : Program) (rs : List ResultVar) (R : End → Prop) (_ : At rs) (_ : At R) : Kt := fun x e s => retN P rs R x e s
section
variable {P : Program} {e : List AV} {s : Sto} {rs : List ResultVar} {R : End → Prop} {i : At rs} {j : At R}
theorem n_retn : xRn P rs R i j .normal e s = (s.get 0 = some [] ∧ resAll P e s rs ∧ oK (outL AV.outN (rs.map (resV P e s))) (fun ds => R (.ret (packD ds))) (mk _)) := by
  simp only [xRn, retN, oK]; cases outL AV.outN (rs.map (resV P e s)) <;> simp
theorem n_retr : xRn P rs R i j .ret e s = (s.get 0 = some [] ∧ resAll P e s rs ∧ oK (outL AV.outN (rs.map (resV P e s))) (fun ds => R (.ret (packD ds))) (mk _)) := by
  simp only [xRn, retN, oK]; cases outL AV.outN (rs.map (resV P e s)) <;> simp
theorem n_retp {c : List PanicEntry} : xRn P rs R i j (.panic c) e s = (s.get 0 = some [] ∧ R (.pan c)) := id rfl
theorem qd_Rn {l : List Oper} {m : At l} {k} : xQd l (xRn P rs R i j) m k = True := propext ⟨fun _ => trivial, fun _ _ _ _ _ _ h => h⟩
end
theorem PFn_start {P : Program} {C : CT} {O : Nat → Sch} {f : Nat} {fn : Func} {c : Code} {n : Nat} {rs : Array ResultVar} {ds : List D} {R : End → Prop} (hC : C.ok P) (hm : P.follows .mixedOrders = true) (ho : (fn.body.map (okO O)) = some true) (hf : P.funcs[f]? = some fn) (hc : callable P f = true) (hb : fn.body = some c) (hn : fn.ntmps = n) (hrs : fn.results = rs)
    (h : xW P C O 0 c (xRn P rs.toList R (mk _) (mk _)) (mk _) (mk _) (ds.map .d ++ List.replicate (n - ds.length) .any) [(0, [])]) : PFn P f ds R :=
  PFn_intro hf hc hb hn hrs (pwp_sound hC hm c (by rw [hb] at ho; simpa using ho) h)

end Go.E

namespace Go.E
open Go Go.RowKit

end Go.E

namespace Go.E
open Go Go.RowKit Go.Maps
def AV.ups (g : Nat) (rows : List (List D)) : AV → AV
  | .own g' e s r => if g' = g then .own g' e s rows else .own g' e s r
  | x => x
def Sto.ups (g : Nat) (rows : List (List D)) : Sto → Sto
  | [] => []
  | (h, c) :: r => (h, c.map (AV.ups g rows)) :: Sto.ups g rows r
section
variable {g : Nat} {rows : List (List D)}
theorem ups_own {g' e s : Nat} {r : List (List D)} : AV.ups g rows (.own g' e s r) = if g' = g then .own g' e s rows else .own g' e s r := rfl
theorem ups_any : AV.ups g rows .any = .any := rfl
theorem ups_d {d : D} : AV.ups g rows (.d d) = .d d := rfl
theorem ups_ref {a b : Nat} : AV.ups g rows (.ref a b) = .ref a b := rfl
theorem ups_clo {f : Fn} {a b : List AV} : AV.ups g rows (.clo f a b) = .clo f a b := rfl
theorem ups_nil : Sto.ups g rows [] = [] := rfl
theorem ups_cons {h : Nat} {c : List AV} {r : Sto} : Sto.ups g rows ((h, c) :: r) = (h, c.map (AV.ups g rows)) :: Sto.ups g rows r := rfl
end
theorem loop_r {P : Program} {C : CT} {O : Nat → Sch} {tb : Nat} (hC : C.ok P) (hm : P.follows .mixedOrders = true) {c : Code} (ho : okO O c = true) {Q : Kt} {i : At c} {j : At Q} {e : List AV} {s : Sto} {σ : Type} (g : Nat) (R : σ → List (List D)) (E : σ → List (Nat × AV)) (I : σ → Prop) (μ : σ → Nat) (nx : σ → σ) (x0 : σ)
    (h0 : I x0) (hw : wk e (setAll e (E x0)) ∧ wkG s (s.ups g (R x0)))
    (round : ∀ x, I x → xW P C O tb c (xS (fun e' s' => (I (nx x) ∧ μ (nx x) < μ x) ∧ wk e' (setAll e (E (nx x))) ∧ wkG s' (s.ups g (R (nx x)))) Q (mk _) (mk _)) (mk _) (mk _) (setAll e (E x)) (s.ups g (R x))) : xL P c Q i j e s :=
  loop_go' hC hm ho E (fun x => s.ups g (R x)) I μ nx x0 h0 hw round
end Go.E

namespace Go.E
open Go Go.RowKit Go.Maps
end Go.E

namespace Go.E
open Go Go.RowKit Go.Maps
theorem pcall_s {P : Program} {f : Nat} {args : List AV} {ds : List D} {R : End → Prop} {K : AV → List AV → Sto → Prop} {Q : Exit → List AV → Sto → Prop} {e : List AV} {s : Sto} (h : PF P f ds R) (ha : AV.outs s args = some ds)
    (hK : ∀ d, R (.ret d) → d.flat = true ∧ K (.d d) e s) (hQ : ∀ c, R (.pan c) → Q (.panic c) e s) : pcall P f args K Q e s := by
  refine ⟨h.1, fun W0 L0 L w a vs hr hv => (h.2 (fun _ => True) w vs (outL_rep (outF_rep hr (fun _ _ => trivial) (fun _ _ _ _ => trivial) 6) ha hv)).mono fun en w' ⟨hb, hen⟩ => ?_⟩
  have hr' := hr.grow hb
  cases en with
  | returned v =>
    obtain ⟨d, h1, h2⟩ := hen
    exact ⟨L, e, s, .d d, hr', D.flat_rep (hK d h1).1 h2, (hK d h1).2⟩
  | panicked c => exact ⟨L, e, s, hr', hQ c hen⟩
  | outgrown => exact hen
def entS {α : Type} (P1 : α → List D) (pre : α → Prop) (R : α → D) (o : Option (List D)) (K : AV → List AV → Sto → Prop) (_ : At K) (e : List AV) (s : Sto) : Prop :=
  ∃ a, o = some (P1 a) ∧ pre a ∧ (R a).flat = true ∧ K (.d (R a)) e s
theorem entS_ok {α : Type} {P : Program} {f : Nat} {P1 : α → List D} {pre : α → Prop} {R : α → D} (h : ∀ a, pre a → PF P f (P1 a) (fun x => x = .ret (R a))) {args : List AV} {K : AV → List AV → Sto → Prop} {Q : Kt} {i : At K} {e : List AV} {s : Sto}
    (he : entS P1 pre R (AV.outs s args) K i e s) : pcall P f args K Q e s := by
  obtain ⟨a, h1, h2, h3, h4⟩ := he
  exact pcall_s (h a h2) h1 (fun x hx => by cases hx; exact ⟨h3, h4⟩) (fun c hc => by cases hc)
theorem entS_iff {α : Type} {P1 : α → List D} {pre : α → Prop} {R : α → D} {K : AV → List AV → Sto → Prop} {i : At K} {e : List AV} {s : Sto} (a : α) (hinj : ∀ b, P1 b = P1 a → b = a) :
    entS P1 pre R (some (P1 a)) K i e s = (pre a ∧ (R a).flat = true ∧ K (.d (R a)) e s) := by
  apply propext
  constructor
  · rintro ⟨b, h1, h2, h3, h4⟩
    obtain rfl := hinj b (Option.some.inj h1).symm
    exact ⟨h2, h3, h4⟩
  · rintro ⟨h2, h3, h4⟩
    exact ⟨a, rfl, h2, h3, h4⟩
end Go.E

namespace Go.E
open Go Go.RowKit
section
variable {P : Program} {C : CT} {O : Nat → Sch} {tb : Nat} {Q : Kt} {e : List AV} {s : Sto}
end
end Go.E

namespace Go.E
open Go Go.Maps
def rgP (k d : Nat) (T : Option (Nat × Nat)) (x : AV) (K : List AV → Sto → Prop) (_ : At K) (e : List AV) (s : Sto) : Prop := match T, x with
  | some _, .mp g => rngM k d (s.get g) g K e s
  | _, _ => False
def rgO (k d : Nat) (o : Option (List AV)) (g : Nat) (K : List AV → Sto → Prop) (_ : At K) (e : List AV) (s : Sto) : Prop := rngM k d o g K e s
def nxP (x : AV) (d : Option Nat) (K : List AV → Sto → Prop) (_ : At K) (e : List AV) (s : Sto) : Prop := match x with
  | .it h => nxtM h d K e s
  | _ => False
def enP (x : AV) (d : Option Nat) (K : List AV → Sto → Prop) (_ : At K) (e : List AV) (s : Sto) : Prop := match x with
  | .it h => entM h d K e s
  | _ => False
def enO (o : Option (List AV)) (d : Option Nat) (K : List AV → Sto → Prop) (_ : At K) (e : List AV) (s : Sto) : Prop :=
  (itX o s fun _ _ seen c => ∃ sn i kd v, seen = sn ++ [i] ∧ c[i]? = some (.d (.agg [kd, v])) ∧ K (eset e d (.tup [.d kd, .d v])) s) ∨
  (itY o s fun g _ seen c => ∃ sn i kd cs, seen = sn ++ [i] ∧ c[i]? = some (bxE (g + 1000000000) i kd cs) ∧ K (eset e d (.tup [.d kd, .bx (g + 1000000000) i 0])) s)
def enC (o : Option (List AV)) (G n i : Nat) (d : Option Nat) (K : List AV → Sto → Prop) (_ : At K) (e : List AV) (s : Sto) : Prop :=
  if G < 3000000000 then ∃ c kd v, o = some c ∧ pairsOk c ∧ c.length = n ∧ c[i]? = some (.d (.agg [kd, v])) ∧ K (eset e d (.tup [.d kd, .d v])) s
  else ∃ c kd cs, o = some c ∧ boxesOk (G + 1000000000) c ∧ c.length = n ∧ c[i]? = some (bxE (G + 1000000000) i kd cs) ∧ K (eset e d (.tup [.d kd, .bx (G + 1000000000) i 0])) s
theorem itc_inj {g g' n n' : Nat} {l l' : List Nat} (h : itc g n l = itc g' n' l') : g = g' ∧ n = n' ∧ l = l' := by
  unfold itc at h
  simp only [List.cons.injEq, AV.mp.injEq, AV.d.injEq, D.v.injEq, Value.int.injEq, true_and, D.agg.injEq, and_true] at h
  refine ⟨h.1, by omega, ?_⟩
  have : ∀ {a b : List Nat}, (a.map fun (i : Nat) => D.v (Value.int .i64 (i : Int))) = (b.map fun (i : Nat) => D.v (Value.int .i64 (i : Int))) → a = b := by
    intro a
    induction a with
    | nil => intro b h; cases b <;> simp at h ⊢
    | cons x a ih =>
      intro b h
      cases b with
      | nil => simp at h
      | cons y b =>
        simp only [List.map_cons, List.cons.injEq, D.v.injEq, Value.int.injEq, true_and] at h
        rw [ih h.2, show x = y by omega]
  exact this h.2.2
section
variable {P : Program} {C : CT} {tb : Nat} {Q : Kt} {e : List AV} {s : Sto} {K : List AV → Sto → Prop} {d : Option Nat} {type : Nat} {pos : String} {af : Array Edge} {g : Option (Nat × Bool)}
theorem k_range {t : Nat} {r : Operand} : k0 (.range t r) = false := rfl
theorem k_next {r : Operand} {b : Bool} : k0 (.next r b) = false := rfl
theorem k_entry {r : Operand} : k0 (.entry r) = false := rfl
theorem p_range {d : Nat} {m2 : At K} {m3 : At Q} {t : Nat} {m : Operand} {m1 : At (⟨some d, .range t m, type, pos, af, g⟩ : Oper)} : xP P C tb ⟨some d, .range t m, type, pos, af, g⟩ K Q m1 m2 m3 e s =
    rgP (2000000000 + tb + d) d (mapTy P t) (aval (e.map (AV.kill (2000000000 + tb + d))) m) K (mk _) (e.map (AV.kill (2000000000 + tb + d))) (s.kill (2000000000 + tb + d)) := by
  simp only [xP, pop, rgP]
  cases mapTy P t with
  | none => rfl
  | some z =>
    simp only
    generalize aval (List.map (AV.kill (2000000000 + tb + d)) e) m = x
    cases x <;> rfl
theorem p_next {m2 : At K} {m3 : At Q} {it : Operand} {m1 : At (⟨d, .next it false, type, pos, af, g⟩ : Oper)} : xP P C tb ⟨d, .next it false, type, pos, af, g⟩ K Q m1 m2 m3 e s = nxP (aval e it) d K (mk _) e s := by
  simp only [xP, pop, nxP] <;> (cases aval e it <;> rfl)
theorem p_entry {m2 : At K} {m3 : At Q} {it : Operand} {m1 : At (⟨d, .entry it, type, pos, af, g⟩ : Oper)} : xP P C tb ⟨d, .entry it, type, pos, af, g⟩ K Q m1 m2 m3 e s = enP (aval e it) d K (mk _) e s := by
  simp only [xP, pop, enP] <;> (cases aval e it <;> rfl)
theorem rg_mp {k d G : Nat} {z : Nat × Nat} {m : At K} : rgP k d (some z) (.mp G) K m e s = rgO k d (s.get G) G K (mk _) e s := id rfl
theorem rg_some {k d G : Nat} {c : List AV} {m : At K} : rgO k d (some c) G K m e s = ((k < 3000000000 ∧ G < 5000000000 ∧ (G < 3000000000 → pairsOk c)) ∧ K (e.set d (.it k)) (s.ins k (itc G c.length []))) := by
  unfold rgO rngM
  exact propext ⟨fun ⟨c', h1, h2, h3⟩ => by cases h1; exact ⟨h2, h3⟩, fun ⟨h2, h3⟩ => ⟨c, rfl, h2, h3⟩⟩
theorem en_it {h : Nat} {m : At K} : enP (.it h) d K m e s = enO (s.get h) d K (mk _) e s := id rfl
theorem en_at {G n i : Nat} {seen : List Nat} {m : At K} : enO (some (itc G n (seen ++ [i]))) d K m e s = enC (s.get G) G n i d K (mk _) e s := by
  unfold enO enC itX itY
  apply propext
  constructor
  · rintro (⟨g', n', se, c, h1, h2, ⟨hg, h3⟩, h4, sn, i', kd, v, h5, h6, h7⟩ | ⟨g', n', se, c, h1, h2, ⟨hg, h3⟩, h4, sn, i', kd, v, h5, h6, h7⟩)
    · obtain ⟨rfl, rfl, rfl⟩ := itc_inj (Option.some.inj h1)
      obtain ⟨rfl, h8⟩ := List.append_inj' h5 rfl
      simp only [List.cons.injEq, and_true] at h8
      subst h8
      rw [if_pos hg]
      exact ⟨c, kd, v, h2, h3, h4, h6, h7⟩
    · obtain ⟨rfl, rfl, rfl⟩ := itc_inj (Option.some.inj h1)
      obtain ⟨rfl, h8⟩ := List.append_inj' h5 rfl
      simp only [List.cons.injEq, and_true] at h8
      subst h8
      rw [if_neg (by omega)]
      exact ⟨c, kd, v, h2, h3, h4, h6, h7⟩
  · split
    · rename_i hg
      rintro ⟨c, kd, v, h2, h3, h4, h6, h7⟩
      exact .inl ⟨G, n, _, c, rfl, h2, ⟨hg, h3⟩, h4, seen, i, kd, v, rfl, h6, h7⟩
    · rename_i hg
      rintro ⟨c, kd, v, h2, h3, h4, h6, h7⟩
      exact .inr ⟨G, n, _, c, rfl, h2, ⟨by omega, h3⟩, h4, seen, i, kd, v, rfl, h6, h7⟩
theorem pairs_ents {α β : Type} {fk : α → D} {fv : β → D} {M : List (α × β)} : pairsOk (ents fk fv M) := fun x hx => by
  obtain ⟨p, _, rfl⟩ := List.mem_map.1 hx
  exact ⟨_, _, rfl⟩
theorem ents_len {α β : Type} {fk : α → D} {fv : β → D} {M : List (α × β)} : (ents fk fv M).length = M.length := List.length_map ..
theorem ents_at {α β : Type} [Inhabited α] [Inhabited β] {fk : α → D} {fv : β → D} {M : List (α × β)} {i : Nat} (h : i < M.length) : (ents fk fv M)[i]? = some (.d (.agg [fk (M.getD i default).1, fv (M.getD i default).2])) := by
  unfold ents
  rw [List.getElem?_map, List.getElem?_eq_getElem h]
  simp [List.getD, List.getElem?_eq_getElem h]
theorem pairs_ents_eq {α β : Type} {fk : α → D} {fv : β → D} {M : List (α × β)} : pairsOk (ents fk fv M) = True := propext ⟨fun _ => trivial, fun _ => pairs_ents⟩
theorem en_ents {α β : Type} [Inhabited α] [Inhabited β] {fk : α → D} {fv : β → D} {M : List (α × β)} {G n i : Nat} {m : At K} : enC (some (ents fk fv M)) G n i d K m e s = ((G < 3000000000 ∧ M.length = n ∧ i < n) ∧ K (eset e d (.tup [.d (fk (M.getD i default).1), .d (fv (M.getD i default).2)])) s) := by
  unfold enC
  apply propext
  constructor
  · split
    · rename_i hG
      rintro ⟨c, kd, v, h2, h3, h4, h6, h7⟩
      cases h2
      rw [ents_len] at h4
      have hi : i < M.length := by have := (List.getElem?_eq_some_iff.1 h6).1; rwa [ents_len] at this
      rw [ents_at hi] at h6
      simp only [Option.some.injEq, AV.d.injEq, D.agg.injEq, List.cons.injEq, and_true] at h6
      rw [h6.1, h6.2]
      exact ⟨⟨hG, h4, by omega⟩, h7⟩
    · rintro ⟨c, kd, v, h2, h3, h4, h6, h7⟩
      cases h2
      have hi : i < M.length := by have := (List.getElem?_eq_some_iff.1 h6).1; rwa [ents_len] at this
      rw [ents_at hi] at h6
      cases h6
  · rintro ⟨⟨hG, h4, hi⟩, h7⟩
    rw [if_pos hG]
    exact ⟨_, _, _, rfl, pairs_ents, by rw [ents_len]; exact h4, ents_at (by omega), h7⟩
theorem nx_ents {α β : Type} [Inhabited α] [Inhabited β] {fk : α → D} {fv : β → D} {M : List (α × β)} {h G n : Nat} {seen : List Nat} {m : At K} (hh : s.get h = some (itc G n seen)) (hc : s.get G = some (ents fk fv M)) (hn : M.length = n) (hm : AV.mencs h e = false ∧ s.mencs h = false)
    (h0 : (∀ i, i < n → i ∈ seen) → K (eset e d (.tup [.b false])) s)
    (h1 : ∀ i, i < n → i ∉ seen → K (eset e d (.tup [.b true, .d (fk (M.getD i default).1), .d (fv (M.getD i default).2)])) (s.upd h (itc G n (seen ++ [i])))) (hG : G < 3000000000 := by decide) (hH : h < 3000000000 := by decide) : nxP (.it h) d K m e s := by
  refine .inl ⟨G, n, seen, _, hh, hc, ⟨hG, pairs_ents⟩, by rw [ents_len]; exact hn, ⟨hH, hm⟩, h0, fun i kd v hi hs hk => ?_⟩
  rw [ents_at (by omega)] at hk
  simp only [Option.some.injEq, AV.d.injEq, D.agg.injEq, List.cons.injEq, and_true] at hk
  rw [← hk.1, ← hk.2]
  exact h1 i hi hs

section
variable {α β : Type} {gb : Nat} {fk : α → D} {fc : β → List D} {M : List (α × β)}
end
end
end Go.E

namespace Go.E
open Go Go.RowKit Go.Maps
theorem get_ups {g : Nat} {rows : List (List D)} : ∀ {s : Sto} {h : Nat}, (s.ups g rows).get h = (s.get h).map (List.map (AV.ups g rows))
  | [], _ => rfl
  | (k, c) :: r, h => by
    unfold Sto.ups Sto.get
    by_cases hk : k = h
    · rw [if_pos hk, if_pos hk]; rfl
    · rw [if_neg hk, if_neg hk]; exact get_ups
section
variable {n : Nat} {M : List AV → Sto → Prop} {Q : Kt} {i : At M} {j : At Q} {e : List AV} {s : Sto}
end
def okUp1 (g el sz : Nat) (rows : List (List D)) : AV → Prop
  | .own g' e' s' r' => g' = g → (e' = el ∧ s' = sz ∧ r' = rows)
  | x => x.men g = false
def okUp (g el sz : Nat) (rows : List (List D)) : List AV → Prop
  | [] => True
  | x :: xs => okUp1 g el sz rows x ∧ okUp g el sz rows xs
def okUpS (g el sz : Nat) (rows : List (List D)) : Sto → Prop
  | [] => True
  | (_, c) :: r => okUp g el sz rows c ∧ okUpS g el sz rows r
theorem okUpS_get {g el sz : Nat} {rows : List (List D)} : ∀ {s : Sto} {h : Nat} {c : List AV}, okUpS g el sz rows s → s.get h = some c → okUp g el sz rows c
  | [], _, _, _, h => by simp [Sto.get] at h
  | (k, x) :: r, h, c, ⟨h1, h2⟩, hc => by
    simp only [Sto.get] at hc
    split at hc
    · cases hc; exact h1
    · exact okUpS_get h2 hc
def gU : Nat := 999999999
def renU (g : Nat) (o : Option Nat) : Option Nat := match o with | none => none | some k => if k = g then some gU else some 0
def renB (g : Nat) (o : Option Nat) : Option Nat := match o with | none => none | some k => if k = gU then some g else some 0
theorem renU_none {g : Nat} {o : Option Nat} : renU g o = none ↔ o = none := by
  cases o with
  | none => simp [renU]
  | some k => simp only [renU]; split <;> simp
theorem reps_mem {L L' : Lay} {w w' : World} (h : (L.mem w).le (L'.mem w')) : ∀ {ds : List D} {us : List Value}, AReps L w (ds.map .d) us → AReps L' w' (ds.map .d) us
  | [], _, k => k
  | d :: ds, _, ⟨u, ut, e, k1, k2⟩ => ⟨u, ut, e, DRep.mono h d u k1, reps_mem h (ds := ds) k2⟩
theorem pcall_ups {P : Program} {f g el sz : Nat} {rows : List (List D)} {ds : List D} {e : List AV} {s : Sto} {R : AV → List (List D) → Prop} {K : AV → List AV → Sto → Prop} {Q : Exit → List AV → Sto → Prop}
    (hg : g ≠ 0 ∧ g < 1000000000) (hgs : s.get g = none) (he : okUp g el sz rows e) (hs : okUpS g el sz rows s)
    (h : pcall P f (.own gU el sz rows :: ds.map .d) (fun r e1 _ => ∃ rows', e1 = [.own gU el sz rows'] ∧ R r rows') (fun _ _ _ => False) [.own gU el sz rows] [(0, [])])
    (hK : ∀ r rows', R r rows' → r.only [] = true ∧ K r (e.map (AV.ups g rows')) (s.ups g rows')) : pcall P f (.own g el sz rows :: ds.map .d) K Q e s := by
  refine ⟨h.1, fun W0 L0 L w a vs hr hav => ?_⟩
  have hTf : ∀ {k : Nat}, k ≠ g → [g].contains k = false := fun {k} hk => by simpa using hk
  have hTn : ∀ {k : Nat}, [g].contains k = false → k ≠ g := fun {k} hk => by simpa using hk
  have h0T : [g].contains 0 = false := hTf hg.1.symm
  have hG0 : gU ≠ 0 := by decide
  have hlk : L.lk g = none := by
    cases h : L.lk g with
    | none => rfl
    | some r => have := (hr.lkb g r (by rw [← hr.lke, h])).1; omega
  let L1 : Lay := { own := fun b => renU g (L.own b), blk := L.blk, hdr := fun k => if k = gU then L.hdr g else L.hdr k, hid := [], rd := none, kp := [], lk := fun _ => none }
  have h01m : (L.mem w).le (L1.mem w) := look_le fun b hb _ => ⟨by simp only [L1, hb, renU], rfl⟩
  obtain ⟨u, ut, hvs, hu, hds⟩ := hav
  have hu0 : u = L.hdr g := hu.1
  have hu1 : ARep L1 w (.own gU el sz rows) u := by
    obtain ⟨k1, xs, q1, q2, q3, q4, q5⟩ := hu
    exact ⟨by simp only [L1, if_true]; exact k1, xs, q1, fun b hb => by simp only [L1, q2 b hb, renU, if_true], q3, q4, DReps.mono h01m _ _ q5⟩
  have hr1 : Rel w L1 L1 [.own gU el sz rows] [(0, [])] w { tmps := #[u], defers := [] } :=
    { slots := ⟨u, [], rfl, hu1, rfl⟩
      hid := ⟨[], rfl, rfl⟩
      mks := ⟨by simp [marks], by simp [marks]⟩
      mkb := by simp [marks]
      kept := fun b o hb => by cases hb
      rdk := fun l hb => by cases hb
      lke := rfl
      lkb := fun g r hg => by cases hg
      lki := fun g g' r r' hg => by cases hg
      rd := .inl rfl
      objs := fun k c hk => by
        simp only [Sto.get] at hk
        split at hk
        · rename_i e0; subst e0; cases hk; exact ⟨fun _ => rfl, fun h => absurd rfl h⟩
        · cases hk
      old := fun _ _ _ => ⟨rfl, rfl⟩
      size := Nat.le_refl _
      own_lt := fun b k hb => by
        simp only [L1] at hb
        cases ho : L.own b with
        | none => rw [ho] at hb; cases hb
        | some g' => exact hr.own_lt b g' ho
      os := rfl, tape := rfl, output := rfl }
  refine (h.2 w L1 L1 w _ vs hr1 (by rw [hvs]; exact ⟨u, ut, rfl, hu1, reps_mem h01m hds⟩)).mono fun en w2 hen => ?_
  cases en with
  | panicked c => obtain ⟨_, _, _, _, hq⟩ := hen; exact hq.elim
  | outgrown => exact hen.elim
  | returned v =>
  obtain ⟨L2, e1, s1, r, hr2, hrv, ⟨rows', rfl, hR⟩⟩ := hen
  obtain ⟨q1, q3⟩ := hK r rows' hR
  let L3 : Lay := { L with
    own := fun b => if b < w.heap.size ∧ L.own b ≠ some g then L.own b else renB g (L2.own b)
    hdr := fun k => if k = g then L2.hdr gU else L.hdr k }
  have hold : ∀ b, b < w.heap.size → L.own b ≠ some g → L2.own b = renU g (L.own b) ∧ w2.heap[b]? = w.heap[b]? := fun b hb hk => by
    refine hr2.old b hb ?_
    simp only [L1]
    cases ho : L.own b with
    | none => exact .inl rfl
    | some k => right; simp only [renU]; rw [if_neg (fun e => hk (by rw [ho, e]))]
  have hclean : ∀ b, b < w.heap.size → L.own b ≠ some g → L2.own b ≠ some gU := fun b hb hn he => by
    rw [(hold b hb hn).1] at he
    cases ho : L.own b with
    | none => rw [ho] at he; cases he
    | some g' =>
      rw [ho] at he; simp only [renU] at he
      rw [if_neg (fun e => hn (by rw [ho, e]))] at he
      exact hG0 (Option.some.inj he).symm
  have hown : ∀ b, L2.own b = some gU → L3.own b = some g := fun b he => by
    simp only [L3]
    split
    · rename_i hc; exact absurd he (hclean b hc.1 hc.2)
    · rw [he]; simp [renB]
  have h23m : (L2.mem w2).le (L3.mem w2) := look_le fun b hb _ => ⟨by
    simp only [L3]
    split
    · rename_i hc
      have := (hold b hc.1 hc.2).1
      rw [hb] at this
      exact renU_none.1 this.symm
    · rw [hb]; rfl, rfl⟩
  have h23 : Onto [] L2 w2 L3 w2 := ⟨h23m, fun g e s rows u hg => (by cases hg), fun g hg => (by cases hg), fun g hg => (by cases hg), fun g hg => (by cases hg)⟩
  have hne : ∀ {b : Nat}, (∀ k, L.own b = some k → [g].contains k = false) → L.own b ≠ some g := fun h e => hTn (h g e) rfl
  have hheap' : ∀ b, b < w.heap.size → L.own b ≠ some g → w2.heap[b]? = w.heap[b]? ∧ L3.own b = L.own b := fun b hb hn => ⟨(hold b hb hn).2, by simp only [L3]; rw [if_pos ⟨hb, hn⟩]⟩
  have hheap : ∀ b, b < w.heap.size → (∀ k, L.own b = some k → [g].contains k = false) → w2.heap[b]? = w.heap[b]? ∧ L3.own b = L.own b := fun b hb hn => hheap' b hb (hne hn)
  have hst : Stays [g] [] L w L3 w2 :=
    { heap := hheap
      blk := fun k hk => rfl
      hdr := fun k hk => by simp only [L3]; rw [if_neg (hTn hk)]
      lk := rfl
      E := fun x hx => by cases hx }
  have h0 : ∀ b, L.own b = some 0 → L.own b ≠ some g := fun b hb e => by rw [hb] at e; exact hg.1 (Option.some.inj e).symm
  have hnew : ARep L3 w2 (.own g el sz rows') (L.hdr g) := by
    obtain ⟨u', ut, e1, k1, k2⟩ := hr2.slots
    have e1 : [u] = u' :: ut := e1
    obtain ⟨rfl, rfl⟩ := List.cons.inj e1
    obtain ⟨k1, xs, q1, q2, q3, q4, q5⟩ := k1
    rw [← hu0]
    exact ⟨by simp only [L3, if_true]; exact k1, xs, q1, fun b hb => hown b (q2 b hb), q3, q4, DReps.mono h23m _ _ q5⟩
  have ups1 : ∀ (x : AV) (u : Value), okUp1 g el sz rows x → ARep L w x u → ARep L3 w2 (AV.ups g rows' x) u := fun x u hx hxr => by
    cases x with
    | own g' e' s' r' =>
      rw [ups_own]
      by_cases hgg : g' = g
      · obtain ⟨rfl, rfl, rfl⟩ := hx hgg
        subst hgg
        rw [if_pos rfl, show u = L.hdr g' from hxr.1]
        exact hnew
      · rw [if_neg hgg]
        exact AV.stay_rep hst _ u (.inl (hTf hgg)) hxr
    | _ => exact AV.stay_rep hst _ u (AV.men_stay _ hx) hxr
  have upsl : ∀ (xs : List AV) (us : List Value), okUp g el sz rows xs → AReps L w xs us → AReps L3 w2 (xs.map (AV.ups g rows')) us := by
    intro xs
    induction xs with
    | nil => intro us _ h; exact h
    | cons x xs ih => intro us ⟨h1, h2⟩ ⟨u, ut, e1, k1, k2⟩; exact ⟨u, ut, e1, ups1 x u h1 k1, ih ut h2 k2⟩
  refine ⟨L3, _, _, r, ?_, AV.only_rep h23 _ _ q1 hrv, q3⟩
  exact
    { slots := upsl _ _ he hr.slots
      hid := hr.hid
      mks := ⟨hr.mks.1, fun r hr' => by
        obtain ⟨q1, q2⟩ := hr.mks.2 r hr'
        have := hheap' r (lt_of_heap q1) (h0 r q2)
        exact ⟨this.1.trans q1, this.2.trans q2⟩⟩
      mkb := hr.mkb
      kept := fun b o hb => by
        obtain ⟨⟨o', q1, q3⟩, q2⟩ := hr.kept b o hb
        have := hheap' b (lt_of_heap q1) (h0 b q2)
        exact ⟨⟨o', this.1.trans q1, q3⟩, this.2.trans q2⟩
      rdk := hr.rdk
      lke := hr.lke
      lkb := fun g r hg => ⟨(hr.lkb g r hg).1, (hr.lkb g r hg).2.1, Nat.lt_of_lt_of_le (hr.lkb g r hg).2.2 hr2.size⟩
      lki := hr.lki
      rd := hr.rd
      objs := fun k c hk => by
        rw [get_ups] at hk
        obtain ⟨c0, hc0, rfl⟩ := Option.map_eq_some_iff.1 hk
        have hkg : k ≠ g := fun e => by subst e; rw [hgs] at hc0; cases hc0
        have hok := okUpS_get hs hc0
        refine ⟨fun h => upsl _ _ hok ((hr.objs k c0 hc0).1 h), fun hk0 => ?_⟩
        obtain ⟨ws, k1, k2⟩ := (hr.objs k c0 hc0).2 hk0
        exact ⟨ws, k1.congr rfl (fun _ => hst.blk k (hTf hkg)) (fun b hb ho => hheap b hb fun g' hg' => by
          rcases ho with ho | ho <;> rw [ho] at hg' <;> cases hg'
          · exact hTf hkg
          · exact h0T), upsl _ _ hok k2⟩
      old := fun b hb h1 => by
        have q := hr.old b hb h1
        have hn : L.own b ≠ some g := fun e => by
          rcases h1 with h1 | h1 <;> rw [q.1, h1] at e
          · cases e
          · exact hg.1 (Option.some.inj e).symm
        have := hheap' b (Nat.lt_of_lt_of_le hb hr.size) hn
        exact ⟨this.2.trans q.1, this.1.trans q.2⟩
      size := Nat.le_trans hr.size hr2.size
      own_lt := fun b k hb => by
        simp only [L3] at hb
        split at hb
        · exact Nat.lt_of_lt_of_le (hr.own_lt b k hb) hr2.size
        · cases ho : L2.own b with
          | none => rw [ho] at hb; cases hb
          | some g' => exact hr2.own_lt b g' ho
      os := hr2.os.trans hr.os
      tape := hr2.tape.trans hr.tape
      output := hr2.output.trans hr.output }

def upOk (g el sz : Nat) (rows : List (List D)) (e : List AV) (s : Sto) : Prop := (g ≠ 0 ∧ g < 1000000000) ∧ s.get g = none ∧ okUp g el sz rows e ∧ okUpS g el sz rows s
def PFu (P : Program) (f el sz : Nat) (rows : List (List D)) (ds : List D) (R : AV → List (List D) → Prop) : Prop :=
  pcall P f (.own gU el sz rows :: ds.map .d) (fun r e1 _ => ∃ rows', e1 = [.own gU el sz rows'] ∧ R r rows') (fun _ _ _ => False) [.own gU el sz rows] [(0, [])]
theorem PFu_start {P : Program} {C : CT} {O : Nat → Sch} {f el sz : Nat} {rows : List (List D)} {ds : List D} {R : AV → List (List D) → Prop} {fn : Func} {c : Code} {n : Nat} {rs : Array ResultVar} (hC : C.ok P) (hm : P.follows .mixedOrders = true) (ho : (fn.body.map (okO O)) = some true) (hf : P.funcs[f]? = some fn) (hc : callable P f = true) (hb : fn.body = some c) (hn : fn.ntmps = n) (hrs : fn.results = rs)
    (h : xW P C O 0 c (xI P 1 0 rs.toList (fun r e1 _ => ∃ rows', e1 = [.own gU el sz rows'] ∧ R r rows') (fun _ _ _ => False) (mk _) (mk _) (mk _)) (mk _) (mk _) ((.own gU el sz rows :: ds.map .d) ++ List.replicate (n - (ds.length + 1)) .any) [(0, [.own gU el sz rows])]) : PFu P f el sz rows ds R :=
  pcall_start hC hm ho hf hc hb hn hrs (by simpa [Sto.push, Sto.get, Sto.upd, oK, Sto.hidn] using h)
theorem PFu.mono {P : Program} {f el sz : Nat} {rows : List (List D)} {ds : List D} {R R' : AV → List (List D) → Prop} (h : PFu P f el sz rows ds R) (hR : ∀ r x, R r x → R' r x) : PFu P f el sz rows ds R' :=
  ⟨h.1, fun W0 L0 L w a vs h1 h2 => (h.2 W0 L0 L w a vs h1 h2).mono fun en w' hen => by
    cases en with
    | returned v => obtain ⟨L', e', s', r, k1, k2, rows', k3, k4⟩ := hen; exact ⟨L', e', s', r, k1, k2, rows', k3, hR _ _ k4⟩
    | panicked c => exact hen
    | outgrown => exact hen⟩
def entU {α : Type} (el sz : Nat) (P1 : α → List (List D)) (A : α → List D) (pre : α → Prop) (post : α → AV → List (List D) → Prop) (args : List AV) (K : AV → List AV → Sto → Prop) (e : List AV) (s : Sto) : Prop :=
  ∃ a g, args = .own g el sz (P1 a) :: (A a).map .d ∧ pre a ∧ upOk g el sz (P1 a) e s ∧ ∀ r rows', post a r rows' → K r (e.map (AV.ups g rows')) (s.ups g rows')
theorem entU_ok {α : Type} {P : Program} {f el sz : Nat} {P1 : α → List (List D)} {A : α → List D} {pre : α → Prop} {post : α → AV → List (List D) → Prop} (h : ∀ a, pre a → PFu P f el sz (P1 a) (A a) (post a)) (hp : ∀ a r x, post a r x → ∃ d, r = .d d) {args : List AV} {K : AV → List AV → Sto → Prop} {Q : Kt} {e : List AV} {s : Sto}
    (he : entU el sz P1 A pre post args K e s) : pcall P f args K Q e s := by
  obtain ⟨a, g, rfl, h1, ⟨h2, h3, h4, h5⟩, h6⟩ := he
  exact pcall_ups h2 h3 h4 h5 (h a h1) fun r rows' k => ⟨by obtain ⟨d, hd⟩ := hp a r rows' k; rw [hd]; rfl, h6 r rows' k⟩
theorem own_args {g g' el sz : Nat} {r r' : List (List D)} {x y : List D} (h : AV.own g el sz r :: x.map .d = .own g' el sz r' :: y.map .d) : g = g' ∧ r = r' ∧ x = y := by
  obtain ⟨h5, h6⟩ := List.cons.inj h
  simp only [AV.own.injEq, true_and] at h5
  exact ⟨h5.1, h5.2, (List.map_inj_right (fun a b h => by cases h; rfl)).1 h6⟩
theorem entU_iff {α : Type} {el sz : Nat} {P1 : α → List (List D)} {A : α → List D} {pre : α → Prop} {post : α → AV → List (List D) → Prop} {K : AV → List AV → Sto → Prop} {e : List AV} {s : Sto} {args : List AV} {g : Nat} (a : α) (hinj : ∀ b, P1 b = P1 a → A b = A a → b = a) (ha : args = .own g el sz (P1 a) :: (A a).map .d) :
    entU el sz P1 A pre post args K e s = (pre a ∧ upOk g el sz (P1 a) e s ∧ ∀ r rows', post a r rows' → K r (e.map (AV.ups g rows')) (s.ups g rows')) := by
  subst ha
  apply propext
  constructor
  · rintro ⟨b, g', h1, h2, h3, h4⟩
    obtain ⟨rfl, h5, h6⟩ := own_args h1
    obtain rfl := hinj b h5.symm h6.symm
    exact ⟨h2, h3, h4⟩
  · rintro ⟨h2, h3, h4⟩
    exact ⟨a, g, rfl, h2, h3, h4⟩
section
variable {g el sz : Nat} {rows : List (List D)}
theorem oku_nil : okUp g el sz rows [] = True := rfl
theorem oku_cons {x : AV} {xs : List AV} : okUp g el sz rows (x :: xs) = (okUp1 g el sz rows x ∧ okUp g el sz rows xs) := rfl
theorem okuS_nil : okUpS g el sz rows [] = True := rfl
theorem okuS_cons {h : Nat} {c : List AV} {r : Sto} : okUpS g el sz rows ((h, c) :: r) = (okUp g el sz rows c ∧ okUpS g el sz rows r) := rfl
theorem oku_own {g' e' s' : Nat} {r' : List (List D)} : okUp1 g el sz rows (.own g' e' s' r') = (g' = g → (e' = el ∧ s' = sz ∧ r' = rows)) := rfl
theorem oku_any : okUp1 g el sz rows .any = True := propext ⟨fun _ => trivial, fun _ => rfl⟩
theorem oku_d {x : D} : okUp1 g el sz rows (.d x) = True := propext ⟨fun _ => trivial, fun _ => rfl⟩
theorem oku_eref {a b c i o : Nat} {r : List (List D)} : okUp1 g el sz rows (.eref a b c r i o) = ((AV.eref a b c r i o).men g = false) := rfl
theorem oku_ref {a b : Nat} : okUp1 g el sz rows (.ref a b) = ((AV.ref a b).men g = false) := rfl
theorem oku_tup {xs : List AV} : okUp1 g el sz rows (.tup xs) = ((AV.tup xs).men g = false) := rfl
theorem oku_agg {xs : List AV} : okUp1 g el sz rows (.agg xs) = ((AV.agg xs).men g = false) := rfl
theorem oku_clo {f : Fn} {x y : List AV} : okUp1 g el sz rows (.clo f x y) = ((AV.clo f x y).men g = false) := rfl
theorem oku_iface {t : TypeId} {x : AV} : okUp1 g el sz rows (.iface t x) = ((AV.iface t x).men g = false) := rfl
theorem oku_mp {a : Nat} : okUp1 g el sz rows (.mp a) = ((AV.mp a).men g = false) := rfl
theorem oku_bx {a b c : Nat} : okUp1 g el sz rows (.bx a b c) = ((AV.bx a b c).men g = false) := rfl
theorem oku_it {a : Nat} : okUp1 g el sz rows (.it a) = ((AV.it a).men g = false) := rfl
theorem ups_eref {h a b c i o : Nat} {r : List (List D)} : AV.ups g rows (.eref a b c r i o) = .eref a b c r i o := rfl
theorem ups_tup {xs : List AV} : AV.ups g rows (.tup xs) = .tup xs := rfl
theorem ups_agg {xs : List AV} : AV.ups g rows (.agg xs) = .agg xs := rfl
theorem ups_iface {t : TypeId} {x : AV} : AV.ups g rows (.iface t x) = .iface t x := rfl
theorem ups_mp {a : Nat} : AV.ups g rows (.mp a) = .mp a := rfl
theorem ups_bx {a b c : Nat} : AV.ups g rows (.bx a b c) = .bx a b c := rfl
theorem ups_it {a : Nat} : AV.ups g rows (.it a) = .it a := rfl
end
end Go.E

namespace Go.E
section
variable {α : Type} [Inhabited α]
def swp (l : List α) (i j : Nat) : List α := (l.set i (l.getD j default)).set j (l.getD i default)
theorem swp_len {l : List α} {i j : Nat} : (swp l i j).length = l.length := by simp [swp]
theorem getD_set {l : List α} {i k : Nat} {x : α} (h : i < l.length) : (l.set i x).getD k default = if k = i then x else l.getD k default := by
  by_cases hk : k = i
  · subst hk; simp [List.getD, h]
  · rw [if_neg hk]; simp [List.getD, List.getElem?_set_ne (Ne.symm hk)]
theorem swp_at {l : List α} {i j k : Nat} (hi : i < l.length) (hj : j < l.length) : (swp l i j).getD k default = if k = j then l.getD i default else if k = i then l.getD j default else l.getD k default := by
  unfold swp
  rw [getD_set (by simpa using hj), getD_set hi]
inductive Swp (a b : Nat) : List α → List α → Prop
  | refl (l : List α) : Swp a b l l
  | step {l m : List α} (i j : Nat) : Swp a b l m → (a ≤ i ∧ i < b) → (a ≤ j ∧ j < b) → b ≤ l.length → Swp a b l (swp m i j)
theorem Swp.len {a b : Nat} {l m : List α} (h : Swp a b l m) : m.length = l.length := by
  induction h with
  | refl => rfl
  | step i j _ _ _ _ ih => rw [swp_len, ih]
theorem Swp.out {a b : Nat} {l m : List α} (h : Swp a b l m) {k : Nat} (hk : k < a ∨ b ≤ k) : m.getD k default = l.getD k default := by
  induction h with
  | refl => rfl
  | step i j h1 h2 h3 h4 ih => rw [swp_at (by rw [h1.len]; omega) (by rw [h1.len]; omega), if_neg (by omega), if_neg (by omega), ih]
theorem Swp.all {a b : Nat} {l m : List α} (h : Swp a b l m) {p : α → Prop} (hp : ∀ k, a ≤ k → k < b → p (l.getD k default)) : ∀ k, a ≤ k → k < b → p (m.getD k default) := by
  induction h with
  | refl => exact hp
  | step i j h1 h2 h3 h4 ih =>
    intro k k1 k2
    rw [swp_at (by rw [h1.len]; omega) (by rw [h1.len]; omega)]
    split
    · exact ih i h2.1 h2.2
    · split
      · exact ih j h3.1 h3.2
      · exact ih k k1 k2
theorem Swp.trans {a b : Nat} {l m n : List α} (h : Swp a b l m) (k : Swp a b m n) : Swp a b l n := by
  induction k with
  | refl => exact h
  | step i j h1 h2 h3 h4 ih => exact .step i j ih h2 h3 (by rw [← h.len]; exact h4)
theorem Swp.mono {a b a' b' : Nat} {l m : List α} (h : Swp a b l m) (ha : a' ≤ a) (hb : b ≤ b') (hl : b' ≤ l.length) : Swp a' b' l m := by
  induction h with
  | refl => exact .refl _
  | step i j _ h2 h3 _ ih => exact .step i j ih (by omega) (by omega) hl
theorem Swp.one {a b : Nat} {l : List α} (i j : Nat) (h2 : a ≤ i ∧ i < b) (h3 : a ≤ j ∧ j < b) (h4 : b ≤ l.length) : Swp a b l (swp l i j) := .step i j (.refl l) h2 h3 h4

variable (ky : α → Int)
def SrtI (a b : Nat) (l : List α) : Prop := ∀ p q, a ≤ p → p < q → q < b → ky (l.getD p default) ≤ ky (l.getD q default)
def InsI (a i j : Nat) (l : List α) : Prop := (∀ p q, a ≤ p → p < q → q ≤ i → p ≠ j → q ≠ j → ky (l.getD p default) ≤ ky (l.getD q default)) ∧ ∀ q, j < q → q ≤ i → ky (l.getD j default) ≤ ky (l.getD q default)
variable {ky}
theorem SrtI.one {a b : Nat} {l : List α} (h : b ≤ a + 1) : SrtI ky a b l := fun p q _ _ _ => by omega
theorem InsI.top {a i : Nat} {l : List α} (h : SrtI ky a i l) : InsI ky a i i l := ⟨fun p q h1 h2 h3 _ h5 => h p q h1 h2 (by omega), fun q h1 h2 => by omega⟩
theorem InsI.step {a i j : Nat} {l : List α} (h : InsI ky a i j l) (haj : a < j) (hji : j ≤ i) (hi : i < l.length) (hlt : ky (l.getD j default) < ky (l.getD (j - 1) default)) : InsI ky a i (j - 1) (swp l j (j - 1)) := by
  have hat := fun k => swp_at (l := l) (i := j) (j := j - 1) (k := k) (by omega) (by omega)
  refine ⟨fun p q h1 h2 h3 h4 h5 => ?_, fun q h1 h2 => ?_⟩
  · rw [hat, hat, if_neg h4, if_neg h5]
    by_cases e1 : p = j
    · rw [if_pos e1, if_neg (by omega)]
      exact h.1 (j - 1) q (by omega) (by omega) h3 (by omega) (by omega)
    · rw [if_neg e1]
      by_cases e2 : q = j
      · rw [if_pos e2]
        exact h.1 p (j - 1) h1 (by omega) (by omega) e1 (by omega)
      · rw [if_neg e2]
        exact h.1 p q h1 h2 h3 e1 e2
  · rw [hat, hat, if_pos rfl, if_neg (by omega)]
    by_cases e2 : q = j
    · rw [if_pos e2]; omega
    · rw [if_neg e2]; exact h.2 q (by omega) h2
theorem InsI.done {a i j : Nat} {l : List α} (h : InsI ky a i j l) (hji : j ≤ i) (haj : a ≤ j) (hd : j = a ∨ ¬ ky (l.getD j default) < ky (l.getD (j - 1) default)) : SrtI ky a (i + 1) l := fun p q h1 h2 h3 => by
  by_cases e1 : p = j
  · rw [e1]; exact h.2 q (by omega) (by omega)
  · by_cases e2 : q = j
    · rw [e2]
      rcases hd with hd | hd
      · omega
      · by_cases e3 : p = j - 1
        · rw [e3]; omega
        · have := h.1 p (j - 1) h1 (by omega) (by omega) e1 (by omega)
          omega
    · exact h.1 p q h1 h2 (by omega) e1 e2
theorem SrtI.ext {a i : Nat} {l : List α} (h : SrtI ky a i l) (hi : a + 1 ≤ i) (hc : ¬ ky (l.getD i default) < ky (l.getD (i - 1) default)) : SrtI ky a (i + 1) l := fun p q p1 p2 p3 => by
  by_cases e : q = i
  · subst e
    by_cases f : p = q - 1
    · rw [f]; omega
    · have := h p (q - 1) p1 (by omega) (by omega); omega
  · exact h p q p1 p2 (by omega)
def PrtI (ky : α → Int) (a b i j : Nat) (l : List α) : Prop := (a + 1 ≤ i ∧ i ≤ j + 1 ∧ j < b) ∧ (∀ p, a < p → p < i → ky (l.getD p default) < ky (l.getD a default)) ∧ ∀ q, j < q → q < b → ky (l.getD a default) ≤ ky (l.getD q default)
theorem PrtI.up {a b i j : Nat} {l : List α} (h : PrtI ky a b i j l) (hij : i ≤ j) (hlt : ky (l.getD i default) < ky (l.getD a default)) : PrtI ky a b (i + 1) j l := ⟨⟨by have := h.1; omega, by omega, h.1.2.2⟩, fun p h1 h2 => by
  by_cases e : p = i
  · rw [e]; exact hlt
  · exact h.2.1 p h1 (by omega), h.2.2⟩
def Prt (ky : α → Int) (a b m : Nat) (l : List α) : Prop := (a ≤ m ∧ m < b) ∧ (∀ p, a ≤ p → p < m → ky (l.getD p default) ≤ ky (l.getD m default)) ∧ ∀ q, m < q → q < b → ky (l.getD m default) ≤ ky (l.getD q default)
theorem PrtI.done {a b i j : Nat} {l : List α} (h : PrtI ky a b i j l) (hij : j < i) (hb : b ≤ l.length) : Prt ky a b j (swp l j a) := by
  have hh := h.1
  have hat := fun k => swp_at (l := l) (i := j) (j := a) (k := k) (by omega) (by omega)
  refine ⟨⟨by omega, by omega⟩, fun p p1 p2 => ?_, fun q q1 q2 => ?_⟩
  · rw [hat, hat]
    by_cases e : p = a
    · rw [if_pos e]
      by_cases e2 : j = a
      · rw [if_pos e2]; exact Int.le_refl _
      · rw [if_neg e2, if_pos rfl]
        exact Int.le_of_lt (h.2.1 j (by omega) (by omega))
    · rw [if_neg e, if_neg (by omega)]
      by_cases e2 : j = a
      · omega
      · rw [if_neg e2, if_pos rfl]
        exact Int.le_of_lt (h.2.1 p (by omega) (by omega))
  · rw [hat, hat, if_neg (show q ≠ a by omega), if_neg (show q ≠ j by omega)]
    have := h.2.2 q q1 q2
    by_cases e2 : j = a
    · rw [if_pos e2, e2]; exact this
    · rw [if_neg e2, if_pos rfl]; exact this
def OutI (ky : α → Int) (A B a b : Nat) (l : List α) : Prop := ∀ p q, A ≤ p → p < q → q < B → (p < a ∨ b ≤ q) → ky (l.getD p default) ≤ ky (l.getD q default)
theorem OutI.swp {A B a b : Nat} {l l' : List α} (h : OutI ky A B a b l) (hs : Swp a b l l') (hA : A ≤ a) (hB : b ≤ B) : OutI ky A B a b l' := fun p q h1 h2 h3 h4 => by
  rcases h4 with h4 | h4
  · rw [hs.out (.inl h4)]
    by_cases e : a ≤ q ∧ q < b
    · exact hs.all (p := fun x => ky (l.getD p default) ≤ ky x) (fun k k1 k2 => h p k h1 (by omega) (by omega) (.inl h4)) q e.1 e.2
    · rw [hs.out (by omega)]; exact h p q h1 h2 h3 (.inl h4)
  · rw [hs.out (.inr h4)]
    by_cases e : a ≤ p ∧ p < b
    · exact hs.all (p := fun x => ky x ≤ ky (l.getD q default)) (fun k k1 k2 => h k q (by omega) (by omega) h3 (.inr h4)) p e.1 e.2
    · rw [hs.out (by omega)]; exact h p q h1 h2 h3 (.inr h4)
theorem OutI.left {A B a b m : Nat} {l : List α} (h : OutI ky A B a b l) (hA : A ≤ a) (hB : b ≤ B) (hp : Prt ky a b m l) (hs : SrtI ky a m l) : OutI ky A B (m + 1) b l := fun p q h1 h2 h3 h4 => by
  have hm := hp.1
  by_cases e : p < a ∨ b ≤ q
  · exact h p q h1 h2 h3 e
  · rcases h4 with h4 | h4
    · rcases Nat.lt_trichotomy q m with f | f | f
      · exact hs p q (by omega) h2 f
      · subst f; exact hp.2.1 p (by omega) h2
      · by_cases g : p = m
        · subst g; exact hp.2.2 q f (by omega)
        · exact Int.le_trans (hp.2.1 p (by omega) (by omega)) (hp.2.2 q f (by omega))
    · omega
theorem OutI.right {A B a b m : Nat} {l : List α} (h : OutI ky A B a b l) (hA : A ≤ a) (hB : b ≤ B) (hp : Prt ky a b m l) (hs : SrtI ky (m + 1) b l) : OutI ky A B a m l := fun p q h1 h2 h3 h4 => by
  have hm := hp.1
  by_cases e : p < a ∨ b ≤ q
  · exact h p q h1 h2 h3 e
  · rcases h4 with h4 | h4
    · omega
    · rcases Nat.lt_trichotomy p m with f | f | f
      · by_cases g : q = m
        · subst g; exact hp.2.1 p (by omega) f
        · exact Int.le_trans (hp.2.1 p (by omega) f) (hp.2.2 q (by omega) (by omega))
      · subst f; exact hp.2.2 q h2 (by omega)
      · exact hs p q (by omega) h2 (by omega)
theorem OutI.done {A B a b : Nat} {l : List α} (h : OutI ky A B a b l) (hs : SrtI ky a b l) : SrtI ky A B l := fun p q h1 h2 h3 => by
  by_cases e : p < a ∨ b ≤ q
  · exact h p q h1 h2 h3 e
  · exact hs p q (by omega) h2 (by omega)
end
end Go.E

namespace Go.E
open Go Go.RowKit Go.Maps
def othL (T : List Nat) (E : List AV) : Sto → Prop
  | [] => True
  | (g, c) :: r => (T.contains g = true ∨ AV.stays T E c) ∧ othL T E r
theorem othL_get {T : List Nat} {E : List AV} {g : Nat} {c : List AV} : ∀ {s : Sto}, othL T E s → s.get g = some c → T.contains g = false → AV.stays T E c
  | [], _, h, _ => by simp [Sto.get] at h
  | (k, x) :: r, ho, h, hg => by
    simp only [Sto.get] at h
    split at h
    · rename_i e; subst e; cases h
      rcases ho.1 with h' | h'
      · rw [hg] at h'; cases h'
      · exact h'
    · exact othL_get ho.2 h hg
end Go.E

namespace Go.E
open Go Go.RowKit Go.Maps
section
variable {P : Program} {C : CT} {O : Nat → Sch} {tb : Nat} {c x y : Code} {Q : Kt} {e : List AV} {s : Sto}
end
end Go.E
namespace Go.E
open Go Go.RowKit Go.Maps
theorem xUp_put {α β : Type} {fk : α → D} {fv : β → D} {fkv : α → Value} {M : List (α × β)} (hk : ∀ x, (fk x).val? = some (fkv x)) (hi : ∀ x y, fkv x = fkv y → x = y) {k : α} {v : β} {kd vd : D} (e1 : kd = fk k) (e2 : vd = fv v) (hn : (M.map Prod.fst).Nodup) {R : List AV → Prop} {m : At R}
    (h1 : ∀ M', (M'.map Prod.fst).Nodup → (∀ e w, (e, w) ∈ M' ↔ (e = k ∧ w = v) ∨ (e ≠ k ∧ (e, w) ∈ M)) → R (ents fk fv M')) : xUp (ents fk fv M) kd (fkv k) vd R m := by
  subst e1; subst e2
  refine ⟨fun j kd' v' hj hv => ?_, fun hno => ?_⟩
  · have hj' : j < M.length := by have := (List.getElem?_eq_some_iff.1 hj).1; simpa [ents] using this
    have hjk : M[j].1 = k := by
      have h2 := (List.getElem?_eq_some_iff.1 hj).2
      simp only [ents, List.getElem_map, AV.d.injEq, D.agg.injEq, List.cons.injEq, and_true] at h2
      have h3 := hk M[j].1
      rw [h2.1, hv] at h3
      exact hi _ _ (Option.some.inj h3).symm
    have hset : (M.set j (k, v)).map Prod.fst = M.map Prod.fst := by
      rw [List.map_set]
      apply List.ext_getElem?
      intro i
      by_cases h : j = i
      · subst h; rw [List.getElem?_set_self (by simpa using hj')]; simp [hj', hjk]
      · rw [List.getElem?_set_ne h]
    have hw : ∀ e w, (e, w) ∈ M.set j (k, v) ↔ (e = k ∧ w = v) ∨ (e ≠ k ∧ (e, w) ∈ M) := fun e w => by
      constructor
      · intro h
        obtain ⟨i, hi', h⟩ := List.getElem_of_mem h
        rw [List.getElem_set] at h
        split at h
        · simp only [Prod.mk.injEq] at h; exact .inl ⟨h.1.symm, h.2.symm⟩
        · rename_i hji
          right
          have hil : i < M.length := by simpa using hi'
          refine ⟨fun e1 => hji ?_, by rw [← h]; exact List.getElem_mem _⟩
          have hpw := List.pairwise_iff_getElem.1 (show (M.map Prod.fst).Pairwise (· ≠ ·) from hn)
          have hei : M[i].1 = k := by rw [h]; exact e1
          rcases Nat.lt_trichotomy j i with q | q | q
          · exact (hpw j i (by simpa using hj') (by simpa using hil) q (by rw [List.getElem_map, List.getElem_map, hjk, hei])).elim
          · exact q
          · exact (hpw i j (by simpa using hil) (by simpa using hj') q (by rw [List.getElem_map, List.getElem_map, hjk, hei])).elim
      · rintro (⟨rfl, rfl⟩ | ⟨h1, h2⟩)
        · exact List.mem_iff_getElem.2 ⟨j, by simpa using hj', by simp⟩
        · obtain ⟨i, hi', h⟩ := List.getElem_of_mem h2
          refine List.mem_iff_getElem.2 ⟨i, by simpa using hi', ?_⟩
          rw [List.getElem_set]
          split
          · rename_i q; subst q; rw [h] at hjk; exact absurd hjk h1
          · exact h
    have := h1 (M.set j (k, v)) (by rw [hset]; exact hn) hw
    simpa [ents, List.map_set] using this
  · have hno' : ∀ w, (k, w) ∉ M := fun w hw => hno (fv w) ((hasK_ents hk).2 ⟨(k, w), hw, rfl, rfl⟩)
    have := h1 (M ++ [(k, v)]) (by
      rw [List.map_append]
      refine List.nodup_append.2 ⟨hn, by simp, fun a ha b hb hab => ?_⟩
      simp at hb; subst hb; subst hab
      obtain ⟨p, hp, e1⟩ := List.mem_map.1 ha
      exact hno' p.2 (by rw [← e1]; exact hp)) (fun e w => by
      constructor
      · intro h
        rcases List.mem_append.1 h with h | h
        · by_cases q : e = k
          · rw [q] at h; exact absurd h (hno' w)
          · exact .inr ⟨q, h⟩
        · simp only [List.mem_singleton, Prod.mk.injEq] at h; exact .inl h
      · rintro (⟨rfl, rfl⟩ | ⟨_, h⟩)
        · exact List.mem_append_right _ (by simp)
        · exact List.mem_append_left _ h)
    simpa [ents] using this
end Go.E

namespace Go.E
open Go Go.RowKit Go.Maps
section
variable {P : Program} {C : CT} {tb : Nat} {Q : Kt} {e : List AV} {s : Sto} {K : List AV → Sto → Prop} {d : Option Nat} {type : Nat} {pos : String} {af : Array Edge} {g : Option (Nat × Bool)}
end

section
variable {P : Program} {e : List AV} {s : Sto} {rs : List ResultVar} {el sz : Nat} {R : List (List D) → Prop} {i : At rs} {j : At R}
end
theorem pcall_sn {P : Program} {f : Nat} {args : List AV} {ds : List D} {R : End → Prop} {K : AV → List AV → Sto → Prop} {Q : Exit → List AV → Sto → Prop} {e : List AV} {s : Sto} (h : PFn P f ds R) (ha : AV.outs s args = some ds)
    (hK : ∀ d, R (.ret d) → K (.d d) e s) (hQ : ∀ c, R (.pan c) → Q (.panic c) e s) : pcall P f args K Q e s := by
  refine ⟨h.1, fun W0 L0 L w a vs hr hv => (h.2 (fun _ => True) w vs (outL_rep (outF_rep hr (fun _ _ => trivial) (fun _ _ _ _ => trivial) 6) ha hv)).mono fun en w' ⟨hb, hen⟩ => ?_⟩
  have hr' := hr.grow hb
  cases en with
  | returned v =>
    obtain ⟨d, h1, h2⟩ := hen
    refine ⟨L, e, s, .d d, hr', DRep.mono (look_le fun b hb' hlt => ⟨?_, rfl⟩) d v h2, hK d h1⟩
    cases ho : L.own b with
    | none => rfl
    | some g => have := hr.own_lt b g ho; omega
  | panicked c => exact ⟨L, e, s, hr', hQ c hen⟩
  | outgrown => exact hen
def entSn {α : Type} (P1 : α → List D) (pre : α → Prop) (R : α → D) (o : Option (List D)) (K : AV → List AV → Sto → Prop) (_ : At K) (e : List AV) (s : Sto) : Prop :=
  ∃ a, o = some (P1 a) ∧ pre a ∧ K (.d (R a)) e s
theorem entSn_ok {α : Type} {P : Program} {f : Nat} {P1 : α → List D} {pre : α → Prop} {R : α → D} (h : ∀ a, pre a → PFn P f (P1 a) (fun x => x = .ret (R a))) {args : List AV} {K : AV → List AV → Sto → Prop} {Q : Kt} {i : At K} {e : List AV} {s : Sto}
    (he : entSn P1 pre R (AV.outs s args) K i e s) : pcall P f args K Q e s := by
  obtain ⟨a, h1, h2, h4⟩ := he
  exact pcall_sn (h a h2) h1 (fun x hx => by cases hx; exact h4) (fun c hc => by cases hc)
theorem entSn_iff {α : Type} {P1 : α → List D} {pre : α → Prop} {R : α → D} {K : AV → List AV → Sto → Prop} {i : At K} {e : List AV} {s : Sto} (a : α) (hinj : ∀ b, P1 b = P1 a → b = a) :
    entSn P1 pre R (some (P1 a)) K i e s = (pre a ∧ K (.d (R a)) e s) := by
  apply propext
  constructor
  · rintro ⟨b, h1, h2, h4⟩
    obtain rfl := hinj b (Option.some.inj h1).symm
    exact ⟨h2, h4⟩
  · rintro ⟨h2, h4⟩
    exact ⟨a, rfl, h2, h4⟩
end Go.E

namespace Go.E
open Go Go.RowKit
mutual
inductive NilD : D → D → Prop
  | refl (x : D) : NilD x x
  | nil (s : Nat) : NilD (.v (.slice none 0 0)) (.sl s [])
  | sl {s : Nat} {r r' : List (List D)} : NilRs r r' → NilD (.sl s r) (.sl s r')
  | agg {xs ys : List D} : NilDs xs ys → NilD (.agg xs) (.agg ys)
  | tup {xs ys : List D} : NilDs xs ys → NilD (.tup xs) (.tup ys)
  | ptr {xs ys : List D} {o : Nat} : NilDs xs ys → NilD (.ptr xs o) (.ptr ys o)
inductive NilDs : List D → List D → Prop
  | refl (x : List D) : NilDs x x
  | cons {x y : D} {xs ys : List D} : NilD x y → NilDs xs ys → NilDs (x :: xs) (y :: ys)
inductive NilRs : List (List D) → List (List D) → Prop
  | refl (x : List (List D)) : NilRs x x
  | cons {x y : List D} {xs ys : List (List D)} : NilDs x y → NilRs xs ys → NilRs (x :: xs) (y :: ys)
end
theorem NilDs.len : ∀ {x y : List D}, NilDs x y → x.length = y.length
  | _, _, .refl _ => rfl
  | _, _, .cons _ h => by simp [NilDs.len h]
theorem NilRs.len : ∀ {x y : List (List D)}, NilRs x y → x.length = y.length
  | _, _, .refl _ => rfl
  | _, _, .cons _ h => by simp [NilRs.len h]
mutual
theorem NilD.rep {m : Mem} : ∀ {x y : D} {u : Value}, NilD x y → DRep m x u → DRep m y u
  | _, _, _, .refl _, k => k
  | _, _, _, .nil _, k => ⟨none, 0, 0, k, rfl, Nat.le_refl _, .inl ⟨rfl, rfl, rfl⟩⟩
  | _, _, _, .sl h, ⟨a, n, c, e, e2, e3, k⟩ => ⟨a, n, c, e, by rw [e2]; exact NilRs.len h, e3, k.imp id fun ⟨b, o, e, k⟩ => ⟨b, o, e, NilRs.rep h k⟩⟩
  | _, _, _, .agg h, ⟨us, e, k⟩ => ⟨us, e, NilDs.reps h k⟩
  | _, _, _, .tup h, ⟨us, e, k⟩ => ⟨us, e, NilDs.reps h k⟩
  | _, _, _, .ptr h, ⟨b, o, e, k⟩ => ⟨b, o, e, NilDs.cells h k⟩
theorem NilDs.reps {m : Mem} : ∀ {x y : List D} {us : List Value}, NilDs x y → DReps m x us → DReps m y us
  | _, _, _, .refl _, k => k
  | _, _, _, .cons h1 h2, ⟨u, ut, e, k1, k2⟩ => ⟨u, ut, e, NilD.rep h1 k1, NilDs.reps h2 k2⟩
theorem NilDs.cells {m : Mem} {b : Nat} : ∀ {x y : List D} {o : Nat}, NilDs x y → DCells m b o x → DCells m b o y
  | _, _, _, .refl _, k => k
  | _, _, _, .cons h1 h2, ⟨⟨u, hu, k1, k2⟩, k3⟩ => ⟨⟨u, hu, k1, NilD.rep h1 k2⟩, NilDs.cells h2 k3⟩
theorem NilRs.rep {m : Mem} {b o s : Nat} : ∀ {x y : List (List D)} {i : Nat}, NilRs x y → DRows m b o s i x → DRows m b o s i y
  | _, _, _, .refl _, k => k
  | _, _, _, .cons h1 h2, ⟨e, k1, k2⟩ => ⟨by rw [← e]; exact (NilDs.len h1).symm, NilDs.cells h1 k1, NilRs.rep h2 k2⟩
end
end Go.E

namespace Go.E
open Go Go.RowKit Go.Maps
def xN (P : Program) (C : CT) (O : Nat → Sch) (tb : Nat) : Nat → (c : Code) → (Q : Kt) → At c → At Q → List AV → Sto → Prop
  | 0, c, Q, _, _, e, s => psem P c Q e s
  | n + 1, .seq x y, Q, _, _, e, s => xW P C O tb x (xS (fun e s => xN P C O tb n y Q (mk _) (mk _) e s) Q (mk _) (mk _)) (mk _) (mk _) e s
  | _ + 1, c, Q, _, _, e, s => xW P C O tb c Q (mk _) (mk _) e s
section
variable {P : Program} {C : CT} {O : Nat → Sch} {tb : Nat} {c x y : Code} {Q : Kt} {e : List AV} {s : Sto}
theorem n_seq {n : Nat} {i : At (Code.seq x y)} {j : At Q} : xN P C O tb (n + 1) (.seq x y) Q i j e s = xW P C O tb x (xS (fun e s => xN P C O tb n y Q (mk _) (mk _) e s) Q (mk _) (mk _)) (mk _) (mk _) e s := id rfl
end
end Go.E

namespace Go.E
open Go Go.RowKit Go.Maps
section
variable {P : Program} {e : List AV} {s : Sto} {rs : List ResultVar} {el sz : Nat} {R : List (List D) → D → Prop} {i : At rs} {j : At R}
end
end Go.E

namespace Go.E
open Go Go.RowKit Go.Maps
end Go.E

namespace Go.E
open Go Go.RowKit
def addT (s1 : Sto) (s : Sto) : List Nat → Sto
  | [] => s
  | g :: T => match s1.get g with | some c => (g, c) :: addT s1 s T | none => addT s1 s T
theorem addT_get {s1 s : Sto} {g : Nat} {c : List AV} : ∀ {T : List Nat}, (addT s1 s T).get g = some c → (g ∈ T ∧ s1.get g = some c) ∨ s.get g = some c
  | [], h => .inr h
  | k :: T, h => by
    unfold addT at h
    split at h
    · rename_i c' hc'
      simp only [Sto.get] at h
      split at h
      · rename_i hk
        subst hk
        cases h
        exact .inl ⟨List.mem_cons_self, hc'⟩
      · rcases addT_get h with ⟨h1, h2⟩ | h1
        · exact .inl ⟨List.mem_cons_of_mem _ h1, h2⟩
        · exact .inr h1
    · rcases addT_get h with ⟨h1, h2⟩ | h1
      · exact .inl ⟨List.mem_cons_of_mem _ h1, h2⟩
      · exact .inr h1
def PFs (P : Program) (f : Nat) (ds : List D) (R : AV → Sto → Prop) : Prop :=
  callable P f = true ∧ ∀ (F : Nat → Prop) (w : World) (vs : Array Value), DReps (look F w) ds vs.toList →
    Calls P f vs w (fun en w' => match en with
      | .returned v => ∃ L e s a r, Rel w (lay0 F w) L e s w' a ∧ ARep L w' r v ∧ R r s
      | .panicked _ => False
      | .outgrown => False)
structure FreeOk (T : List Nat) (e : List AV) (s : Sto) : Prop where
  tags : ∀ g ∈ T, g ≠ 0 ∧ (g < 1000000000 ∨ 2000000000 ≤ g)
  slots : AV.stays T [] e
  others : ∀ g c, s.get g = some c → T.contains g = false ∧ AV.stays T [] c

def stoK (P : Program) (rs : List ResultVar) (R : AV → Sto → Prop) (e : List AV) (s : Sto) : Prop := resAll P e s rs ∧ R (packA (rs.map (resV P e s))) s
section
variable {P : Program}
def xDs (P : Program) (C : CT) (O : Nat → Sch) (tb : Nat) (T : DText) (rs : List ResultVar) (R : AV → Sto → Prop) (_ : At T) (_ : At rs) (_ : At R) : Kt := fun x e s => dKG P C O tb T (stoK P rs R) x e s
def xDGs (P : Program) (C : CT) (O : Nat → Sch) (tb : Nat) (T : DText) (rs : List ResultVar) (R : AV → Sto → Prop) (_ : At T) (_ : At rs) (_ : At R) (x : AV) (e : List AV) (s : Sto) : Prop := dgoG P C O tb T (stoK P rs R) x e s
def xYs (P : Program) (rs : List ResultVar) (R : AV → Sto → Prop) (_ : At rs) (_ : At R) (e : List AV) (s : Sto) : Prop := stoK P rs R e s
variable {C : CT} {O : Nat → Sch} {tb : Nat} {rs : List ResultVar} {R : AV → Sto → Prop} {j : At rs} {k : At R} {e : List AV} {s : Sto}
theorem ds_y : xYs P rs R j k e s = (resAll P e s rs ∧ R (packA (rs.map (resV P e s))) s) := id rfl
theorem ds_r {T : DText} {i : At T} : xDs P C O tb T rs R i j k .ret e s = if (s.get 0).any List.isEmpty = true then xYs P rs R (mk _) (mk _) e s else xDGs P C O tb T rs R (mk _) (mk _) (mk _) (.d (.v .nilIface)) e s := id rfl
theorem ds_p {fd nt kk : Nat} {l l' : List Oper} {rest : Code} {rsd : List ResultVar} {mm : List Bool} {i : At (⟨fd, nt, kk, l, l', rest, rsd, mm⟩ : DText)} {v : Value} : xDs P C O tb ⟨fd, nt, kk, l, l', rest, rsd, mm⟩ rs R i j k (.panic [{ v := v, recovered := false }]) e s = xDGs P C O tb ⟨fd, nt, kk, l, l', rest, rsd, mm⟩ rs R (mk _) (mk _) (mk _) (.d (datOf 9 v)) (maskB mm e) s := by
  simp [xDs, xDGs, dKG]
theorem ds_g {fd nt kk : Nat} {l l' : List Oper} {rest : Code} {rsd : List ResultVar} {mm : List Bool} {i : At (⟨fd, nt, kk, l, l', rest, rsd, mm⟩ : DText)} {x : AV} : xDGs P C O tb ⟨fd, nt, kk, l, l', rest, rsd, mm⟩ rs R i j k x e s =
    oK (dclo fd (s.get 0)) (fun args => xOP P C tb l' (xS (fun e' s' => xW P C O tb rest (xI P e.length 0 rsd (fun _ e s => xYs P rs R (mk _) (mk _) e s) noK (mk _) (mk _) (mk _)) (mk _) (mk _) e' s') (xI P e.length 0 rsd (fun _ e s => xYs P rs R (mk _) (mk _) e s) noK (mk _) (mk _) (mk _)) (mk _) (mk _)) (mk _) (mk _)
      ((args ++ List.replicate (nt - args.length) AV.any).set kk x) (s.upd 0 e)) (mk _) := by
  simp only [xDGs, dgoG, oK]; cases dclo fd (s.get 0) <;> rfl
end
end Go.E

namespace Go.E
open Go Go.RowKit Go.Sort
section
variable {P : Program} {C : CT} {O : Nat → Sch} {tb : Nat} {Q : Kt} {e : List AV} {s : Sto}
theorem rng_cutX {f : Operand} {ps : Array Nat} {as bd : Code} {i1 : At as} {i2 : At bd} {j : At Q} (hC : C.ok P) (G : Nat) {σ : Type} (E1 : σ → List (Nat × AV)) (S1 : σ → List (Nat × List AV)) (p : σ → Prop)
    (h : (((1000000000 ≤ G ∧ G < 2000000000) ∧ AV.mens G e = false ∧ s.mens G = false ∧ s.get G = none) ∧ xCo C (target P (aval e f) [.yld G ps.toList as bd P.funcs.size]) (fun _ e' s' => xRg G (xS (fun e' s' => ∃ x, p x ∧ wk e' (setAll e (E1 x)) ∧ wkG s' (updAll s (S1 x))) Q (mk _) (mk _)) (mk _) e' s') noK (mk _) (mk _) e (s.ins G (zcell 0 :: e))))
    (hQ : ∀ x, p x → Q .normal (setAll e (E1 x)) (updAll s (S1 x))) : xRF P f ps as bd Q i1 i2 j e s := fun W0 L0 L w a hr => by
  have := rng_sound (P := P) (C := C) hC.f (G := G) (f := f) (ps := ps) (as := as) (bd := bd) (Q := xS (fun e' s' => ∃ x, p x ∧ wk e' (setAll e (E1 x)) ∧ wkG s' (updAll s (S1 x))) Q (mk _) (mk _)) h W0 L0 L w a hr
  refine wpX_mono (fun x a w ⟨L, e', s', h1, h2⟩ => ?_) this
  cases x with
  | normal =>
    obtain ⟨y, hy, h3, h4⟩ := h2
    exact ⟨L, _, _, h1.weaken (wk_Wk h3) (wkG_get h4), hQ y hy⟩
  | _ => exact ⟨L, e', s', h1, h2⟩
theorem seedSF {f : Operand} {ps : Array Nat} {as bd : Code} {i1 : At as} {i2 : At bd} {j : At Q} (k n g el sz : Nat) (cells : List AV) (hg : g ≠ 0) (hk : k ≠ 0) (hc : s.get k = some cells) (he : cells[n]? = some (.d (.v (.slice none 0 0)))) (hm : AV.mens g e = false) (hs : s.mens g = false) (hn : s.get g = none)
    (h : xRF P f ps as bd Q i1 i2 j e (s.upd k (cells.set n (.own g el sz [])))) : xRF P f ps as bd Q i1 i2 j e s := fun W0 L0 L w a hr => by
  let L' : Lay := { L with hdr := fun g' => if g' = g then .slice none 0 0 else L.hdr g' }
  have hsame : Same g L w L' w := ⟨fun b hb _ => ⟨rfl, rfl⟩, fun _ _ => rfl, fun g' hg' => by simp [L', hg'], rfl, fun _ _ => rfl⟩
  have h1 := hr.step hg hsame hm hs hn (hr.not_old hg) (Nat.le_refl _) hr.own_lt rfl rfl rfl
  refine h W0 L0 L' w a { h1 with objs := fun g' c' hc' => ?_ }
  rw [Sto.get_upd] at hc'
  by_cases hkg : k = g'
  · subst hkg
    rw [if_pos rfl, hc] at hc'
    simp at hc'; subst hc'
    refine ⟨fun h0 => absurd h0 hk, fun _ => ?_⟩
    obtain ⟨vs, e1, e3⟩ := (h1.objs k cells hc).2 hk
    obtain ⟨u, hu, hx⟩ := e3.get n _ he
    have hx : u = .slice none 0 0 := hx
    subst hx
    have hrow : ARep L' w (.own g el sz []) (.slice none 0 0) := ⟨by simp [L'], [], World.ownsRow_nil w 0 el sz, by simp [Value.ownBlock], by simp, by simp, rfl⟩
    have := AReps.set e3 n hrow
    refine ⟨vs, e1, ?_⟩
    have hset : vs.set n (.slice none 0 0) = vs := by
      apply List.ext_getElem?
      intro i
      by_cases hi : n = i
      · subst hi; rw [List.getElem?_set_self', hu]; rfl
      · rw [List.getElem?_set_ne hi]
    rwa [hset] at this
  · rw [if_neg hkg] at hc'
    exact h1.objs g' c' hc'
end
theorem NilDs.app : ∀ {a a' b b' : List D}, NilDs a a' → NilDs b b' → NilDs (a ++ b) (a' ++ b')
  | [], _, _, _, .refl _, k => k
  | x :: a, _, _, _, .refl _, k => .cons (.refl x) (NilDs.app (.refl a) k)
  | _, _, _, _, .cons h h', k => .cons h (NilDs.app h' k)
theorem NilRs.flat : ∀ {x y : List (List D)}, NilRs x y → NilDs x.flatten y.flatten
  | _, _, .refl _ => .refl _
  | _, _, .cons h h' => NilDs.app h (NilRs.flat h')
theorem NilRs.lens {s : Nat} : ∀ {x y : List (List D)}, NilRs x y → (∀ r ∈ x, r.length = s) → ∀ r ∈ y, r.length = s
  | _, _, .refl _, k => k
  | _, _, .cons h h', k => fun r hr => by
    rcases List.mem_cons.1 hr with rfl | hr
    · rw [← NilDs.len h]; exact k _ List.mem_cons_self
    · exact NilRs.lens h' (fun r hr => k r (List.mem_cons_of_mem _ hr)) r hr
end Go.E

namespace Go.E
open Go Go.RowKit Go.ChangeShapes Go.WideShapes

def flF (f : TypeId → Option (List Leaf)) : Nat → List Field → Option (List Leaf)
  | _, [] => some []
  | o, x :: xs => if x.offset ≠ o then none else match f x.type with | some l => (flF f (o + l.length) xs).map (l ++ ·) | none => none
def fl (P : Program) : Nat → TypeId → Option (List Leaf)
  | 0, _ => none
  | n + 1, t => match P.underlying t with
    | some (.int k) => if P.cellsOf t = 1 then some [.int k] else none
    | some .bool => if P.cellsOf t = 1 then some [.bool] else none
    | some .string => if P.cellsOf t = 1 then some [.str] else none
    | some (.struct fs) => match flF (fl P n) 0 fs.toList with
      | some l => if l.length = P.cellsOf t then some l else none
      | none => none
    | _ => none
section
variable {H : Type} {enc : TypeId × Value → H} {P : Program} {w : World} {base : Nat} {sp : Nat → Bool} {held : Bool} {m : Mem}
end
theorem PF.walk {P : Program} {f : Nat} {ds : List D} (h : PF P f ds (fun z => z = .ret (.b true))) {w : World} {vs : Array Value} (hd : DReps (look (fun _ => True) w) ds vs.toList) :
    Calls P f vs w (fun e w' => e = .returned (.bool true) ∧ Below w.heap.size w w') :=
  (h.2 (fun _ => True) w vs hd).mono fun e w' ⟨hb, he⟩ => by
    cases e with
    | returned v =>
      obtain ⟨d, h1, h2⟩ := he
      cases h1
      exact ⟨by rw [show v = _ from h2], hb⟩
    | panicked c => cases he
    | outgrown => exact he.elim
end Go.E

namespace Go.E
open Go Go.RowKit Go.ChangeShapes Go.WideShapes

inductive Sh where
  | leaf (l : Leaf)
  | sl (ss : List Sh)
mutual
def shD : Sh → D → Prop
  | .leaf (.int k), .v (.int k' n) => k = k' ∧ (Lit.int k n).wf = true
  | .leaf .bool, .v (.bool _) => True
  | .leaf .str, .v (.string s) => s.size ≤ maxLen
  | .sl ss, .sl sz rows => sz = ss.length ∧ ∀ r ∈ rows, shDs ss r
  | _, _ => False
def shDs : List Sh → List D → Prop
  | [], [] => True
  | s :: ss, d :: ds => shD s d ∧ shDs ss ds
  | _, _ => False
end
def shF (f : TypeId → Option (List Sh)) : Nat → List Field → Option (List Sh)
  | _, [] => some []
  | o, x :: xs => if x.offset ≠ o then none else match f x.type with | some l => (shF f (o + l.length) xs).map (l ++ ·) | none => none
def sh (P : Program) : Nat → TypeId → Option (List Sh)
  | 0, _ => none
  | n + 1, t => match P.underlying t with
    | some (.int k) => if P.cellsOf t = 1 then some [.leaf (.int k)] else none
    | some .bool => if P.cellsOf t = 1 then some [.leaf .bool] else none
    | some .string => if P.cellsOf t = 1 then some [.leaf .str] else none
    | some (.slice e) => if P.cellsOf t = 1 ∧ P.cellsOf e ≠ 0 then (sh P n e).map (fun ss => [.sl ss]) else none
    | some (.struct fs) => match shF (sh P n) 0 fs.toList with
      | some l => if l.length = P.cellsOf t then some l else none
      | none => none
    | _ => none
theorem sh_cells {P : Program} {n : Nat} {t : TypeId} {ls : List Sh} (h : sh P n t = some ls) : P.cellsOf t = ls.length := by
  cases n with
  | zero => simp [sh] at h
  | succ n =>
    unfold sh at h
    split at h
    · split at h
      · cases h; assumption
      · cases h
    · split at h
      · cases h; assumption
      · cases h
    · split at h
      · cases h; assumption
      · cases h
    · split at h
      · rename_i hh; obtain ⟨ss, _, rfl⟩ := Option.map_eq_some_iff.1 h; exact hh.1
      · cases h
    · split at h
      · split at h
        · cases h; rename_i h1; exact h1.symm
        · cases h
      · cases h
    · cases h
theorem shDs_append : ∀ {l1 l2 : List Sh} {x1 x2 : List D}, shDs l1 x1 → shDs l2 x2 → shDs (l1 ++ l2) (x1 ++ x2)
  | [], _, [], _, _, h => h
  | [], _, _ :: _, _, h, _ => h.elim
  | _ :: _, _, [], _, h, _ => h.elim
  | _ :: _, _, _ :: _, _, h, k => ⟨h.1, shDs_append h.2 k⟩
theorem shDs_len : ∀ {l : List Sh} {x : List D}, shDs l x → x.length = l.length
  | [], [], _ => rfl
  | [], _ :: _, h => h.elim
  | _ :: _, [], h => h.elim
  | _ :: l, _ :: x, h => by simp [shDs_len h.2]
section
variable {H : Type} {enc : TypeId × Value → H} {P : Program} {w : World} {base : Nat} {held : Bool}
theorem shF_d {n : Nat} {cs : List Value} (ih : ∀ t ls, sh P n t = some ls → ∀ fuel cs x, DataW.trod enc P w base (fun _ => true) held fuel t cs = some x → ∃ ds, DReps (look (fun _ => True) w) ds cs ∧ shDs ls ds ∧ ∀ u ∈ cs, u.oneCell' = true) (fuel : Nat) :
    ∀ (fs : List Field) (o : Nat) (ls : List Sh), shF (sh P n) o fs = some ls → (∀ f ∈ fs, ∃ y, DataW.trod enc P w base (fun _ => true) held fuel f.type ((cs.drop f.offset).take (P.cellsOf f.type)) = some y) →
      ∃ ds, DReps (look (fun _ => True) w) ds ((cs.drop o).take ls.length) ∧ shDs ls ds ∧ ∀ u ∈ (cs.drop o).take ls.length, u.oneCell' = true
  | [], o, ls, h, _ => by
    simp [shF] at h; subst h
    exact ⟨[], by simp [DReps], trivial, by simp⟩
  | f :: fs, o, ls, h, hf => by
    unfold shF at h
    split at h
    · cases h
    · rename_i ho
      have ho : f.offset = o := by simpa using ho
      split at h
      · rename_i l1 h1
        obtain ⟨l2, h2, rfl⟩ := Option.map_eq_some_iff.1 h
        obtain ⟨y, hy⟩ := hf f (by simp)
        rw [ho, sh_cells h1] at hy
        obtain ⟨d1, k1, k2, k3⟩ := ih f.type l1 h1 fuel _ y hy
        obtain ⟨d2, q1, q2, q3⟩ := shF_d ih fuel fs (o + l1.length) l2 h2 (fun g hg => hf g (List.mem_cons_of_mem _ hg))
        have e : (cs.drop o).take (l1 ++ l2).length = (cs.drop o).take l1.length ++ (cs.drop (o + l1.length)).take l2.length := by
          rw [List.length_append, List.take_add, List.drop_drop]
        rw [e]
        exact ⟨d1 ++ d2, DReps.append k1 q1, shDs_append k2 q2, fun u hu => by rcases List.mem_append.1 hu with h | h; exact k3 u h; exact q3 u h⟩
      · cases h
theorem sh_d : ∀ (n : Nat) (t : TypeId) (ls : List Sh), sh P n t = some ls → ∀ (fuel : Nat) (cs : List Value) (x : DataW H × List MemPlace), DataW.trod enc P w base (fun _ => true) held fuel t cs = some x → ∃ ds, DReps (look (fun _ => True) w) ds cs ∧ shDs ls ds ∧ ∀ u ∈ cs, u.oneCell' = true
  | 0, t, ls, h, _, _, _, _ => by simp [sh] at h
  | n + 1, t, ls, h, fuel, cs, x, hx => by
    unfold sh at h
    split at h
    · rename_i k hu
      split at h
      · cases h
        obtain ⟨a, rfl, _, hw⟩ := DataW.trod_int hu hx
        exact ⟨[.v (.int k a)], ⟨_, [], rfl, rfl, rfl⟩, ⟨⟨rfl, hw⟩, trivial⟩, fun u hu => by simp at hu; subst hu; rfl⟩
      · cases h
    · rename_i hu
      split at h
      · cases h
        obtain ⟨b, rfl, _⟩ := DataW.trod_bool hu hx
        exact ⟨[.v (.bool b)], ⟨_, [], rfl, rfl, rfl⟩, ⟨trivial, trivial⟩, fun u hu => by simp at hu; subst hu; rfl⟩
      · cases h
    · rename_i hu
      split at h
      · cases h
        obtain ⟨s, rfl, _, hs⟩ := DataW.trod_string hu hx
        exact ⟨[.v (.string s)], ⟨_, [], rfl, rfl, rfl⟩, ⟨hs, trivial⟩, fun u hu => by simp at hu; subst hu; rfl⟩
      · cases h
    · rename_i e hu
      split at h
      · rename_i hce
        obtain ⟨ss, hss, rfl⟩ := Option.map_eq_some_iff.1 h
        have hcells := sh_cells hss
        rcases Deep.open_slice hu hx with ⟨rfl, _⟩ | ⟨a, len, cap, k, q, Dd, Pl, rfl, hb, hl, hm, hk, hxx, hi⟩
        · exact ⟨[.sl ss.length []], ⟨_, [], rfl, ⟨none, 0, 0, rfl, rfl, Nat.le_refl _, .inl ⟨rfl, rfl, rfl⟩⟩, rfl⟩, ⟨⟨rfl, by simp⟩, trivial⟩, fun u hu => by simp at hu; subst hu; rfl⟩
        · by_cases hcap : cap = 0
          · obtain rfl : len = 0 := by omega
            subst hcap
            exact ⟨[.sl ss.length []], ⟨_, [], rfl, ⟨some a, 0, 0, rfl, rfl, Nat.le_refl _, .inl ⟨rfl, rfl, rfl⟩⟩, rfl⟩, ⟨⟨rfl, by simp⟩, trivial⟩, fun u hu => by simp at hu; subst hu; rfl⟩
          have hspot : a.spot = none := by
            obtain ⟨cs0, hc0, _⟩ := hi 0 (by rw [hk]; simp; omega)
            obtain ⟨_, hcl0, hat0⟩ := World.cells?_some hc0
            have h0 := hat0 0 (by omega)
            rw [List.getElem?_eq_getElem (by omega)] at h0
            have h0 := h0.symm
            unfold World.cell? at h0
            simp [Addr.add] at h0
            split at h0
            · split at h0
              · cases h0
              · rename_i hsp
                simpa using hsp
            · cases h0
          obtain ⟨b, o, s⟩ := a
          simp only at hspot
          subst hspot
          have hk' : len ≤ k := by rw [hk]; split <;> omega
          have hrow : ∀ i, i < len → ∃ x, shDs ss x ∧ x.length = ss.length ∧ DCells (look (fun _ => True) w) b (o + i * ss.length) x := fun i hil => by
            obtain ⟨cs', hc, ht⟩ := hi i (by omega)
            rw [hcells] at hc
            obtain ⟨_, hcl, hat⟩ := World.cells?_some hc
            obtain ⟨ds, k1, k2, k3⟩ := sh_d n e ss hss _ _ _ ht
            have hdl := shDs_len k2
            refine ⟨ds, k2, hdl, DCells.of_get fun j d hd => ?_⟩
            obtain ⟨x, hxj, hdx⟩ := k1.get j d hd
            have hj : j < ss.length := by rw [← hdl]; exact (List.getElem?_eq_some_iff.1 hd).1
            have := hat j hj
            rw [hxj, add_none, add_none] at this
            exact ⟨x, look_some.2 ⟨trivial, this⟩, k3 x (List.mem_of_getElem? hxj), hdx⟩
          have hall : ∃ rows : List (List D), rows.length = len ∧ ∀ i x, rows[i]? = some x → shDs ss x ∧ x.length = ss.length ∧ DCells (look (fun _ => True) w) b (o + i * ss.length) x := by
            clear hxx hi hx hk hk' hl
            induction len with
            | zero => exact ⟨[], rfl, by simp⟩
            | succ q ih =>
              obtain ⟨rows, h1, h2⟩ := ih (fun i hi => hrow i (by omega))
              obtain ⟨x, h3⟩ := hrow q (by omega)
              refine ⟨rows ++ [x], by simp [h1], fun i y hy => ?_⟩
              rw [List.getElem?_append] at hy
              split at hy
              · exact h2 i y hy
              · rename_i hge
                have hi0 : i - rows.length = 0 := by
                  cases hz : i - rows.length with
                  | zero => rfl
                  | succ z => rw [hz] at hy; simp at hy
                rw [hi0] at hy
                simp at hy; subst hy
                have : i = q := by omega
                subst this; exact h3
          obtain ⟨rows, h1, h2⟩ := hall
          refine ⟨[.sl ss.length rows], ⟨_, [], rfl, ⟨_, _, _, rfl, h1.symm, hl, .inr ⟨b, o, rfl, DRows.of_get fun i x hx => ?_⟩⟩, rfl⟩, ⟨⟨rfl, fun x hx => ?_⟩, trivial⟩, fun u hu => by simp at hu; subst hu; rfl⟩
          · have := h2 i x (by simpa using hx)
            exact ⟨this.2.1, by simpa using this.2.2⟩
          · obtain ⟨i, hi, e⟩ := List.getElem_of_mem hx
            exact (h2 i x (by rw [List.getElem?_eq_getElem hi, e])).1
      · cases h
    · rename_i fs hu
      split at h
      · rename_i l hl
        split at h
        · rename_i hlen
          cases h
          obtain ⟨ys, n', hn', hy, hc, hyl, hf⟩ := DataW.trod_struct hu hx
          obtain ⟨ds, k1, k2, k3⟩ := shF_d (cs := cs) (fun t ls h fuel cs x hx => sh_d n t ls h fuel cs x hx) n' fs.toList 0 ls hl (fun f hfm => by
            obtain ⟨i, hi, he⟩ := List.getElem_of_mem hfm
            have hfi : fs[i]? = some f := by rw [← Array.getElem?_toList, List.getElem?_eq_getElem hi, he]
            have := hf i f hfi
            have hys : i < ys.length := by rw [hyl]; simpa using hi
            exact ⟨ys[i], this.trans (List.getElem?_eq_getElem hys)⟩)
          have e : (cs.drop 0).take ls.length = cs := by rw [List.drop_zero, hlen, ← hc, List.take_length]
          rw [e] at k1 k3
          exact ⟨ds, k1, k2, k3⟩
        · cases h
      · cases h
    · cases h
theorem arg_shS {r : Reach} {b0 n : Nat} {t : TypeId} {fs : Array Field} {ls : List Sh} {v : Value} {d : DataW H} {ps : List MemPlace} (hu : P.underlying t = some (.struct fs)) (hf : sh P n t = some ls) (hv : Value.okWide P w r b0 t v) (h : DataW.Trod enc P w base (fun _ => true) held t v d ps) :
    ∃ ds, shDs ls ds ∧ DRep (look (fun _ => True) w) (.agg ds) v := by
  simp only [Value.okWide, hu] at hv
  obtain ⟨cs, rfl, _, ts, _, _, hok⟩ := hv
  obtain ⟨fuel, hx⟩ := h
  obtain ⟨ds, k1, k2, _⟩ := sh_d n t ls hf fuel _ _ hx
  exact ⟨ds, k2, cs, rfl, k1⟩
theorem arg_shL {r : Reach} {b0 n : Nat} {t e : TypeId} {ss : List Sh} {v : Value} {d : DataW H} {ps : List MemPlace} (hu : P.underlying t = some (.slice e)) (hf : sh P n t = some [.sl ss]) (hv : Value.okWide P w r b0 t v) (h : DataW.Trod enc P w base (fun _ => true) held t v d ps) :
    ∃ rows, (∀ x ∈ rows, shDs ss x) ∧ DRep (look (fun _ => True) w) (.sl ss.length rows) v := by
  obtain ⟨a0, len0, cap0, rfl⟩ := okWide_slice hu hv
  obtain ⟨fuel, hx⟩ := h
  simp only [Value.okWide, hu] at hv
  obtain ⟨ds, k1, k2, _⟩ := sh_d n t _ hf fuel _ _ hx
  match ds, k2 with
  | [.sl sz rows], ⟨⟨h1, h2⟩, _⟩ =>
    subst h1
    obtain ⟨u, ut, e1, e2, _⟩ := k1
    simp [Value.cells] at e1
    obtain ⟨rfl, rfl⟩ := e1
    exact ⟨rows, h2, e2⟩
end
end Go.E

namespace Go.E
open Go Go.RowKit Go.Maps
abbrev gRep (F : Nat → Prop) (w : World) (g : Nat) (gc : List D) : Prop := DRep (look F w) (.ptr gc 0) (.pointer (some ⟨g, 0, none⟩))
theorem gRep.any {F : Nat → Prop} {w : World} {g : Nat} {gc : List D} (h : gRep F w g gc) : gRep (fun _ => True) w g gc := DRep.mono (look_le fun _ _ _ => ⟨trivial, rfl⟩) _ _ h
def PFG (P : Program) (f g : Nat) (gc : List D) (ds : List D) (R : End → Prop) : Prop :=
  callable P f = true ∧ ∀ (F : Nat → Prop) (w : World) (vs : Array Value), gRep F w g gc → DReps (look F w) ds vs.toList →
    Calls P f vs w (fun en w' => Below w.heap.size w w' ∧ match en with
      | .returned v => ∃ d, R (.ret d) ∧ DRep (look (fun b => F b ∨ w.heap.size ≤ b) w') d v
      | .panicked c => R (.pan c)
      | .outgrown => False)
section
variable {P : Program} {f g : Nat} {gc : List D} {ds : List D} {args : List AV} {K : AV → List AV → Sto → Prop} {Q : Exit → List AV → Sto → Prop} {e : List AV} {s : Sto}
end
theorem PFG.walk {P : Program} {f g : Nat} {gc : List D} {ds : List D} (h : PFG P f g gc ds (fun z => z = .ret (.b true))) {w : World} {vs : Array Value} (hg : gRep (fun _ => True) w g gc) (hd : DReps (look (fun _ => True) w) ds vs.toList) :
    Calls P f vs w (fun e w' => e = .returned (.bool true) ∧ Below w.heap.size w w') :=
  (h.2 (fun _ => True) w vs hg hd).mono fun e w' ⟨hb, he⟩ => by
    cases e with
    | returned v =>
      obtain ⟨d, h1, h2⟩ := he
      cases h1
      exact ⟨by rw [show v = _ from h2], hb⟩
    | panicked c => cases he
    | outgrown => exact he.elim
end Go.E

namespace Go.E
open Go Go.RowKit Go.Maps
section
variable {P : Program} {f : Nat} {args : List AV} {K : AV → List AV → Sto → Prop} {Q : Exit → List AV → Sto → Prop} {e : List AV} {s : Sto}
theorem nil_sl {L : Lay} {w : World} {n : Nat} {u : Value} (h : ARep L w (.d (.v (.slice none 0 0))) u) : ARep L w (.d (.sl n [])) u :=
  ⟨none, 0, 0, h, rfl, Nat.le_refl _, .inl ⟨rfl, rfl, rfl⟩⟩
end
end Go.E

namespace Go.E
open Go Go.RowKit Go.Maps
section
variable {P : Program} {f : Nat} {args : List AV} {K : AV → List AV → Sto → Prop} {Q : Exit → List AV → Sto → Prop} {e : List AV} {s : Sto}
end
end Go.E

namespace Go.E
open Go Go.RowKit Go.Maps
def gW (e : List AV) (s : Sto) (e' : List AV) (s' : Sto) : Prop := ∀ W0 L0 L w a, Rel W0 L0 L e s w a → ∃ L', Rel W0 L0 L' e' s' w a
theorem gW.wk {e e' : List AV} {s s' : Sto} (h1 : wk e e') (h2 : wkG s s') : gW e s e' s' := fun _ _ L _ _ hr => ⟨L, hr.weaken (wk_Wk h1) (wkG_get h2)⟩
theorem gW.trans {e1 e2 e3 : List AV} {s1 s2 s3 : Sto} (h1 : gW e1 s1 e2 s2) (h2 : gW e2 s2 e3 s3) : gW e1 s1 e3 s3 := fun W0 L0 L w a hr => by
  obtain ⟨L1, h⟩ := h1 W0 L0 L w a hr
  exact h2 W0 L0 L1 w a h
theorem loop_xg {P : Program} {C : CT} {O : Nat → Sch} {tb : Nat} (hC : C.ok P) (hm : P.follows .mixedOrders = true) {c : Code} (ho : okO O c = true) {Q : Kt} {i : At c} {j : At Q} {e : List AV} {s : Sto} {σ : Type} (E : σ → List (Nat × AV)) (S : σ → Sto) (I : σ → Prop) (μ : σ → Nat) (x0 : σ)
    (h0 : I x0) (hw : wk e (setAll e (E x0)) ∧ wkG s (S x0))
    (round : ∀ x, I x → xW P C O tb c (xS (fun e' s' => ∃ y, (I y ∧ μ y < μ x) ∧ gW e' s' (setAll e (E y)) (S y)) Q (mk _) (mk _)) (mk _) (mk _) (setAll e (E x)) (S x)) : xL P c Q i j e s :=
  fun W0 L0 L w a hr => by
  refine wpX_loop_ghost (fun n a w => ∃ x, I x ∧ μ x = n ∧ ∃ L, Rel W0 L0 L (setAll e (E x)) (S x) w a) (μ x0) ⟨x0, h0, rfl, L, hr.weaken (wk_Wk hw.1) (wkG_get hw.2)⟩ ?_
  rintro n a w ⟨x, hx, rfl, L, hr⟩
  refine wpX_mono (lift_seq fun L e' s' a w h1 h2 => ?_) (pwp_sound hC hm c ho (round x hx) W0 L0 L w a hr)
  obtain ⟨y, h3, h4⟩ := h2
  obtain ⟨L', h5⟩ := h4 W0 L0 L w a h1
  exact ⟨μ y, h3.2, y, h3.1, rfl, L', h5⟩
end Go.E

namespace Go.E
open Go Go.RowKit Go.Maps
theorem gW_renB {e : List AV} {s S' : Sto} {g h b : Nat} {c : List AV} (hg : 2000000000 ≤ g ∧ g < 3000000000) (hh : 2000000000 ≤ h ∧ h < 3000000000) (hgh : g ≠ h) (hb0 : b ≠ 0 ∧ b < 1000000000) (hb : s.get b = some [.mp g]) (hc : s.get g = some c) (hcm : AV.mens g c = false ∧ AV.mens h c = false)
    (hS : ∀ k c', S'.get k = some c' → (k = h ∧ c' = c) ∨ (k = b ∧ c' = [.mp h]) ∨ (k ≠ h ∧ k ≠ b ∧ ((s.kill h).kill g).get k = some c')) :
    gW e s ((e.map (AV.kill h)).map (AV.kill g)) S' := fun W0 L0 L w a hr => by
  obtain ⟨vs, e0, e3⟩ := (hr.objs g _ hc).2 (by omega)
  obtain ⟨vb, b0, b3⟩ := (hr.objs b _ hb).2 hb0.1
  obtain ⟨u, ub, rfl, ⟨k1, k2, _⟩, rfl⟩ := b3
  have hlk : ∀ k, 2000000000 ≤ k → L.lk k = none := fun k hk => by
    cases hq : L.lk k with
    | none => rfl
    | some r => have := hr.lk2 _ r hq; omega
  have hlb : L.lk b = none := by
    cases hq : L.lk b with
    | none => rfl
    | some r => have := (hr.lkb b r (by rw [← hr.lke, hq])).1.1; omega
  have hr1 := hr.kill h
  let L1 : Lay := { L with blk := fun k => if k = h then L.blk g else L.blk k }
  have hs1 : Same h L w L1 w := ⟨fun _ _ _ => ⟨rfl, rfl⟩, fun k hk => by simp only [L1]; rw [if_neg hk], fun _ _ => rfl, rfl, fun _ _ => rfl⟩
  have hr2 := hr1.step (by omega) hs1 (mens_kill h e) (Sto.mens_killed h s) (Sto.kill_none h s) (hr1.not_old (by omega)) (Nat.le_refl _) hr1.own_lt rfl rfl rfl
  have hr3 := hr2.kill g
  let L2 : Lay := { L1 with own := fun b => if L.own b = some g then some h else L.own b }
  have hs2 : Same g L1 w L2 w := ⟨fun b _ hb => ⟨rfl, by
    simp only [L2]
    rw [if_neg hb]⟩, fun _ _ => rfl, fun _ _ => rfl, rfl, fun _ _ => rfl⟩
  have hr4 := hr3.step (by omega) hs2 (mens_kill g _) (Sto.mens_killed g _) (Sto.kill_none g _) (hr3.not_old (by omega)) (Nat.le_refl _) (fun b k hb => by
    simp only [L2] at hb
    split at hb
    · rename_i ho; exact hr.own_lt b g ho
    · exact hr.own_lt b k hb) rfl rfl rfl
  have hcs : AReps L2 w c vs := AReps.same hs2 _ _ hcm.1 (AReps.same hs1 _ _ hcm.2 e3)
  have hlk2 : L2.lk h = none := hlk h hh.1
  have hmp : ARep L2 w (.mp h) u := ⟨by rw [k1]; simp [L2, L1], hlk2, hh.1⟩
  refine ⟨L2, { hr4 with objs := fun k c' hk => ?_ }⟩
  rcases hS k c' hk with ⟨rfl, rfl⟩ | ⟨rfl, rfl⟩ | ⟨_, _, h3⟩
  · refine ⟨fun h0 => by omega, fun _ => ⟨vs, ?_, hcs⟩⟩
    unfold Held at e0 ⊢
    rw [hlk g hg.1] at e0
    rw [hlk2]
    rcases e0 with ⟨h1, ⟨h4, _⟩ | ⟨_, h5⟩ | ⟨h4, _⟩⟩ | ⟨h4, _⟩
    · omega
    · refine .inl ⟨by simp [L2, L1, h1], .inr (.inl ⟨hh, ?_⟩)⟩
      simpa [L2, L1] using h5
    · omega
    · omega
  · refine ⟨fun h0 => absurd h0 hb0.1, fun _ => ⟨[u], ?_, ⟨u, [], rfl, hmp, rfl⟩⟩⟩
    have hkh : k ≠ h := by omega
    have hkg : k ≠ g := by omega
    have hl2 : L2.lk k = none := hlb
    unfold Held at b0 ⊢
    rw [hlb] at b0
    rw [hl2]
    rcases b0 with ⟨h1, ⟨_, h5⟩ | ⟨h4, _⟩ | ⟨h4, _⟩⟩ | ⟨h4, _⟩
    · have hbk : L2.blk k = L.blk k := by simp [L2, L1, hkh]
      have hne : L.own (L.blk k) ≠ some g := by rw [h1]; simpa using hkg
      refine .inl ⟨?_, .inl ⟨by omega, ?_⟩⟩
      · rw [hbk]; simp only [L2, if_neg hne]; exact h1
      · rw [hbk]; exact h5
    · omega
    · omega
    · omega
  · exact hr4.objs k c' h3
end Go.E

namespace Go.E
open Go Go.RowKit Go.Maps
section
variable {P : Program} {C : CT} {O : Nat → Sch} {tb : Nat} {c x y : Code} {Q : Kt} {e : List AV} {s : Sto}
end
end Go.E

namespace Go.E
open Go Go.RowKit Go.Maps
def AV.nz (n : Nat) : AV → AV
  | .d (.v (.slice none 0 0)) => .d (.sl n [])
  | x => x
theorem nz_rep {L : Lay} {w : World} {n : Nat} {x : AV} {u : Value} (h : ARep L w x u) : ARep L w (AV.nz n x) u := by
  unfold AV.nz
  split
  · exact nil_sl h
  · exact h
theorem nz_reps {L : Lay} {w : World} {n : Nat} : ∀ {xs : List AV} {us : List Value}, AReps L w xs us → AReps L w (xs.map (AV.nz n)) us
  | [], _, h => h
  | _ :: _, _, ⟨u, ut, h0, h1, h2⟩ => ⟨u, ut, h0, nz_rep h1, nz_reps h2⟩
def AV.tz (k el sz : Nat) : AV → AV
  | .tup xs => .tup ((xs.map (AV.frz k el sz)).map (AV.nz sz))
  | .d (.tup ds) => .tup ((ds.map AV.d).map (AV.nz sz))
  | _ => .any
theorem pcall_fzT {P : Program} {f : Nat} {args : List AV} {K : AV → List AV → Sto → Prop} {Q : Exit → List AV → Sto → Prop} {e : List AV} {s : Sto} {k : Nat} (el sz : Nat) (hk : k ≠ 0)
    (h : pcall P f args (fun r e1 s1 => s1.get k = none ∧ K (r.tz k el sz) (e1.map (AV.frz k el sz)) (s1.frz k el sz)) Q e s) : pcall P f args K Q e s := by
  refine ⟨h.1, fun W0 L0 L w a vs hr ha => ?_⟩
  refine (h.2 W0 L0 L w a vs hr ha).mono ?_
  intro en w' hen
  cases en with
  | returned v =>
    obtain ⟨L', e', s', r, h1, h2, h4, h5⟩ := hen
    obtain ⟨L2, q1, q2, _⟩ := frz_rel (el := el) (sz := sz) h1 hk h4
    refine ⟨L2, _, _, _, q1, ?_, h5⟩
    unfold AV.tz
    split
    · obtain ⟨us, hv, h3⟩ := (show ∃ us : Array Value, v = .tuple us ∧ AReps L' w' _ us.toList from h2)
      exact (show ∃ us : Array Value, v = .tuple us ∧ AReps L2 w' _ us.toList from ⟨us, hv, nz_reps (q2 _ _ h3)⟩)
    · rename_i ds
      obtain ⟨us, hv, h3⟩ := (show ∃ us : Array Value, v = .tuple us ∧ DReps (L'.mem w') ds us.toList from h2)
      have h6 := q2 _ _ (areps_d h3)
      have e6 : ∀ l : List D, (l.map AV.d).map (AV.frz k el sz) = l.map AV.d := fun l => by rw [List.map_map]; rfl
      rw [e6] at h6
      exact (show ∃ us : Array Value, v = .tuple us ∧ AReps L2 w' _ us.toList from ⟨us, hv, nz_reps h6⟩)
    · trivial
  | panicked c => exact hen
  | outgrown => exact hen
end Go.E

namespace Go.E
open Go Go.RowKit
mutual
def AV.fl (T : List Nat) : AV → Bool
  | .any => true
  | .d x => x.flat
  | .ref g _ => T.contains g
  | .mp g => T.contains g
  | .tup xs => AV.fls T xs
  | .agg xs => AV.fls T xs
  | .clo _ x y => AV.fls T x && AV.fls T y
  | _ => false
def AV.fls (T : List Nat) : List AV → Bool
  | [] => true
  | x :: xs => x.fl T && AV.fls T xs
end
mutual
theorem AV.fl_rep {T : List Nat} {L L' : Lay} {w w' : World} (hb : ∀ g, T.contains g = true → L'.blk g = L.blk g) (hl : ∀ g, T.contains g = true → L'.lk g = none) : ∀ (x : AV) (u : Value), x.fl T = true → ARep L w x u → ARep L' w' x u
  | .any, _, _, _ => trivial
  | .d x, u, hm, hr => D.flat_rep hm hr
  | .own _ _ _ _, _, hm, _ => by simp [AV.fl] at hm
  | .eref _ _ _ _ _ _, _, hm, _ => by simp [AV.fl] at hm
  | .ref g off, u, hm, e => ⟨by rw [hb g hm]; exact e.1, hl g hm, e.2.2⟩
  | .mp g, u, hm, e => ⟨by rw [hb g hm]; exact e.1, hl g hm, e.2.2⟩
  | .it _, _, hm, _ => by simp [AV.fl] at hm
  | .bx _ _ _, _, hm, _ => by simp [AV.fl] at hm
  | .tup xs, _, hm, ⟨us, e, k1⟩ => ⟨us, e, AV.fls_rep hb hl xs _ hm k1⟩
  | .agg xs, _, hm, ⟨us, e, k1⟩ => ⟨us, e, AV.fls_rep hb hl xs _ hm k1⟩
  | .clo _ x y, _, hm, ⟨xs, ys, e, k1, k2⟩ => by
    simp only [AV.fl, Bool.and_eq_true] at hm
    exact ⟨xs, ys, e, AV.fls_rep hb hl x _ hm.1 k1, AV.fls_rep hb hl y _ hm.2 k2⟩
  | .iface _ _, _, hm, _ => by simp [AV.fl] at hm
  | .yld _ _ _ _ _, _, hm, _ => by simp [AV.fl] at hm
theorem AV.fls_rep {T : List Nat} {L L' : Lay} {w w' : World} (hb : ∀ g, T.contains g = true → L'.blk g = L.blk g) (hl : ∀ g, T.contains g = true → L'.lk g = none) : ∀ (xs : List AV) (us : List Value), AV.fls T xs = true → AReps L w xs us → AReps L' w' xs us
  | [], _, _, hr => hr
  | x :: xs, _, hm, ⟨u, ut, e, k1, k2⟩ => by
    simp only [AV.fls, Bool.and_eq_true] at hm
    exact ⟨u, ut, e, AV.fl_rep hb hl x u hm.1 k1, AV.fls_rep hb hl xs ut hm.2 k2⟩
end
theorem pcall_stoF {P : Program} {f : Nat} {T : List Nat} {args : List AV} {ds : List D} {e : List AV} {s : Sto} {R : AV → Sto → Prop} {K : AV → List AV → Sto → Prop} {Q : Exit → List AV → Sto → Prop}
    (hF : FreeOk T e s) (h : PFs P f ds R) (hA : AV.outs s args = some ds)
    (hK : ∀ r s1, R r s1 → (r.fl T = true ∧ ∀ g c, T.contains g = true → s1.get g = some c → AV.fls T c = true) ∧ K r e (addT s1 s T)) : pcall P f args K Q e s := by
  refine ⟨h.1, fun W0 L0 L w a vs hr ha => ?_⟩
  have h0T : T.contains 0 = false := by
    cases h0 : T.contains 0 with
    | false => rfl
    | true => exact absurd rfl (hF.tags 0 (by simpa using h0)).1
  have hlk : ∀ g, T.contains g = true → L.lk g = none := fun g hg => by
    cases h : L.lk g with
    | none => rfl
    | some r => have := (hr.lkb g r (by rw [← hr.lke, h])).1; have := (hF.tags g (by simpa using hg)).2; omega
  refine (h.2 (fun _ => True) w vs (outL_rep (outF_rep hr (fun _ _ => trivial) (fun _ _ _ _ => trivial) 6) hA ha)).mono fun en w2 hen => ?_
  cases en with
  | returned v =>
    obtain ⟨L2, e1, s1, a1, r, hr2, hrv, hR⟩ := hen
    obtain ⟨⟨q1, hT⟩, q3⟩ := hK r s1 hR
    let L3 : Lay := { L with
      own := fun b => if b < w.heap.size then L.own b else cleanT T (L2.own b),
      blk := fun g => if T.contains g = true then L2.blk g else L.blk g
      hdr := fun g => if T.contains g = true then L2.hdr g else L.hdr g }
    have hold : ∀ b, b < w.heap.size → L2.own b = none ∧ w2.heap[b]? = w.heap[b]? := fun b hb => by
      have e0 : (lay0 (fun _ => True) w).own b = none := by simp only [lay0]; rw [if_pos hb]; simp
      have := hr2.old b hb (by rw [e0]; simp)
      rw [e0] at this
      exact this
    have hown : ∀ b g, T.contains g = true → L2.own b = some g → L3.own b = some g := fun b g hg he => by
      simp only [L3]
      split
      · rename_i hb
        have := (hold b hb).1
        rw [he] at this
        cases this
      · rw [he]; exact cleanT_some hg
    have hblk3 : ∀ g, T.contains g = true → L3.blk g = L2.blk g := fun g hg => by simp only [L3]; rw [if_pos hg]
    have hlk3 : ∀ g, T.contains g = true → L3.lk g = none := fun g hg => hlk g hg
    have hheap : ∀ b, b < w.heap.size → w2.heap[b]? = w.heap[b]? ∧ L3.own b = L.own b := fun b hb => ⟨(hold b hb).2, by simp only [L3]; rw [if_pos hb]⟩
    have hst : Stays T [] L w L3 w2 :=
      { heap := fun b hb _ => hheap b hb
        blk := fun g hg => by simp only [L3]; rw [hg]; simp
        hdr := fun g hg => by simp only [L3]; rw [hg]; simp
        lk := rfl
        E := fun x hx => by cases hx }
    refine ⟨L3, e, addT s1 s T, r, ?_, AV.fl_rep hblk3 hlk3 _ _ q1 hrv, q3⟩
    exact
      { slots := AV.stays_rep hst _ _ hF.slots hr.slots
        hid := hr.hid
        mks := ⟨hr.mks.1, fun r hr' => by
          obtain ⟨q1, q2⟩ := hr.mks.2 r hr'
          have := hheap r (lt_of_heap q1)
          exact ⟨this.1.trans q1, this.2.trans q2⟩⟩
        mkb := hr.mkb
        kept := fun b o hb => by
          obtain ⟨⟨o', q1, q3⟩, q2⟩ := hr.kept b o hb
          have := hheap b (lt_of_heap q1)
          exact ⟨⟨o', this.1.trans q1, q3⟩, this.2.trans q2⟩
        rdk := hr.rdk
        lke := hr.lke
        lkb := fun g r hg => ⟨(hr.lkb g r hg).1, (hr.lkb g r hg).2.1, Nat.lt_of_lt_of_le (hr.lkb g r hg).2.2 hr2.size⟩
        lki := hr.lki
        rd := hr.rd
        objs := fun g c hg => by
          rcases addT_get hg with ⟨q1, q2⟩ | q2
          · have hg0 : g ≠ 0 := (hF.tags g q1).1
            have q1' : T.contains g = true := by simpa using q1
            obtain ⟨ws, k1, k2⟩ := (hr2.objs g c q2).2 hg0
            refine ⟨fun h => absurd h hg0, fun _ => ⟨ws, ?_, AV.fls_rep hblk3 hlk3 _ _ (hT g c q1' q2) k2⟩⟩
            unfold Held at k1 ⊢
            rw [show L2.lk g = none by rw [hr2.lke]; rfl] at k1
            rw [show L3.lk g = none from hlk g q1']
            have hb : L3.blk g = L2.blk g := hblk3 g q1'
            rcases k1 with k1 | k1
            rotate_left
            · exact .inr k1
            left
            refine ⟨by rw [hb]; exact hown _ g q1' k1.1, ?_⟩
            exact k1.2.own hb fun b hb' => hown b g q1' hb'
          · obtain ⟨q1, q4⟩ := hF.others g c q2
            refine ⟨fun h => AV.stays_rep hst _ _ q4 ((hr.objs g c q2).1 h), fun hg0 => ?_⟩
            obtain ⟨ws, k1, k2⟩ := (hr.objs g c q2).2 hg0
            exact ⟨ws, k1.congr rfl (fun _ => hst.blk g q1) (fun b hb ho => hheap b hb), AV.stays_rep hst _ _ q4 k2⟩
        old := fun b hb h1 => by
          have q := hr.old b hb h1
          have := hheap b (Nat.lt_of_lt_of_le hb hr.size)
          exact ⟨this.2.trans q.1, this.1.trans q.2⟩
        size := Nat.le_trans hr.size hr2.size
        own_lt := fun b g hb => by
          simp only [L3] at hb
          split at hb
          · exact Nat.lt_of_lt_of_le (hr.own_lt b g hb) hr2.size
          · cases ho : L2.own b with
            | none => rw [ho] at hb; cases hb
            | some g' => exact hr2.own_lt b g' ho
        os := hr2.os.trans hr.os
        tape := hr2.tape.trans hr.tape
        output := hr2.output.trans hr.output }
  | panicked c => exact hen.elim
  | outgrown => exact hen.elim
theorem PFs_of {P : Program} {f : Nat} {ds : List D} {R : AV → Sto → Prop} (h : pcall P f (ds.map .d) (fun r _ s1 => R r s1) (fun _ _ _ => False) [] [(0, [])]) : PFs P f ds R := by
  refine ⟨h.1, fun F w vs hd => ?_⟩
  have hr := lay0_rel (F := F) (w := w) (ds := []) (vs := #[]) (n := 0) (show DReps (look F w) [] (#[] : Array Value).toList from rfl)
  refine (h.2 w (lay0 F w) (lay0 F w) w _ vs hr (areps_d (DReps.mono (look_le fun b hb hlt => ⟨by simp [lay0, hlt, hb], rfl⟩) _ _ hd))).mono fun en w2 hen => ?_
  cases en with
  | returned v =>
    obtain ⟨L, e, s, r, h1, h2, h3⟩ := hen
    exact ⟨L, e, s, _, r, h1, h2, h3⟩
  | panicked c => obtain ⟨_, _, _, _, h⟩ := hen; exact h
  | outgrown => exact hen
end Go.E

namespace Go.E
open Go Go.RowKit Go.Maps
section
variable {P : Program} {C : CT} {O : Nat → Sch} {tb : Nat} {Q : Kt} {e : List AV} {s : Sto} {ops l : List Oper}
end
end Go.E

namespace Go.E
open Go Go.RowKit Go.Maps
mutual
def AV.pure : AV → Option D
  | .d a => some a
  | .agg xs => (AV.pures xs).map .agg
  | _ => none
def AV.pures : List AV → Option (List D)
  | [] => some []
  | x :: xs => match x.pure, AV.pures xs with
    | some a, some as => some (a :: as)
    | _, _ => none
end
mutual
theorem pure_rep {L : Lay} {w : World} : ∀ (x : AV) (d : D) (u : Value), x.pure = some d → ARep L w x u → ARep L w (.d d) u
  | .d _, _, _, h, hr => by cases h; exact hr
  | .agg xs, d, u, h, hr => by
    simp only [AV.pure] at h
    obtain ⟨ds, h1, rfl⟩ := Option.map_eq_some_iff.1 h
    obtain ⟨us, e, k⟩ := hr
    exact ⟨us, e, pures_rep xs ds _ h1 k⟩
  | .any, _, _, h, _ => by simp [AV.pure] at h
  | .own _ _ _ _, _, _, h, _ => by simp [AV.pure] at h
  | .eref _ _ _ _ _ _, _, _, h, _ => by simp [AV.pure] at h
  | .ref _ _, _, _, h, _ => by simp [AV.pure] at h
  | .mp _, _, _, h, _ => by simp [AV.pure] at h
  | .it _, _, _, h, _ => by simp [AV.pure] at h
  | .bx _ _ _, _, _, h, _ => by simp [AV.pure] at h
  | .yld _ _ _ _ _, _, _, h, _ => by simp [AV.pure] at h
  | .tup _, _, _, h, _ => by simp [AV.pure] at h
  | .clo _ _ _, _, _, h, _ => by simp [AV.pure] at h
  | .iface _ _, _, _, h, _ => by simp [AV.pure] at h
theorem pures_rep {L : Lay} {w : World} : ∀ (xs : List AV) (ds : List D) (us : List Value), AV.pures xs = some ds → AReps L w xs us → DReps (L.mem w) ds us
  | [], ds, us, h, hr => by
    simp only [AV.pures] at h; cases h
    exact hr
  | x :: xs, ds, us, h, hr => by
    obtain ⟨u, ut, e, k1, k2⟩ := hr
    simp only [AV.pures] at h
    cases h1 : x.pure with
    | none => rw [h1] at h; cases h
    | some d =>
      cases h2 : AV.pures xs with
      | none => rw [h1, h2] at h; cases h
      | some dt =>
        rw [h1, h2] at h
        cases h
        exact ⟨u, ut, e, pure_rep x d u h1 k1, pures_rep xs dt ut h2 k2⟩
end
theorem pcall_pure {P : Program} {f : Nat} {args : List AV} {ds : List D} {K : AV → List AV → Sto → Prop} {Q : Exit → List AV → Sto → Prop} {e : List AV} {s : Sto} (hp : AV.pures args = some ds) (h : pcall P f (ds.map .d) K Q e s) : pcall P f args K Q e s :=
  ⟨h.1, fun W0 L0 L w a vs hr ha => h.2 W0 L0 L w a vs hr (areps_d (pures_rep args ds _ hp ha))⟩
def AV.frzD (g el sz : Nat) : AV → AV
  | .agg xs => .agg (xs.map (AV.frz g el sz))
  | x => x.frz g el sz
theorem frzD_reps {g el sz : Nat} {L L2 : Lay} {w : World} (hq : ∀ (xs : List AV) (us : List Value), AReps L w xs us → AReps L2 w (xs.map (AV.frz g el sz)) us) : ∀ (xs : List AV) (us : List Value), AReps L w xs us → AReps L2 w (xs.map (AV.frzD g el sz)) us
  | [], _, h => h
  | x :: xs, us, ⟨u, ut, e, k1, k2⟩ => by
    refine ⟨u, ut, e, ?_, frzD_reps hq xs ut k2⟩
    unfold AV.frzD
    split
    · obtain ⟨vs, h1, h2⟩ := k1
      exact ⟨vs, h1, hq _ _ h2⟩
    · obtain ⟨u', ut', e', h1, _⟩ := hq [x] [u] ⟨u, [], rfl, k1, rfl⟩
      cases e'
      exact h1
theorem pcall_frzD {P : Program} {f : Nat} {args : List AV} {K : AV → List AV → Sto → Prop} {Q : Exit → List AV → Sto → Prop} {e : List AV} {s : Sto} {k : Nat} (el sz : Nat) (hk : k ≠ 0) (hg : s.get k = none) (h : pcall P f (args.map (AV.frzD k el sz)) K Q (e.map (AV.frz k el sz)) (s.frz k el sz)) : pcall P f args K Q e s :=
  ⟨h.1, fun W0 L0 L w a vs hr ha => by
    obtain ⟨L2, q1, q2, _⟩ := frz_rel (el := el) (sz := sz) hr hk hg
    exact h.2 W0 L0 L2 w a vs q1 (frzD_reps q2 args vs.toList ha)⟩
end Go.E

namespace Go.E
open Go Go.RowKit Go.Maps
end Go.E

namespace Go.E
open Go Go.RowKit Go.Maps
def xRdX (g n m : Nat) (K : AV → List AV → Sto → Prop) (Q : Kt) (_ : At K) (_ : At Q) : Kt := fun x e s => roundKX g n m K Q x e s
def yldEX (P : Program) (C : CT) (O : Nat → Sch) (tb : Nat) : Nat → List Nat → Code → Code → List AV → (AV → List AV → Sto → Prop) → Kt → List AV → Sto → Prop := fun g ps as bd args K Q e s => (okO O as = true ∧ okO O bd = true) ∧ yldPX P C O tb g ps as bd args K Q e s
theorem yldEX_ok {P : Program} {C : CT} {O : Nat → Sch} {tb : Nat} (hC : C.ok P) (hm : P.follows .mixedOrders = true) {g : Nat} {ps : List Nat} {as bd : Code} {args : List AV} {K : AV → List AV → Sto → Prop} {Q : Kt} {e : List AV} {s : Sto} (h : yldEX P C O tb g ps as bd args K Q e s) : pyld P g ps as bd args K Q e s :=
  yld_soundG hC hm h.1.1 h.1.2 (fun _ _ _ _ _ h => h) h.2
theorem xyldX {P : Program} (C C' : CT) (O : Nat → Sch) (tb g : Nat) (Y : Nat → List Nat → Code → Code → List AV → (AV → List AV → Sto → Prop) → Kt → List AV → Sto → Prop) (hY : C.y = Y) (ps : List Nat) (as bd : Code) (hE : Y g ps as bd = yldEX P C' O tb g ps as bd) {args : List AV} {K : AV → List AV → Sto → Prop} {Q : Kt} {e : List AV} {s : Sto} {i1 : At as} {i2 : At bd} {i3 : At K} {i4 : At Q} (h : okb O as bd = true) :
    xYl C g ps as bd args K Q i1 i2 i3 i4 e s = zK (s.get g) 0 (fun sn => oK (s.push e) (fun s1 => (ps.length = args.length ∧ 0 < e.length) ∧ xW P C' O tb as (xBg P C' O tb g bd (xRdX g e.length s.hidn K Q (mk _) (mk _)) (mk _) (mk _)) (mk _) (mk _) (setPs sn ps args) s1) (mk _)) (mk _) := by
  unfold xYl; rw [hY, hE]
  simp only [okb, Bool.and_eq_true] at h
  simp only [yldEX, h, and_self, true_and, yldPX, yldG, zK, oK]
  cases h1 : s.get g with
  | none => rfl
  | some c =>
    cases c with
    | nil => rfl
    | cons x sn =>
      cases h2 : s.push e with
      | none => simp
      | some s1 => exact propext ⟨fun ⟨⟨q1, q2, q3⟩, q4⟩ => ⟨q1, ⟨q2, q3⟩, q4⟩, fun ⟨q1, ⟨q2, q3⟩, q4⟩ => ⟨⟨q1, q2, q3⟩, q4⟩⟩
def zJ (o : Option (List AV)) (p : Prop) (_ : At p) : Prop := match o with | some (.d (.v (.int .i64 _)) :: _) => p | _ => False
theorem zj_c {z : Int} {sn : List AV} {p : Prop} {m : At p} : zJ (some (.d (.v (.int .i64 z)) :: sn)) p m = p := id rfl
def xRx (G : Nat) (Q : Kt) (_ : At Q) : Kt := fun x e s => rngX G Q x e s
section
variable {P : Program} {C : CT} {O : Nat → Sch} {tb : Nat} {Q : Kt} {e : List AV} {s : Sto} {g n m : Nat} {K : AV → List AV → Sto → Prop}
theorem rx_n {j : At K} {j2 : At Q} : xRdX g n m K Q j j2 .normal e s = (((s.get 0).isSome = true ∧ s.hidn = n + m) ∧ zK (s.get g) 1 (fun sn => K (.d (.v (.bool true))) (s.top n) ((s.pull n).upd g (zcell 0 :: sn))) (mk _)) := by
  simp only [xRdX, roundKX, roundK, roundF, zK]
theorem rx_p {j : At K} {j2 : At Q} {c : List PanicEntry} : xRdX g n m K Q j j2 (.panic c) e s = (((s.get 0).isSome = true ∧ s.hidn = n + m) ∧ Q (.panic c) (s.top n) (s.pull n)) := id rfl
theorem qd_RX {l : List Oper} {j : At K} {j2 : At Q} {m1 : At l} {k} : xQd l (xRdX g n m K Q j j2) m1 k = True := propext ⟨fun _ => trivial, fun _ c e s d _ h => h⟩
theorem rgx_p {G : Nat} {j : At Q} {c : List PanicEntry} : xRx G Q j (.panic c) e s = zJ (s.get G) (Q (.panic c) (e.map (AV.kill G)) (s.kill G)) (mk _) := id rfl
theorem rng_cutZ {σ : Type} {f : Operand} {ps : Array Nat} {as bd : Code} {i1 : At as} {i2 : At bd} {j : At Q} (hC : C.ok P) (G : Nat) (E1 : σ → List (Nat × AV)) (S1 : σ → List (Nat × List AV)) (p : σ → Prop)
    (h : (((1000000000 ≤ G ∧ G < 2000000000) ∧ AV.mens G e = false ∧ s.mens G = false ∧ s.get G = none) ∧ xCo C (target P (aval e f) [.yld G ps.toList as bd P.funcs.size]) (fun _ e' s' => xRg G (xS (fun e' s' => ∃ x, p x ∧ wk e' (setAll e (E1 x)) ∧ wkG s' (updAll s (S1 x))) Q (mk _) (mk _)) (mk _) e' s') (xRx G Q (mk _)) (mk _) (mk _) e (s.ins G (zcell 0 :: e))))
    (hQ : ∀ x, p x → Q .normal (setAll e (E1 x)) (updAll s (S1 x))) : xRF P f ps as bd Q i1 i2 j e s := fun W0 L0 L w a hr => by
  have := rng_soundP (P := P) (C := C) hC.f (G := G) (f := f) (ps := ps) (as := as) (bd := bd) (Q := xS (fun e' s' => ∃ x, p x ∧ wk e' (setAll e (E1 x)) ∧ wkG s' (updAll s (S1 x))) Q (mk _) (mk _)) h W0 L0 L w a hr
  refine wpX_mono (fun x a w ⟨L, e', s', h1, h2⟩ => ?_) this
  cases x with
  | normal =>
    obtain ⟨y, h3, h4, h5⟩ := h2
    exact ⟨L, _, _, h1.weaken (wk_Wk h4) (wkG_get h5), hQ y h3⟩
  | _ => exact ⟨L, e', s', h1, h2⟩
end

@[reducible] def layE (lo : Nat → Option Nat) (lb : Nat → Nat) (lh : Nat → Value) : Lay := { own := lo, blk := lb, hdr := lh, hid := [], rd := none, kp := [], lk := fun _ => none }
abbrev pinT (b : Nat) : Nat := b + 5000000000
theorem lit_lt {a b : Nat} (h : Nat.ble (a + 1) b = true) : a < b := Nat.le_of_ble_eq_true h
theorem pin_at {W0 : World} {L0 L : Lay} {e : List AV} {s : Sto} {w : World} {a : Act} {G b : Nat} (hr : Rel W0 L0 L e s w a) (h : s.get (pinT b) = some [.ref G 0]) : L.blk G = b ∧ L.cel G := by
  obtain ⟨vs, e0, e3⟩ := (hr.objs _ _ h).2 (by unfold pinT; omega)
  obtain ⟨u, ut, rfl, ⟨k1, k3⟩, k2⟩ := e3
  obtain rfl : ut = [] := k2
  have hk : L.lk (pinT b) = none := by
    cases hh : L.lk (pinT b) with
    | none => rfl
    | some r => have := hr.lk2 _ r hh; unfold pinT at this; omega
  unfold Held at e0
  rw [hk] at e0
  rcases e0 with ⟨_, ⟨h4, _⟩ | ⟨⟨_, h4⟩, _⟩ | ⟨_, es, nn, _, _, _, h3⟩⟩ | ⟨_, h3⟩
  · unfold pinT at h4; omega
  · unfold pinT at h4; omega
  · unfold boxVs at h3
    cases hes : es.toList with
    | nil => rw [hes] at h3; simp at h3
    | cons y l => rw [hes] at h3; simp at h3; rw [k1] at h3; cases h3.1
  · rw [k1] at h3
    simp [pinT] at h3
    exact ⟨h3, k3⟩
theorem Rel.bare {W0 : World} {L0 L : Lay} {e : List AV} {s : Sto} {w : World} {a : Act} {tm : Array Value} {G b : Nat} (hr : Rel W0 L0 L e s w a) (hd : a.defers = []) (hp : s.get (pinT b) = some [.ref G 0]) (htm : tm.toList = [.pointer (some ⟨b, 0, none⟩)]) : Rel W0 L0 L [.ref G 0] s w { tmps := tm, defers := [] } :=
  { hr with
    slots := by
      obtain ⟨h1, h2⟩ := pin_at hr hp
      exact ⟨_, [], htm, ⟨by rw [h1], h2⟩, rfl⟩
    hid := by obtain ⟨vs, h1, h2⟩ := hr.hid; rw [hd] at h2; exact ⟨vs, h1, h2⟩
    mks := ⟨by simp [marks], by simp [marks]⟩
    mkb := by simp [marks] }
theorem Rel.pin {L : Lay} {s : Sto} {w : World} {tm : Array Value} {G : Nat} (hr : Rel w L L [.ref G 0] s w { tmps := tm, defers := [] }) (hlk : ∀ b, L.lk (pinT b) = none) (hs : ∀ b, s.get (pinT b) = none) : tm.toList = [.pointer (some ⟨L.blk G, 0, none⟩)] ∧ Rel w L L [.ref G 0] (s ++ [(pinT (L.blk G), [.ref G 0])]) w { tmps := tm, defers := [] } := by
  obtain ⟨u, ut, h1, ⟨h2, h3⟩, h4⟩ := hr.slots
  obtain rfl : ut = [] := h4
  have key : ∀ {s : Sto} {g : Nat} {c : List AV}, Sto.get (s ++ [(pinT (L.blk G), [.ref G 0])]) g = some c → s.get g = some c ∨ (g = pinT (L.blk G) ∧ c = [.ref G 0]) := by
    intro s
    induction s with
    | nil =>
      intro g c h
      simp only [List.nil_append, Sto.get] at h
      split at h
      · rename_i e; cases h; exact .inr ⟨e.symm, rfl⟩
      · cases h
    | cons x r ih =>
      intro g c h
      obtain ⟨k, y⟩ := x
      simp only [List.cons_append, Sto.get] at h ⊢
      split at h
      · rename_i e; rw [if_pos e]; exact .inl h
      · rename_i e; rw [if_neg e]; exact ih h
  refine ⟨by rw [h1, h2], { hr with objs := fun g c hg => ?_ }⟩
  rcases key hg with h | ⟨rfl, rfl⟩
  · exact hr.objs g c h
  · refine ⟨fun h => absurd h (by unfold pinT; omega), fun _ => ⟨[u], ?_, ⟨u, [], rfl, ⟨h2, h3⟩, rfl⟩⟩⟩
    unfold Held
    rw [hlk]
    exact .inr ⟨by unfold pinT; omega, by rw [h2]; simp [pinT]⟩
theorem Rel.args {W0 : World} {L0 L : Lay} {E : List AV} {s : Sto} {w : World} {tm : Array Value} {args : List AV} {vs : Array Value} {n : Nat} (hr : Rel W0 L0 L E s w { tmps := tm, defers := [] }) (ha : AReps L w args vs.toList) : Rel W0 L0 L (args ++ List.replicate (n - args.length) .any) s w { tmps := vs ++ Array.replicate (n - vs.size) undef, defers := [] } :=
  { hr with
    slots := by
      have hlen := ha.length
      simp only [Array.toList_append, Array.toList_replicate]
      refine areps_append ha (AReps.of_get ?_ fun i d u h1 h2 => ?_)
      · simp only [List.length_replicate]; rw [← hlen]; simp
      · have := List.mem_of_getElem? h1
        rw [List.eq_of_mem_replicate this]; trivial
    hid := hr.hid
    mks := hr.mks
    mkb := hr.mkb }
theorem sto_finB {P : Program} {w w' : World} {L0 L : Lay} {e : List AV} {s : Sto} {a : Act} {fn : Func} {rs : Array ResultVar} {R : AV → Sto → Prop} (hr : Rel w L0 L e s w' a) (hrs : fn.results = rs) (hq : stoK P rs.toList R e s) :
    ∃ v, (results fn a.tmps).run P w' = .ok v w' ∧ ∃ r, ARep L w' r v ∧ R r s := by
  obtain ⟨h1, h2⟩ := hq
  obtain ⟨us, g1, g2⟩ := results_run hr (fun r => match r with | .tmp t => pure (a.tmps.getD t undef) | .cell x t => do loadVar t (← asAddr (a.tmps.getD x undef))) (fun t => rfl) (fun x t => rfl) rs.toList h1
  refine ⟨if h : us.toArray.size = 1 then us.toArray[0] else .tuple us.toArray, ?_, _, packA_rep g2, h2⟩
  unfold results
  rw [hrs, Array.mapM_eq_mapM_toList]
  simp only [Sem.run_bind, Sem.run_map]
  erw [g1]
  rfl
def PFB (P : Program) (f G : Nat) (args : List AV) (s0 : Sto) (R : AV → Sto → Prop) : Prop :=
  callable P f = true ∧ ∀ (w : World) (lo : Nat → Option Nat) (lb : Nat → Nat) (lh : Nat → Value) (tm vs : Array Value), Rel w (layE lo lb lh) (layE lo lb lh) [.ref G 0] ((0, []) :: s0) w { tmps := tm, defers := [] } → AReps (layE lo lb lh) w args vs.toList →
    Calls P f vs w (fun en w' => match en with
      | .returned v => ∃ L' e' s' r, Rel w (layE lo lb lh) L' e' s' w' { tmps := tm, defers := [] } ∧ ARep L' w' r v ∧ e' = [.ref G 0] ∧ R r s'
      | .panicked c => ∃ L' e' s', Rel w (layE lo lb lh) L' e' s' w' { tmps := tm, defers := [] } ∧ e' = [.ref G 0] ∧ False
      | .outgrown => False)
theorem PFB_startX {P : Program} {C Cd : CT} {O Od : Nat → Sch} {tb0 tb f id : Nat} (G : Nat) {fn fnd : Func} {c : Code} {n : Nat} {rs : Array ResultVar} {args : List AV} {s0 : Sto} {R : AV → Sto → Prop} {T : DText} {o0 : Oper} (hC : C.ok P) (hm : P.follows .mixedOrders = true) (ho : (fn.body.map (okO O)) = some true) (hf : P.funcs[f]? = some fn) (hc : callable P f = true) (hb : fn.body = some c) (hn : fn.ntmps = n) (hrs : fn.results = rs)
    (hCd : Cd.ok P) (hYd : Cd.noY) (hfd : P.funcs[T.fd]? = some fnd) (hcd : callable P T.fd = true) (hbd : fnd.body = some (.seq (.region id T.l.toArray false) T.rest)) (hnd : fnd.ntmps = T.nt) (hrd : fnd.results.toList = T.rsd) (hl : T.l = o0 :: T.l') (hk : o0.dst = some T.k) (hg : o0.guard = none) (hx : ∀ ρ w, (execOp ρ o0).run P w = .ok .recover w) (hO : okO Od T.rest = true)
    (hs0 : ∀ b, Sto.get s0 (pinT b) = none) (h : ∀ p, 5000000000 ≤ p → xW P C O tb0 c (xDs P Cd Od tb T rs.toList (fun r s => R r s ∧ s.get p = some [.ref G 0]) (mk _) (mk _) (mk _)) (mk _) (mk _) (args ++ List.replicate (n - args.length) .any) ((0, []) :: (s0 ++ [(p, [.ref G 0])]))) : PFB P f G args s0 R := by
  refine ⟨hc, fun w lo lb lh tm vs hr0 ha => ?_⟩
  obtain ⟨htm, hr1⟩ := hr0.pin (fun _ => rfl) (fun b => by simp only [Sto.get]; rw [if_neg (by unfold pinT; omega)]; exact hs0 b)
  replace h := h (pinT (lb G)) (by unfold pinT; omega)
  refine calls_of_wpX hf hb (wpX_mono ?_ (pwp_sound hC hm c (by rw [hb] at ho; simpa using ho) (by rw [← hn] at h; exact h) w (layE lo lb lh) (layE lo lb lh) w { tmps := vs ++ Array.replicate (fn.ntmps - vs.size) undef, defers := [] } (hr1.args ha)))
  rintro x a w' ⟨L, e, s, hr', hq⟩
  have out : ∀ {L' : Lay} {e' : List AV} {s' : Sto} {w'' : World} {a' : Act}, Rel w (layE lo lb lh) L' e' s' w'' a' → a'.defers = [] → stoK P rs.toList (fun r s => R r s ∧ s.get (pinT (lb G)) = some [.ref G 0]) e' s' → ∃ v, (results fn a'.tmps).run P w'' = .ok v w'' ∧ ∃ L' e' s' r, Rel w (layE lo lb lh) L' e' s' w'' { tmps := tm, defers := [] } ∧ ARep L' w'' r v ∧ e' = [.ref G 0] ∧ R r s' := fun hr2 hd hq2 => by
    obtain ⟨v, h1, r, h2, h3⟩ := sto_finB (fn := fn) hr2 hrs hq2
    exact ⟨v, h1, _, _, _, r, hr2.bare hd h3.2 htm, h2, rfl, h3.1⟩
  have fin : (if (s.get 0).any List.isEmpty = true then stoK P rs.toList (fun r s => R r s ∧ s.get (pinT (lb G)) = some [.ref G 0]) e s else dgoG P Cd Od tb T (stoK P rs.toList fun r s => R r s ∧ s.get (pinT (lb G)) = some [.ref G 0]) (.d (.v .nilIface)) e s) → LeavesInM (FW none) 0 P fn a.tmps (fun en w' => match en with
      | .returned v => ∃ L' e' s' r, Rel w (layE lo lb lh) L' e' s' w' { tmps := tm, defers := [] } ∧ ARep L' w' r v ∧ e' = [.ref G 0] ∧ R r s'
      | .panicked c => ∃ L' e' s', Rel w (layE lo lb lh) L' e' s' w' { tmps := tm, defers := [] } ∧ e' = [.ref G 0] ∧ False
      | .outgrown => False) a.defers .returning w' := by
    intro hq
    split at hq
    · rename_i h0
      have h0 : s.get 0 = some [] := by
        cases hs : s.get 0 with
        | none => simp [hs] at h0
        | some l => cases l with
          | nil => rfl
          | cons y ys => simp [hs] at h0
      have hst : strip a.defers = [] := by
        obtain ⟨vs, h1, h2⟩ := hr'.hid
        have := ((hr'.objs 0 _ h0).1 rfl).length
        rw [h1] at this
        have hv : vs = [] := by
          simp only [List.append_nil, List.length_nil] at this
          exact List.length_eq_zero_iff.1 this
        rw [hv] at h2; exact h2
      exact leave_marks (by simp) a.defers w' hst hr'.mks.1 (fun r h => (hr'.mks.2 r h).1) fun w'' hsh => out (a' := { a with defers := [] }) (hr'.shut hst hsh) rfl hq
    · refine dgo_sound (u1 := .returning) (vx := .nilIface) hCd hYd hm hfd hcd hbd hnd hrd hl hk hg hx hO hr' _ (by simp) (fun c₀ cs hc => ?_) rfl (fun m => ⟨.v .nilIface, rfl, (rfl : _ = _)⟩) hq (fun L' e' s' w'' a' hr2 ha hq2 => ?_)
      · exact ⟨c₀ :: cs, by simp [recoverD, hc], by rw [← hc]⟩
      · have := out hr2 ha.2 hq2
        rw [ha.1] at this
        exact this
  cases x with
  | normal => exact fin hq
  | ret => exact fin hq
  | panic ch =>
    unfold xDs dKG at hq
    simp only at hq
    split at hq
    · rename_i p
      obtain ⟨hp1, hp2, hq⟩ := hq
      obtain ⟨v, rec, goe⟩ := p
      simp only at hp1 hp2 hq
      subst hp1; subst hp2
      refine dgo_sound (u1 := .panicking [{ v := v, recovered := true }]) (vx := v) hCd hYd hm hfd hcd hbd hnd hrd hl hk hg hx hO (hr'.weaken (wk_Wk (maskB_wk T.m e)) (wkS_get (wkS_refl s))) _ (by simp) (fun c₀ cs hc => ?_) rfl (fun m => ⟨_, rfl, datOf_rep _ _⟩) hq (fun L' e' s' w'' a' hr2 ha hq2 => ?_)
      · exact ⟨_, by simp [recoverD, hc], rfl⟩
      · have := out hr2 ha.2 hq2
        rw [ha.1] at this
        exact this
    · exact hq.elim
  | exit i => exact hq.elim
  | goto l => exact hq.elim
  | outgrown => exact hq.elim
theorem pcall_B {P : Program} {f G : Nat} {T : List Nat} {args : List AV} {s0 : Sto} {e : List AV} {s : Sto} {R : AV → Sto → Prop} {K : AV → List AV → Sto → Prop} {Q : Exit → List AV → Sto → Prop}
    (hF : FrameOk T [.ref G 0] args s0 e s) (h : PFB P f G args s0 R)
    (hK : ∀ r s1, R r s1 → (r.only T = true ∧ ∀ g c, T.contains g = true → s1.get g = some c → AV.onlys T c = true) ∧ K r e (mer T s1 s)) : pcall P f args K Q e s :=
  pcall_frameB (RQ := fun _ _ => False) hF h hK (fun _ _ h => h.elim)
end Go.E
