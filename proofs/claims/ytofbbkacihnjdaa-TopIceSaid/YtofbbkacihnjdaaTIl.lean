/- A part of the proof that the last text ends: what functions of the program do, told by plain data. -/
import Derived.Test.YtofbbkacihnjdaaTIk
set_option linter.unusedVariables false
set_option linter.unusedSimpArgs false
namespace Go.Proofs.Ytofbbkacihnjdaa.Ic
open Go Go.E Go.Maps
set_option maxRecDepth 100000
set_option maxHeartbeats 16000000
theorem ps0 : placeOf Try.prog 113 0 = some (0, 1) := by kernel_rfl
theorem ps1 : placeOf Try.prog 113 1 = some (1, 1) := by kernel_rfl
theorem ps2 : placeOf Try.prog 113 2 = some (2, 1) := by kernel_rfl
theorem ps3 : placeOf Try.prog 113 3 = some (3, 1) := by kernel_rfl
theorem ps4 : placeOf Try.prog 113 4 = some (4, 1) := by kernel_rfl
def O53 : Nat → Sch := fun id => .done
theorem ho53 : Try.f53.body.map (okO O53) = some true := by kernel_rfl
def Cf53 : Nat → List AV → (AV → List AV → Sto → Prop) → Kt → List AV → Sto → Prop := fun f args K Q e s => match f with
  | _ => False
def Ct53 : CT := { f := Cf53, y := noYld, z := fun d => false }
theorem Ct53_ok : Ct53.ok Try.prog := ok_of_f (fun f args K Q e s h => by
  have h : Cf53 f args K Q e s := h
  unfold Cf53 at h; split at h
  · exact h.elim) (fun _ _ _ _ _ _ _ _ _ h => h)
theorem c53 : callable Try.prog 53 = true := by kernel_rfl
def O64 : Nat → Sch := fun id => if id = 1 then .one 0 (.one 1 (.one 2 (.alt (.one 3 (.alt (.one 4 (.alt (.one 5 (.one 6 (.one 7 (.done)))) (.one 6 (.one 5 (.one 7 (.done)))))) (.one 6 (.one 4 (.one 5 (.one 7 (.done))))))) (.alt (.one 4 (.alt (.one 3 (.alt (.one 5 (.one 6 (.one 7 (.done)))) (.one 6 (.one 5 (.one 7 (.done)))))) (.one 6 (.one 3 (.one 5 (.one 7 (.done))))))) (.one 6 (.one 3 (.one 4 (.one 5 (.one 7 (.done)))))))))) else if id = 2 then .one 0 (.one 1 (.one 2 (.one 3 (.one 4 (.one 5 (.one 6 (.one 7 (.one 8 (.one 9 (.done)))))))))) else .done
theorem O64_1 : O64 1 = .one 0 (.one 1 (.one 2 (.alt (.one 3 (.alt (.one 4 (.alt (.one 5 (.one 6 (.one 7 (.done)))) (.one 6 (.one 5 (.one 7 (.done)))))) (.one 6 (.one 4 (.one 5 (.one 7 (.done))))))) (.alt (.one 4 (.alt (.one 3 (.alt (.one 5 (.one 6 (.one 7 (.done)))) (.one 6 (.one 5 (.one 7 (.done)))))) (.one 6 (.one 3 (.one 5 (.one 7 (.done))))))) (.one 6 (.one 3 (.one 4 (.one 5 (.one 7 (.done)))))))))) := rfl
theorem O64_2 : O64 2 = .one 0 (.one 1 (.one 2 (.one 3 (.one 4 (.one 5 (.one 6 (.one 7 (.one 8 (.one 9 (.done)))))))))) := rfl
theorem ho64 : Try.f64.body.map (okO O64) = some true := by kernel_rfl
def Cf64 : Nat → List AV → (AV → List AV → Sto → Prop) → Kt → List AV → Sto → Prop := fun f args K Q e s => match f with
  | 26 => ent26 args K e s
  | 71 => ent71 args K e s
  | _ => False
def Ct64 : CT := { f := Cf64, y := noYld, z := fun d => false }
theorem Ct64_ok : Ct64.ok Try.prog := ok_of_f (fun f args K Q e s h => by
  have h : Cf64 f args K Q e s := h
  unfold Cf64 at h; split at h
  · exact ent26_ok h
  · exact ent71_ok h
  · exact h.elim) (fun _ _ _ _ _ _ _ _ _ h => h)
theorem x64_71 {t : Pn} {s : Pn} {KK : AV → List AV → Sto → Prop} {QQ : Kt} {ii : At KK} {jj : At QQ} {ee : List AV} {ss : Sto} : xC Ct64 71 [.d (.agg t.c), .d (.agg s.c)] KK QQ ii jj ee ss = (KK (.d (.agg (t.taken s).c)) ee ss) := eq71
theorem x64_26 {t : Pn} {s : Pn} {KK : AV → List AV → Sto → Prop} {QQ : Kt} {ii : At KK} {jj : At QQ} {ee : List AV} {ss : Sto} : xC Ct64 26 [.d (.agg t.c), .d (.agg s.c)] KK QQ ii jj ee ss = ((t.sm ∧ s.sm) ∧ KK (.d (.agg (t.less s).c)) ee ss) := eq26
theorem c64 : callable Try.prog 64 = true := by kernel_rfl
def O62 : Nat → Sch := fun id => if id = 1 then .one 0 (.one 1 (.one 2 (.one 3 (.one 4 (.one 5 (.one 6 (.one 7 (.one 8 (.one 9 (.done)))))))))) else if id = 2 then .one 1 (.one 2 (.one 3 (.one 4 (.one 5 (.alt (.one 0 (.one 6 (.one 7 (.one 8 (.one 9 (.done)))))) (.one 6 (.one 0 (.one 7 (.one 8 (.one 9 (.done))))))))))) else .done
theorem O62_1 : O62 1 = .one 0 (.one 1 (.one 2 (.one 3 (.one 4 (.one 5 (.one 6 (.one 7 (.one 8 (.one 9 (.done)))))))))) := rfl
theorem O62_2 : O62 2 = .one 1 (.one 2 (.one 3 (.one 4 (.one 5 (.alt (.one 0 (.one 6 (.one 7 (.one 8 (.one 9 (.done)))))) (.one 6 (.one 0 (.one 7 (.one 8 (.one 9 (.done))))))))))) := rfl
theorem ho62 : Try.f62.body.map (okO O62) = some true := by kernel_rfl
def Cf62 : Nat → List AV → (AV → List AV → Sto → Prop) → Kt → List AV → Sto → Prop := fun f args K Q e s => match f with
  | 27 => ent27 args K e s
  | 53 => inlE Try.prog Ct53 O53 53000 53 args K Q e s
  | _ => False
def Ct62 : CT := { f := Cf62, y := noYld, z := fun d => false }
theorem Ct62_ok : Ct62.ok Try.prog := ok_of_f (fun f args K Q e s h => by
  have h : Cf62 f args K Q e s := h
  unfold Cf62 at h; split at h
  · exact ent27_ok h
  · exact inlE_ok Ct53_ok hmix ho53 h
  · exact h.elim) (fun _ _ _ _ _ _ _ _ _ h => h)
theorem x62_27 {t : Pn} {x : Int} {y : Int} {KK : AV → List AV → Sto → Prop} {QQ : Kt} {ii : At KK} {jj : At QQ} {ee : List AV} {ss : Sto} : xC Ct62 27 [.d (.agg t.c), .d (.agg [.i x, .i y])] KK QQ ii jj ee ss = ((t.sm ∧ (⟨x, y⟩ : Pn).sm) ∧ KK (.d (.agg (t.more ⟨x, y⟩).c)) ee ss) := eq27
theorem z62_53 : type_of% (@xinl Try.prog Ct62 Ct53 O53 53000 53 _ _ _ _ rfl c53 Try.func53 rfl Try.ntmps53 Try.results53) := @xinl Try.prog Ct62 Ct53 O53 53000 53 _ _ _ _ rfl c53 Try.func53 rfl Try.ntmps53 Try.results53
theorem c62 : callable Try.prog 62 = true := by kernel_rfl
def O63 : Nat → Sch := fun id => if id = 1 then .one 5 (.one 6 (.alt (.one 0 (.alt (.one 1 (.one 2 (.one 3 (.alt (.one 4 (.one 7 (.one 8 (.one 9 (.one 10 (.one 11 (.done))))))) (.one 7 (.one 4 (.one 8 (.one 9 (.one 10 (.one 11 (.done))))))))))) (.one 7 (.one 1 (.one 2 (.one 3 (.one 4 (.one 8 (.one 9 (.one 10 (.one 11 (.done)))))))))))) (.alt (.one 1 (.one 2 (.one 3 (.alt (.one 0 (.alt (.one 4 (.one 7 (.one 8 (.one 9 (.one 10 (.one 11 (.done))))))) (.one 7 (.one 4 (.one 8 (.one 9 (.one 10 (.one 11 (.done))))))))) (.alt (.one 4 (.alt (.one 0 (.one 7 (.one 8 (.one 9 (.one 10 (.one 11 (.done))))))) (.one 7 (.alt (.one 0 (.one 8 (.one 9 (.one 10 (.one 11 (.done)))))) (.one 8 (.one 0 (.one 9 (.one 10 (.one 11 (.done)))))))))) (.one 7 (.one 4 (.alt (.one 0 (.one 8 (.one 9 (.one 10 (.one 11 (.done)))))) (.one 8 (.one 0 (.one 9 (.one 10 (.one 11 (.done)))))))))))))) (.one 7 (.one 1 (.one 2 (.one 3 (.one 4 (.alt (.one 0 (.one 8 (.one 9 (.one 10 (.one 11 (.done)))))) (.one 8 (.one 0 (.one 9 (.one 10 (.one 11 (.done))))))))))))))) else .done
theorem O63_1 : O63 1 = .one 5 (.one 6 (.alt (.one 0 (.alt (.one 1 (.one 2 (.one 3 (.alt (.one 4 (.one 7 (.one 8 (.one 9 (.one 10 (.one 11 (.done))))))) (.one 7 (.one 4 (.one 8 (.one 9 (.one 10 (.one 11 (.done))))))))))) (.one 7 (.one 1 (.one 2 (.one 3 (.one 4 (.one 8 (.one 9 (.one 10 (.one 11 (.done)))))))))))) (.alt (.one 1 (.one 2 (.one 3 (.alt (.one 0 (.alt (.one 4 (.one 7 (.one 8 (.one 9 (.one 10 (.one 11 (.done))))))) (.one 7 (.one 4 (.one 8 (.one 9 (.one 10 (.one 11 (.done))))))))) (.alt (.one 4 (.alt (.one 0 (.one 7 (.one 8 (.one 9 (.one 10 (.one 11 (.done))))))) (.one 7 (.alt (.one 0 (.one 8 (.one 9 (.one 10 (.one 11 (.done)))))) (.one 8 (.one 0 (.one 9 (.one 10 (.one 11 (.done)))))))))) (.one 7 (.one 4 (.alt (.one 0 (.one 8 (.one 9 (.one 10 (.one 11 (.done)))))) (.one 8 (.one 0 (.one 9 (.one 10 (.one 11 (.done)))))))))))))) (.one 7 (.one 1 (.one 2 (.one 3 (.one 4 (.alt (.one 0 (.one 8 (.one 9 (.one 10 (.one 11 (.done)))))) (.one 8 (.one 0 (.one 9 (.one 10 (.one 11 (.done))))))))))))))) := rfl
theorem ho63 : Try.f63.body.map (okO O63) = some true := by kernel_rfl
def Cf63 : Nat → List AV → (AV → List AV → Sto → Prop) → Kt → List AV → Sto → Prop := fun f args K Q e s => match f with
  | 27 => ent27 args K e s
  | 64 => inlE Try.prog Ct64 O64 64000 64 args K Q e s
  | _ => False
def Ct63 : CT := { f := Cf63, y := noYld, z := fun d => false }
theorem Ct63_ok : Ct63.ok Try.prog := ok_of_f (fun f args K Q e s h => by
  have h : Cf63 f args K Q e s := h
  unfold Cf63 at h; split at h
  · exact ent27_ok h
  · exact inlE_ok Ct64_ok hmix ho64 h
  · exact h.elim) (fun _ _ _ _ _ _ _ _ _ h => h)
theorem x63_27 {t : Pn} {x : Int} {y : Int} {KK : AV → List AV → Sto → Prop} {QQ : Kt} {ii : At KK} {jj : At QQ} {ee : List AV} {ss : Sto} : xC Ct63 27 [.d (.agg t.c), .d (.agg [.i x, .i y])] KK QQ ii jj ee ss = ((t.sm ∧ (⟨x, y⟩ : Pn).sm) ∧ KK (.d (.agg (t.more ⟨x, y⟩).c)) ee ss) := eq27
theorem z63_64 : type_of% (@xinl Try.prog Ct63 Ct64 O64 64000 64 _ _ _ _ rfl c64 Try.func64 rfl Try.ntmps64 Try.results64) := @xinl Try.prog Ct63 Ct64 O64 64000 64 _ _ _ _ rfl c64 Try.func64 rfl Try.ntmps64 Try.results64
theorem c63 : callable Try.prog 63 = true := by kernel_rfl
def O65 : Nat → Sch := fun id => if id = 1 then .one 5 (.one 6 (.alt (.one 0 (.alt (.one 1 (.one 2 (.one 3 (.alt (.one 4 (.one 7 (.one 8 (.one 9 (.one 10 (.one 11 (.done))))))) (.one 7 (.one 4 (.one 8 (.one 9 (.one 10 (.one 11 (.done))))))))))) (.one 7 (.one 1 (.one 2 (.one 3 (.one 4 (.one 8 (.one 9 (.one 10 (.one 11 (.done)))))))))))) (.alt (.one 1 (.one 2 (.one 3 (.alt (.one 0 (.alt (.one 4 (.one 7 (.one 8 (.one 9 (.one 10 (.one 11 (.done))))))) (.one 7 (.one 4 (.one 8 (.one 9 (.one 10 (.one 11 (.done))))))))) (.alt (.one 4 (.alt (.one 0 (.one 7 (.one 8 (.one 9 (.one 10 (.one 11 (.done))))))) (.one 7 (.alt (.one 0 (.one 8 (.one 9 (.one 10 (.one 11 (.done)))))) (.one 8 (.one 0 (.one 9 (.one 10 (.one 11 (.done)))))))))) (.one 7 (.one 4 (.alt (.one 0 (.one 8 (.one 9 (.one 10 (.one 11 (.done)))))) (.one 8 (.one 0 (.one 9 (.one 10 (.one 11 (.done)))))))))))))) (.one 7 (.one 1 (.one 2 (.one 3 (.one 4 (.alt (.one 0 (.one 8 (.one 9 (.one 10 (.one 11 (.done)))))) (.one 8 (.one 0 (.one 9 (.one 10 (.one 11 (.done))))))))))))))) else .done
theorem O65_1 : O65 1 = .one 5 (.one 6 (.alt (.one 0 (.alt (.one 1 (.one 2 (.one 3 (.alt (.one 4 (.one 7 (.one 8 (.one 9 (.one 10 (.one 11 (.done))))))) (.one 7 (.one 4 (.one 8 (.one 9 (.one 10 (.one 11 (.done))))))))))) (.one 7 (.one 1 (.one 2 (.one 3 (.one 4 (.one 8 (.one 9 (.one 10 (.one 11 (.done)))))))))))) (.alt (.one 1 (.one 2 (.one 3 (.alt (.one 0 (.alt (.one 4 (.one 7 (.one 8 (.one 9 (.one 10 (.one 11 (.done))))))) (.one 7 (.one 4 (.one 8 (.one 9 (.one 10 (.one 11 (.done))))))))) (.alt (.one 4 (.alt (.one 0 (.one 7 (.one 8 (.one 9 (.one 10 (.one 11 (.done))))))) (.one 7 (.alt (.one 0 (.one 8 (.one 9 (.one 10 (.one 11 (.done)))))) (.one 8 (.one 0 (.one 9 (.one 10 (.one 11 (.done)))))))))) (.one 7 (.one 4 (.alt (.one 0 (.one 8 (.one 9 (.one 10 (.one 11 (.done)))))) (.one 8 (.one 0 (.one 9 (.one 10 (.one 11 (.done)))))))))))))) (.one 7 (.one 1 (.one 2 (.one 3 (.one 4 (.alt (.one 0 (.one 8 (.one 9 (.one 10 (.one 11 (.done)))))) (.one 8 (.one 0 (.one 9 (.one 10 (.one 11 (.done))))))))))))))) := rfl
theorem ho65 : Try.f65.body.map (okO O65) = some true := by kernel_rfl
def Cf65 : Nat → List AV → (AV → List AV → Sto → Prop) → Kt → List AV → Sto → Prop := fun f args K Q e s => match f with
  | 27 => ent27 args K e s
  | 64 => inlE Try.prog Ct64 O64 64000 64 args K Q e s
  | _ => False
def Ct65 : CT := { f := Cf65, y := noYld, z := fun d => false }
theorem Ct65_ok : Ct65.ok Try.prog := ok_of_f (fun f args K Q e s h => by
  have h : Cf65 f args K Q e s := h
  unfold Cf65 at h; split at h
  · exact ent27_ok h
  · exact inlE_ok Ct64_ok hmix ho64 h
  · exact h.elim) (fun _ _ _ _ _ _ _ _ _ h => h)
theorem x65_27 {t : Pn} {x : Int} {y : Int} {KK : AV → List AV → Sto → Prop} {QQ : Kt} {ii : At KK} {jj : At QQ} {ee : List AV} {ss : Sto} : xC Ct65 27 [.d (.agg t.c), .d (.agg [.i x, .i y])] KK QQ ii jj ee ss = ((t.sm ∧ (⟨x, y⟩ : Pn).sm) ∧ KK (.d (.agg (t.more ⟨x, y⟩).c)) ee ss) := eq27
theorem z65_64 : type_of% (@xinl Try.prog Ct65 Ct64 O64 64000 64 _ _ _ _ rfl c64 Try.func64 rfl Try.ntmps64 Try.results64) := @xinl Try.prog Ct65 Ct64 O64 64000 64 _ _ _ _ rfl c64 Try.func64 rfl Try.ntmps64 Try.results64
theorem c65 : callable Try.prog 65 = true := by kernel_rfl
def O54 : Nat → Sch := fun id => if id = 1 then .one 0 (.one 1 (.one 2 (.one 3 (.one 4 (.one 5 (.one 6 (.one 7 (.one 8 (.one 9 (.one 10 (.one 11 (.one 12 (.one 13 (.one 14 (.one 15 (.one 16 (.one 17 (.one 18 (.one 19 (.one 20 (.one 21 (.one 22 (.done))))))))))))))))))))))) else .done
theorem O54_1 : O54 1 = .one 0 (.one 1 (.one 2 (.one 3 (.one 4 (.one 5 (.one 6 (.one 7 (.one 8 (.one 9 (.one 10 (.one 11 (.one 12 (.one 13 (.one 14 (.one 15 (.one 16 (.one 17 (.one 18 (.one 19 (.one 20 (.one 21 (.one 22 (.done))))))))))))))))))))))) := rfl
theorem ho54 : Try.f54.body.map (okO O54) = some true := by kernel_rfl
def Cf54 : Nat → List AV → (AV → List AV → Sto → Prop) → Kt → List AV → Sto → Prop := fun f args K Q e s => match f with
  | 20 => ent20 args K e s
  | 21 => ent21 args K e s
  | _ => False
def Ct54 : CT := { f := Cf54, y := noYld, z := fun d => false }
theorem Ct54_ok : Ct54.ok Try.prog := ok_of_f (fun f args K Q e s h => by
  have h : Cf54 f args K Q e s := h
  unfold Cf54 at h; split at h
  · exact ent20_ok h
  · exact ent21_ok h
  · exact h.elim) (fun _ _ _ _ _ _ _ _ _ h => h)
theorem x54_20 {s : Pn} {KK : AV → List AV → Sto → Prop} {QQ : Kt} {ii : At KK} {jj : At QQ} {ee : List AV} {ss : Sto} : xC Ct54 20 [.d (.agg s.c)] KK QQ ii jj ee ss = (KK (.d (.b s.ok)) ee ss) := eq20
theorem x54_21 {n : Int} {lo : Int} {hi : Int} {KK : AV → List AV → Sto → Prop} {QQ : Kt} {ii : At KK} {jj : At QQ} {ee : List AV} {ss : Sto} : xC Ct54 21 [.d (.i n), .d (.i lo), .d (.i hi)] KK QQ ii jj ee ss = (KK (.d (.b (inB n lo hi))) ee ss) := eq21
theorem c54 : callable Try.prog 54 = true := by kernel_rfl
def O52 : Nat → Sch := fun id => .done
theorem ho52 : Try.f52.body.map (okO O52) = some true := by kernel_rfl
def Cf52 : Nat → List AV → (AV → List AV → Sto → Prop) → Kt → List AV → Sto → Prop := fun f args K Q e s => match f with
  | _ => False
def Ct52 : CT := { f := Cf52, y := noYld, z := fun d => false }
theorem Ct52_ok : Ct52.ok Try.prog := ok_of_f (fun f args K Q e s h => by
  have h : Cf52 f args K Q e s := h
  unfold Cf52 at h; split at h
  · exact h.elim) (fun _ _ _ _ _ _ _ _ _ h => h)
theorem c52 : callable Try.prog 52 = true := by kernel_rfl
def O36 : Nat → Sch := fun id => .done
theorem ho36 : Try.f36.body.map (okO O36) = some true := by kernel_rfl
def Cf36 : Nat → List AV → (AV → List AV → Sto → Prop) → Kt → List AV → Sto → Prop := fun f args K Q e s => match f with
  | _ => False
def Ct36 : CT := { f := Cf36, y := noYld, z := fun d => false }
theorem Ct36_ok : Ct36.ok Try.prog := ok_of_f (fun f args K Q e s h => by
  have h : Cf36 f args K Q e s := h
  unfold Cf36 at h; split at h
  · exact h.elim) (fun _ _ _ _ _ _ _ _ _ h => h)
theorem c36 : callable Try.prog 36 = true := by kernel_rfl
def O51 : Nat → Sch := fun id => .done
def Cf51 : Nat → List AV → (AV → List AV → Sto → Prop) → Kt → List AV → Sto → Prop := fun f args K Q e s => match f with
  | _ => False
def Ct51 : CT := { f := Cf51, y := noYld, z := fun d => false }
theorem Ct51_ok : Ct51.ok Try.prog := ok_of_f (fun f args K Q e s h => by
  have h : Cf51 f args K Q e s := h
  unfold Cf51 at h; split at h
  · exact h.elim) (fun _ _ _ _ _ _ _ _ _ h => h)
theorem c51 : callable Try.prog 51 = true := by kernel_rfl
def O55 : Nat → Sch := fun id => .done
theorem ho55 : Try.f55.body.map (okO O55) = some true := by kernel_rfl
def Cf55 : Nat → List AV → (AV → List AV → Sto → Prop) → Kt → List AV → Sto → Prop := fun f args K Q e s => match f with
  | _ => False
def Ct55 : CT := { f := Cf55, y := noYld, z := fun d => false }
theorem Ct55_ok : Ct55.ok Try.prog := ok_of_f (fun f args K Q e s h => by
  have h : Cf55 f args K Q e s := h
  unfold Cf55 at h; split at h
  · exact h.elim) (fun _ _ _ _ _ _ _ _ _ h => h)
theorem c55 : callable Try.prog 55 = true := by kernel_rfl
def O33 : Nat → Sch := fun id => if id = 11 then .one 0 (.one 1 (.one 2 (.one 3 (.one 4 (.one 5 (.one 6 (.one 7 (.done)))))))) else .done
theorem O33_11 : O33 11 = .one 0 (.one 1 (.one 2 (.one 3 (.one 4 (.one 5 (.one 6 (.one 7 (.done)))))))) := rfl
theorem ho33 : Try.f33.body.map (okO O33) = some true := by kernel_rfl
def Cf33o : Nat → List AV → (AV → List AV → Sto → Prop) → Kt → List AV → Sto → Prop := fun f args K Q e s => match f with
  | 36 => inlE Try.prog Ct36 O36 36000 36 args K Q e s
  | 52 => inlE Try.prog Ct52 O52 52000 52 args K Q e s
  | 53 => inlE Try.prog Ct53 O53 53000 53 args K Q e s
  | 54 => inlE Try.prog Ct54 O54 54000 54 args K Q e s
  | 62 => inlE Try.prog Ct62 O62 62000 62 args K Q e s
  | 63 => inlE Try.prog Ct63 O63 63000 63 args K Q e s
  | 65 => inlE Try.prog Ct65 O65 65000 65 args K Q e s
  | _ => False
def Ct33o : CT := { f := Cf33o, y := noYld, z := fun d => false }
theorem Ct33o_ok : Ct33o.ok Try.prog := ok_of_f (fun f args K Q e s h => by
  have h : Cf33o f args K Q e s := h
  unfold Cf33o at h; split at h
  · exact inlE_ok Ct36_ok hmix ho36 h
  · exact inlE_ok Ct52_ok hmix ho52 h
  · exact inlE_ok Ct53_ok hmix ho53 h
  · exact inlE_ok Ct54_ok hmix ho54 h
  · exact inlE_ok Ct62_ok hmix ho62 h
  · exact inlE_ok Ct63_ok hmix ho63 h
  · exact inlE_ok Ct65_ok hmix ho65 h
  · exact h.elim) (fun _ _ _ _ _ _ _ _ _ h => h)
def Yd33 : Nat → List Nat → Code → Code → List AV → (AV → List AV → Sto → Prop) → Kt → List AV → Sto → Prop := fun G ps asg bdy => if G / 1000 = 1000033 then yldEX Try.prog Ct33o O33 33000 G ps asg bdy else fun _ _ _ _ _ => False
def Cy33_55 : CT := { f := Cf55, y := Yd33 }
theorem Cy33_55_ok : Cy33_55.ok Try.prog := ⟨Ct55_ok.f, fun g ps asg bdy args K Q e s h => by
  have h : Yd33 g ps asg bdy args K Q e s := h
  unfold Yd33 at h; split at h
  · exact yldEX_ok Ct33o_ok hmix h
  · exact h.elim⟩
def Cf33 : Nat → List AV → (AV → List AV → Sto → Prop) → Kt → List AV → Sto → Prop := fun f args K Q e s => match f with
  | 36 => inlE Try.prog Ct36 O36 36000 36 args K Q e s
  | 52 => inlE Try.prog Ct52 O52 52000 52 args K Q e s
  | 53 => inlE Try.prog Ct53 O53 53000 53 args K Q e s
  | 54 => inlE Try.prog Ct54 O54 54000 54 args K Q e s
  | 55 => inlE Try.prog Cy33_55 O55 55000 55 args K Q e s
  | 62 => inlE Try.prog Ct62 O62 62000 62 args K Q e s
  | 63 => inlE Try.prog Ct63 O63 63000 63 args K Q e s
  | 65 => inlE Try.prog Ct65 O65 65000 65 args K Q e s
  | _ => False
def Ct33 : CT := { f := Cf33, y := noYld, z := fun d => false }
theorem Ct33_ok : Ct33.ok Try.prog := ok_of_f (fun f args K Q e s h => by
  have h : Cf33 f args K Q e s := h
  unfold Cf33 at h; split at h
  · exact inlE_ok Ct36_ok hmix ho36 h
  · exact inlE_ok Ct52_ok hmix ho52 h
  · exact inlE_ok Ct53_ok hmix ho53 h
  · exact inlE_ok Ct54_ok hmix ho54 h
  · exact inlE_ok Cy33_55_ok hmix ho55 h
  · exact inlE_ok Ct62_ok hmix ho62 h
  · exact inlE_ok Ct63_ok hmix ho63 h
  · exact inlE_ok Ct65_ok hmix ho65 h
  · exact h.elim) (fun _ _ _ _ _ _ _ _ _ h => h)
theorem z33_55 : type_of% (@xinl Try.prog Ct33 Cy33_55 O55 55000 55 _ _ _ _ rfl c55 Try.func55 rfl Try.ntmps55 Try.results55) := @xinl Try.prog Ct33 Cy33_55 O55 55000 55 _ _ _ _ rfl c55 Try.func55 rfl Try.ntmps55 Try.results55
theorem yy33_55_35 : type_of% (fun ps asg bdy => @xyldX Try.prog Cy33_55 Ct33o O33 33000 1000033035 Yd33 rfl ps asg bdy (if_pos (by omega))) := fun ps asg bdy => @xyldX Try.prog Cy33_55 Ct33o O33 33000 1000033035 Yd33 rfl ps asg bdy (if_pos (by omega))
theorem z33_52 : type_of% (@xinl Try.prog Ct33 Ct52 O52 52000 52 _ _ _ _ rfl c52 Try.func52 rfl Try.ntmps52 Try.results52) := @xinl Try.prog Ct33 Ct52 O52 52000 52 _ _ _ _ rfl c52 Try.func52 rfl Try.ntmps52 Try.results52
theorem z33_54 : type_of% (@xinl Try.prog Ct33 Ct54 O54 54000 54 _ _ _ _ rfl c54 Try.func54 rfl Try.ntmps54 Try.results54) := @xinl Try.prog Ct33 Ct54 O54 54000 54 _ _ _ _ rfl c54 Try.func54 rfl Try.ntmps54 Try.results54
theorem z33_53 : type_of% (@xinl Try.prog Ct33 Ct53 O53 53000 53 _ _ _ _ rfl c53 Try.func53 rfl Try.ntmps53 Try.results53) := @xinl Try.prog Ct33 Ct53 O53 53000 53 _ _ _ _ rfl c53 Try.func53 rfl Try.ntmps53 Try.results53
theorem z33_36 : type_of% (@xinl Try.prog Ct33 Ct36 O36 36000 36 _ _ _ _ rfl c36 Try.func36 rfl Try.ntmps36 Try.results36) := @xinl Try.prog Ct33 Ct36 O36 36000 36 _ _ _ _ rfl c36 Try.func36 rfl Try.ntmps36 Try.results36
theorem z33o_62 : type_of% (@xinl Try.prog Ct33o Ct62 O62 62000 62 _ _ _ _ rfl c62 Try.func62 rfl Try.ntmps62 Try.results62) := @xinl Try.prog Ct33o Ct62 O62 62000 62 _ _ _ _ rfl c62 Try.func62 rfl Try.ntmps62 Try.results62
theorem z33o_63 : type_of% (@xinl Try.prog Ct33o Ct63 O63 63000 63 _ _ _ _ rfl c63 Try.func63 rfl Try.ntmps63 Try.results63) := @xinl Try.prog Ct33o Ct63 O63 63000 63 _ _ _ _ rfl c63 Try.func63 rfl Try.ntmps63 Try.results63
theorem z33o_65 : type_of% (@xinl Try.prog Ct33o Ct65 O65 65000 65 _ _ _ _ rfl c65 Try.func65 rfl Try.ntmps65 Try.results65) := @xinl Try.prog Ct33o Ct65 O65 65000 65 _ _ _ _ rfl c65 Try.func65 rfl Try.ntmps65 Try.results65
theorem c33 : callable Try.prog 33 = true := by kernel_rfl
theorem row_at' {l : List Ev} {i n : Nat} (h : i < l.length) : (l.map (Ev.c n)).getD i [] = Ev.c n (l.getD i default) := Go.E.row_at h
def Rp (l : List Ev) (s : Rs) (r : AV) (st : Sto) : Prop := r = .d (.tup [.i ((pyR l s).2.1 : Int), .i (pyR l s).2.2]) ∧ ((pyR l s).2.2 = 0 → st.get 32004 = some (pyR l s).1.c) ∧ st.get 32021 = none ∧ ∃ s' : Rs, st.get 32004 = some s'.c
theorem play33 {l : List Ev} {s : Rs} {n : Nat} {B : Int} (hn : s.z.length = n) (h24 : 1 ≤ n ∧ n ≤ 24) (hl : l.length ≤ 256) (hev : ∀ x ∈ l, x.ok) (hs : s.ok B) (hB : B + 480000 * l.length ≤ 1000000000) : PFB Try.prog 33 32004 [.ref 32004 0, .d (.sl 5 (l.map (Ev.c n)))] [(32004, s.c)] (Rp l s) := by
  have hw0 : plN' l l.length 0 s = pyR l s := rfl
  refine PFB_startX 32004 (O := O33) (Od := O51) (tb0 := 33000) (tb := 51000) (T := ⟨51, 17, 4, _, _, _, [], [false, false, false, false, true, true]⟩) Ct33_ok hmix ho33 Try.func33 c33 rfl Try.ntmps33 Try.results33 Ct51_ok (fun _ _ _ _ _ _ _ _ _ h => h) Try.func51 c51 rfl Try.ntmps51 (by rw [Try.results51]) rfl rfl rfl (fun _ _ => rfl) (by kernel_rfl) (fun b => by simp only [Sto.get]; rw [if_neg (by unfold pinT; omega)]) (fun p hp => ?_)
  have hq1 : ∀ k, k < 5000000000 → (p = k) = False := fun k hk => eq_false (by omega)
  have hq2 : ∀ k, k < 5000000000 → (k = p) = False := fun k hk => eq_false (by omega)
  have hq3 : ∀ k, k < 5000000000 → (k < p) = True := fun k hk => eq_true (by omega)
  have hq4 : ∀ k, k < 5000000000 → (p == k) = false := fun k hk => beq_eq_false_iff_ne.2 (by omega)
  have hq5 : ∀ k, k < 5000000000 → (k == p) = false := fun k hk => beq_eq_false_iff_ne.2 (by omega)
  simp (maxSteps := 4000000) +contextual (disch := first | exact lit_lt rfl | omega | exact qdb_ok (by kernel_rfl) | exact okb_ok (by kernel_rfl)) only [bw1,bw2,bw3,bw4,bw5,bw6,bc0,bc1,bc2,bc3,bc4,bc5,bc6,AV.isSlice,AV.rows,ps,pv,AV.dl,AV.cells?,AV.menc,AV.one,D.one,Value.oneCell',packA,↓reduceIte,reduceCtorEq,Nat.reduceAdd,Nat.reduceSub,List.reduceReplicate,Nat.reduceLeDiff,Nat.reduceLT,Nat.reduceBEq,Nat.reduceEqDiff,tfb,hq1,hq3,ps0,ps1,ps2,ps3,ps4,List.set_cons_succ,z33_52]
  refine loop_xu (O := O33) (tb := 33000) Ct33_ok hmix (by kernel_rfl) (σ := Nat × Rs) (fun y => [(15, .i y.1), (4, .i y.1), (8, .any), (9, .any)]) (fun y => [(32004, y.2.c)]) (fun y => y.1 ≤ l.length ∧ y.2.z.length = n ∧ y.2.ok (B + 480000 * y.1) ∧ plN' l (l.length - y.1) y.1 y.2 = pyR l s) (fun y => l.length - y.1) (0, s) ⟨by simp, hn, by simpa using hs, hw0⟩ ?_ ?_
  · simp (maxSteps := 4000000) +contextual (disch := first | exact lit_lt rfl | omega | exact qdb_ok (by kernel_rfl) | exact okb_ok (by kernel_rfl)) only [bw4,bw5,bw6,bc0,bc3,bc5,bc6,AV.isNilS,AV.isNoRows,wk,↓reduceIte,reduceCtorEq,Nat.reduceEqDiff,hq2,List.set_cons_succ,eq_self]
  rintro ⟨i, s1⟩ ⟨hi, hn1, hok, hw⟩
  dsimp only at hi hn1 hok hw ⊢
  by_cases hlt : i < l.length
  case neg =>
    have hlt' : ¬ (i : Int) < l.length := by omega
    have hil : i = l.length := by omega
    simp (maxSteps := 4000000) +contextual (disch := first | exact lit_lt rfl | omega | exact qdb_ok (by kernel_rfl) | exact okb_ok (by kernel_rfl)) only [bw1,bw2,bw3,bw5,bw6,bw7,bc0,bc1,bc2,bc3,bc4,bc5,bc6,isEqB,nilV,nilX,dclo,binIs,AV.dl,AV.cells?,AV.menc,AV.one,D.one,Value.oneCell',packA,↓reduceIte,reduceCtorEq,Nat.reduceAdd,Nat.reduceSub,List.reduceReplicate,Nat.reduceLeDiff,Nat.reduceBEq,Nat.reduceEqDiff,tfb,hq2,List.set_cons_succ,ds_r,ds_g,ds_y,eq_self, hlt']
    have hpy : pyR l s = (s1, i, 0) := by rw [← hw, hil, Nat.sub_self, plN']
    unfold Rp
    rw [hpy]
    exact ⟨rfl, fun _ => rfl, by simp [Sto.get, hq1], s1, rfl⟩
  have hlt' : (i : Int) < l.length := by omega
  obtain ⟨x, hx0⟩ : ∃ x, l.getD i default = x := ⟨_, rfl⟩
  have hx := hev x (by rw [← hx0, at_lt hlt]; exact List.getElem_mem _)
  have hn2 : (s1.z.length : Int) = n := by omega
  obtain ⟨kd, a⟩ := x
  obtain ⟨hk, haok⟩ := hx
  dsimp only at hk haok
  have hin0 : inB 0 0 ((n : Int) - 1) = true := inB_iff.2 (by omega)
  have hin1 : inB ((n : Int) - 1) 0 ((n : Int) - 1) = true := inB_iff.2 (by omega)
  rcases hk with rfl | rfl | rfl
  · have hin2 : inB 0 0 4 = true := by decide
    have hxo : (⟨0, a⟩ : Ev).ok := ⟨by simp, haok⟩
    have hrow : (l.map (Ev.c n)).getD i [] = [.i 0, .i 0, .i ((n : Int) - 1), .i a.lo, .i a.hi] := by rw [row_at' hlt, hx0]
    simp (maxSteps := 4000000) +contextual (disch := first | exact lit_lt rfl | omega | exact qdb_ok (by kernel_rfl) | exact okb_ok (by kernel_rfl)) only [bw1,bw2,bw3,bw4,bw5,bw6,bw7,bc0,bc1,bc2,bc3,bc4,bc5,bc6,binIs,addF,AV.isPtr,idxV,AV.isSl,AV.isSlice,AV.rows,ps,pv,AV.dl,AV.cells?,AV.menc,AV.one,D.one,Value.oneCell',packA,↓reduceIte,reduceCtorEq,Nat.reduceAdd,Nat.reduceSub,List.reduceReplicate,Nat.reduceLeDiff,Nat.reduceLT,Nat.reduceBEq,Nat.reduceEqDiff,Int.reduceEq,tfb,hq1,hq3,List.set_cons_succ,z33_54,O54_1,x54_20,x54_21,z33_53,z33_36,eq_self, hlt', hrow, hn1, hin0, hin1, hin2, haok]
    refine ⟨by omega, ?_⟩
    refine rng_cutZ (C := Ct33) Ct33_ok 1000033035 (σ := Rs) (fun _ => [(9, .any)]) (fun y => [(32004, y.c)]) (fun y => evN ⟨0, a⟩ n 0 s1 = (y, true) ∧ y.z.length = n ∧ y.ok (B + 480000 * ((i + 1 : Nat) : Int))) ?_ ?_
    · simp (maxSteps := 4000000) +contextual (disch := first | exact lit_lt rfl | omega | exact qdb_ok (by kernel_rfl) | exact okb_ok (by kernel_rfl)) only [bw1,bw2,bw3,bw5,bw6,bc0,bc2,bc3,bc4,bc5,bc6,↓reduceIte,reduceCtorEq,Nat.reduceAdd,Nat.reduceSub,List.reduceReplicate,Nat.reduceLeDiff,Nat.reduceLT,Nat.reduceBEq,Nat.reduceEqDiff,tfb,hq1,hq3,List.set_cons_succ,z33_55,eq_self]
      refine loop_xu (O := O55) (tb := 55000) Cy33_55_ok hmix (by kernel_rfl) (σ := Nat × Rs) (fun y => [(5, .i y.1)]) (fun y => [(32004, y.2.c)]) (fun y => y.1 ≤ n ∧ y.2.z.length = n ∧ y.2.ok (B + 480000 * i + 20000 * y.1) ∧ evN ⟨0, a⟩ (n - y.1) y.1 y.2 = evN ⟨0, a⟩ n 0 s1) (fun y => n - y.1) (0, s1) ⟨by simp, hn1, by simpa using hok, rfl⟩ ?_ ?_
      · simp (maxSteps := 4000000) +contextual (disch := first | exact lit_lt rfl | omega | exact qdb_ok (by kernel_rfl) | exact okb_ok (by kernel_rfl)) only [bw4,bw5,bw6,bc0,bc3,bc5,bc6,AV.isNilS,AV.isNoRows,wk,↓reduceIte,reduceCtorEq,Nat.reduceEqDiff,hq2,List.set_cons_succ,eq_self]
      rintro ⟨j, s2⟩ ⟨hj, hm1, hok2, hw2⟩
      dsimp only at hj hm1 hok2 hw2 ⊢
      have hm2 : (s2.z.length : Int) = n := by omega
      by_cases hjt : j < n
      case neg =>
        have hjt' : ¬ (j : Int) ≤ (n : Int) - 1 := by omega
        have hjn : j = n := by omega
        simp (maxSteps := 4000000) +contextual (disch := first | exact lit_lt rfl | omega | exact qdb_ok (by kernel_rfl) | exact okb_ok (by kernel_rfl)) only [bw1,bw2,bw3,bw4,bw5,bw6,bw7,bc0,bc1,bc2,bc3,bc4,bc5,bc6,AV.isNilS,AV.isNoRows,wk,binIs,↓reduceIte,reduceCtorEq,Nat.reduceAdd,Nat.reduceLeDiff,Nat.reduceBEq,Nat.reduceEqDiff,tfb,hq1,hq2,List.set_cons_succ,eq_self, hjt']
        rw [hjn, Nat.sub_self, evN] at hw2
        exact ⟨s2, ⟨hw2.symm, hm1, hok2.up (by push_cast; omega)⟩, rfl, rfl, rfl, rfl, rfl, rfl, rfl⟩
      have hjt' : (j : Int) ≤ (n : Int) - 1 := by omega
      have hz := hok2.nth (i := j) (by omega)
      have hzr : (s2.z.map Zo.c).getD j [] = Zo.c (s2.z.getD j default) := Go.E.row_at (by omega)
      have hgs := fun v => set_at (l := s2.z.map Zo.c) (j := j) (by rw [List.length_map]; omega) v
      have hkn : Int.toNat 0 * 1 = 0 := rfl
      have hsm1 := inP_sm hz (by decide)
      have hsm2 := inP_sm (ok_in haok) (by decide)
      have hsm3 := inP_sm hok2.fz (by omega)
      have hsm4 := inP_sm hok2.pl (by omega)
      have hsm5 := inP_sm hok2.wo (by omega)
      have hsm6 := inP_sm (taken_in hz (ok_in haok)) (by decide)
      by_cases hb : ((s2.z.getD j default).ice.more a).hi ≤ 20000
      case neg =>
        have hb' : bZ ⟨0, a⟩ s2 j = true := by
          unfold bZ Pn.more at *; simp at hb ⊢; omega
        have hpy : pyR l s = (sZ ⟨0, a⟩ s2 j, i, 12) := by rw [← hw]; exact plN_bad hlt hx0 hn1 (by rw [← hw2]; exact evN_bad hjt hb')
        simp (maxSteps := 4000000) +contextual (disch := first | exact lit_lt rfl | omega | exact qdb_ok (by kernel_rfl) | exact okb_ok (by kernel_rfl)) only [bw1,bw2,bw3,bw4,bw5,bw6,bw7,bc0,bc1,bc2,bc3,bc4,bc5,bc6,setPs,ifV,isEqB,nilV,nilX,dclo,datOf,binIs,addF,AV.isPtr,idxV,AV.isSl,AV.rows,ps,pv,extV,extS,AV.dl,AV.cells?,AV.upr,AV.menc,AV.one,D.one,Value.oneCell',asrtS,AV.dcells,D.cells?,packA,D.val?,↓reduceIte,reduceCtorEq,Nat.reduceAdd,Nat.reduceSub,List.reduceReplicate,Nat.reduceLeDiff,Nat.reduceLT,Nat.reduceBEq,Nat.reduceEqDiff,Int.reduceLE,tfb,rx_p,qd_RX,rgx_p,zj_c,hq1,hq2,List.set_cons_zero,List.set_cons_succ,ds_p,ds_g,ds_y,O33_11,O62_1,O62_2,x62_27,z62_53,z33o_62,yy33_55_35,eq_self, hjt', hm1, hzr, hgs, hkn, List.getD_cons_succ, hsm1, hsm2, hsm3, hb]
        refine ⟨⟨by omega, by omega⟩, by decide, ?_⟩
        unfold Rp
        rw [hpy]
        refine ⟨rfl, fun h => absurd h (by simp), by simp [Sto.get, hq1], sZ ⟨0, a⟩ s2 j, ?_⟩
        rw [sZ0]
        simp [Sto.get, List.map_set]
      have hb' : bZ ⟨0, a⟩ s2 j = false := by
        unfold bZ Pn.more at *; simp at hb ⊢; omega
      simp (maxSteps := 4000000) +contextual (disch := first | exact lit_lt rfl | omega | exact qdb_ok (by kernel_rfl) | exact okb_ok (by kernel_rfl)) only [bw1,bw2,bw3,bw4,bw5,bw6,bw7,bc0,bc1,bc2,bc3,bc4,bc5,bc6,setPs,AV.isNilS,AV.isNoRows,wk,binIs,addF,AV.isPtr,idxV,AV.isSl,AV.rows,ps,pv,AV.dl,AV.cells?,AV.upr,AV.menc,AV.one,D.one,Value.oneCell',AV.dcells,D.cells?,packA,↓reduceIte,reduceCtorEq,Nat.reduceAdd,Nat.reduceSub,List.reduceReplicate,Nat.reduceLeDiff,Nat.reduceLT,Nat.reduceBEq,Nat.reduceEqDiff,Int.reduceLE,tfb,rx_n,qd_RX,hq1,hq2,List.set_cons_zero,List.set_cons_succ,O33_11,O62_1,O62_2,x62_27,z62_53,z33o_62,yy33_55_35,eq_self, hjt', hm1, hzr, hgs, hkn, List.getD_cons_succ, hsm1, hsm2, hsm3, hb]
      refine ⟨⟨by omega, by omega⟩, by decide, ?_⟩
      refine ⟨(j + 1, sZ ⟨0, a⟩ s2 j), ⟨⟨by dsimp only; omega, by dsimp only; rw [sZ_len]; exact hm1, (sZ_ok hxo hok2 (by omega) hb').up (by push_cast; omega), by dsimp only; rw [← hw2, evN_go hjt hb']⟩, by dsimp only; omega⟩, rfl, ?_⟩
      dsimp only
      rw [sZ0]
      simp [List.map_set]
    intro y ⟨hy1, hy2, hy3⟩
    simp (maxSteps := 4000000) +contextual (disch := first | exact lit_lt rfl | omega | exact qdb_ok (by kernel_rfl) | exact okb_ok (by kernel_rfl)) only [bw1,bw2,bw5,bw6,bw7,bc0,bc1,bc3,bc4,bc5,bc6,AV.isNilS,AV.isNoRows,wk,binIs,↓reduceIte,reduceCtorEq,Nat.reduceEqDiff,tfb,hq2,List.set_cons_succ,eq_self]
    exact ⟨(i + 1, y), ⟨⟨by dsimp only; omega, hy2, hy3, by dsimp only; rw [← hw]; exact (plN_go hlt hx0 hn1 hy1).symm⟩, by dsimp only; omega⟩, rfl, rfl, rfl, rfl, rfl, rfl, rfl, rfl⟩
  · have hin2 : inB 1 0 4 = true := by decide
    have hxo : (⟨1, a⟩ : Ev).ok := ⟨by simp, haok⟩
    have hrow : (l.map (Ev.c n)).getD i [] = [.i 1, .i 0, .i ((n : Int) - 1), .i a.lo, .i a.hi] := by rw [row_at' hlt, hx0]
    simp (maxSteps := 4000000) +contextual (disch := first | exact lit_lt rfl | omega | exact qdb_ok (by kernel_rfl) | exact okb_ok (by kernel_rfl)) only [bw1,bw2,bw3,bw4,bw5,bw6,bw7,bc0,bc1,bc2,bc3,bc4,bc5,bc6,binIs,addF,AV.isPtr,idxV,AV.isSl,AV.isSlice,AV.rows,ps,pv,AV.dl,AV.cells?,AV.menc,AV.one,D.one,Value.oneCell',packA,↓reduceIte,reduceCtorEq,Nat.reduceAdd,Nat.reduceSub,List.reduceReplicate,Nat.reduceLeDiff,Nat.reduceLT,Nat.reduceBEq,Nat.reduceEqDiff,Int.reduceEq,tfb,hq1,hq3,List.set_cons_succ,z33_54,O54_1,x54_20,x54_21,z33_53,z33_36,eq_self, hlt', hrow, hn1, hin0, hin1, hin2, haok]
    refine ⟨by omega, ?_⟩
    refine rng_cutZ (C := Ct33) Ct33_ok 1000033035 (σ := Rs) (fun _ => [(9, .any)]) (fun y => [(32004, y.c)]) (fun y => evN ⟨1, a⟩ n 0 s1 = (y, true) ∧ y.z.length = n ∧ y.ok (B + 480000 * ((i + 1 : Nat) : Int))) ?_ ?_
    · simp (maxSteps := 4000000) +contextual (disch := first | exact lit_lt rfl | omega | exact qdb_ok (by kernel_rfl) | exact okb_ok (by kernel_rfl)) only [bw1,bw2,bw3,bw5,bw6,bc0,bc2,bc3,bc4,bc5,bc6,↓reduceIte,reduceCtorEq,Nat.reduceAdd,Nat.reduceSub,List.reduceReplicate,Nat.reduceLeDiff,Nat.reduceLT,Nat.reduceBEq,Nat.reduceEqDiff,tfb,hq1,hq3,List.set_cons_succ,z33_55,eq_self]
      refine loop_xu (O := O55) (tb := 55000) Cy33_55_ok hmix (by kernel_rfl) (σ := Nat × Rs) (fun y => [(5, .i y.1)]) (fun y => [(32004, y.2.c)]) (fun y => y.1 ≤ n ∧ y.2.z.length = n ∧ y.2.ok (B + 480000 * i + 20000 * y.1) ∧ evN ⟨1, a⟩ (n - y.1) y.1 y.2 = evN ⟨1, a⟩ n 0 s1) (fun y => n - y.1) (0, s1) ⟨by simp, hn1, by simpa using hok, rfl⟩ ?_ ?_
      · simp (maxSteps := 4000000) +contextual (disch := first | exact lit_lt rfl | omega | exact qdb_ok (by kernel_rfl) | exact okb_ok (by kernel_rfl)) only [bw4,bw5,bw6,bc0,bc3,bc5,bc6,AV.isNilS,AV.isNoRows,wk,↓reduceIte,reduceCtorEq,Nat.reduceEqDiff,hq2,List.set_cons_succ,eq_self]
      rintro ⟨j, s2⟩ ⟨hj, hm1, hok2, hw2⟩
      dsimp only at hj hm1 hok2 hw2 ⊢
      have hm2 : (s2.z.length : Int) = n := by omega
      by_cases hjt : j < n
      case neg =>
        have hjt' : ¬ (j : Int) ≤ (n : Int) - 1 := by omega
        have hjn : j = n := by omega
        simp (maxSteps := 4000000) +contextual (disch := first | exact lit_lt rfl | omega | exact qdb_ok (by kernel_rfl) | exact okb_ok (by kernel_rfl)) only [bw1,bw2,bw3,bw4,bw5,bw6,bw7,bc0,bc1,bc2,bc3,bc4,bc5,bc6,AV.isNilS,AV.isNoRows,wk,binIs,↓reduceIte,reduceCtorEq,Nat.reduceAdd,Nat.reduceLeDiff,Nat.reduceBEq,Nat.reduceEqDiff,tfb,hq1,hq2,List.set_cons_succ,eq_self, hjt']
        rw [hjn, Nat.sub_self, evN] at hw2
        exact ⟨s2, ⟨hw2.symm, hm1, hok2.up (by push_cast; omega)⟩, rfl, rfl, rfl, rfl, rfl, rfl, rfl⟩
      have hjt' : (j : Int) ≤ (n : Int) - 1 := by omega
      have hz := hok2.nth (i := j) (by omega)
      have hzr : (s2.z.map Zo.c).getD j [] = Zo.c (s2.z.getD j default) := Go.E.row_at (by omega)
      have hgs := fun v => set_at (l := s2.z.map Zo.c) (j := j) (by rw [List.length_map]; omega) v
      have hkn : Int.toNat 1 * 1 = 1 := rfl
      have hsm1 := inP_sm hz (by decide)
      have hsm2 := inP_sm (ok_in haok) (by decide)
      have hsm3 := inP_sm hok2.fz (by omega)
      have hsm4 := inP_sm hok2.pl (by omega)
      have hsm5 := inP_sm hok2.wo (by omega)
      have hsm6 := inP_sm (taken_in hz (ok_in haok)) (by decide)
      have hb' : bZ ⟨1, a⟩ s2 j = false := by
        unfold bZ; simp
      simp (maxSteps := 4000000) +contextual (disch := first | exact lit_lt rfl | omega | exact qdb_ok (by kernel_rfl) | exact okb_ok (by kernel_rfl)) only [bw1,bw2,bw3,bw4,bw5,bw6,bw7,bc0,bc1,bc2,bc3,bc4,bc5,bc6,setPs,AV.isNilS,AV.isNoRows,wk,binIs,addF,AV.isPtr,idxV,AV.isSl,AV.rows,ps,pv,AV.dl,AV.cells?,AV.upr,AV.menc,AV.one,D.one,Value.oneCell',AV.dcells,D.cells?,packA,↓reduceIte,reduceCtorEq,Nat.reduceAdd,Nat.reduceSub,List.reduceReplicate,Nat.reduceLeDiff,Nat.reduceLT,Nat.reduceBEq,Nat.reduceEqDiff,Int.reduceLE,tfb,rx_n,qd_RX,hq1,hq2,List.set_cons_zero,List.set_cons_succ,O33_11,O63_1,x63_27,z63_64,O64_1,O64_2,x64_71,x64_26,z33o_63,yy33_55_35,eq_self, hjt', hm1, hzr, hkn, List.getD_cons_succ, hsm1, hsm2, hsm4, hsm6]
      refine ⟨⟨by omega, by omega⟩, by decide, ?_⟩
      refine ⟨(j + 1, sZ ⟨1, a⟩ s2 j), ⟨⟨by dsimp only; omega, by dsimp only; rw [sZ_len]; exact hm1, (sZ_ok hxo hok2 (by omega) hb').up (by push_cast; omega), by dsimp only; rw [← hw2, evN_go hjt hb']⟩, by dsimp only; omega⟩, rfl, ?_⟩
      dsimp only
      rw [sZ1]
      simp [List.map_set]
    intro y ⟨hy1, hy2, hy3⟩
    simp (maxSteps := 4000000) +contextual (disch := first | exact lit_lt rfl | omega | exact qdb_ok (by kernel_rfl) | exact okb_ok (by kernel_rfl)) only [bw1,bw2,bw5,bw6,bw7,bc0,bc1,bc3,bc4,bc5,bc6,AV.isNilS,AV.isNoRows,wk,binIs,↓reduceIte,reduceCtorEq,Nat.reduceEqDiff,tfb,hq2,List.set_cons_succ,eq_self]
    exact ⟨(i + 1, y), ⟨⟨by dsimp only; omega, hy2, hy3, by dsimp only; rw [← hw]; exact (plN_go hlt hx0 hn1 hy1).symm⟩, by dsimp only; omega⟩, rfl, rfl, rfl, rfl, rfl, rfl, rfl, rfl⟩
  · have hin2 : inB 2 0 4 = true := by decide
    have hxo : (⟨2, a⟩ : Ev).ok := ⟨by simp, haok⟩
    have hrow : (l.map (Ev.c n)).getD i [] = [.i 2, .i 0, .i ((n : Int) - 1), .i a.lo, .i a.hi] := by rw [row_at' hlt, hx0]
    simp (maxSteps := 4000000) +contextual (disch := first | exact lit_lt rfl | omega | exact qdb_ok (by kernel_rfl) | exact okb_ok (by kernel_rfl)) only [bw1,bw2,bw3,bw4,bw5,bw6,bw7,bc0,bc1,bc2,bc3,bc4,bc5,bc6,binIs,addF,AV.isPtr,idxV,AV.isSl,AV.isSlice,AV.rows,ps,pv,AV.dl,AV.cells?,AV.menc,AV.one,D.one,Value.oneCell',packA,↓reduceIte,reduceCtorEq,Nat.reduceAdd,Nat.reduceSub,List.reduceReplicate,Nat.reduceLeDiff,Nat.reduceLT,Nat.reduceBEq,Nat.reduceEqDiff,Int.reduceEq,tfb,hq1,hq3,List.set_cons_succ,z33_54,O54_1,x54_20,x54_21,z33_53,z33_36,eq_self, hlt', hrow, hn1, hin0, hin1, hin2, haok]
    refine ⟨by omega, ?_⟩
    refine rng_cutZ (C := Ct33) Ct33_ok 1000033035 (σ := Rs) (fun _ => [(9, .any)]) (fun y => [(32004, y.c)]) (fun y => evN ⟨2, a⟩ n 0 s1 = (y, true) ∧ y.z.length = n ∧ y.ok (B + 480000 * ((i + 1 : Nat) : Int))) ?_ ?_
    · simp (maxSteps := 4000000) +contextual (disch := first | exact lit_lt rfl | omega | exact qdb_ok (by kernel_rfl) | exact okb_ok (by kernel_rfl)) only [bw1,bw2,bw3,bw5,bw6,bc0,bc2,bc3,bc4,bc5,bc6,↓reduceIte,reduceCtorEq,Nat.reduceAdd,Nat.reduceSub,List.reduceReplicate,Nat.reduceLeDiff,Nat.reduceLT,Nat.reduceBEq,Nat.reduceEqDiff,tfb,hq1,hq3,List.set_cons_succ,z33_55,eq_self]
      refine loop_xu (O := O55) (tb := 55000) Cy33_55_ok hmix (by kernel_rfl) (σ := Nat × Rs) (fun y => [(5, .i y.1)]) (fun y => [(32004, y.2.c)]) (fun y => y.1 ≤ n ∧ y.2.z.length = n ∧ y.2.ok (B + 480000 * i + 20000 * y.1) ∧ evN ⟨2, a⟩ (n - y.1) y.1 y.2 = evN ⟨2, a⟩ n 0 s1) (fun y => n - y.1) (0, s1) ⟨by simp, hn1, by simpa using hok, rfl⟩ ?_ ?_
      · simp (maxSteps := 4000000) +contextual (disch := first | exact lit_lt rfl | omega | exact qdb_ok (by kernel_rfl) | exact okb_ok (by kernel_rfl)) only [bw4,bw5,bw6,bc0,bc3,bc5,bc6,AV.isNilS,AV.isNoRows,wk,↓reduceIte,reduceCtorEq,Nat.reduceEqDiff,hq2,List.set_cons_succ,eq_self]
      rintro ⟨j, s2⟩ ⟨hj, hm1, hok2, hw2⟩
      dsimp only at hj hm1 hok2 hw2 ⊢
      have hm2 : (s2.z.length : Int) = n := by omega
      by_cases hjt : j < n
      case neg =>
        have hjt' : ¬ (j : Int) ≤ (n : Int) - 1 := by omega
        have hjn : j = n := by omega
        simp (maxSteps := 4000000) +contextual (disch := first | exact lit_lt rfl | omega | exact qdb_ok (by kernel_rfl) | exact okb_ok (by kernel_rfl)) only [bw1,bw2,bw3,bw4,bw5,bw6,bw7,bc0,bc1,bc2,bc3,bc4,bc5,bc6,AV.isNilS,AV.isNoRows,wk,binIs,↓reduceIte,reduceCtorEq,Nat.reduceAdd,Nat.reduceLeDiff,Nat.reduceBEq,Nat.reduceEqDiff,tfb,hq1,hq2,List.set_cons_succ,eq_self, hjt']
        rw [hjn, Nat.sub_self, evN] at hw2
        exact ⟨s2, ⟨hw2.symm, hm1, hok2.up (by push_cast; omega)⟩, rfl, rfl, rfl, rfl, rfl, rfl, rfl⟩
      have hjt' : (j : Int) ≤ (n : Int) - 1 := by omega
      have hz := hok2.nth (i := j) (by omega)
      have hzr : (s2.z.map Zo.c).getD j [] = Zo.c (s2.z.getD j default) := Go.E.row_at (by omega)
      have hgs := fun v => set_at (l := s2.z.map Zo.c) (j := j) (by rw [List.length_map]; omega) v
      have hkn : Int.toNat 2 * 1 = 2 := rfl
      have hsm1 := inP_sm hz (by decide)
      have hsm2 := inP_sm (ok_in haok) (by decide)
      have hsm3 := inP_sm hok2.fz (by omega)
      have hsm4 := inP_sm hok2.pl (by omega)
      have hsm5 := inP_sm hok2.wo (by omega)
      have hsm6 := inP_sm (taken_in hz (ok_in haok)) (by decide)
      have hb' : bZ ⟨2, a⟩ s2 j = false := by
        unfold bZ; simp
      simp (maxSteps := 4000000) +contextual (disch := first | exact lit_lt rfl | omega | exact qdb_ok (by kernel_rfl) | exact okb_ok (by kernel_rfl)) only [bw1,bw2,bw3,bw4,bw5,bw6,bw7,bc0,bc1,bc2,bc3,bc4,bc5,bc6,setPs,AV.isNilS,AV.isNoRows,wk,binIs,addF,AV.isPtr,idxV,AV.isSl,AV.rows,ps,pv,AV.dl,AV.cells?,AV.upr,AV.menc,AV.one,D.one,Value.oneCell',AV.dcells,D.cells?,packA,↓reduceIte,reduceCtorEq,Nat.reduceAdd,Nat.reduceSub,List.reduceReplicate,Nat.reduceLeDiff,Nat.reduceLT,Nat.reduceBEq,Nat.reduceEqDiff,Int.reduceLE,tfb,rx_n,qd_RX,hq1,hq2,List.set_cons_zero,List.set_cons_succ,O33_11,O64_1,O64_2,x64_71,x64_26,O65_1,x65_27,z65_64,z33o_65,yy33_55_35,eq_self, hjt', hm1, hzr, hkn, List.getD_cons_succ, hsm1, hsm2, hsm5, hsm6]
      refine ⟨⟨by omega, by omega⟩, by decide, ?_⟩
      refine ⟨(j + 1, sZ ⟨2, a⟩ s2 j), ⟨⟨by dsimp only; omega, by dsimp only; rw [sZ_len]; exact hm1, (sZ_ok hxo hok2 (by omega) hb').up (by push_cast; omega), by dsimp only; rw [← hw2, evN_go hjt hb']⟩, by dsimp only; omega⟩, rfl, ?_⟩
      dsimp only
      rw [sZ2]
      simp [List.map_set]
    intro y ⟨hy1, hy2, hy3⟩
    simp (maxSteps := 4000000) +contextual (disch := first | exact lit_lt rfl | omega | exact qdb_ok (by kernel_rfl) | exact okb_ok (by kernel_rfl)) only [bw1,bw2,bw5,bw6,bw7,bc0,bc1,bc3,bc4,bc5,bc6,AV.isNilS,AV.isNoRows,wk,binIs,↓reduceIte,reduceCtorEq,Nat.reduceEqDiff,tfb,hq2,List.set_cons_succ,eq_self]
    exact ⟨(i + 1, y), ⟨⟨by dsimp only; omega, hy2, hy3, by dsimp only; rw [← hw]; exact (plN_go hlt hx0 hn1 hy1).symm⟩, by dsimp only; omega⟩, rfl, rfl, rfl, rfl, rfl, rfl, rfl, rfl⟩
end Go.Proofs.Ytofbbkacihnjdaa.Ic
