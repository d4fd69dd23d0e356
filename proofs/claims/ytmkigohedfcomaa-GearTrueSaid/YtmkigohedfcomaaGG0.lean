/- A part of the proof that the last text ends: what functions of the program do, told by plain data. -/
import Derived.Test.YtmkigohedfcomaaGF
set_option linter.unusedVariables false
set_option linter.unusedSimpArgs false
namespace Go.Proofs.Ytmkigohedfcomaa
open Go Go.E
set_option maxRecDepth 100000
def O41 : Nat → Sch := fun id => .done
theorem ho41 : Try.f41.body.map (okO O41) = some true := by kernel_rfl
def Cf41 : Nat → List AV → (AV → List AV → Sto → Prop) → Kt → List AV → Sto → Prop := fun f args K Q e s => match f with
  | _ => False
def Ct41 : CT := { f := Cf41, y := noYld, z := fun d => false }
theorem ctz41 {d : Nat} : CT.z Ct41 d = (false) := id rfl
theorem Ct41_ok : Ct41.ok Try.prog := ok_of_f (fun f args K Q e s h => by
  have h : Cf41 f args K Q e s := h
  unfold Cf41 at h; split at h
  · exact h.elim) (fun _ _ _ _ _ _ _ _ _ h => h)
theorem c41 : callable Try.prog 41 = true := by kernel_rfl
def O39 : Nat → Sch := fun id => .done
theorem ho39 : Try.f39.body.map (okO O39) = some true := by kernel_rfl
def Cf39 : Nat → List AV → (AV → List AV → Sto → Prop) → Kt → List AV → Sto → Prop := fun f args K Q e s => match f with
  | _ => False
def Ct39 : CT := { f := Cf39, y := noYld, z := fun d => false }
theorem ctz39 {d : Nat} : CT.z Ct39 d = (false) := id rfl
theorem Ct39_ok : Ct39.ok Try.prog := ok_of_f (fun f args K Q e s h => by
  have h : Cf39 f args K Q e s := h
  unfold Cf39 at h; split at h
  · exact h.elim) (fun _ _ _ _ _ _ _ _ _ h => h)
theorem c39 : callable Try.prog 39 = true := by kernel_rfl
def O40 : Nat → Sch := fun id => .done
theorem ho40 : Try.f40.body.map (okO O40) = some true := by kernel_rfl
def Cf40 : Nat → List AV → (AV → List AV → Sto → Prop) → Kt → List AV → Sto → Prop := fun f args K Q e s => match f with
  | 26 => ent26 args K e s
  | 41 => inlE Try.prog Ct41 O41 41000 41 args K Q e s
  | _ => False
def Ct40 : CT := { f := Cf40, y := noYld, z := fun d => false }
theorem ctz40 {d : Nat} : CT.z Ct40 d = (false) := id rfl
theorem Ct40_ok : Ct40.ok Try.prog := ok_of_f (fun f args K Q e s h => by
  have h : Cf40 f args K Q e s := h
  unfold Cf40 at h; split at h
  · exact ent26_ok h
  · exact inlE_ok Ct41_ok hmix ho41 h
  · exact h.elim) (fun _ _ _ _ _ _ _ _ _ h => h)
theorem x40_26 {n : Int} {lo : Int} {hi : Int} {KK : AV → List AV → Sto → Prop} {QQ : Kt} {ii : At KK} {jj : At QQ} {ee : List AV} {ss : Sto} : xC Ct40 26 [.d (.i n), .d (.i lo), .d (.i hi)] KK QQ ii jj ee ss = (KK (.d (.b (decide (lo ≤ n) && decide (n ≤ hi)))) ee ss) := eq26
theorem z40_41 : type_of% (@xinl Try.prog Ct40 Ct41 O41 41000 41 _ _ _ _ rfl c41 Try.func41 rfl Try.ntmps41 Try.results41) := @xinl Try.prog Ct40 Ct41 O41 41000 41 _ _ _ _ rfl c41 Try.func41 rfl Try.ntmps41 Try.results41
theorem c40 : callable Try.prog 40 = true := by kernel_rfl
def O62 : Nat → Sch := fun id => if id = 1 then .one 0 (.one 1 (.one 2 (.one 3 (.one 4 (.one 5 (.one 6 (.one 7 (.one 8 (.one 9 (.one 10 (.one 11 (.done)))))))))))) else .done
theorem O62_1 : O62 1 = .one 0 (.one 1 (.one 2 (.one 3 (.one 4 (.one 5 (.one 6 (.one 7 (.one 8 (.one 9 (.one 10 (.one 11 (.done)))))))))))) := rfl
theorem ho62 : Try.f62.body.map (okO O62) = some true := by kernel_rfl
def Cf62 : Nat → List AV → (AV → List AV → Sto → Prop) → Kt → List AV → Sto → Prop := fun f args K Q e s => match f with
  | _ => False
def Ct62 : CT := { f := Cf62, y := noYld, z := fun d => false }
theorem ctz62 {d : Nat} : CT.z Ct62 d = (false) := id rfl
theorem Ct62_ok : Ct62.ok Try.prog := ok_of_f (fun f args K Q e s h => by
  have h : Cf62 f args K Q e s := h
  unfold Cf62 at h; split at h
  · exact h.elim) (fun _ _ _ _ _ _ _ _ _ h => h)
theorem c62 : callable Try.prog 62 = true := by kernel_rfl
def O67 : Nat → Sch := fun id => .done
theorem ho67 : Try.f67.body.map (okO O67) = some true := by kernel_rfl
def Cf67 : Nat → List AV → (AV → List AV → Sto → Prop) → Kt → List AV → Sto → Prop := fun f args K Q e s => match f with
  | 41 => inlE Try.prog Ct41 O41 41000 41 args K Q e s
  | _ => False
def Ct67 : CT := { f := Cf67, y := noYld, z := fun d => false }
theorem ctz67 {d : Nat} : CT.z Ct67 d = (false) := id rfl
theorem Ct67_ok : Ct67.ok Try.prog := ok_of_f (fun f args K Q e s h => by
  have h : Cf67 f args K Q e s := h
  unfold Cf67 at h; split at h
  · exact inlE_ok Ct41_ok hmix ho41 h
  · exact h.elim) (fun _ _ _ _ _ _ _ _ _ h => h)
theorem z67_41 : type_of% (@xinl Try.prog Ct67 Ct41 O41 41000 41 _ _ _ _ rfl c41 Try.func41 rfl Try.ntmps41 Try.results41) := @xinl Try.prog Ct67 Ct41 O41 41000 41 _ _ _ _ rfl c41 Try.func41 rfl Try.ntmps41 Try.results41
theorem c67 : callable Try.prog 67 = true := by kernel_rfl
def O64 : Nat → Sch := fun id => .done
theorem ho64 : Try.f64.body.map (okO O64) = some true := by kernel_rfl
def Cf64 : Nat → List AV → (AV → List AV → Sto → Prop) → Kt → List AV → Sto → Prop := fun f args K Q e s => match f with
  | 41 => inlE Try.prog Ct41 O41 41000 41 args K Q e s
  | 67 => inlE Try.prog Ct67 O67 67000 67 args K Q e s
  | _ => False
def Ct64 : CT := { f := Cf64, y := noYld, z := fun d => false }
theorem ctz64 {d : Nat} : CT.z Ct64 d = (false) := id rfl
theorem Ct64_ok : Ct64.ok Try.prog := ok_of_f (fun f args K Q e s h => by
  have h : Cf64 f args K Q e s := h
  unfold Cf64 at h; split at h
  · exact inlE_ok Ct41_ok hmix ho41 h
  · exact inlE_ok Ct67_ok hmix ho67 h
  · exact h.elim) (fun _ _ _ _ _ _ _ _ _ h => h)
theorem z64_67 : type_of% (@xinl Try.prog Ct64 Ct67 O67 67000 67 _ _ _ _ rfl c67 Try.func67 rfl Try.ntmps67 Try.results67) := @xinl Try.prog Ct64 Ct67 O67 67000 67 _ _ _ _ rfl c67 Try.func67 rfl Try.ntmps67 Try.results67
theorem z64_41 : type_of% (@xinl Try.prog Ct64 Ct41 O41 41000 41 _ _ _ _ rfl c41 Try.func41 rfl Try.ntmps41 Try.results41) := @xinl Try.prog Ct64 Ct41 O41 41000 41 _ _ _ _ rfl c41 Try.func41 rfl Try.ntmps41 Try.results41
theorem c64 : callable Try.prog 64 = true := by kernel_rfl
def O61 : Nat → Sch := fun id => if id = 2 then .one 0 (.one 1 (.one 2 (.one 3 (.one 5 (.one 7 (.alt (.one 4 (.alt (.one 6 (.one 8 (.one 9 (.one 10 (.one 11 (.one 12 (.one 13 (.one 14 (.done))))))))) (.one 8 (.one 6 (.one 9 (.one 10 (.one 11 (.one 12 (.one 13 (.one 14 (.done))))))))))) (.alt (.one 6 (.alt (.one 4 (.one 8 (.one 9 (.one 10 (.one 11 (.one 12 (.one 13 (.one 14 (.done))))))))) (.one 8 (.one 9 (.alt (.one 4 (.one 10 (.one 11 (.one 12 (.one 13 (.one 14 (.done))))))) (.one 10 (.one 4 (.one 11 (.one 12 (.one 13 (.one 14 (.done)))))))))))) (.one 8 (.one 6 (.one 9 (.alt (.one 4 (.one 10 (.one 11 (.one 12 (.one 13 (.one 14 (.done))))))) (.one 10 (.one 4 (.one 11 (.one 12 (.one 13 (.one 14 (.done)))))))))))))))))) else .done
theorem O61_2 : O61 2 = .one 0 (.one 1 (.one 2 (.one 3 (.one 5 (.one 7 (.alt (.one 4 (.alt (.one 6 (.one 8 (.one 9 (.one 10 (.one 11 (.one 12 (.one 13 (.one 14 (.done))))))))) (.one 8 (.one 6 (.one 9 (.one 10 (.one 11 (.one 12 (.one 13 (.one 14 (.done))))))))))) (.alt (.one 6 (.alt (.one 4 (.one 8 (.one 9 (.one 10 (.one 11 (.one 12 (.one 13 (.one 14 (.done))))))))) (.one 8 (.one 9 (.alt (.one 4 (.one 10 (.one 11 (.one 12 (.one 13 (.one 14 (.done))))))) (.one 10 (.one 4 (.one 11 (.one 12 (.one 13 (.one 14 (.done)))))))))))) (.one 8 (.one 6 (.one 9 (.alt (.one 4 (.one 10 (.one 11 (.one 12 (.one 13 (.one 14 (.done))))))) (.one 10 (.one 4 (.one 11 (.one 12 (.one 13 (.one 14 (.done)))))))))))))))))) := rfl
theorem ho61 : Try.f61.body.map (okO O61) = some true := by kernel_rfl
def Cf61 : Nat → List AV → (AV → List AV → Sto → Prop) → Kt → List AV → Sto → Prop := fun f args K Q e s => match f with
  | 41 => inlE Try.prog Ct41 O41 41000 41 args K Q e s
  | 62 => inlE Try.prog Ct62 O62 62000 62 args K Q e s
  | _ => False
def Ct61 : CT := { f := Cf61, y := noYld, z := fun d => false }
theorem ctz61 {d : Nat} : CT.z Ct61 d = (false) := id rfl
theorem Ct61_ok : Ct61.ok Try.prog := ok_of_f (fun f args K Q e s h => by
  have h : Cf61 f args K Q e s := h
  unfold Cf61 at h; split at h
  · exact inlE_ok Ct41_ok hmix ho41 h
  · exact inlE_ok Ct62_ok hmix ho62 h
  · exact h.elim) (fun _ _ _ _ _ _ _ _ _ h => h)
theorem z61_41 : type_of% (@xinl Try.prog Ct61 Ct41 O41 41000 41 _ _ _ _ rfl c41 Try.func41 rfl Try.ntmps41 Try.results41) := @xinl Try.prog Ct61 Ct41 O41 41000 41 _ _ _ _ rfl c41 Try.func41 rfl Try.ntmps41 Try.results41
theorem z61_62 : type_of% (@xinl Try.prog Ct61 Ct62 O62 62000 62 _ _ _ _ rfl c62 Try.func62 rfl Try.ntmps62 Try.results62) := @xinl Try.prog Ct61 Ct62 O62 62000 62 _ _ _ _ rfl c62 Try.func62 rfl Try.ntmps62 Try.results62
theorem c61 : callable Try.prog 61 = true := by kernel_rfl
def O66 : Nat → Sch := fun id => .done
theorem ho66 : Try.f66.body.map (okO O66) = some true := by kernel_rfl
def Cf66 : Nat → List AV → (AV → List AV → Sto → Prop) → Kt → List AV → Sto → Prop := fun f args K Q e s => match f with
  | _ => False
def Ct66 : CT := { f := Cf66, y := noYld, z := fun d => false }
theorem ctz66 {d : Nat} : CT.z Ct66 d = (false) := id rfl
theorem Ct66_ok : Ct66.ok Try.prog := ok_of_f (fun f args K Q e s h => by
  have h : Cf66 f args K Q e s := h
  unfold Cf66 at h; split at h
  · exact h.elim) (fun _ _ _ _ _ _ _ _ _ h => h)
theorem c66 : callable Try.prog 66 = true := by kernel_rfl
def O68 : Nat → Sch := fun id => .done
theorem ho68 : Try.f68.body.map (okO O68) = some true := by kernel_rfl
def Cf68 : Nat → List AV → (AV → List AV → Sto → Prop) → Kt → List AV → Sto → Prop := fun f args K Q e s => match f with
  | 66 => inlE Try.prog Ct66 O66 66000 66 args K Q e s
  | _ => False
def Ct68 : CT := { f := Cf68, y := noYld, z := fun d => false }
theorem ctz68 {d : Nat} : CT.z Ct68 d = (false) := id rfl
theorem Ct68_ok : Ct68.ok Try.prog := ok_of_f (fun f args K Q e s h => by
  have h : Cf68 f args K Q e s := h
  unfold Cf68 at h; split at h
  · exact inlE_ok Ct66_ok hmix ho66 h
  · exact h.elim) (fun _ _ _ _ _ _ _ _ _ h => h)
theorem z68_66 : type_of% (@xinl Try.prog Ct68 Ct66 O66 66000 66 _ _ _ _ rfl c66 Try.func66 rfl Try.ntmps66 Try.results66) := @xinl Try.prog Ct68 Ct66 O66 66000 66 _ _ _ _ rfl c66 Try.func66 rfl Try.ntmps66 Try.results66
theorem c68 : callable Try.prog 68 = true := by kernel_rfl
def O65 : Nat → Sch := fun id => .done
theorem ho65 : Try.f65.body.map (okO O65) = some true := by kernel_rfl
def Cf65 : Nat → List AV → (AV → List AV → Sto → Prop) → Kt → List AV → Sto → Prop := fun f args K Q e s => match f with
  | 68 => inlE Try.prog Ct68 O68 68000 68 args K Q e s
  | _ => False
def Ct65 : CT := { f := Cf65, y := noYld, z := fun d => false }
theorem ctz65 {d : Nat} : CT.z Ct65 d = (false) := id rfl
theorem Ct65_ok : Ct65.ok Try.prog := ok_of_f (fun f args K Q e s h => by
  have h : Cf65 f args K Q e s := h
  unfold Cf65 at h; split at h
  · exact inlE_ok Ct68_ok hmix ho68 h
  · exact h.elim) (fun _ _ _ _ _ _ _ _ _ h => h)
theorem z65_68 : type_of% (@xinl Try.prog Ct65 Ct68 O68 68000 68 _ _ _ _ rfl c68 Try.func68 rfl Try.ntmps68 Try.results68) := @xinl Try.prog Ct65 Ct68 O68 68000 68 _ _ _ _ rfl c68 Try.func68 rfl Try.ntmps68 Try.results68
theorem c65 : callable Try.prog 65 = true := by kernel_rfl
def O63 : Nat → Sch := fun id => if id = 3 then .one 0 (.one 1 (.one 2 (.one 3 (.one 4 (.one 5 (.one 6 (.one 7 (.one 8 (.one 9 (.one 10 (.one 11 (.done)))))))))))) else .done
theorem O63_3 : O63 3 = .one 0 (.one 1 (.one 2 (.one 3 (.one 4 (.one 5 (.one 6 (.one 7 (.one 8 (.one 9 (.one 10 (.one 11 (.done)))))))))))) := rfl
theorem ho63 : Try.f63.body.map (okO O63) = some true := by kernel_rfl
def Cf63 : Nat → List AV → (AV → List AV → Sto → Prop) → Kt → List AV → Sto → Prop := fun f args K Q e s => match f with
  | 41 => inlE Try.prog Ct41 O41 41000 41 args K Q e s
  | 64 => inlE Try.prog Ct64 O64 64000 64 args K Q e s
  | 65 => inlE Try.prog Ct65 O65 65000 65 args K Q e s
  | _ => False
def Ct63 : CT := { f := Cf63, y := noYld, z := fun d => false }
theorem ctz63 {d : Nat} : CT.z Ct63 d = (false) := id rfl
theorem Ct63_ok : Ct63.ok Try.prog := ok_of_f (fun f args K Q e s h => by
  have h : Cf63 f args K Q e s := h
  unfold Cf63 at h; split at h
  · exact inlE_ok Ct41_ok hmix ho41 h
  · exact inlE_ok Ct64_ok hmix ho64 h
  · exact inlE_ok Ct65_ok hmix ho65 h
  · exact h.elim) (fun _ _ _ _ _ _ _ _ _ h => h)
theorem z63_64 : type_of% (@xinl Try.prog Ct63 Ct64 O64 64000 64 _ _ _ _ rfl c64 Try.func64 rfl Try.ntmps64 Try.results64) := @xinl Try.prog Ct63 Ct64 O64 64000 64 _ _ _ _ rfl c64 Try.func64 rfl Try.ntmps64 Try.results64
theorem z63_65 : type_of% (@xinl Try.prog Ct63 Ct65 O65 65000 65 _ _ _ _ rfl c65 Try.func65 rfl Try.ntmps65 Try.results65) := @xinl Try.prog Ct63 Ct65 O65 65000 65 _ _ _ _ rfl c65 Try.func65 rfl Try.ntmps65 Try.results65
theorem z63_41 : type_of% (@xinl Try.prog Ct63 Ct41 O41 41000 41 _ _ _ _ rfl c41 Try.func41 rfl Try.ntmps41 Try.results41) := @xinl Try.prog Ct63 Ct41 O41 41000 41 _ _ _ _ rfl c41 Try.func41 rfl Try.ntmps41 Try.results41
theorem c63 : callable Try.prog 63 = true := by kernel_rfl
def O69 : Nat → Sch := fun id => if id = 4 then .one 0 (.one 1 (.one 2 (.one 3 (.one 4 (.one 5 (.one 6 (.one 7 (.one 8 (.one 9 (.one 10 (.one 11 (.one 12 (.one 13 (.one 14 (.one 15 (.one 16 (.one 17 (.one 18 (.one 19 (.one 20 (.one 21 (.one 22 (.one 23 (.one 24 (.one 25 (.one 26 (.one 27 (.one 28 (.one 29 (.one 30 (.one 31 (.one 32 (.one 33 (.one 34 (.done))))))))))))))))))))))))))))))))))) else .done
theorem O69_4 : O69 4 = .one 0 (.one 1 (.one 2 (.one 3 (.one 4 (.one 5 (.one 6 (.one 7 (.one 8 (.one 9 (.one 10 (.one 11 (.one 12 (.one 13 (.one 14 (.one 15 (.one 16 (.one 17 (.one 18 (.one 19 (.one 20 (.one 21 (.one 22 (.one 23 (.one 24 (.one 25 (.one 26 (.one 27 (.one 28 (.one 29 (.one 30 (.one 31 (.one 32 (.one 33 (.one 34 (.done))))))))))))))))))))))))))))))))))) := rfl
theorem ho69 : Try.f69.body.map (okO O69) = some true := by kernel_rfl
def Cf69 : Nat → List AV → (AV → List AV → Sto → Prop) → Kt → List AV → Sto → Prop := fun f args K Q e s => match f with
  | 41 => inlE Try.prog Ct41 O41 41000 41 args K Q e s
  | 67 => inlE Try.prog Ct67 O67 67000 67 args K Q e s
  | _ => False
def Ct69 : CT := { f := Cf69, y := noYld, z := fun d => false }
theorem ctz69 {d : Nat} : CT.z Ct69 d = (false) := id rfl
theorem Ct69_ok : Ct69.ok Try.prog := ok_of_f (fun f args K Q e s h => by
  have h : Cf69 f args K Q e s := h
  unfold Cf69 at h; split at h
  · exact inlE_ok Ct41_ok hmix ho41 h
  · exact inlE_ok Ct67_ok hmix ho67 h
  · exact h.elim) (fun _ _ _ _ _ _ _ _ _ h => h)
theorem z69_67 : type_of% (@xinl Try.prog Ct69 Ct67 O67 67000 67 _ _ _ _ rfl c67 Try.func67 rfl Try.ntmps67 Try.results67) := @xinl Try.prog Ct69 Ct67 O67 67000 67 _ _ _ _ rfl c67 Try.func67 rfl Try.ntmps67 Try.results67
theorem z69_41 : type_of% (@xinl Try.prog Ct69 Ct41 O41 41000 41 _ _ _ _ rfl c41 Try.func41 rfl Try.ntmps41 Try.results41) := @xinl Try.prog Ct69 Ct41 O41 41000 41 _ _ _ _ rfl c41 Try.func41 rfl Try.ntmps41 Try.results41
theorem c69 : callable Try.prog 69 = true := by kernel_rfl
def O70 : Nat → Sch := fun id => if id = 2 then .one 0 (.one 1 (.one 2 (.one 3 (.one 4 (.one 5 (.one 6 (.one 7 (.one 8 (.one 9 (.one 10 (.one 11 (.one 12 (.one 13 (.one 14 (.one 15 (.one 16 (.done))))))))))))))))) else if id = 3 then .one 0 (.one 1 (.one 2 (.one 3 (.one 4 (.one 6 (.one 7 (.one 8 (.one 9 (.one 12 (.alt (.one 5 (.alt (.one 10 (.one 11 (.one 13 (.one 14 (.one 15 (.one 16 (.one 17 (.one 18 (.one 19 (.done)))))))))) (.one 13 (.one 10 (.one 11 (.one 14 (.one 15 (.one 16 (.one 17 (.one 18 (.one 19 (.done)))))))))))) (.alt (.one 10 (.alt (.one 5 (.one 11 (.one 13 (.one 14 (.one 15 (.one 16 (.one 17 (.one 18 (.one 19 (.done)))))))))) (.one 13 (.one 5 (.one 11 (.one 14 (.one 15 (.one 16 (.one 17 (.one 18 (.one 19 (.done)))))))))))) (.one 13 (.one 5 (.one 10 (.one 11 (.one 14 (.one 15 (.one 16 (.one 17 (.one 18 (.one 19 (.done)))))))))))))))))))))) else .done
theorem O70_2 : O70 2 = .one 0 (.one 1 (.one 2 (.one 3 (.one 4 (.one 5 (.one 6 (.one 7 (.one 8 (.one 9 (.one 10 (.one 11 (.one 12 (.one 13 (.one 14 (.one 15 (.one 16 (.done))))))))))))))))) := rfl
theorem O70_3 : O70 3 = .one 0 (.one 1 (.one 2 (.one 3 (.one 4 (.one 6 (.one 7 (.one 8 (.one 9 (.one 12 (.alt (.one 5 (.alt (.one 10 (.one 11 (.one 13 (.one 14 (.one 15 (.one 16 (.one 17 (.one 18 (.one 19 (.done)))))))))) (.one 13 (.one 10 (.one 11 (.one 14 (.one 15 (.one 16 (.one 17 (.one 18 (.one 19 (.done)))))))))))) (.alt (.one 10 (.alt (.one 5 (.one 11 (.one 13 (.one 14 (.one 15 (.one 16 (.one 17 (.one 18 (.one 19 (.done)))))))))) (.one 13 (.one 5 (.one 11 (.one 14 (.one 15 (.one 16 (.one 17 (.one 18 (.one 19 (.done)))))))))))) (.one 13 (.one 5 (.one 10 (.one 11 (.one 14 (.one 15 (.one 16 (.one 17 (.one 18 (.one 19 (.done)))))))))))))))))))))) := rfl
theorem ho70 : Try.f70.body.map (okO O70) = some true := by kernel_rfl
def Cf70 : Nat → List AV → (AV → List AV → Sto → Prop) → Kt → List AV → Sto → Prop := fun f args K Q e s => match f with
  | 41 => inlE Try.prog Ct41 O41 41000 41 args K Q e s
  | 62 => inlE Try.prog Ct62 O62 62000 62 args K Q e s
  | 64 => inlE Try.prog Ct64 O64 64000 64 args K Q e s
  | _ => False
def Ct70 : CT := { f := Cf70, y := noYld, z := fun d => false }
theorem ctz70 {d : Nat} : CT.z Ct70 d = (false) := id rfl
theorem Ct70_ok : Ct70.ok Try.prog := ok_of_f (fun f args K Q e s h => by
  have h : Cf70 f args K Q e s := h
  unfold Cf70 at h; split at h
  · exact inlE_ok Ct41_ok hmix ho41 h
  · exact inlE_ok Ct62_ok hmix ho62 h
  · exact inlE_ok Ct64_ok hmix ho64 h
  · exact h.elim) (fun _ _ _ _ _ _ _ _ _ h => h)
theorem z70_64 : type_of% (@xinl Try.prog Ct70 Ct64 O64 64000 64 _ _ _ _ rfl c64 Try.func64 rfl Try.ntmps64 Try.results64) := @xinl Try.prog Ct70 Ct64 O64 64000 64 _ _ _ _ rfl c64 Try.func64 rfl Try.ntmps64 Try.results64
theorem z70_41 : type_of% (@xinl Try.prog Ct70 Ct41 O41 41000 41 _ _ _ _ rfl c41 Try.func41 rfl Try.ntmps41 Try.results41) := @xinl Try.prog Ct70 Ct41 O41 41000 41 _ _ _ _ rfl c41 Try.func41 rfl Try.ntmps41 Try.results41
theorem z70_62 : type_of% (@xinl Try.prog Ct70 Ct62 O62 62000 62 _ _ _ _ rfl c62 Try.func62 rfl Try.ntmps62 Try.results62) := @xinl Try.prog Ct70 Ct62 O62 62000 62 _ _ _ _ rfl c62 Try.func62 rfl Try.ntmps62 Try.results62
theorem c70 : callable Try.prog 70 = true := by kernel_rfl
def O71 : Nat → Sch := fun id => .done
theorem ho71 : Try.f71.body.map (okO O71) = some true := by kernel_rfl
def Cf71 : Nat → List AV → (AV → List AV → Sto → Prop) → Kt → List AV → Sto → Prop := fun f args K Q e s => match f with
  | 64 => inlE Try.prog Ct64 O64 64000 64 args K Q e s
  | _ => False
def Ct71 : CT := { f := Cf71, y := noYld, z := fun d => false }
theorem ctz71 {d : Nat} : CT.z Ct71 d = (false) := id rfl
theorem Ct71_ok : Ct71.ok Try.prog := ok_of_f (fun f args K Q e s h => by
  have h : Cf71 f args K Q e s := h
  unfold Cf71 at h; split at h
  · exact inlE_ok Ct64_ok hmix ho64 h
  · exact h.elim) (fun _ _ _ _ _ _ _ _ _ h => h)
theorem z71_64 : type_of% (@xinl Try.prog Ct71 Ct64 O64 64000 64 _ _ _ _ rfl c64 Try.func64 rfl Try.ntmps64 Try.results64) := @xinl Try.prog Ct71 Ct64 O64 64000 64 _ _ _ _ rfl c64 Try.func64 rfl Try.ntmps64 Try.results64
theorem c71 : callable Try.prog 71 = true := by kernel_rfl
def O38 : Nat → Sch := fun id => if id = 5 then .one 0 (.alt (.one 1 (.one 2 (.one 3 (.done)))) (.one 2 (.one 1 (.one 3 (.done))))) else .done
theorem O38_5 : O38 5 = .one 0 (.alt (.one 1 (.one 2 (.one 3 (.done)))) (.one 2 (.one 1 (.one 3 (.done))))) := rfl
theorem ho38 : Try.f38.body.map (okO O38) = some true := by kernel_rfl
def Cf38 : Nat → List AV → (AV → List AV → Sto → Prop) → Kt → List AV → Sto → Prop := fun f args K Q e s => match f with
  | _ => False
def Ct38 : CT := { f := Cf38, y := noYld, z := fun d => false }
theorem ctz38 {d : Nat} : CT.z Ct38 d = (false) := id rfl
theorem Ct38_ok : Ct38.ok Try.prog := ok_of_f (fun f args K Q e s h => by
  have h : Cf38 f args K Q e s := h
  unfold Cf38 at h; split at h
  · exact h.elim) (fun _ _ _ _ _ _ _ _ _ h => h)
theorem c38 : callable Try.prog 38 = true := by kernel_rfl
end Go.Proofs.Ytmkigohedfcomaa
