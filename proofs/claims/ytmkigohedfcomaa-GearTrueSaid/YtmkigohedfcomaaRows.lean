/-
  No cell of these rows narrows 'for every input' (looked for: loops, veiled, ifaces, maps, wideKeys, modest, calm, conditions, laid).
  DERIVED. THE GIVEN ROWS OF THIS SEAT. 5 by the template 'for every input the law returns true; each argument reads behind the call as it read before'; 0 by the template 'total and deterministic' (their statements: YtmkigohedfcomaaTotals.lean).
  GIVEN WITH THE SEED: the statements are not yours to turn. If you find one false, say at which input.
  Laid BY PROGRAM, IN A SANDBOX (cutbox-rows.mjs): the forced cells as the released guide's own fill.sh prints them over the translation c1ef157a2c6212f8… (all of the seat's roots in one cut). By AI agents, Wed Nov 11 2026. No macro, syntax, notation, axiom, sorry.
-/
import Derived.Test.YtmkigohedfcomaaChecked
import GoSem.Claim
import GoSem.ClaimJoined
import GoSem.ClaimMapViews
import Derived.JoinedTies
import Derived.KernelRfl
namespace Go.Proofs.Ytmkigohedfcomaa
/- THE CELL 'sum', in the pinned program and in every row, IS THE sha256 OF THE DUMP (.gsa) THAT YtmkigohedfcomaaProg.lean LOADS. Nothing in Lean hashes anything: it is a label: what it is worth is what the hold of that sum in a sandbox is worth. -/
noncomputable def Try.pinned : Pinned := { name := "ytmkigohedfcomaa", sum := "c1ef157a2c6212f8e3d924cba09f8b354cf6d0f9e97f43d999172af9f778198c", checked := Try.checked }
namespace Rows
def none {H : Type} : Left H := { results := [], args := [] }

/-- 'icehalllaw12.GearPlays': WHATEVER THE INPUT: true; the input reads as it did. -/
def gearPlaysSpec : ChangeSpec := { name := "gearPlays", fn := fun _ => fun
  | [d1, d2, d3] => { results := [.lit (.bool true)], args := [d1, d2, d3] }
  | _ => none }
def gearPlaysRow : OpenClaim := { program := "ytmkigohedfcomaa", sum := "c1ef157a2c6212f8e3d924cba09f8b354cf6d0f9e97f43d999172af9f778198c", func := "icehall/icehalllaw12.GearPlays", spec := "gearPlays", unfollowed := true, recurses := true, plainKeys := false, apart := false }
def GearPlaysSaid : Prop := gearPlaysRow.holds Try.pinned (OpenSpec.ofChange gearPlaysSpec)

/-- ITS FALSE NEIGHBOUR: 'it returns false'. Refute it at one input. -/
def gearPlaysWrong : ChangeSpec := { name := "gearPlays", fn := fun _ => fun
  | [d1, d2, d3] => { results := [.lit (.bool false)], args := [d1, d2, d3] }
  | _ => none }
def GearPlaysWrongFalsely : Prop := gearPlaysRow.holds Try.pinned (OpenSpec.ofChange gearPlaysWrong)

/-- 'icehalllaw12.GearFits': WHATEVER THE INPUT: true; the input reads as it did. -/
def gearFitsSpec : ChangeSpec := { name := "gearFits", fn := fun _ => fun
  | [d1, d2, d3] => { results := [.lit (.bool true)], args := [d1, d2, d3] }
  | _ => none }
def gearFitsRow : OpenClaim := { program := "ytmkigohedfcomaa", sum := "c1ef157a2c6212f8e3d924cba09f8b354cf6d0f9e97f43d999172af9f778198c", func := "icehall/icehalllaw12.GearFits", spec := "gearFits", unfollowed := true, recurses := true, plainKeys := false, apart := false }
def GearFitsSaid : Prop := gearFitsRow.holds Try.pinned (OpenSpec.ofChange gearFitsSpec)

/-- ITS FALSE NEIGHBOUR: 'it returns false'. Refute it at one input. -/
def gearFitsWrong : ChangeSpec := { name := "gearFits", fn := fun _ => fun
  | [d1, d2, d3] => { results := [.lit (.bool false)], args := [d1, d2, d3] }
  | _ => none }
def GearFitsWrongFalsely : Prop := gearFitsRow.holds Try.pinned (OpenSpec.ofChange gearFitsWrong)

/-- 'icehalllaw12.GearTrue': WHATEVER THE INPUT: true; the input reads as it did. -/
def gearTrueSpec : ChangeSpec := { name := "gearTrue", fn := fun _ => fun
  | [d1, d2, d3] => { results := [.lit (.bool true)], args := [d1, d2, d3] }
  | _ => none }
def gearTrueRow : OpenClaim := { program := "ytmkigohedfcomaa", sum := "c1ef157a2c6212f8e3d924cba09f8b354cf6d0f9e97f43d999172af9f778198c", func := "icehall/icehalllaw12.GearTrue", spec := "gearTrue", unfollowed := true, recurses := true, plainKeys := false, apart := false }
def GearTrueSaid : Prop := gearTrueRow.holds Try.pinned (OpenSpec.ofChange gearTrueSpec)

/-- ITS FALSE NEIGHBOUR: 'it returns false'. Refute it at one input. -/
def gearTrueWrong : ChangeSpec := { name := "gearTrue", fn := fun _ => fun
  | [d1, d2, d3] => { results := [.lit (.bool false)], args := [d1, d2, d3] }
  | _ => none }
def GearTrueWrongFalsely : Prop := gearTrueRow.holds Try.pinned (OpenSpec.ofChange gearTrueWrong)

/-- 'icehalllaw12.GearLasts': WHATEVER THE INPUT: true; the input reads as it did. -/
def gearLastsSpec : ChangeSpec := { name := "gearLasts", fn := fun _ => fun
  | [d] => { results := [.lit (.bool true)], args := [d] }
  | _ => none }
def gearLastsRow : OpenClaim := { program := "ytmkigohedfcomaa", sum := "c1ef157a2c6212f8e3d924cba09f8b354cf6d0f9e97f43d999172af9f778198c", func := "icehall/icehalllaw12.GearLasts", spec := "gearLasts", unfollowed := true, recurses := true, plainKeys := false, apart := false }
def GearLastsSaid : Prop := gearLastsRow.holds Try.pinned (OpenSpec.ofChange gearLastsSpec)

/-- ITS FALSE NEIGHBOUR: 'it returns false'. Refute it at one input. -/
def gearLastsWrong : ChangeSpec := { name := "gearLasts", fn := fun _ => fun
  | [d] => { results := [.lit (.bool false)], args := [d] }
  | _ => none }
def GearLastsWrongFalsely : Prop := gearLastsRow.holds Try.pinned (OpenSpec.ofChange gearLastsWrong)

/-- 'icehalllaw12.GearParts': WHATEVER THE INPUT: true; the input reads as it did. -/
def gearPartsSpec : ChangeSpec := { name := "gearParts", fn := fun _ => fun
  | [d1, d2, d3, d4] => { results := [.lit (.bool true)], args := [d1, d2, d3, d4] }
  | _ => none }
def gearPartsRow : OpenClaim := { program := "ytmkigohedfcomaa", sum := "c1ef157a2c6212f8e3d924cba09f8b354cf6d0f9e97f43d999172af9f778198c", func := "icehall/icehalllaw12.GearParts", spec := "gearParts", unfollowed := true, recurses := true, plainKeys := false, apart := false }
def GearPartsSaid : Prop := gearPartsRow.holds Try.pinned (OpenSpec.ofChange gearPartsSpec)

/-- ITS FALSE NEIGHBOUR: 'it returns false'. Refute it at one input. -/
def gearPartsWrong : ChangeSpec := { name := "gearParts", fn := fun _ => fun
  | [d1, d2, d3, d4] => { results := [.lit (.bool false)], args := [d1, d2, d3, d4] }
  | _ => none }
def GearPartsWrongFalsely : Prop := gearPartsRow.holds Try.pinned (OpenSpec.ofChange gearPartsWrong)

/- THE SECOND FORM. 'bulk': how many values and letters a reading holds, each counted each time it is reached (what is shared counts as often as it is met; a slice's spare places count too). A statement '..UptoSaid' is the law's where the arguments, and the package variables that the reading takes, are together of bulk at most 1048576: NARROWER than '..Said'. Prove '..Said' where nothing that the law and all that it calls make is longer than what came in: it says more and counts as full. Else prove '..UptoSaid'. A law counts once. -/
mutual
def uptoBulk {H : Type} : DataW H → Nat
  | .lit (.string bytes) => bytes.length + 1
  | .lit _ => 1
  | .nil => 1
  | .ptr d => uptoBulk d + 1
  | .slice elems spare => uptoBulkAll elems + uptoBulkAll spare + 1
  | .agg parts => uptoBulkAll parts + 1
  | .iface _ d => uptoBulk d + 1
  | .map entries => uptoBulkEntries entries + 1
  | .held _ => 1
def uptoBulkAll {H : Type} : List (DataW H) → Nat
  | [] => 0
  | d :: r => uptoBulk d + uptoBulkAll r
def uptoBulkEntries {H : Type} : List (Lit × DataW H) → Nat
  | [] => 0
  | x :: r => uptoBulkEntry x + uptoBulkEntries r
def uptoBulkEntry {H : Type} : Lit × DataW H → Nat
  | (.string bytes, d) => bytes.length + uptoBulk d + 1
  | (_, d) => uptoBulk d + 1
 end
def uptoSmall : (H : Type) → List (DataW H) → Bool := fun _ ds => decide (uptoBulkAll ds ≤ 1048576)
def OpenSpec.upto (s : _root_.Go.ChangeSpec) : _root_.Go.OpenSpec := { _root_.Go.OpenSpec.ofChange s with cond := some uptoSmall }

/-- 'icehalllaw12.GearPlays', WHERE WHAT IT READS IS OF BULK AT MOST 1048576: true; the input reads as it did. -/
def gearPlaysUptoRow : OpenClaim := { program := "ytmkigohedfcomaa", sum := "c1ef157a2c6212f8e3d924cba09f8b354cf6d0f9e97f43d999172af9f778198c", func := "icehall/icehalllaw12.GearPlays", spec := "gearPlays", unfollowed := true, recurses := true, plainKeys := false, apart := false, narrowed := true }
def GearPlaysUptoSaid : Prop := gearPlaysUptoRow.holds Try.pinned (OpenSpec.upto gearPlaysSpec)

/-- 'icehalllaw12.GearFits', WHERE WHAT IT READS IS OF BULK AT MOST 1048576: true; the input reads as it did. -/
def gearFitsUptoRow : OpenClaim := { program := "ytmkigohedfcomaa", sum := "c1ef157a2c6212f8e3d924cba09f8b354cf6d0f9e97f43d999172af9f778198c", func := "icehall/icehalllaw12.GearFits", spec := "gearFits", unfollowed := true, recurses := true, plainKeys := false, apart := false, narrowed := true }
def GearFitsUptoSaid : Prop := gearFitsUptoRow.holds Try.pinned (OpenSpec.upto gearFitsSpec)

/-- 'icehalllaw12.GearTrue', WHERE WHAT IT READS IS OF BULK AT MOST 1048576: true; the input reads as it did. -/
def gearTrueUptoRow : OpenClaim := { program := "ytmkigohedfcomaa", sum := "c1ef157a2c6212f8e3d924cba09f8b354cf6d0f9e97f43d999172af9f778198c", func := "icehall/icehalllaw12.GearTrue", spec := "gearTrue", unfollowed := true, recurses := true, plainKeys := false, apart := false, narrowed := true }
def GearTrueUptoSaid : Prop := gearTrueUptoRow.holds Try.pinned (OpenSpec.upto gearTrueSpec)

/-- 'icehalllaw12.GearLasts', WHERE WHAT IT READS IS OF BULK AT MOST 1048576: true; the input reads as it did. -/
def gearLastsUptoRow : OpenClaim := { program := "ytmkigohedfcomaa", sum := "c1ef157a2c6212f8e3d924cba09f8b354cf6d0f9e97f43d999172af9f778198c", func := "icehall/icehalllaw12.GearLasts", spec := "gearLasts", unfollowed := true, recurses := true, plainKeys := false, apart := false, narrowed := true }
def GearLastsUptoSaid : Prop := gearLastsUptoRow.holds Try.pinned (OpenSpec.upto gearLastsSpec)

/-- 'icehalllaw12.GearParts', WHERE WHAT IT READS IS OF BULK AT MOST 1048576: true; the input reads as it did. -/
def gearPartsUptoRow : OpenClaim := { program := "ytmkigohedfcomaa", sum := "c1ef157a2c6212f8e3d924cba09f8b354cf6d0f9e97f43d999172af9f778198c", func := "icehall/icehalllaw12.GearParts", spec := "gearParts", unfollowed := true, recurses := true, plainKeys := false, apart := false, narrowed := true }
def GearPartsUptoSaid : Prop := gearPartsUptoRow.holds Try.pinned (OpenSpec.upto gearPartsSpec)

end Rows
end Go.Proofs.Ytmkigohedfcomaa
