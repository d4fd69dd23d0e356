/-
  No cell of these rows narrows 'for every input' (looked for: loops, veiled, ifaces, maps, wideKeys, modest, calm, conditions, laid).
  DERIVED. THE GIVEN ROWS OF THIS SEAT. 8 by the template 'for every input the law returns true; each argument reads behind the call as it read before'; 0 by the template 'total and deterministic' (their statements: YtohkngiflfkjjaaTotals.lean).
  GIVEN WITH THE SEED: the statements are not yours to turn. If you find one false, say at which input.
  Laid BY PROGRAM, IN A SANDBOX (cutbox-rows.mjs): the forced cells as the released guide's own fill.sh prints them over the translation a5ff384edf8372f3… (all of the seat's roots in one cut). By AI agents, Wed Nov 11 2026. No macro, syntax, notation, axiom, sorry.
-/
import Derived.Test.YtohkngiflfkjjaaChecked
import GoSem.Claim
import GoSem.ClaimJoined
import GoSem.ClaimMapViews
import Derived.JoinedTies
import Derived.KernelRfl
namespace Go.Proofs.Ytohkngiflfkjjaa
/- THE CELL 'sum', in the pinned program and in every row, IS THE sha256 OF THE DUMP (.gsa) THAT YtohkngiflfkjjaaProg.lean LOADS. Nothing in Lean hashes anything: it is a label: what it is worth is what the hold of that sum in a sandbox is worth. -/
noncomputable def Try.pinned : Pinned := { name := "ytohkngiflfkjjaa", sum := "a5ff384edf8372f34027d706e5cfba5e451e7ece7f2ab6cbd8ed5566bdcd72bf", checked := Try.checked }
namespace Rows
def none {H : Type} : Left H := { results := [], args := [] }

/-- 'icehalltop.TopSheets': WHATEVER THE INPUT: true; the input reads as it did. -/
def topSheetsSpec : ChangeSpec := { name := "topSheets", fn := fun _ => fun
  | [d1, d2] => { results := [.lit (.bool true)], args := [d1, d2] }
  | _ => none }
def topSheetsRow : OpenClaim := { program := "ytohkngiflfkjjaa", sum := "a5ff384edf8372f34027d706e5cfba5e451e7ece7f2ab6cbd8ed5566bdcd72bf", func := "icehall/icehalltop.TopSheets", spec := "topSheets", unfollowed := true, recurses := true, plainKeys := false, apart := false }
def TopSheetsSaid : Prop := topSheetsRow.holds Try.pinned (OpenSpec.ofChange topSheetsSpec)

/-- ITS FALSE NEIGHBOUR: 'it returns false'. Refute it at one input. -/
def topSheetsWrong : ChangeSpec := { name := "topSheets", fn := fun _ => fun
  | [d1, d2] => { results := [.lit (.bool false)], args := [d1, d2] }
  | _ => none }
def TopSheetsWrongFalsely : Prop := topSheetsRow.holds Try.pinned (OpenSpec.ofChange topSheetsWrong)

/-- 'icehalllaw11.RosterPlays': WHATEVER THE INPUT: true; the input reads as it did. -/
def rosterPlaysSpec : ChangeSpec := { name := "rosterPlays", fn := fun _ => fun
  | [d] => { results := [.lit (.bool true)], args := [d] }
  | _ => none }
def rosterPlaysRow : OpenClaim := { program := "ytohkngiflfkjjaa", sum := "a5ff384edf8372f34027d706e5cfba5e451e7ece7f2ab6cbd8ed5566bdcd72bf", func := "icehall/icehalllaw11.RosterPlays", spec := "rosterPlays", unfollowed := true, recurses := true, plainKeys := false, apart := false }
def RosterPlaysSaid : Prop := rosterPlaysRow.holds Try.pinned (OpenSpec.ofChange rosterPlaysSpec)

/-- ITS FALSE NEIGHBOUR: 'it returns false'. Refute it at one input. -/
def rosterPlaysWrong : ChangeSpec := { name := "rosterPlays", fn := fun _ => fun
  | [d] => { results := [.lit (.bool false)], args := [d] }
  | _ => none }
def RosterPlaysWrongFalsely : Prop := rosterPlaysRow.holds Try.pinned (OpenSpec.ofChange rosterPlaysWrong)

/-- 'icehalllaw11.RosterAsks': WHATEVER THE INPUT: true; the input reads as it did. -/
def rosterAsksSpec : ChangeSpec := { name := "rosterAsks", fn := fun _ => fun
  | [d1, d2, d3, d4] => { results := [.lit (.bool true)], args := [d1, d2, d3, d4] }
  | _ => none }
def rosterAsksRow : OpenClaim := { program := "ytohkngiflfkjjaa", sum := "a5ff384edf8372f34027d706e5cfba5e451e7ece7f2ab6cbd8ed5566bdcd72bf", func := "icehall/icehalllaw11.RosterAsks", spec := "rosterAsks", unfollowed := true, recurses := true, plainKeys := false, apart := false }
def RosterAsksSaid : Prop := rosterAsksRow.holds Try.pinned (OpenSpec.ofChange rosterAsksSpec)

/-- ITS FALSE NEIGHBOUR: 'it returns false'. Refute it at one input. -/
def rosterAsksWrong : ChangeSpec := { name := "rosterAsks", fn := fun _ => fun
  | [d1, d2, d3, d4] => { results := [.lit (.bool false)], args := [d1, d2, d3, d4] }
  | _ => none }
def RosterAsksWrongFalsely : Prop := rosterAsksRow.holds Try.pinned (OpenSpec.ofChange rosterAsksWrong)

/-- 'icehalllaw11.RosterSheets': WHATEVER THE INPUT: true; the input reads as it did. -/
def rosterSheetsSpec : ChangeSpec := { name := "rosterSheets", fn := fun _ => fun
  | [d] => { results := [.lit (.bool true)], args := [d] }
  | _ => none }
def rosterSheetsRow : OpenClaim := { program := "ytohkngiflfkjjaa", sum := "a5ff384edf8372f34027d706e5cfba5e451e7ece7f2ab6cbd8ed5566bdcd72bf", func := "icehall/icehalllaw11.RosterSheets", spec := "rosterSheets", unfollowed := true, recurses := true, plainKeys := false, apart := false }
def RosterSheetsSaid : Prop := rosterSheetsRow.holds Try.pinned (OpenSpec.ofChange rosterSheetsSpec)

/-- ITS FALSE NEIGHBOUR: 'it returns false'. Refute it at one input. -/
def rosterSheetsWrong : ChangeSpec := { name := "rosterSheets", fn := fun _ => fun
  | [d] => { results := [.lit (.bool false)], args := [d] }
  | _ => none }
def RosterSheetsWrongFalsely : Prop := rosterSheetsRow.holds Try.pinned (OpenSpec.ofChange rosterSheetsWrong)

/-- 'icehalllaw11.RosterServed': WHATEVER THE INPUT: true; the input reads as it did. -/
def rosterServedSpec : ChangeSpec := { name := "rosterServed", fn := fun _ => fun
  | [d] => { results := [.lit (.bool true)], args := [d] }
  | _ => none }
def rosterServedRow : OpenClaim := { program := "ytohkngiflfkjjaa", sum := "a5ff384edf8372f34027d706e5cfba5e451e7ece7f2ab6cbd8ed5566bdcd72bf", func := "icehall/icehalllaw11.RosterServed", spec := "rosterServed", unfollowed := true, recurses := true, plainKeys := false, apart := false }
def RosterServedSaid : Prop := rosterServedRow.holds Try.pinned (OpenSpec.ofChange rosterServedSpec)

/-- ITS FALSE NEIGHBOUR: 'it returns false'. Refute it at one input. -/
def rosterServedWrong : ChangeSpec := { name := "rosterServed", fn := fun _ => fun
  | [d] => { results := [.lit (.bool false)], args := [d] }
  | _ => none }
def RosterServedWrongFalsely : Prop := rosterServedRow.holds Try.pinned (OpenSpec.ofChange rosterServedWrong)

/-- 'icehalllaw11.RosterBack': WHATEVER THE INPUT: true; the input reads as it did. -/
def rosterBackSpec : ChangeSpec := { name := "rosterBack", fn := fun _ => fun
  | [d1, d2] => { results := [.lit (.bool true)], args := [d1, d2] }
  | _ => none }
def rosterBackRow : OpenClaim := { program := "ytohkngiflfkjjaa", sum := "a5ff384edf8372f34027d706e5cfba5e451e7ece7f2ab6cbd8ed5566bdcd72bf", func := "icehall/icehalllaw11.RosterBack", spec := "rosterBack", unfollowed := true, recurses := true, plainKeys := false, apart := false }
def RosterBackSaid : Prop := rosterBackRow.holds Try.pinned (OpenSpec.ofChange rosterBackSpec)

/-- ITS FALSE NEIGHBOUR: 'it returns false'. Refute it at one input. -/
def rosterBackWrong : ChangeSpec := { name := "rosterBack", fn := fun _ => fun
  | [d1, d2] => { results := [.lit (.bool false)], args := [d1, d2] }
  | _ => none }
def RosterBackWrongFalsely : Prop := rosterBackRow.holds Try.pinned (OpenSpec.ofChange rosterBackWrong)

/-- 'icehalllaw11.RosterAble': WHATEVER THE INPUT: true; the input reads as it did. -/
def rosterAbleSpec : ChangeSpec := { name := "rosterAble", fn := fun _ => fun
  | [d1, d2, d3] => { results := [.lit (.bool true)], args := [d1, d2, d3] }
  | _ => none }
def rosterAbleRow : OpenClaim := { program := "ytohkngiflfkjjaa", sum := "a5ff384edf8372f34027d706e5cfba5e451e7ece7f2ab6cbd8ed5566bdcd72bf", func := "icehall/icehalllaw11.RosterAble", spec := "rosterAble", unfollowed := true, recurses := true, plainKeys := false, apart := false }
def RosterAbleSaid : Prop := rosterAbleRow.holds Try.pinned (OpenSpec.ofChange rosterAbleSpec)

/-- ITS FALSE NEIGHBOUR: 'it returns false'. Refute it at one input. -/
def rosterAbleWrong : ChangeSpec := { name := "rosterAble", fn := fun _ => fun
  | [d1, d2, d3] => { results := [.lit (.bool false)], args := [d1, d2, d3] }
  | _ => none }
def RosterAbleWrongFalsely : Prop := rosterAbleRow.holds Try.pinned (OpenSpec.ofChange rosterAbleWrong)

/-- 'icehalllaw11.RosterParts': WHATEVER THE INPUT: true; the input reads as it did. -/
def rosterPartsSpec : ChangeSpec := { name := "rosterParts", fn := fun _ => fun
  | [d1, d2, d3] => { results := [.lit (.bool true)], args := [d1, d2, d3] }
  | _ => none }
def rosterPartsRow : OpenClaim := { program := "ytohkngiflfkjjaa", sum := "a5ff384edf8372f34027d706e5cfba5e451e7ece7f2ab6cbd8ed5566bdcd72bf", func := "icehall/icehalllaw11.RosterParts", spec := "rosterParts", unfollowed := true, recurses := true, plainKeys := false, apart := false }
def RosterPartsSaid : Prop := rosterPartsRow.holds Try.pinned (OpenSpec.ofChange rosterPartsSpec)

/-- ITS FALSE NEIGHBOUR: 'it returns false'. Refute it at one input. -/
def rosterPartsWrong : ChangeSpec := { name := "rosterParts", fn := fun _ => fun
  | [d1, d2, d3] => { results := [.lit (.bool false)], args := [d1, d2, d3] }
  | _ => none }
def RosterPartsWrongFalsely : Prop := rosterPartsRow.holds Try.pinned (OpenSpec.ofChange rosterPartsWrong)

/- THE SECOND FORM. 'bulk': how many values and letters a reading holds, each counted each time it is reached (what is shared counts as often as it is met; a slice's spare places count too). A statement '..UptoSaid' is the law's where the arguments, and the package variables that the reading takes, are together of bulk at most 1048576: NARROWER than '..Said'. Prove '..Said' where nothing that the law and all that it calls make is longer than what came in: it says more and counts as full. Else prove '..UptoSaid'. A law counts once. -/
mutual
def uptoBulk {H : Type} : DataW H → Nat
  | .lit (.string bytes) => bytes.length + 1
  | .lit _ => 1
  | .nil => 1
  | .ptr d => uptoBulk d + 1
  | .slice elems spare => uptoBulkAll elems + uptoBulkAll spare + 1
  | .agg parts => uptoBulkAll parts + 1
  | .iface _ d => uptoBulk d + 1
  | .map entries => uptoBulkEntries entries + 1
  | .held _ => 1
def uptoBulkAll {H : Type} : List (DataW H) → Nat
  | [] => 0
  | d :: r => uptoBulk d + uptoBulkAll r
def uptoBulkEntries {H : Type} : List (Lit × DataW H) → Nat
  | [] => 0
  | x :: r => uptoBulkEntry x + uptoBulkEntries r
def uptoBulkEntry {H : Type} : Lit × DataW H → Nat
  | (.string bytes, d) => bytes.length + uptoBulk d + 1
  | (_, d) => uptoBulk d + 1
 end
def uptoSmall : (H : Type) → List (DataW H) → Bool := fun _ ds => decide (uptoBulkAll ds ≤ 1048576)
def OpenSpec.upto (s : _root_.Go.ChangeSpec) : _root_.Go.OpenSpec := { _root_.Go.OpenSpec.ofChange s with cond := some uptoSmall }

/-- 'icehalltop.TopSheets', WHERE WHAT IT READS IS OF BULK AT MOST 1048576: true; the input reads as it did. -/
def topSheetsUptoRow : OpenClaim := { program := "ytohkngiflfkjjaa", sum := "a5ff384edf8372f34027d706e5cfba5e451e7ece7f2ab6cbd8ed5566bdcd72bf", func := "icehall/icehalltop.TopSheets", spec := "topSheets", unfollowed := true, recurses := true, plainKeys := false, apart := false, narrowed := true }
def TopSheetsUptoSaid : Prop := topSheetsUptoRow.holds Try.pinned (OpenSpec.upto topSheetsSpec)

/-- 'icehalllaw11.RosterPlays', WHERE WHAT IT READS IS OF BULK AT MOST 1048576: true; the input reads as it did. -/
def rosterPlaysUptoRow : OpenClaim := { program := "ytohkngiflfkjjaa", sum := "a5ff384edf8372f34027d706e5cfba5e451e7ece7f2ab6cbd8ed5566bdcd72bf", func := "icehall/icehalllaw11.RosterPlays", spec := "rosterPlays", unfollowed := true, recurses := true, plainKeys := false, apart := false, narrowed := true }
def RosterPlaysUptoSaid : Prop := rosterPlaysUptoRow.holds Try.pinned (OpenSpec.upto rosterPlaysSpec)

/-- 'icehalllaw11.RosterAsks', WHERE WHAT IT READS IS OF BULK AT MOST 1048576: true; the input reads as it did. -/
def rosterAsksUptoRow : OpenClaim := { program := "ytohkngiflfkjjaa", sum := "a5ff384edf8372f34027d706e5cfba5e451e7ece7f2ab6cbd8ed5566bdcd72bf", func := "icehall/icehalllaw11.RosterAsks", spec := "rosterAsks", unfollowed := true, recurses := true, plainKeys := false, apart := false, narrowed := true }
def RosterAsksUptoSaid : Prop := rosterAsksUptoRow.holds Try.pinned (OpenSpec.upto rosterAsksSpec)

/-- 'icehalllaw11.RosterSheets', WHERE WHAT IT READS IS OF BULK AT MOST 1048576: true; the input reads as it did. -/
def rosterSheetsUptoRow : OpenClaim := { program := "ytohkngiflfkjjaa", sum := "a5ff384edf8372f34027d706e5cfba5e451e7ece7f2ab6cbd8ed5566bdcd72bf", func := "icehall/icehalllaw11.RosterSheets", spec := "rosterSheets", unfollowed := true, recurses := true, plainKeys := false, apart := false, narrowed := true }
def RosterSheetsUptoSaid : Prop := rosterSheetsUptoRow.holds Try.pinned (OpenSpec.upto rosterSheetsSpec)

/-- 'icehalllaw11.RosterServed', WHERE WHAT IT READS IS OF BULK AT MOST 1048576: true; the input reads as it did. -/
def rosterServedUptoRow : OpenClaim := { program := "ytohkngiflfkjjaa", sum := "a5ff384edf8372f34027d706e5cfba5e451e7ece7f2ab6cbd8ed5566bdcd72bf", func := "icehall/icehalllaw11.RosterServed", spec := "rosterServed", unfollowed := true, recurses := true, plainKeys := false, apart := false, narrowed := true }
def RosterServedUptoSaid : Prop := rosterServedUptoRow.holds Try.pinned (OpenSpec.upto rosterServedSpec)

/-- 'icehalllaw11.RosterBack', WHERE WHAT IT READS IS OF BULK AT MOST 1048576: true; the input reads as it did. -/
def rosterBackUptoRow : OpenClaim := { program := "ytohkngiflfkjjaa", sum := "a5ff384edf8372f34027d706e5cfba5e451e7ece7f2ab6cbd8ed5566bdcd72bf", func := "icehall/icehalllaw11.RosterBack", spec := "rosterBack", unfollowed := true, recurses := true, plainKeys := false, apart := false, narrowed := true }
def RosterBackUptoSaid : Prop := rosterBackUptoRow.holds Try.pinned (OpenSpec.upto rosterBackSpec)

/-- 'icehalllaw11.RosterAble', WHERE WHAT IT READS IS OF BULK AT MOST 1048576: true; the input reads as it did. -/
def rosterAbleUptoRow : OpenClaim := { program := "ytohkngiflfkjjaa", sum := "a5ff384edf8372f34027d706e5cfba5e451e7ece7f2ab6cbd8ed5566bdcd72bf", func := "icehall/icehalllaw11.RosterAble", spec := "rosterAble", unfollowed := true, recurses := true, plainKeys := false, apart := false, narrowed := true }
def RosterAbleUptoSaid : Prop := rosterAbleUptoRow.holds Try.pinned (OpenSpec.upto rosterAbleSpec)

/-- 'icehalllaw11.RosterParts', WHERE WHAT IT READS IS OF BULK AT MOST 1048576: true; the input reads as it did. -/
def rosterPartsUptoRow : OpenClaim := { program := "ytohkngiflfkjjaa", sum := "a5ff384edf8372f34027d706e5cfba5e451e7ece7f2ab6cbd8ed5566bdcd72bf", func := "icehall/icehalllaw11.RosterParts", spec := "rosterParts", unfollowed := true, recurses := true, plainKeys := false, apart := false, narrowed := true }
def RosterPartsUptoSaid : Prop := rosterPartsUptoRow.holds Try.pinned (OpenSpec.upto rosterPartsSpec)

end Rows
end Go.Proofs.Ytohkngiflfkjjaa
