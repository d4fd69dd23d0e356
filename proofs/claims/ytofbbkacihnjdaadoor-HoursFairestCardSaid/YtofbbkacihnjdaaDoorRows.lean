/-
  NARROWER THAN 'FOR EVERY INPUT', by the rows' own cells (each row's printed sentence says how): HoursChecks: laid · HoursFairest: laid · HoursNone: laid · HoursGood: laid · HoursMore: laid · HoursHinder: laid.
  DERIVED. THE GIVEN ROWS OF THIS SEAT. 6 by the template 'for every input the law returns true; each argument reads behind the call as it read before'; 0 by the template 'total and deterministic' (their statements: YtofbbkacihnjdaaDoorTotals.lean).
  GIVEN WITH THE SEED: the statements are not yours to turn. If you find one false, say at which input.
  Laid BY PROGRAM, IN A SANDBOX (cutbox-rows.mjs): the forced cells as the released guide's own fill.sh prints them over the translation 5cd81fcc1b2f3838… (all of the seat's roots in one cut). By AI agents, Wed Nov 11 2026. No macro, syntax, notation, axiom, sorry.
-/
import Derived.Test.YtofbbkacihnjdaaDoorChecked
import GoSem.Claim
import GoSem.ClaimJoined
import GoSem.ClaimMapViews
import Derived.JoinedTies
import Derived.KernelRfl
namespace Go.Proofs.YtofbbkacihnjdaaDoor
/- THE CELL 'sum', in the pinned program and in every row, IS THE sha256 OF THE DUMP (.gsa) THAT YtofbbkacihnjdaaDoorProg.lean LOADS. Nothing in Lean hashes anything: it is a label: what it is worth is what the hold of that sum in a sandbox is worth. -/
noncomputable def Tryd.pinned : Pinned := { name := "ytofbbkacihnjdaadoor", sum := "5cd81fcc1b2f3838b53cbfa4fc6aef4f124b75c09ed12727e765a0501a9fafe8", checked := Tryd.checked }
namespace Rows
def none {H : Type} : Left H := { results := [], args := [] }

/- WHAT THE LISTED PACKAGE-LEVEL VARIABLES READ AS WHEN THE CALL BEGINS. Each datum BY PROGRAM (the guide's laid-datum.mjs) off the statement by which the dump's own 'gosem.cut.vars' lays the variable. In a bare row this is a premise. The card (YtofbbkacihnjdaaDoorCards.lean) ties it to the program's text. -/
def laid_math_bits_deBruijn32tab {H : Type} : DataW H := .agg [.lit (.int .u8 0), .lit (.int .u8 1), .lit (.int .u8 28), .lit (.int .u8 2), .lit (.int .u8 29), .lit (.int .u8 14), .lit (.int .u8 24), .lit (.int .u8 3), .lit (.int .u8 30), .lit (.int .u8 22), .lit (.int .u8 20), .lit (.int .u8 15), .lit (.int .u8 25), .lit (.int .u8 17), .lit (.int .u8 4), .lit (.int .u8 8), .lit (.int .u8 31), .lit (.int .u8 27), .lit (.int .u8 13), .lit (.int .u8 23), .lit (.int .u8 21), .lit (.int .u8 19), .lit (.int .u8 16), .lit (.int .u8 7), .lit (.int .u8 26), .lit (.int .u8 12), .lit (.int .u8 18), .lit (.int .u8 6), .lit (.int .u8 11), .lit (.int .u8 5), .lit (.int .u8 10), .lit (.int .u8 9)]
def laid_math_bits_deBruijn64tab {H : Type} : DataW H := .agg [.lit (.int .u8 0), .lit (.int .u8 1), .lit (.int .u8 56), .lit (.int .u8 2), .lit (.int .u8 57), .lit (.int .u8 49), .lit (.int .u8 28), .lit (.int .u8 3), .lit (.int .u8 61), .lit (.int .u8 58), .lit (.int .u8 42), .lit (.int .u8 50), .lit (.int .u8 38), .lit (.int .u8 29), .lit (.int .u8 17), .lit (.int .u8 4), .lit (.int .u8 62), .lit (.int .u8 47), .lit (.int .u8 59), .lit (.int .u8 36), .lit (.int .u8 45), .lit (.int .u8 43), .lit (.int .u8 51), .lit (.int .u8 22), .lit (.int .u8 53), .lit (.int .u8 39), .lit (.int .u8 33), .lit (.int .u8 30), .lit (.int .u8 24), .lit (.int .u8 18), .lit (.int .u8 12), .lit (.int .u8 5), .lit (.int .u8 63), .lit (.int .u8 55), .lit (.int .u8 48), .lit (.int .u8 27), .lit (.int .u8 60), .lit (.int .u8 41), .lit (.int .u8 37), .lit (.int .u8 16), .lit (.int .u8 46), .lit (.int .u8 35), .lit (.int .u8 44), .lit (.int .u8 21), .lit (.int .u8 52), .lit (.int .u8 32), .lit (.int .u8 23), .lit (.int .u8 11), .lit (.int .u8 54), .lit (.int .u8 26), .lit (.int .u8 40), .lit (.int .u8 15), .lit (.int .u8 34), .lit (.int .u8 20), .lit (.int .u8 31), .lit (.int .u8 10), .lit (.int .u8 25), .lit (.int .u8 14), .lit (.int .u8 19), .lit (.int .u8 9), .lit (.int .u8 13), .lit (.int .u8 8), .lit (.int .u8 7), .lit (.int .u8 6)]

/-- 'icehalllaw06.HoursChecks': WHATEVER THE INPUT: true; the input reads as it did. -/
def hoursChecksSpec : ChangeSpec := { name := "hoursChecks", fn := fun _ => fun
  | [d1, d2, d3] => { results := [.lit (.bool true)], args := [d1, d2, d3] }
  | _ => none }
def hoursChecksRow : OpenClaim := { program := "ytofbbkacihnjdaadoor", sum := "5cd81fcc1b2f3838b53cbfa4fc6aef4f124b75c09ed12727e765a0501a9fafe8", func := "icehall/icehalllaw06.HoursChecks", spec := "hoursChecks", unfollowed := true, recurses := true, named := ["math/bits.deBruijn32tab", "math/bits.deBruijn64tab"], plainKeys := false, apart := false, laid := [("math/bits.deBruijn32tab", laid_math_bits_deBruijn32tab), ("math/bits.deBruijn64tab", laid_math_bits_deBruijn64tab)] }
def HoursChecksSaid : Prop := hoursChecksRow.holds Tryd.pinned (OpenSpec.ofChange hoursChecksSpec)

/-- ITS FALSE NEIGHBOUR: 'it returns false'. Refute it at one input. -/
def hoursChecksWrong : ChangeSpec := { name := "hoursChecks", fn := fun _ => fun
  | [d1, d2, d3] => { results := [.lit (.bool false)], args := [d1, d2, d3] }
  | _ => none }
def HoursChecksWrongFalsely : Prop := hoursChecksRow.holds Tryd.pinned (OpenSpec.ofChange hoursChecksWrong)

/-- 'icehalllaw06.HoursFairest': WHATEVER THE INPUT: true; the input reads as it did. -/
def hoursFairestSpec : ChangeSpec := { name := "hoursFairest", fn := fun _ => fun
  | [d1, d2] => { results := [.lit (.bool true)], args := [d1, d2] }
  | _ => none }
def hoursFairestRow : OpenClaim := { program := "ytofbbkacihnjdaadoor", sum := "5cd81fcc1b2f3838b53cbfa4fc6aef4f124b75c09ed12727e765a0501a9fafe8", func := "icehall/icehalllaw06.HoursFairest", spec := "hoursFairest", unfollowed := true, recurses := true, named := ["math/bits.deBruijn32tab", "math/bits.deBruijn64tab"], plainKeys := false, apart := false, laid := [("math/bits.deBruijn32tab", laid_math_bits_deBruijn32tab), ("math/bits.deBruijn64tab", laid_math_bits_deBruijn64tab)] }
def HoursFairestSaid : Prop := hoursFairestRow.holds Tryd.pinned (OpenSpec.ofChange hoursFairestSpec)

/-- ITS FALSE NEIGHBOUR: 'it returns false'. Refute it at one input. -/
def hoursFairestWrong : ChangeSpec := { name := "hoursFairest", fn := fun _ => fun
  | [d1, d2] => { results := [.lit (.bool false)], args := [d1, d2] }
  | _ => none }
def HoursFairestWrongFalsely : Prop := hoursFairestRow.holds Tryd.pinned (OpenSpec.ofChange hoursFairestWrong)

/-- 'icehalllaw06.HoursNone': WHATEVER THE INPUT: true; the input reads as it did. -/
def hoursNoneSpec : ChangeSpec := { name := "hoursNone", fn := fun _ => fun
  | [d1, d2] => { results := [.lit (.bool true)], args := [d1, d2] }
  | _ => none }
def hoursNoneRow : OpenClaim := { program := "ytofbbkacihnjdaadoor", sum := "5cd81fcc1b2f3838b53cbfa4fc6aef4f124b75c09ed12727e765a0501a9fafe8", func := "icehall/icehalllaw06.HoursNone", spec := "hoursNone", unfollowed := true, recurses := true, named := ["math/bits.deBruijn32tab", "math/bits.deBruijn64tab"], plainKeys := false, apart := false, laid := [("math/bits.deBruijn32tab", laid_math_bits_deBruijn32tab), ("math/bits.deBruijn64tab", laid_math_bits_deBruijn64tab)] }
def HoursNoneSaid : Prop := hoursNoneRow.holds Tryd.pinned (OpenSpec.ofChange hoursNoneSpec)

/-- ITS FALSE NEIGHBOUR: 'it returns false'. Refute it at one input. -/
def hoursNoneWrong : ChangeSpec := { name := "hoursNone", fn := fun _ => fun
  | [d1, d2] => { results := [.lit (.bool false)], args := [d1, d2] }
  | _ => none }
def HoursNoneWrongFalsely : Prop := hoursNoneRow.holds Tryd.pinned (OpenSpec.ofChange hoursNoneWrong)

/-- 'icehalllaw06.HoursGood': WHATEVER THE INPUT: true; the input reads as it did. -/
def hoursGoodSpec : ChangeSpec := { name := "hoursGood", fn := fun _ => fun
  | [d1, d2] => { results := [.lit (.bool true)], args := [d1, d2] }
  | _ => none }
def hoursGoodRow : OpenClaim := { program := "ytofbbkacihnjdaadoor", sum := "5cd81fcc1b2f3838b53cbfa4fc6aef4f124b75c09ed12727e765a0501a9fafe8", func := "icehall/icehalllaw06.HoursGood", spec := "hoursGood", unfollowed := true, recurses := true, named := ["math/bits.deBruijn32tab", "math/bits.deBruijn64tab"], plainKeys := false, apart := false, laid := [("math/bits.deBruijn32tab", laid_math_bits_deBruijn32tab), ("math/bits.deBruijn64tab", laid_math_bits_deBruijn64tab)] }
def HoursGoodSaid : Prop := hoursGoodRow.holds Tryd.pinned (OpenSpec.ofChange hoursGoodSpec)

/-- ITS FALSE NEIGHBOUR: 'it returns false'. Refute it at one input. -/
def hoursGoodWrong : ChangeSpec := { name := "hoursGood", fn := fun _ => fun
  | [d1, d2] => { results := [.lit (.bool false)], args := [d1, d2] }
  | _ => none }
def HoursGoodWrongFalsely : Prop := hoursGoodRow.holds Tryd.pinned (OpenSpec.ofChange hoursGoodWrong)

/-- 'icehalllaw06.HoursMore': WHATEVER THE INPUT: true; the input reads as it did. -/
def hoursMoreSpec : ChangeSpec := { name := "hoursMore", fn := fun _ => fun
  | [d1, d2, d3] => { results := [.lit (.bool true)], args := [d1, d2, d3] }
  | _ => none }
def hoursMoreRow : OpenClaim := { program := "ytofbbkacihnjdaadoor", sum := "5cd81fcc1b2f3838b53cbfa4fc6aef4f124b75c09ed12727e765a0501a9fafe8", func := "icehall/icehalllaw06.HoursMore", spec := "hoursMore", unfollowed := true, recurses := true, named := ["math/bits.deBruijn32tab", "math/bits.deBruijn64tab"], plainKeys := false, apart := false, laid := [("math/bits.deBruijn32tab", laid_math_bits_deBruijn32tab), ("math/bits.deBruijn64tab", laid_math_bits_deBruijn64tab)] }
def HoursMoreSaid : Prop := hoursMoreRow.holds Tryd.pinned (OpenSpec.ofChange hoursMoreSpec)

/-- ITS FALSE NEIGHBOUR: 'it returns false'. Refute it at one input. -/
def hoursMoreWrong : ChangeSpec := { name := "hoursMore", fn := fun _ => fun
  | [d1, d2, d3] => { results := [.lit (.bool false)], args := [d1, d2, d3] }
  | _ => none }
def HoursMoreWrongFalsely : Prop := hoursMoreRow.holds Tryd.pinned (OpenSpec.ofChange hoursMoreWrong)

/-- 'icehalllaw06.HoursHinder': WHATEVER THE INPUT: true; the input reads as it did. -/
def hoursHinderSpec : ChangeSpec := { name := "hoursHinder", fn := fun _ => fun
  | [d1, d2, d3] => { results := [.lit (.bool true)], args := [d1, d2, d3] }
  | _ => none }
def hoursHinderRow : OpenClaim := { program := "ytofbbkacihnjdaadoor", sum := "5cd81fcc1b2f3838b53cbfa4fc6aef4f124b75c09ed12727e765a0501a9fafe8", func := "icehall/icehalllaw06.HoursHinder", spec := "hoursHinder", unfollowed := true, recurses := true, named := ["math/bits.deBruijn32tab", "math/bits.deBruijn64tab"], plainKeys := false, apart := false, laid := [("math/bits.deBruijn32tab", laid_math_bits_deBruijn32tab), ("math/bits.deBruijn64tab", laid_math_bits_deBruijn64tab)] }
def HoursHinderSaid : Prop := hoursHinderRow.holds Tryd.pinned (OpenSpec.ofChange hoursHinderSpec)

/-- ITS FALSE NEIGHBOUR: 'it returns false'. Refute it at one input. -/
def hoursHinderWrong : ChangeSpec := { name := "hoursHinder", fn := fun _ => fun
  | [d1, d2, d3] => { results := [.lit (.bool false)], args := [d1, d2, d3] }
  | _ => none }
def HoursHinderWrongFalsely : Prop := hoursHinderRow.holds Tryd.pinned (OpenSpec.ofChange hoursHinderWrong)

/- THE SECOND FORM. 'bulk': how many values and letters a reading holds, each counted each time it is reached (what is shared counts as often as it is met; a slice's spare places count too). A statement '..UptoSaid' is the law's where the arguments, and the package variables that the reading takes, are together of bulk at most 1048576: NARROWER than '..Said'. Prove '..Said' where nothing that the law and all that it calls make is longer than what came in: it says more and counts as full. Else prove '..UptoSaid'. A law counts once. -/
mutual
def uptoBulk {H : Type} : DataW H → Nat
  | .lit (.string bytes) => bytes.length + 1
  | .lit _ => 1
  | .nil => 1
  | .ptr d => uptoBulk d + 1
  | .slice elems spare => uptoBulkAll elems + uptoBulkAll spare + 1
  | .agg parts => uptoBulkAll parts + 1
  | .iface _ d => uptoBulk d + 1
  | .map entries => uptoBulkEntries entries + 1
  | .held _ => 1
def uptoBulkAll {H : Type} : List (DataW H) → Nat
  | [] => 0
  | d :: r => uptoBulk d + uptoBulkAll r
def uptoBulkEntries {H : Type} : List (Lit × DataW H) → Nat
  | [] => 0
  | x :: r => uptoBulkEntry x + uptoBulkEntries r
def uptoBulkEntry {H : Type} : Lit × DataW H → Nat
  | (.string bytes, d) => bytes.length + uptoBulk d + 1
  | (_, d) => uptoBulk d + 1
 end
def uptoSmall : (H : Type) → List (DataW H) → Bool := fun _ ds => decide (uptoBulkAll ds ≤ 1048576)
def OpenSpec.upto (s : _root_.Go.ChangeSpec) : _root_.Go.OpenSpec := { _root_.Go.OpenSpec.ofChange s with cond := some uptoSmall }

/-- 'icehalllaw06.HoursChecks', WHERE WHAT IT READS IS OF BULK AT MOST 1048576: true; the input reads as it did. -/
def hoursChecksUptoRow : OpenClaim := { program := "ytofbbkacihnjdaadoor", sum := "5cd81fcc1b2f3838b53cbfa4fc6aef4f124b75c09ed12727e765a0501a9fafe8", func := "icehall/icehalllaw06.HoursChecks", spec := "hoursChecks", unfollowed := true, recurses := true, named := ["math/bits.deBruijn32tab", "math/bits.deBruijn64tab"], plainKeys := false, apart := false, laid := [("math/bits.deBruijn32tab", laid_math_bits_deBruijn32tab), ("math/bits.deBruijn64tab", laid_math_bits_deBruijn64tab)], narrowed := true }
def HoursChecksUptoSaid : Prop := hoursChecksUptoRow.holds Tryd.pinned (OpenSpec.upto hoursChecksSpec)

/-- 'icehalllaw06.HoursFairest', WHERE WHAT IT READS IS OF BULK AT MOST 1048576: true; the input reads as it did. -/
def hoursFairestUptoRow : OpenClaim := { program := "ytofbbkacihnjdaadoor", sum := "5cd81fcc1b2f3838b53cbfa4fc6aef4f124b75c09ed12727e765a0501a9fafe8", func := "icehall/icehalllaw06.HoursFairest", spec := "hoursFairest", unfollowed := true, recurses := true, named := ["math/bits.deBruijn32tab", "math/bits.deBruijn64tab"], plainKeys := false, apart := false, laid := [("math/bits.deBruijn32tab", laid_math_bits_deBruijn32tab), ("math/bits.deBruijn64tab", laid_math_bits_deBruijn64tab)], narrowed := true }
def HoursFairestUptoSaid : Prop := hoursFairestUptoRow.holds Tryd.pinned (OpenSpec.upto hoursFairestSpec)

/-- 'icehalllaw06.HoursNone', WHERE WHAT IT READS IS OF BULK AT MOST 1048576: true; the input reads as it did. -/
def hoursNoneUptoRow : OpenClaim := { program := "ytofbbkacihnjdaadoor", sum := "5cd81fcc1b2f3838b53cbfa4fc6aef4f124b75c09ed12727e765a0501a9fafe8", func := "icehall/icehalllaw06.HoursNone", spec := "hoursNone", unfollowed := true, recurses := true, named := ["math/bits.deBruijn32tab", "math/bits.deBruijn64tab"], plainKeys := false, apart := false, laid := [("math/bits.deBruijn32tab", laid_math_bits_deBruijn32tab), ("math/bits.deBruijn64tab", laid_math_bits_deBruijn64tab)], narrowed := true }
def HoursNoneUptoSaid : Prop := hoursNoneUptoRow.holds Tryd.pinned (OpenSpec.upto hoursNoneSpec)

/-- 'icehalllaw06.HoursGood', WHERE WHAT IT READS IS OF BULK AT MOST 1048576: true; the input reads as it did. -/
def hoursGoodUptoRow : OpenClaim := { program := "ytofbbkacihnjdaadoor", sum := "5cd81fcc1b2f3838b53cbfa4fc6aef4f124b75c09ed12727e765a0501a9fafe8", func := "icehall/icehalllaw06.HoursGood", spec := "hoursGood", unfollowed := true, recurses := true, named := ["math/bits.deBruijn32tab", "math/bits.deBruijn64tab"], plainKeys := false, apart := false, laid := [("math/bits.deBruijn32tab", laid_math_bits_deBruijn32tab), ("math/bits.deBruijn64tab", laid_math_bits_deBruijn64tab)], narrowed := true }
def HoursGoodUptoSaid : Prop := hoursGoodUptoRow.holds Tryd.pinned (OpenSpec.upto hoursGoodSpec)

/-- 'icehalllaw06.HoursMore', WHERE WHAT IT READS IS OF BULK AT MOST 1048576: true; the input reads as it did. -/
def hoursMoreUptoRow : OpenClaim := { program := "ytofbbkacihnjdaadoor", sum := "5cd81fcc1b2f3838b53cbfa4fc6aef4f124b75c09ed12727e765a0501a9fafe8", func := "icehall/icehalllaw06.HoursMore", spec := "hoursMore", unfollowed := true, recurses := true, named := ["math/bits.deBruijn32tab", "math/bits.deBruijn64tab"], plainKeys := false, apart := false, laid := [("math/bits.deBruijn32tab", laid_math_bits_deBruijn32tab), ("math/bits.deBruijn64tab", laid_math_bits_deBruijn64tab)], narrowed := true }
def HoursMoreUptoSaid : Prop := hoursMoreUptoRow.holds Tryd.pinned (OpenSpec.upto hoursMoreSpec)

/-- 'icehalllaw06.HoursHinder', WHERE WHAT IT READS IS OF BULK AT MOST 1048576: true; the input reads as it did. -/
def hoursHinderUptoRow : OpenClaim := { program := "ytofbbkacihnjdaadoor", sum := "5cd81fcc1b2f3838b53cbfa4fc6aef4f124b75c09ed12727e765a0501a9fafe8", func := "icehall/icehalllaw06.HoursHinder", spec := "hoursHinder", unfollowed := true, recurses := true, named := ["math/bits.deBruijn32tab", "math/bits.deBruijn64tab"], plainKeys := false, apart := false, laid := [("math/bits.deBruijn32tab", laid_math_bits_deBruijn32tab), ("math/bits.deBruijn64tab", laid_math_bits_deBruijn64tab)], narrowed := true }
def HoursHinderUptoSaid : Prop := hoursHinderUptoRow.holds Tryd.pinned (OpenSpec.upto hoursHinderSpec)

end Rows
end Go.Proofs.YtofbbkacihnjdaaDoor
