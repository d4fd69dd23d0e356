/-
  DERIVED. GIVEN WITH THE SEED: THE CARDS: each row of YtofbbkacihnjdaaDoorRows.lean that lists a variable, with what it lists TIED to the program's text (the seventh form; the later family's looks); each row that meets fmt, with fmt's text TOLD by the authors' own Lean function (tested against real Go, not proved from fmt's source: count such statements apart). THE CARD IS WHAT COUNTS. Prove the row's statement (the work); the ties are given (YtofbbkacihnjdaaDoorTie.lean); close each card by the builder's one call (the guide's Derived/Test/ToyasCard.lean, 'card_holds'). Laid BY PROGRAM, IN A SANDBOX (cutbox-door.mjs). By AI agents, Wed Nov 11 2026. No macro, syntax, notation, axiom, sorry.
-/
import Derived.Test.YtofbbkacihnjdaaDoorRows
import GoSem.ClaimSeven
namespace Go.Proofs.YtofbbkacihnjdaaDoor
namespace Rows

/-- THE TIED CARD OF 'icehalllaw06.HoursChecks'. -/
def hoursChecksCard : Claim7 := { stood := { row := hoursChecksRow, standIns := [], harness := (true, "db5aa0841255061d7d27acd7e01a587d1ab5d3937ba539e775e1be09c7c74e1a"), looks := false }, kinds := [], alts := [], laidByText := true, laidKinds := [.data, .data], laidTests := true, laidLooks := .later }
def HoursChecksCardSaid : Prop := Claim7.holds Tryd.pinned (.plain (OpenSpec.ofChange hoursChecksSpec)) hoursChecksCard

/-- THE TIED CARD OF 'icehalllaw06.HoursFairest'. -/
def hoursFairestCard : Claim7 := { stood := { row := hoursFairestRow, standIns := [], harness := (true, "db5aa0841255061d7d27acd7e01a587d1ab5d3937ba539e775e1be09c7c74e1a"), looks := false }, kinds := [], alts := [], laidByText := true, laidKinds := [.data, .data], laidTests := true, laidLooks := .later }
def HoursFairestCardSaid : Prop := Claim7.holds Tryd.pinned (.plain (OpenSpec.ofChange hoursFairestSpec)) hoursFairestCard

/-- THE TIED CARD OF 'icehalllaw06.HoursNone'. -/
def hoursNoneCard : Claim7 := { stood := { row := hoursNoneRow, standIns := [], harness := (true, "db5aa0841255061d7d27acd7e01a587d1ab5d3937ba539e775e1be09c7c74e1a"), looks := false }, kinds := [], alts := [], laidByText := true, laidKinds := [.data, .data], laidTests := true, laidLooks := .later }
def HoursNoneCardSaid : Prop := Claim7.holds Tryd.pinned (.plain (OpenSpec.ofChange hoursNoneSpec)) hoursNoneCard

/-- THE TIED CARD OF 'icehalllaw06.HoursGood'. -/
def hoursGoodCard : Claim7 := { stood := { row := hoursGoodRow, standIns := [], harness := (true, "db5aa0841255061d7d27acd7e01a587d1ab5d3937ba539e775e1be09c7c74e1a"), looks := false }, kinds := [], alts := [], laidByText := true, laidKinds := [.data, .data], laidTests := true, laidLooks := .later }
def HoursGoodCardSaid : Prop := Claim7.holds Tryd.pinned (.plain (OpenSpec.ofChange hoursGoodSpec)) hoursGoodCard

/-- THE TIED CARD OF 'icehalllaw06.HoursMore'. -/
def hoursMoreCard : Claim7 := { stood := { row := hoursMoreRow, standIns := [], harness := (true, "db5aa0841255061d7d27acd7e01a587d1ab5d3937ba539e775e1be09c7c74e1a"), looks := false }, kinds := [], alts := [], laidByText := true, laidKinds := [.data, .data], laidTests := true, laidLooks := .later }
def HoursMoreCardSaid : Prop := Claim7.holds Tryd.pinned (.plain (OpenSpec.ofChange hoursMoreSpec)) hoursMoreCard

/-- THE TIED CARD OF 'icehalllaw06.HoursHinder'. -/
def hoursHinderCard : Claim7 := { stood := { row := hoursHinderRow, standIns := [], harness := (true, "db5aa0841255061d7d27acd7e01a587d1ab5d3937ba539e775e1be09c7c74e1a"), looks := false }, kinds := [], alts := [], laidByText := true, laidKinds := [.data, .data], laidTests := true, laidLooks := .later }
def HoursHinderCardSaid : Prop := Claim7.holds Tryd.pinned (.plain (OpenSpec.ofChange hoursHinderSpec)) hoursHinderCard

/-- THE SECOND FORM's CARD OF 'icehalllaw06.HoursChecks'. -/
def hoursChecksUptoCard : Claim7 := { stood := { row := hoursChecksUptoRow, standIns := [], harness := (true, "db5aa0841255061d7d27acd7e01a587d1ab5d3937ba539e775e1be09c7c74e1a"), looks := false }, kinds := [], alts := [], laidByText := true, laidKinds := [.data, .data], laidTests := true, laidLooks := .later }
def HoursChecksUptoCardSaid : Prop := Claim7.holds Tryd.pinned (.plain (OpenSpec.upto hoursChecksSpec)) hoursChecksUptoCard

/-- THE SECOND FORM's CARD OF 'icehalllaw06.HoursFairest'. -/
def hoursFairestUptoCard : Claim7 := { stood := { row := hoursFairestUptoRow, standIns := [], harness := (true, "db5aa0841255061d7d27acd7e01a587d1ab5d3937ba539e775e1be09c7c74e1a"), looks := false }, kinds := [], alts := [], laidByText := true, laidKinds := [.data, .data], laidTests := true, laidLooks := .later }
def HoursFairestUptoCardSaid : Prop := Claim7.holds Tryd.pinned (.plain (OpenSpec.upto hoursFairestSpec)) hoursFairestUptoCard

/-- THE SECOND FORM's CARD OF 'icehalllaw06.HoursNone'. -/
def hoursNoneUptoCard : Claim7 := { stood := { row := hoursNoneUptoRow, standIns := [], harness := (true, "db5aa0841255061d7d27acd7e01a587d1ab5d3937ba539e775e1be09c7c74e1a"), looks := false }, kinds := [], alts := [], laidByText := true, laidKinds := [.data, .data], laidTests := true, laidLooks := .later }
def HoursNoneUptoCardSaid : Prop := Claim7.holds Tryd.pinned (.plain (OpenSpec.upto hoursNoneSpec)) hoursNoneUptoCard

/-- THE SECOND FORM's CARD OF 'icehalllaw06.HoursGood'. -/
def hoursGoodUptoCard : Claim7 := { stood := { row := hoursGoodUptoRow, standIns := [], harness := (true, "db5aa0841255061d7d27acd7e01a587d1ab5d3937ba539e775e1be09c7c74e1a"), looks := false }, kinds := [], alts := [], laidByText := true, laidKinds := [.data, .data], laidTests := true, laidLooks := .later }
def HoursGoodUptoCardSaid : Prop := Claim7.holds Tryd.pinned (.plain (OpenSpec.upto hoursGoodSpec)) hoursGoodUptoCard

/-- THE SECOND FORM's CARD OF 'icehalllaw06.HoursMore'. -/
def hoursMoreUptoCard : Claim7 := { stood := { row := hoursMoreUptoRow, standIns := [], harness := (true, "db5aa0841255061d7d27acd7e01a587d1ab5d3937ba539e775e1be09c7c74e1a"), looks := false }, kinds := [], alts := [], laidByText := true, laidKinds := [.data, .data], laidTests := true, laidLooks := .later }
def HoursMoreUptoCardSaid : Prop := Claim7.holds Tryd.pinned (.plain (OpenSpec.upto hoursMoreSpec)) hoursMoreUptoCard

/-- THE SECOND FORM's CARD OF 'icehalllaw06.HoursHinder'. -/
def hoursHinderUptoCard : Claim7 := { stood := { row := hoursHinderUptoRow, standIns := [], harness := (true, "db5aa0841255061d7d27acd7e01a587d1ab5d3937ba539e775e1be09c7c74e1a"), looks := false }, kinds := [], alts := [], laidByText := true, laidKinds := [.data, .data], laidTests := true, laidLooks := .later }
def HoursHinderUptoCardSaid : Prop := Claim7.holds Tryd.pinned (.plain (OpenSpec.upto hoursHinderSpec)) hoursHinderUptoCard
end Rows
end Go.Proofs.YtofbbkacihnjdaaDoor
