/-
  DERIVED. GIVEN WITH THE SEED: THE CARDS: each row of YtaplgollkkpnaaaDoorRows.lean that lists a variable, with what it lists TIED to the program's text (the seventh form; the later family's looks); each row that meets fmt, with fmt's text TOLD by the authors' own Lean function (tested against real Go, not proved from fmt's source: count such statements apart). THE CARD IS WHAT COUNTS. Prove the row's statement (the work); the ties are given (YtaplgollkkpnaaaDoorTie.lean); close each card by the builder's one call (the guide's Derived/Test/ToyasCard.lean, 'card_holds'). Laid BY PROGRAM, IN A SANDBOX (cutbox-door.mjs). By AI agents, Wed Nov 11 2026. No macro, syntax, notation, axiom, sorry.
-/
import Derived.Test.YtaplgollkkpnaaaDoorRows
import GoSem.ClaimSeven
namespace Go.Proofs.YtaplgollkkpnaaaDoor
namespace Rows

/-- THE TIED CARD OF 'lockgatelaw18.KindsLess'. -/
def kindsLessCard : Claim7 := { stood := { row := kindsLessRow, standIns := [], harness := (true, "5e3e16b1921c2ec8b1459d5cc73faf8788ecd05fb4590383a4ece2d2eecf6567"), looks := false }, kinds := [], alts := [], laidByText := true, laidKinds := [.data], laidTests := true, laidLooks := .later }
def KindsLessCardSaid : Prop := Claim7.holds Tryd.pinned (.plain (OpenSpec.ofChange kindsLessSpec)) kindsLessCard

/-- THE SECOND FORM's CARD OF 'lockgatelaw18.KindsLess'. -/
def kindsLessUptoCard : Claim7 := { stood := { row := kindsLessUptoRow, standIns := [], harness := (true, "5e3e16b1921c2ec8b1459d5cc73faf8788ecd05fb4590383a4ece2d2eecf6567"), looks := false }, kinds := [], alts := [], laidByText := true, laidKinds := [.data], laidTests := true, laidLooks := .later }
def KindsLessUptoCardSaid : Prop := Claim7.holds Tryd.pinned (.plain (OpenSpec.upto kindsLessSpec)) kindsLessUptoCard
end Rows
end Go.Proofs.YtaplgollkkpnaaaDoor
