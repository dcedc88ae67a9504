/-
  DERIVED. GIVEN WITH THE SEED: THE CARDS: each row of YtbdkbmhejoakiaaDoorRows.lean that lists a variable, with what it lists TIED to the program's text (the seventh form; the later family's looks); each row that meets fmt, with fmt's text TOLD by the authors' own Lean function (tested against real Go, not proved from fmt's source: count such statements apart). THE CARD IS WHAT COUNTS. Prove the row's statement (the work); the ties are given (YtbdkbmhejoakiaaDoorTie.lean); close each card by the builder's one call (the guide's Derived/Test/ToyasCard.lean, 'card_holds'). Laid BY PROGRAM, IN A SANDBOX (cutbox-door.mjs). By AI agents, Wed Nov 11 2026. No macro, syntax, notation, axiom, sorry.
-/
import Derived.Test.YtbdkbmhejoakiaaDoorRows
import GoSem.ClaimSeven
namespace Go.Proofs.YtbdkbmhejoakiaaDoor
namespace Rows

/-- THE TIED CARD OF 'ninepinlaw02.FixText'. -/
def fixTextCard : Claim7 := { stood := { row := fixTextRow, standIns := [], harness := (true, "e387b1f95d599843f134eb38dedea8c5894183c3d27468da72f9ff57c95afa22"), looks := true }, kinds := [], alts := [], laidByText := true, laidKinds := [.data, .data, .data, .sentinel, .sentinel], laidTests := true, laidLooks := .later }
def FixTextCardSaid : Prop := Claim7.holds Tryd.pinned (.plain (OpenSpec.ofChange fixTextSpec)) fixTextCard

/-- THE TIED CARD OF 'ninepinlaw02.FixBack'. -/
def fixBackCard : Claim7 := { stood := { row := fixBackRow, standIns := [], harness := (true, "e387b1f95d599843f134eb38dedea8c5894183c3d27468da72f9ff57c95afa22"), looks := true }, kinds := [], alts := [], laidByText := true, laidKinds := [.data, .data, .data, .sentinel, .sentinel], laidTests := true, laidLooks := .later }
def FixBackCardSaid : Prop := Claim7.holds Tryd.pinned (.plain (OpenSpec.ofChange fixBackSpec)) fixBackCard

/-- THE TIED CARD OF 'ninepinlaw02.FixWhole'. -/
def fixWholeCard : Claim7 := { stood := { row := fixWholeRow, standIns := [], harness := (true, "e387b1f95d599843f134eb38dedea8c5894183c3d27468da72f9ff57c95afa22"), looks := true }, kinds := [], alts := [], laidByText := true, laidKinds := [.data, .data, .data, .sentinel, .sentinel], laidTests := true, laidLooks := .later }
def FixWholeCardSaid : Prop := Claim7.holds Tryd.pinned (.plain (OpenSpec.ofChange fixWholeSpec)) fixWholeCard

/-- THE TIED CARD OF 'ninepinlaw02.FixClamped'. -/
def fixClampedCard : Claim7 := { stood := { row := fixClampedRow, standIns := [], harness := (true, "e387b1f95d599843f134eb38dedea8c5894183c3d27468da72f9ff57c95afa22"), looks := true }, kinds := [], alts := [], laidByText := true, laidKinds := [.data, .data, .data, .sentinel, .sentinel], laidTests := true, laidLooks := .later }
def FixClampedCardSaid : Prop := Claim7.holds Tryd.pinned (.plain (OpenSpec.ofChange fixClampedSpec)) fixClampedCard

/-- THE TIED CARD OF 'ninepinlaw02.FixAround'. -/
def fixAroundCard : Claim7 := { stood := { row := fixAroundRow, standIns := [], harness := (true, "e387b1f95d599843f134eb38dedea8c5894183c3d27468da72f9ff57c95afa22"), looks := true }, kinds := [], alts := [], laidByText := true, laidKinds := [.data, .data, .data, .sentinel, .sentinel], laidTests := true, laidLooks := .later }
def FixAroundCardSaid : Prop := Claim7.holds Tryd.pinned (.plain (OpenSpec.ofChange fixAroundSpec)) fixAroundCard

/-- THE TIED CARD OF 'ninepinlaw02.FixRoot'. -/
def fixRootCard : Claim7 := { stood := { row := fixRootRow, standIns := [], harness := (true, "e387b1f95d599843f134eb38dedea8c5894183c3d27468da72f9ff57c95afa22"), looks := true }, kinds := [], alts := [], laidByText := true, laidKinds := [.data, .data, .data, .sentinel, .sentinel], laidTests := true, laidLooks := .later }
def FixRootCardSaid : Prop := Claim7.holds Tryd.pinned (.plain (OpenSpec.ofChange fixRootSpec)) fixRootCard

/-- THE TIED CARD OF 'ninepinlaw02.FixOrder'. -/
def fixOrderCard : Claim7 := { stood := { row := fixOrderRow, standIns := [], harness := (true, "e387b1f95d599843f134eb38dedea8c5894183c3d27468da72f9ff57c95afa22"), looks := true }, kinds := [], alts := [], laidByText := true, laidKinds := [.data, .data, .data, .sentinel, .sentinel], laidTests := true, laidLooks := .later }
def FixOrderCardSaid : Prop := Claim7.holds Tryd.pinned (.plain (OpenSpec.ofChange fixOrderSpec)) fixOrderCard

/-- THE SECOND FORM's CARD OF 'ninepinlaw02.FixText'. -/
def fixTextUptoCard : Claim7 := { stood := { row := fixTextUptoRow, standIns := [], harness := (true, "e387b1f95d599843f134eb38dedea8c5894183c3d27468da72f9ff57c95afa22"), looks := true }, kinds := [], alts := [], laidByText := true, laidKinds := [.data, .data, .data, .sentinel, .sentinel], laidTests := true, laidLooks := .later }
def FixTextUptoCardSaid : Prop := Claim7.holds Tryd.pinned (.plain (OpenSpec.upto fixTextSpec)) fixTextUptoCard

/-- THE SECOND FORM's CARD OF 'ninepinlaw02.FixBack'. -/
def fixBackUptoCard : Claim7 := { stood := { row := fixBackUptoRow, standIns := [], harness := (true, "e387b1f95d599843f134eb38dedea8c5894183c3d27468da72f9ff57c95afa22"), looks := true }, kinds := [], alts := [], laidByText := true, laidKinds := [.data, .data, .data, .sentinel, .sentinel], laidTests := true, laidLooks := .later }
def FixBackUptoCardSaid : Prop := Claim7.holds Tryd.pinned (.plain (OpenSpec.upto fixBackSpec)) fixBackUptoCard

/-- THE SECOND FORM's CARD OF 'ninepinlaw02.FixWhole'. -/
def fixWholeUptoCard : Claim7 := { stood := { row := fixWholeUptoRow, standIns := [], harness := (true, "e387b1f95d599843f134eb38dedea8c5894183c3d27468da72f9ff57c95afa22"), looks := true }, kinds := [], alts := [], laidByText := true, laidKinds := [.data, .data, .data, .sentinel, .sentinel], laidTests := true, laidLooks := .later }
def FixWholeUptoCardSaid : Prop := Claim7.holds Tryd.pinned (.plain (OpenSpec.upto fixWholeSpec)) fixWholeUptoCard

/-- THE SECOND FORM's CARD OF 'ninepinlaw02.FixClamped'. -/
def fixClampedUptoCard : Claim7 := { stood := { row := fixClampedUptoRow, standIns := [], harness := (true, "e387b1f95d599843f134eb38dedea8c5894183c3d27468da72f9ff57c95afa22"), looks := true }, kinds := [], alts := [], laidByText := true, laidKinds := [.data, .data, .data, .sentinel, .sentinel], laidTests := true, laidLooks := .later }
def FixClampedUptoCardSaid : Prop := Claim7.holds Tryd.pinned (.plain (OpenSpec.upto fixClampedSpec)) fixClampedUptoCard

/-- THE SECOND FORM's CARD OF 'ninepinlaw02.FixAround'. -/
def fixAroundUptoCard : Claim7 := { stood := { row := fixAroundUptoRow, standIns := [], harness := (true, "e387b1f95d599843f134eb38dedea8c5894183c3d27468da72f9ff57c95afa22"), looks := true }, kinds := [], alts := [], laidByText := true, laidKinds := [.data, .data, .data, .sentinel, .sentinel], laidTests := true, laidLooks := .later }
def FixAroundUptoCardSaid : Prop := Claim7.holds Tryd.pinned (.plain (OpenSpec.upto fixAroundSpec)) fixAroundUptoCard

/-- THE SECOND FORM's CARD OF 'ninepinlaw02.FixRoot'. -/
def fixRootUptoCard : Claim7 := { stood := { row := fixRootUptoRow, standIns := [], harness := (true, "e387b1f95d599843f134eb38dedea8c5894183c3d27468da72f9ff57c95afa22"), looks := true }, kinds := [], alts := [], laidByText := true, laidKinds := [.data, .data, .data, .sentinel, .sentinel], laidTests := true, laidLooks := .later }
def FixRootUptoCardSaid : Prop := Claim7.holds Tryd.pinned (.plain (OpenSpec.upto fixRootSpec)) fixRootUptoCard

/-- THE SECOND FORM's CARD OF 'ninepinlaw02.FixOrder'. -/
def fixOrderUptoCard : Claim7 := { stood := { row := fixOrderUptoRow, standIns := [], harness := (true, "e387b1f95d599843f134eb38dedea8c5894183c3d27468da72f9ff57c95afa22"), looks := true }, kinds := [], alts := [], laidByText := true, laidKinds := [.data, .data, .data, .sentinel, .sentinel], laidTests := true, laidLooks := .later }
def FixOrderUptoCardSaid : Prop := Claim7.holds Tryd.pinned (.plain (OpenSpec.upto fixOrderSpec)) fixOrderUptoCard
end Rows
end Go.Proofs.YtbdkbmhejoakiaaDoor
