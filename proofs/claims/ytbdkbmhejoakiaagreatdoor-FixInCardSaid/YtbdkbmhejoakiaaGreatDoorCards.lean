/-
  DERIVED. GIVEN WITH THE SEED: THE CARDS: each row of YtbdkbmhejoakiaaGreatDoorRows.lean that lists a variable, with what it lists TIED to the program's text (the seventh form; the later family's looks); each row that meets fmt, with fmt's text TOLD by the authors' own Lean function (tested against real Go, not proved from fmt's source: count such statements apart). THE CARD IS WHAT COUNTS. Prove the row's statement (the work); the ties are given (YtbdkbmhejoakiaaGreatDoorTie.lean); close each card by the builder's one call (the guide's Derived/Test/ToyasCard.lean, 'card_holds'). Laid BY PROGRAM, IN A SANDBOX (cutbox-door.mjs). By AI agents, Wed Nov 11 2026. No macro, syntax, notation, axiom, sorry.
-/
import Derived.Test.YtbdkbmhejoakiaaGreatDoorRows
import GoSem.ClaimSeven
namespace Go.Proofs.YtbdkbmhejoakiaaGreatDoor
namespace Rows

/-- THE TIED CARD OF 'ninepinlaw02.FixMul'. -/
def fixMulCard : Claim7 := { stood := { row := fixMulRow, standIns := [], harness := (true, "ea552127e9a18c403c8dd4ea3126ccfbdf9e72e412a1615461594ab1ddb69430"), looks := true }, kinds := [], alts := [], laidByText := true, laidKinds := [.data, .data, .data, .sentinel, .sentinel], laidTests := true, laidLooks := .later }
def FixMulCardSaid : Prop := Claim7.holds Tryz.pinned (.plain (OpenSpec.ofChange fixMulSpec)) fixMulCard

/-- THE TIED CARD OF 'ninepinlaw02.FixDiv'. -/
def fixDivCard : Claim7 := { stood := { row := fixDivRow, standIns := [], harness := (true, "ea552127e9a18c403c8dd4ea3126ccfbdf9e72e412a1615461594ab1ddb69430"), looks := true }, kinds := [], alts := [], laidByText := true, laidKinds := [.data, .data, .data, .sentinel, .sentinel], laidTests := true, laidLooks := .later }
def FixDivCardSaid : Prop := Claim7.holds Tryz.pinned (.plain (OpenSpec.ofChange fixDivSpec)) fixDivCard

/-- THE TIED CARD OF 'ninepinlaw02.FixIn'. -/
def fixInCard : Claim7 := { stood := { row := fixInRow, standIns := [], harness := (true, "ea552127e9a18c403c8dd4ea3126ccfbdf9e72e412a1615461594ab1ddb69430"), looks := true }, kinds := [], alts := [], laidByText := true, laidKinds := [.data, .data, .data, .sentinel, .sentinel], laidTests := true, laidLooks := .later }
def FixInCardSaid : Prop := Claim7.holds Tryz.pinned (.plain (OpenSpec.ofChange fixInSpec)) fixInCard

/-- THE TIED CARD OF 'ninepinlaw02.FixSums'. -/
def fixSumsCard : Claim7 := { stood := { row := fixSumsRow, standIns := [], harness := (true, "ea552127e9a18c403c8dd4ea3126ccfbdf9e72e412a1615461594ab1ddb69430"), looks := true }, kinds := [], alts := [], laidByText := true, laidKinds := [.data, .data, .data, .sentinel, .sentinel], laidTests := true, laidLooks := .later }
def FixSumsCardSaid : Prop := Claim7.holds Tryz.pinned (.plain (OpenSpec.ofChange fixSumsSpec)) fixSumsCard

/-- THE TIED CARD OF 'ninepinlaw02.FixSqrt'. -/
def fixSqrtCard : Claim7 := { stood := { row := fixSqrtRow, standIns := [], harness := (true, "ea552127e9a18c403c8dd4ea3126ccfbdf9e72e412a1615461594ab1ddb69430"), looks := true }, kinds := [], alts := [], laidByText := true, laidKinds := [.data, .data, .data, .sentinel, .sentinel], laidTests := true, laidLooks := .later }
def FixSqrtCardSaid : Prop := Claim7.holds Tryz.pinned (.plain (OpenSpec.ofChange fixSqrtSpec)) fixSqrtCard

/-- THE SECOND FORM's CARD OF 'ninepinlaw02.FixMul'. -/
def fixMulUptoCard : Claim7 := { stood := { row := fixMulUptoRow, standIns := [], harness := (true, "ea552127e9a18c403c8dd4ea3126ccfbdf9e72e412a1615461594ab1ddb69430"), looks := true }, kinds := [], alts := [], laidByText := true, laidKinds := [.data, .data, .data, .sentinel, .sentinel], laidTests := true, laidLooks := .later }
def FixMulUptoCardSaid : Prop := Claim7.holds Tryz.pinned (.plain (OpenSpec.upto fixMulSpec)) fixMulUptoCard

/-- THE SECOND FORM's CARD OF 'ninepinlaw02.FixDiv'. -/
def fixDivUptoCard : Claim7 := { stood := { row := fixDivUptoRow, standIns := [], harness := (true, "ea552127e9a18c403c8dd4ea3126ccfbdf9e72e412a1615461594ab1ddb69430"), looks := true }, kinds := [], alts := [], laidByText := true, laidKinds := [.data, .data, .data, .sentinel, .sentinel], laidTests := true, laidLooks := .later }
def FixDivUptoCardSaid : Prop := Claim7.holds Tryz.pinned (.plain (OpenSpec.upto fixDivSpec)) fixDivUptoCard

/-- THE SECOND FORM's CARD OF 'ninepinlaw02.FixIn'. -/
def fixInUptoCard : Claim7 := { stood := { row := fixInUptoRow, standIns := [], harness := (true, "ea552127e9a18c403c8dd4ea3126ccfbdf9e72e412a1615461594ab1ddb69430"), looks := true }, kinds := [], alts := [], laidByText := true, laidKinds := [.data, .data, .data, .sentinel, .sentinel], laidTests := true, laidLooks := .later }
def FixInUptoCardSaid : Prop := Claim7.holds Tryz.pinned (.plain (OpenSpec.upto fixInSpec)) fixInUptoCard

/-- THE SECOND FORM's CARD OF 'ninepinlaw02.FixSums'. -/
def fixSumsUptoCard : Claim7 := { stood := { row := fixSumsUptoRow, standIns := [], harness := (true, "ea552127e9a18c403c8dd4ea3126ccfbdf9e72e412a1615461594ab1ddb69430"), looks := true }, kinds := [], alts := [], laidByText := true, laidKinds := [.data, .data, .data, .sentinel, .sentinel], laidTests := true, laidLooks := .later }
def FixSumsUptoCardSaid : Prop := Claim7.holds Tryz.pinned (.plain (OpenSpec.upto fixSumsSpec)) fixSumsUptoCard

/-- THE SECOND FORM's CARD OF 'ninepinlaw02.FixSqrt'. -/
def fixSqrtUptoCard : Claim7 := { stood := { row := fixSqrtUptoRow, standIns := [], harness := (true, "ea552127e9a18c403c8dd4ea3126ccfbdf9e72e412a1615461594ab1ddb69430"), looks := true }, kinds := [], alts := [], laidByText := true, laidKinds := [.data, .data, .data, .sentinel, .sentinel], laidTests := true, laidLooks := .later }
def FixSqrtUptoCardSaid : Prop := Claim7.holds Tryz.pinned (.plain (OpenSpec.upto fixSqrtSpec)) fixSqrtUptoCard
end Rows
end Go.Proofs.YtbdkbmhejoakiaaGreatDoor
