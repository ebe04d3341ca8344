/-
  DERIVED. GIVEN WITH THE SEED: THE CARDS: each row of YtnggbahcmhdjnaaDoorRows.lean that lists a variable, with what it lists TIED to the program's text (the seventh form; the later family's looks); each row that meets fmt, with fmt's text TOLD by the authors' own Lean function (tested against real Go, not proved from fmt's source: count such statements apart). THE CARD IS WHAT COUNTS. Prove the row's statement (the work); the ties are given (YtnggbahcmhdjnaaDoorTie.lean); close each card by the builder's one call (the guide's Derived/Test/ToyasCard.lean, 'card_holds'). Laid BY PROGRAM, IN A SANDBOX (cutbox-door.mjs). By AI agents, Wed Nov 11 2026. No macro, syntax, notation, axiom, sorry.
-/
import Derived.Test.YtnggbahcmhdjnaaDoorRows
import GoSem.ClaimSeven
namespace Go.Proofs.YtnggbahcmhdjnaaDoor
namespace Rows

/-- THE TIED CARD OF 'laws.FnExactNameOK'. -/
def fnExactNameOKCard : Claim7 := { stood := { row := fnExactNameOKRow, standIns := [], harness := (true, "f129603f37da630c7ec441369a0fddd37d6e88e1c9a6dfe4d2f752c47b460b96"), looks := false }, kinds := [], alts := [], laidByText := true, laidKinds := [.data, .pinned], laidTests := true, laidLooks := .later }
def FnExactNameOKCardSaid : Prop := Claim7.holds Tryd.pinned (.plain (OpenSpec.ofChange fnExactNameOKSpec)) fnExactNameOKCard

/-- THE SECOND FORM's CARD OF 'laws.FnExactNameOK'. -/
def fnExactNameOKUptoCard : Claim7 := { stood := { row := fnExactNameOKUptoRow, standIns := [], harness := (true, "f129603f37da630c7ec441369a0fddd37d6e88e1c9a6dfe4d2f752c47b460b96"), looks := false }, kinds := [], alts := [], laidByText := true, laidKinds := [.data, .pinned], laidTests := true, laidLooks := .later }
def FnExactNameOKUptoCardSaid : Prop := Claim7.holds Tryd.pinned (.plain (OpenSpec.upto fnExactNameOKSpec)) fnExactNameOKUptoCard
end Rows
end Go.Proofs.YtnggbahcmhdjnaaDoor
