/-
  DERIVED. GIVEN WITH THE SEED: THE CARDS: each row of YtedalanhjhiehaaDoorRows.lean that lists a variable, with what it lists TIED to the program's text (the seventh form; the later family's looks); each row that meets fmt, with fmt's text TOLD by the authors' own Lean function (tested against real Go, not proved from fmt's source: count such statements apart). THE CARD IS WHAT COUNTS. Prove the row's statement (the work); the ties are given (YtedalanhjhiehaaDoorTie.lean); close each card by the builder's one call (the guide's Derived/Test/ToyasCard.lean, 'card_holds'). Laid BY PROGRAM, IN A SANDBOX (cutbox-door.mjs). By AI agents, Wed Nov 11 2026. No macro, syntax, notation, axiom, sorry.
-/
import Derived.Test.YtedalanhjhiehaaDoorRows
import GoSem.ClaimSeven
namespace Go.Proofs.YtedalanhjhiehaaDoor
namespace Rows

/-- THE TIED CARD OF 'slipwaylaw17.SagaThrough'. -/
def sagaThroughCard : Claim7 := { stood := { row := sagaThroughRow, standIns := [], harness := (true, "0d843d88da0ffd09a853f0a53107fa43efed2bbf457497b3b77b207e8c4077ed"), looks := false }, kinds := [], alts := [], laidByText := true, laidKinds := [.data], laidTests := true, laidLooks := .later }
def SagaThroughCardSaid : Prop := Claim7.holds Tryd.pinned (.plain (OpenSpec.ofChange sagaThroughSpec)) sagaThroughCard

/-- THE TIED CARD OF 'slipwaylaw17.SagaOwn'. -/
def sagaOwnCard : Claim7 := { stood := { row := sagaOwnRow, standIns := [], harness := (true, "0d843d88da0ffd09a853f0a53107fa43efed2bbf457497b3b77b207e8c4077ed"), looks := false }, kinds := [], alts := [], laidByText := true, laidKinds := [.data], laidTests := true, laidLooks := .later }
def SagaOwnCardSaid : Prop := Claim7.holds Tryd.pinned (.plain (OpenSpec.ofChange sagaOwnSpec)) sagaOwnCard

/-- THE SECOND FORM's CARD OF 'slipwaylaw17.SagaThrough'. -/
def sagaThroughUptoCard : Claim7 := { stood := { row := sagaThroughUptoRow, standIns := [], harness := (true, "0d843d88da0ffd09a853f0a53107fa43efed2bbf457497b3b77b207e8c4077ed"), looks := false }, kinds := [], alts := [], laidByText := true, laidKinds := [.data], laidTests := true, laidLooks := .later }
def SagaThroughUptoCardSaid : Prop := Claim7.holds Tryd.pinned (.plain (OpenSpec.upto sagaThroughSpec)) sagaThroughUptoCard

/-- THE SECOND FORM's CARD OF 'slipwaylaw17.SagaOwn'. -/
def sagaOwnUptoCard : Claim7 := { stood := { row := sagaOwnUptoRow, standIns := [], harness := (true, "0d843d88da0ffd09a853f0a53107fa43efed2bbf457497b3b77b207e8c4077ed"), looks := false }, kinds := [], alts := [], laidByText := true, laidKinds := [.data], laidTests := true, laidLooks := .later }
def SagaOwnUptoCardSaid : Prop := Claim7.holds Tryd.pinned (.plain (OpenSpec.upto sagaOwnSpec)) sagaOwnUptoCard
end Rows
end Go.Proofs.YtedalanhjhiehaaDoor
