/-
  DERIVED. GIVEN WITH THE SEED: THE CARDS: each row of YtnponcjnahicnaaGreatDoorRows.lean that lists a variable, with what it lists TIED to the program's text (the seventh form; the later family's looks); each row that meets fmt, with fmt's text TOLD by the authors' own Lean function (tested against real Go, not proved from fmt's source: count such statements apart). THE CARD IS WHAT COUNTS. Prove the row's statement (the work); the ties are given (YtnponcjnahicnaaGreatDoorTie.lean); close each card by the builder's one call (the guide's Derived/Test/ToyasCard.lean, 'card_holds'). Laid BY PROGRAM, IN A SANDBOX (cutbox-door.mjs). By AI agents, Wed Nov 11 2026. No macro, syntax, notation, axiom, sorry.
-/
import Derived.Test.YtnponcjnahicnaaGreatDoorRows
import GoSem.ClaimSeven
namespace Go.Proofs.YtnponcjnahicnaaGreatDoor
namespace Rows

/-- THE TIED CARD OF 'inklinglaw17.JoinEach'. -/
def joinEachCard : Claim7 := { stood := { row := joinEachRow, standIns := [], harness := (true, "e6ba9a8d28b1b0125e4482d62b8f0f6cc5d57efa0ccd50fc771bcab7bcaba334"), looks := false }, kinds := [], alts := [], laidByText := true, laidKinds := [.data, .data, .data], laidTests := true, laidLooks := .later }
def JoinEachCardSaid : Prop := Claim7.holds Tryz.pinned (.plain (OpenSpec.ofChange joinEachSpec)) joinEachCard

/-- THE TIED CARD OF 'inklinglaw17.JoinCompiles'. -/
def joinCompilesCard : Claim7 := { stood := { row := joinCompilesRow, standIns := [], harness := (true, "e6ba9a8d28b1b0125e4482d62b8f0f6cc5d57efa0ccd50fc771bcab7bcaba334"), looks := false }, kinds := [], alts := [], laidByText := true, laidKinds := [.data, .data, .data], laidTests := true, laidLooks := .later }
def JoinCompilesCardSaid : Prop := Claim7.holds Tryz.pinned (.plain (OpenSpec.ofChange joinCompilesSpec)) joinCompilesCard

/-- THE TIED CARD OF 'inklinglaw17.JoinStores'. -/
def joinStoresCard : Claim7 := { stood := { row := joinStoresRow, standIns := [], harness := (true, "e6ba9a8d28b1b0125e4482d62b8f0f6cc5d57efa0ccd50fc771bcab7bcaba334"), looks := false }, kinds := [], alts := [], laidByText := true, laidKinds := [.data, .data, .data], laidTests := true, laidLooks := .later }
def JoinStoresCardSaid : Prop := Claim7.holds Tryz.pinned (.plain (OpenSpec.ofChange joinStoresSpec)) joinStoresCard

/-- THE SECOND FORM's CARD OF 'inklinglaw17.JoinEach'. -/
def joinEachUptoCard : Claim7 := { stood := { row := joinEachUptoRow, standIns := [], harness := (true, "e6ba9a8d28b1b0125e4482d62b8f0f6cc5d57efa0ccd50fc771bcab7bcaba334"), looks := false }, kinds := [], alts := [], laidByText := true, laidKinds := [.data, .data, .data], laidTests := true, laidLooks := .later }
def JoinEachUptoCardSaid : Prop := Claim7.holds Tryz.pinned (.plain (OpenSpec.upto joinEachSpec)) joinEachUptoCard

/-- THE SECOND FORM's CARD OF 'inklinglaw17.JoinCompiles'. -/
def joinCompilesUptoCard : Claim7 := { stood := { row := joinCompilesUptoRow, standIns := [], harness := (true, "e6ba9a8d28b1b0125e4482d62b8f0f6cc5d57efa0ccd50fc771bcab7bcaba334"), looks := false }, kinds := [], alts := [], laidByText := true, laidKinds := [.data, .data, .data], laidTests := true, laidLooks := .later }
def JoinCompilesUptoCardSaid : Prop := Claim7.holds Tryz.pinned (.plain (OpenSpec.upto joinCompilesSpec)) joinCompilesUptoCard

/-- THE SECOND FORM's CARD OF 'inklinglaw17.JoinStores'. -/
def joinStoresUptoCard : Claim7 := { stood := { row := joinStoresUptoRow, standIns := [], harness := (true, "e6ba9a8d28b1b0125e4482d62b8f0f6cc5d57efa0ccd50fc771bcab7bcaba334"), looks := false }, kinds := [], alts := [], laidByText := true, laidKinds := [.data, .data, .data], laidTests := true, laidLooks := .later }
def JoinStoresUptoCardSaid : Prop := Claim7.holds Tryz.pinned (.plain (OpenSpec.upto joinStoresSpec)) joinStoresUptoCard
end Rows
end Go.Proofs.YtnponcjnahicnaaGreatDoor
