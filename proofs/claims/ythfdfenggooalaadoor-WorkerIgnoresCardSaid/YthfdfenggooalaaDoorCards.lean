/-
  DERIVED. GIVEN WITH THE SEED: THE CARDS: each row of YthfdfenggooalaaDoorRows.lean that lists a variable, with what it lists TIED to the program's text (the seventh form; the later family's looks); each row that meets fmt, with fmt's text TOLD by the authors' own Lean function (tested against real Go, not proved from fmt's source: count such statements apart). THE CARD IS WHAT COUNTS. Prove the row's statement (the work); the ties are given (YthfdfenggooalaaDoorTie.lean); close each card by the builder's one call (the guide's Derived/Test/ToyasCard.lean, 'card_holds'). Laid BY PROGRAM, IN A SANDBOX (cutbox-door.mjs). By AI agents, Wed Nov 11 2026. No macro, syntax, notation, axiom, sorry.
-/
import Derived.Test.YthfdfenggooalaaDoorRows
import GoSem.ClaimSeven
namespace Go.Proofs.YthfdfenggooalaaDoor
namespace Rows

/-- THE TIED CARD OF 'gristmilllaw28.WorkerGives'. -/
def workerGivesCard : Claim7 := { stood := { row := workerGivesRow, standIns := [], harness := (true, "5c8dc7b2b808af96e83bed71eca8317730e42b4e53b0eded79bb74bcc0c8e244"), looks := true }, kinds := [], alts := [], laidByText := true, laidKinds := [.data], laidTests := true, laidLooks := .later }
def WorkerGivesCardSaid : Prop := Claim7.holds Tryd.pinned (.plain (OpenSpec.ofChange workerGivesSpec)) workerGivesCard

/-- THE TIED CARD OF 'gristmilllaw28.WorkerIgnores'. -/
def workerIgnoresCard : Claim7 := { stood := { row := workerIgnoresRow, standIns := [], harness := (true, "5c8dc7b2b808af96e83bed71eca8317730e42b4e53b0eded79bb74bcc0c8e244"), looks := true }, kinds := [], alts := [], laidByText := true, laidKinds := [.data], laidTests := true, laidLooks := .later }
def WorkerIgnoresCardSaid : Prop := Claim7.holds Tryd.pinned (.plain (OpenSpec.ofChange workerIgnoresSpec)) workerIgnoresCard

/-- THE SECOND FORM's CARD OF 'gristmilllaw28.WorkerGives'. -/
def workerGivesUptoCard : Claim7 := { stood := { row := workerGivesUptoRow, standIns := [], harness := (true, "5c8dc7b2b808af96e83bed71eca8317730e42b4e53b0eded79bb74bcc0c8e244"), looks := true }, kinds := [], alts := [], laidByText := true, laidKinds := [.data], laidTests := true, laidLooks := .later }
def WorkerGivesUptoCardSaid : Prop := Claim7.holds Tryd.pinned (.plain (OpenSpec.upto workerGivesSpec)) workerGivesUptoCard

/-- THE SECOND FORM's CARD OF 'gristmilllaw28.WorkerIgnores'. -/
def workerIgnoresUptoCard : Claim7 := { stood := { row := workerIgnoresUptoRow, standIns := [], harness := (true, "5c8dc7b2b808af96e83bed71eca8317730e42b4e53b0eded79bb74bcc0c8e244"), looks := true }, kinds := [], alts := [], laidByText := true, laidKinds := [.data], laidTests := true, laidLooks := .later }
def WorkerIgnoresUptoCardSaid : Prop := Claim7.holds Tryd.pinned (.plain (OpenSpec.upto workerIgnoresSpec)) workerIgnoresUptoCard
end Rows
end Go.Proofs.YthfdfenggooalaaDoor
