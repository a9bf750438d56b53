/-
  DERIVED. GIVEN WITH THE SEED: THE CARDS: each row of YtnhejenjpomhdaaDoorRows.lean that lists a variable, with what it lists TIED to the program's text (the seventh form; the later family's looks); each row that meets fmt, with fmt's text TOLD by the authors' own Lean function (tested against real Go, not proved from fmt's source: count such statements apart). THE CARD IS WHAT COUNTS. Prove the row's statement (the work); the ties are given (YtnhejenjpomhdaaDoorTie.lean); close each card by the builder's one call (the guide's Derived/Test/ToyasCard.lean, 'card_holds'). Laid BY PROGRAM, IN A SANDBOX (cutbox-door.mjs). By AI agents, Wed Nov 11 2026. No macro, syntax, notation, axiom, sorry.
-/
import Derived.Test.YtnhejenjpomhdaaDoorRows
import GoSem.ClaimSeven
namespace Go.Proofs.YtnhejenjpomhdaaDoor
namespace Rows

/-- THE TIED CARD OF 'vivariumlaw09.TableSteps'. -/
def tableStepsCard : Claim7 := { stood := { row := tableStepsRow, standIns := [], harness := (true, "9c05562e51fd2a0f0e7c79892796f46299247704b729effb9780d9ef117edd2c"), looks := false }, kinds := [], alts := [], laidByText := true, laidKinds := [.data], laidTests := true, laidLooks := .later }
def TableStepsCardSaid : Prop := Claim7.holds Tryd.pinned (.plain (OpenSpec.ofChange tableStepsSpec)) tableStepsCard

/-- THE TIED CARD OF 'vivariumlaw09.TableLoads'. -/
def tableLoadsCard : Claim7 := { stood := { row := tableLoadsRow, standIns := [], harness := (true, "9c05562e51fd2a0f0e7c79892796f46299247704b729effb9780d9ef117edd2c"), looks := false }, kinds := [], alts := [], laidByText := true, laidKinds := [.data], laidTests := true, laidLooks := .later }
def TableLoadsCardSaid : Prop := Claim7.holds Tryd.pinned (.plain (OpenSpec.ofChange tableLoadsSpec)) tableLoadsCard

/-- THE TIED CARD OF 'vivariumlaw09.TableBack'. -/
def tableBackCard : Claim7 := { stood := { row := tableBackRow, standIns := [], harness := (true, "9c05562e51fd2a0f0e7c79892796f46299247704b729effb9780d9ef117edd2c"), looks := false }, kinds := [], alts := [], laidByText := true, laidKinds := [.data], laidTests := true, laidLooks := .later }
def TableBackCardSaid : Prop := Claim7.holds Tryd.pinned (.plain (OpenSpec.ofChange tableBackSpec)) tableBackCard

/-- THE TIED CARD OF 'vivariumlaw15.FlushFinds'. -/
def flushFindsCard : Claim7 := { stood := { row := flushFindsRow, standIns := [], harness := (true, "9c05562e51fd2a0f0e7c79892796f46299247704b729effb9780d9ef117edd2c"), looks := false }, kinds := [], alts := [], laidByText := true, laidKinds := [.data], laidTests := true, laidLooks := .later }
def FlushFindsCardSaid : Prop := Claim7.holds Tryd.pinned (.plain (OpenSpec.ofChange flushFindsSpec)) flushFindsCard

/-- THE SECOND FORM's CARD OF 'vivariumlaw09.TableSteps'. -/
def tableStepsUptoCard : Claim7 := { stood := { row := tableStepsUptoRow, standIns := [], harness := (true, "9c05562e51fd2a0f0e7c79892796f46299247704b729effb9780d9ef117edd2c"), looks := false }, kinds := [], alts := [], laidByText := true, laidKinds := [.data], laidTests := true, laidLooks := .later }
def TableStepsUptoCardSaid : Prop := Claim7.holds Tryd.pinned (.plain (OpenSpec.upto tableStepsSpec)) tableStepsUptoCard

/-- THE SECOND FORM's CARD OF 'vivariumlaw09.TableLoads'. -/
def tableLoadsUptoCard : Claim7 := { stood := { row := tableLoadsUptoRow, standIns := [], harness := (true, "9c05562e51fd2a0f0e7c79892796f46299247704b729effb9780d9ef117edd2c"), looks := false }, kinds := [], alts := [], laidByText := true, laidKinds := [.data], laidTests := true, laidLooks := .later }
def TableLoadsUptoCardSaid : Prop := Claim7.holds Tryd.pinned (.plain (OpenSpec.upto tableLoadsSpec)) tableLoadsUptoCard

/-- THE SECOND FORM's CARD OF 'vivariumlaw09.TableBack'. -/
def tableBackUptoCard : Claim7 := { stood := { row := tableBackUptoRow, standIns := [], harness := (true, "9c05562e51fd2a0f0e7c79892796f46299247704b729effb9780d9ef117edd2c"), looks := false }, kinds := [], alts := [], laidByText := true, laidKinds := [.data], laidTests := true, laidLooks := .later }
def TableBackUptoCardSaid : Prop := Claim7.holds Tryd.pinned (.plain (OpenSpec.upto tableBackSpec)) tableBackUptoCard

/-- THE SECOND FORM's CARD OF 'vivariumlaw15.FlushFinds'. -/
def flushFindsUptoCard : Claim7 := { stood := { row := flushFindsUptoRow, standIns := [], harness := (true, "9c05562e51fd2a0f0e7c79892796f46299247704b729effb9780d9ef117edd2c"), looks := false }, kinds := [], alts := [], laidByText := true, laidKinds := [.data], laidTests := true, laidLooks := .later }
def FlushFindsUptoCardSaid : Prop := Claim7.holds Tryd.pinned (.plain (OpenSpec.upto flushFindsSpec)) flushFindsUptoCard
end Rows
end Go.Proofs.YtnhejenjpomhdaaDoor
