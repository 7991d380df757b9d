/-
  DERIVED. GIVEN WITH THE SEED: THE CARDS: each row of YtfhoalglgmdiaaaDoorRows.lean that lists a variable, with what it lists TIED to the program's text (the seventh form; the later family's looks); each row that meets fmt, with fmt's text TOLD by the authors' own Lean function (tested against real Go, not proved from fmt's source: count such statements apart). THE CARD IS WHAT COUNTS. Prove the row's statement (the work); the ties are given (YtfhoalglgmdiaaaDoorTie.lean); close each card by the builder's one call (the guide's Derived/Test/ToyasCard.lean, 'card_holds'). Laid BY PROGRAM, IN A SANDBOX (cutbox-door.mjs). By AI agents, Wed Nov 11 2026. No macro, syntax, notation, axiom, sorry.
-/
import Derived.Test.YtfhoalglgmdiaaaDoorRows
import GoSem.ClaimSeven
namespace Go.Proofs.YtfhoalglgmdiaaaDoor
namespace Rows

/-- THE TIED CARD OF 'laws.FnExactStepAlert'. -/
def fnExactStepAlertCard : Claim7 := { stood := { row := fnExactStepAlertRow, standIns := [], harness := (true, "96903b57dfd56ea06c304ee5447b0771c6722e699d1bc773943d16bf57b97d4d"), looks := false }, kinds := [], alts := [], laidByText := true, laidKinds := [.data], laidTests := true, laidLooks := .later }
def FnExactStepAlertCardSaid : Prop := Claim7.holds Tryd.pinned (.plain (OpenSpec.ofChange fnExactStepAlertSpec)) fnExactStepAlertCard

/-- THE TIED CARD OF 'laws.FnStepAlert'. -/
def fnStepAlertCard : Claim7 := { stood := { row := fnStepAlertRow, standIns := [], harness := (true, "96903b57dfd56ea06c304ee5447b0771c6722e699d1bc773943d16bf57b97d4d"), looks := false }, kinds := [], alts := [], laidByText := true, laidKinds := [.data], laidTests := true, laidLooks := .later }
def FnStepAlertCardSaid : Prop := Claim7.holds Tryd.pinned (.plain (OpenSpec.ofChange fnStepAlertSpec)) fnStepAlertCard

/-- THE TIED CARD OF 'laws.FnStepAlertHold'. -/
def fnStepAlertHoldCard : Claim7 := { stood := { row := fnStepAlertHoldRow, standIns := [], harness := (true, "96903b57dfd56ea06c304ee5447b0771c6722e699d1bc773943d16bf57b97d4d"), looks := false }, kinds := [], alts := [], laidByText := true, laidKinds := [.data], laidTests := true, laidLooks := .later }
def FnStepAlertHoldCardSaid : Prop := Claim7.holds Tryd.pinned (.plain (OpenSpec.ofChange fnStepAlertHoldSpec)) fnStepAlertHoldCard

/-- THE TIED CARD OF 'laws.FnStepAlertTwice'. -/
def fnStepAlertTwiceCard : Claim7 := { stood := { row := fnStepAlertTwiceRow, standIns := [], harness := (true, "96903b57dfd56ea06c304ee5447b0771c6722e699d1bc773943d16bf57b97d4d"), looks := false }, kinds := [], alts := [], laidByText := true, laidKinds := [.data], laidTests := true, laidLooks := .later }
def FnStepAlertTwiceCardSaid : Prop := Claim7.holds Tryd.pinned (.plain (OpenSpec.ofChange fnStepAlertTwiceSpec)) fnStepAlertTwiceCard

/-- THE TIED CARD OF 'laws.FnAlertStates'. -/
def fnAlertStatesCard : Claim7 := { stood := { row := fnAlertStatesRow, standIns := [], harness := (true, "96903b57dfd56ea06c304ee5447b0771c6722e699d1bc773943d16bf57b97d4d"), looks := false }, kinds := [], alts := [], laidByText := true, laidKinds := [.data], laidTests := true, laidLooks := .later }
def FnAlertStatesCardSaid : Prop := Claim7.holds Tryd.pinned (.plain (OpenSpec.ofChange fnAlertStatesSpec)) fnAlertStatesCard

/-- THE TIED CARD OF 'laws.FnAlertStatesHigh'. -/
def fnAlertStatesHighCard : Claim7 := { stood := { row := fnAlertStatesHighRow, standIns := [], harness := (true, "96903b57dfd56ea06c304ee5447b0771c6722e699d1bc773943d16bf57b97d4d"), looks := false }, kinds := [], alts := [], laidByText := true, laidKinds := [.data], laidTests := true, laidLooks := .later }
def FnAlertStatesHighCardSaid : Prop := Claim7.holds Tryd.pinned (.plain (OpenSpec.ofChange fnAlertStatesHighSpec)) fnAlertStatesHighCard

/-- THE TIED CARD OF 'laws.FnAlertStatesQuiet'. -/
def fnAlertStatesQuietCard : Claim7 := { stood := { row := fnAlertStatesQuietRow, standIns := [], harness := (true, "96903b57dfd56ea06c304ee5447b0771c6722e699d1bc773943d16bf57b97d4d"), looks := false }, kinds := [], alts := [], laidByText := true, laidKinds := [.data], laidTests := true, laidLooks := .later }
def FnAlertStatesQuietCardSaid : Prop := Claim7.holds Tryd.pinned (.plain (OpenSpec.ofChange fnAlertStatesQuietSpec)) fnAlertStatesQuietCard

/-- THE TIED CARD OF 'laws.FnExactCountRings'. -/
def fnExactCountRingsCard : Claim7 := { stood := { row := fnExactCountRingsRow, standIns := [], harness := (true, "96903b57dfd56ea06c304ee5447b0771c6722e699d1bc773943d16bf57b97d4d"), looks := false }, kinds := [], alts := [], laidByText := true, laidKinds := [.data], laidTests := true, laidLooks := .later }
def FnExactCountRingsCardSaid : Prop := Claim7.holds Tryd.pinned (.plain (OpenSpec.ofChange fnExactCountRingsSpec)) fnExactCountRingsCard

/-- THE TIED CARD OF 'laws.FnExactAlertStates'. -/
def fnExactAlertStatesCard : Claim7 := { stood := { row := fnExactAlertStatesRow, standIns := [], harness := (true, "96903b57dfd56ea06c304ee5447b0771c6722e699d1bc773943d16bf57b97d4d"), looks := false }, kinds := [], alts := [], laidByText := true, laidKinds := [.data], laidTests := true, laidLooks := .later }
def FnExactAlertStatesCardSaid : Prop := Claim7.holds Tryd.pinned (.plain (OpenSpec.ofChange fnExactAlertStatesSpec)) fnExactAlertStatesCard

/-- THE TIED CARD OF 'laws.FnCountRings'. -/
def fnCountRingsCard : Claim7 := { stood := { row := fnCountRingsRow, standIns := [], harness := (true, "96903b57dfd56ea06c304ee5447b0771c6722e699d1bc773943d16bf57b97d4d"), looks := false }, kinds := [], alts := [], laidByText := true, laidKinds := [.data], laidTests := true, laidLooks := .later }
def FnCountRingsCardSaid : Prop := Claim7.holds Tryd.pinned (.plain (OpenSpec.ofChange fnCountRingsSpec)) fnCountRingsCard

/-- THE TIED CARD OF 'laws.FnCountRingsHold'. -/
def fnCountRingsHoldCard : Claim7 := { stood := { row := fnCountRingsHoldRow, standIns := [], harness := (true, "96903b57dfd56ea06c304ee5447b0771c6722e699d1bc773943d16bf57b97d4d"), looks := false }, kinds := [], alts := [], laidByText := true, laidKinds := [.data], laidTests := true, laidLooks := .later }
def FnCountRingsHoldCardSaid : Prop := Claim7.holds Tryd.pinned (.plain (OpenSpec.ofChange fnCountRingsHoldSpec)) fnCountRingsHoldCard

/-- THE TIED CARD OF 'laws.FnCountRingsOnce'. -/
def fnCountRingsOnceCard : Claim7 := { stood := { row := fnCountRingsOnceRow, standIns := [], harness := (true, "96903b57dfd56ea06c304ee5447b0771c6722e699d1bc773943d16bf57b97d4d"), looks := false }, kinds := [], alts := [], laidByText := true, laidKinds := [.data], laidTests := true, laidLooks := .later }
def FnCountRingsOnceCardSaid : Prop := Claim7.holds Tryd.pinned (.plain (OpenSpec.ofChange fnCountRingsOnceSpec)) fnCountRingsOnceCard

/-- THE SECOND FORM's CARD OF 'laws.FnExactStepAlert'. -/
def fnExactStepAlertUptoCard : Claim7 := { stood := { row := fnExactStepAlertUptoRow, standIns := [], harness := (true, "96903b57dfd56ea06c304ee5447b0771c6722e699d1bc773943d16bf57b97d4d"), looks := false }, kinds := [], alts := [], laidByText := true, laidKinds := [.data], laidTests := true, laidLooks := .later }
def FnExactStepAlertUptoCardSaid : Prop := Claim7.holds Tryd.pinned (.plain (OpenSpec.upto fnExactStepAlertSpec)) fnExactStepAlertUptoCard

/-- THE SECOND FORM's CARD OF 'laws.FnStepAlert'. -/
def fnStepAlertUptoCard : Claim7 := { stood := { row := fnStepAlertUptoRow, standIns := [], harness := (true, "96903b57dfd56ea06c304ee5447b0771c6722e699d1bc773943d16bf57b97d4d"), looks := false }, kinds := [], alts := [], laidByText := true, laidKinds := [.data], laidTests := true, laidLooks := .later }
def FnStepAlertUptoCardSaid : Prop := Claim7.holds Tryd.pinned (.plain (OpenSpec.upto fnStepAlertSpec)) fnStepAlertUptoCard

/-- THE SECOND FORM's CARD OF 'laws.FnStepAlertHold'. -/
def fnStepAlertHoldUptoCard : Claim7 := { stood := { row := fnStepAlertHoldUptoRow, standIns := [], harness := (true, "96903b57dfd56ea06c304ee5447b0771c6722e699d1bc773943d16bf57b97d4d"), looks := false }, kinds := [], alts := [], laidByText := true, laidKinds := [.data], laidTests := true, laidLooks := .later }
def FnStepAlertHoldUptoCardSaid : Prop := Claim7.holds Tryd.pinned (.plain (OpenSpec.upto fnStepAlertHoldSpec)) fnStepAlertHoldUptoCard

/-- THE SECOND FORM's CARD OF 'laws.FnStepAlertTwice'. -/
def fnStepAlertTwiceUptoCard : Claim7 := { stood := { row := fnStepAlertTwiceUptoRow, standIns := [], harness := (true, "96903b57dfd56ea06c304ee5447b0771c6722e699d1bc773943d16bf57b97d4d"), looks := false }, kinds := [], alts := [], laidByText := true, laidKinds := [.data], laidTests := true, laidLooks := .later }
def FnStepAlertTwiceUptoCardSaid : Prop := Claim7.holds Tryd.pinned (.plain (OpenSpec.upto fnStepAlertTwiceSpec)) fnStepAlertTwiceUptoCard

/-- THE SECOND FORM's CARD OF 'laws.FnAlertStates'. -/
def fnAlertStatesUptoCard : Claim7 := { stood := { row := fnAlertStatesUptoRow, standIns := [], harness := (true, "96903b57dfd56ea06c304ee5447b0771c6722e699d1bc773943d16bf57b97d4d"), looks := false }, kinds := [], alts := [], laidByText := true, laidKinds := [.data], laidTests := true, laidLooks := .later }
def FnAlertStatesUptoCardSaid : Prop := Claim7.holds Tryd.pinned (.plain (OpenSpec.upto fnAlertStatesSpec)) fnAlertStatesUptoCard

/-- THE SECOND FORM's CARD OF 'laws.FnAlertStatesHigh'. -/
def fnAlertStatesHighUptoCard : Claim7 := { stood := { row := fnAlertStatesHighUptoRow, standIns := [], harness := (true, "96903b57dfd56ea06c304ee5447b0771c6722e699d1bc773943d16bf57b97d4d"), looks := false }, kinds := [], alts := [], laidByText := true, laidKinds := [.data], laidTests := true, laidLooks := .later }
def FnAlertStatesHighUptoCardSaid : Prop := Claim7.holds Tryd.pinned (.plain (OpenSpec.upto fnAlertStatesHighSpec)) fnAlertStatesHighUptoCard

/-- THE SECOND FORM's CARD OF 'laws.FnAlertStatesQuiet'. -/
def fnAlertStatesQuietUptoCard : Claim7 := { stood := { row := fnAlertStatesQuietUptoRow, standIns := [], harness := (true, "96903b57dfd56ea06c304ee5447b0771c6722e699d1bc773943d16bf57b97d4d"), looks := false }, kinds := [], alts := [], laidByText := true, laidKinds := [.data], laidTests := true, laidLooks := .later }
def FnAlertStatesQuietUptoCardSaid : Prop := Claim7.holds Tryd.pinned (.plain (OpenSpec.upto fnAlertStatesQuietSpec)) fnAlertStatesQuietUptoCard

/-- THE SECOND FORM's CARD OF 'laws.FnExactCountRings'. -/
def fnExactCountRingsUptoCard : Claim7 := { stood := { row := fnExactCountRingsUptoRow, standIns := [], harness := (true, "96903b57dfd56ea06c304ee5447b0771c6722e699d1bc773943d16bf57b97d4d"), looks := false }, kinds := [], alts := [], laidByText := true, laidKinds := [.data], laidTests := true, laidLooks := .later }
def FnExactCountRingsUptoCardSaid : Prop := Claim7.holds Tryd.pinned (.plain (OpenSpec.upto fnExactCountRingsSpec)) fnExactCountRingsUptoCard

/-- THE SECOND FORM's CARD OF 'laws.FnExactAlertStates'. -/
def fnExactAlertStatesUptoCard : Claim7 := { stood := { row := fnExactAlertStatesUptoRow, standIns := [], harness := (true, "96903b57dfd56ea06c304ee5447b0771c6722e699d1bc773943d16bf57b97d4d"), looks := false }, kinds := [], alts := [], laidByText := true, laidKinds := [.data], laidTests := true, laidLooks := .later }
def FnExactAlertStatesUptoCardSaid : Prop := Claim7.holds Tryd.pinned (.plain (OpenSpec.upto fnExactAlertStatesSpec)) fnExactAlertStatesUptoCard

/-- THE SECOND FORM's CARD OF 'laws.FnCountRings'. -/
def fnCountRingsUptoCard : Claim7 := { stood := { row := fnCountRingsUptoRow, standIns := [], harness := (true, "96903b57dfd56ea06c304ee5447b0771c6722e699d1bc773943d16bf57b97d4d"), looks := false }, kinds := [], alts := [], laidByText := true, laidKinds := [.data], laidTests := true, laidLooks := .later }
def FnCountRingsUptoCardSaid : Prop := Claim7.holds Tryd.pinned (.plain (OpenSpec.upto fnCountRingsSpec)) fnCountRingsUptoCard

/-- THE SECOND FORM's CARD OF 'laws.FnCountRingsHold'. -/
def fnCountRingsHoldUptoCard : Claim7 := { stood := { row := fnCountRingsHoldUptoRow, standIns := [], harness := (true, "96903b57dfd56ea06c304ee5447b0771c6722e699d1bc773943d16bf57b97d4d"), looks := false }, kinds := [], alts := [], laidByText := true, laidKinds := [.data], laidTests := true, laidLooks := .later }
def FnCountRingsHoldUptoCardSaid : Prop := Claim7.holds Tryd.pinned (.plain (OpenSpec.upto fnCountRingsHoldSpec)) fnCountRingsHoldUptoCard

/-- THE SECOND FORM's CARD OF 'laws.FnCountRingsOnce'. -/
def fnCountRingsOnceUptoCard : Claim7 := { stood := { row := fnCountRingsOnceUptoRow, standIns := [], harness := (true, "96903b57dfd56ea06c304ee5447b0771c6722e699d1bc773943d16bf57b97d4d"), looks := false }, kinds := [], alts := [], laidByText := true, laidKinds := [.data], laidTests := true, laidLooks := .later }
def FnCountRingsOnceUptoCardSaid : Prop := Claim7.holds Tryd.pinned (.plain (OpenSpec.upto fnCountRingsOnceSpec)) fnCountRingsOnceUptoCard
end Rows
end Go.Proofs.YtfhoalglgmdiaaaDoor
