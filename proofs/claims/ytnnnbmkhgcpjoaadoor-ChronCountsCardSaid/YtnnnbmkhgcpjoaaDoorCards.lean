/-
  DERIVED. GIVEN WITH THE SEED: THE CARDS: each row of YtnnnbmkhgcpjoaaDoorRows.lean that lists a variable, with what it lists TIED to the program's text (the seventh form; the later family's looks); each row that meets fmt, with fmt's text TOLD by the authors' own Lean function (tested against real Go, not proved from fmt's source: count such statements apart). THE CARD IS WHAT COUNTS. Prove the row's statement (the work); the ties are given (YtnnnbmkhgcpjoaaDoorTie.lean); close each card by the builder's one call (the guide's Derived/Test/ToyasCard.lean, 'card_holds'). Laid BY PROGRAM, IN A SANDBOX (cutbox-door.mjs). By AI agents, Wed Nov 11 2026. No macro, syntax, notation, axiom, sorry.
-/
import Derived.Test.YtnnnbmkhgcpjoaaDoorRows
import GoSem.ClaimSeven
namespace Go.Proofs.YtnnnbmkhgcpjoaaDoor
namespace Rows

/-- THE TIED CARD OF 'ablautlaw13.ChronCounts'. -/
def chronCountsCard : Claim7 := { stood := { row := chronCountsRow, standIns := [], harness := (true, "6cb594623da56a3405f88b2426dbb3ee007f881231e4cd87a6c75cf037636df9"), looks := false }, kinds := [], alts := [], laidByText := true, laidKinds := [.data], laidTests := true, laidLooks := .later }
def ChronCountsCardSaid : Prop := Claim7.holds Tryd.pinned (.plain (OpenSpec.ofChange chronCountsSpec)) chronCountsCard

/-- THE TIED CARD OF 'ablautlaw13.ChronReduces'. -/
def chronReducesCard : Claim7 := { stood := { row := chronReducesRow, standIns := [], harness := (true, "6cb594623da56a3405f88b2426dbb3ee007f881231e4cd87a6c75cf037636df9"), looks := false }, kinds := [], alts := [], laidByText := true, laidKinds := [.data], laidTests := true, laidLooks := .later }
def ChronReducesCardSaid : Prop := Claim7.holds Tryd.pinned (.plain (OpenSpec.ofChange chronReducesSpec)) chronReducesCard

/-- THE TIED CARD OF 'ablautlaw13.ChronLevels'. -/
def chronLevelsCard : Claim7 := { stood := { row := chronLevelsRow, standIns := [], harness := (true, "6cb594623da56a3405f88b2426dbb3ee007f881231e4cd87a6c75cf037636df9"), looks := false }, kinds := [], alts := [], laidByText := true, laidKinds := [.data], laidTests := true, laidLooks := .later }
def ChronLevelsCardSaid : Prop := Claim7.holds Tryd.pinned (.plain (OpenSpec.ofChange chronLevelsSpec)) chronLevelsCard

/-- THE TIED CARD OF 'ablautlaw13.ChronChains'. -/
def chronChainsCard : Claim7 := { stood := { row := chronChainsRow, standIns := [], harness := (true, "6cb594623da56a3405f88b2426dbb3ee007f881231e4cd87a6c75cf037636df9"), looks := false }, kinds := [], alts := [], laidByText := true, laidKinds := [.data], laidTests := true, laidLooks := .later }
def ChronChainsCardSaid : Prop := Claim7.holds Tryd.pinned (.plain (OpenSpec.ofChange chronChainsSpec)) chronChainsCard

/-- THE TIED CARD OF 'ablautlaw13.ChronTurns'. -/
def chronTurnsCard : Claim7 := { stood := { row := chronTurnsRow, standIns := [], harness := (true, "6cb594623da56a3405f88b2426dbb3ee007f881231e4cd87a6c75cf037636df9"), looks := false }, kinds := [], alts := [], laidByText := true, laidKinds := [.data], laidTests := true, laidLooks := .later }
def ChronTurnsCardSaid : Prop := Claim7.holds Tryd.pinned (.plain (OpenSpec.ofChange chronTurnsSpec)) chronTurnsCard

/-- THE TIED CARD OF 'ablautlaw13.ChronNews'. -/
def chronNewsCard : Claim7 := { stood := { row := chronNewsRow, standIns := [], harness := (true, "6cb594623da56a3405f88b2426dbb3ee007f881231e4cd87a6c75cf037636df9"), looks := false }, kinds := [], alts := [], laidByText := true, laidKinds := [.data], laidTests := true, laidLooks := .later }
def ChronNewsCardSaid : Prop := Claim7.holds Tryd.pinned (.plain (OpenSpec.ofChange chronNewsSpec)) chronNewsCard

/-- THE TIED CARD OF 'ablautlaw13.ChronFollows'. -/
def chronFollowsCard : Claim7 := { stood := { row := chronFollowsRow, standIns := [], harness := (true, "6cb594623da56a3405f88b2426dbb3ee007f881231e4cd87a6c75cf037636df9"), looks := false }, kinds := [], alts := [], laidByText := true, laidKinds := [.data], laidTests := true, laidLooks := .later }
def ChronFollowsCardSaid : Prop := Claim7.holds Tryd.pinned (.plain (OpenSpec.ofChange chronFollowsSpec)) chronFollowsCard

/-- THE TIED CARD OF 'ablautlaw13.ChronKnown'. -/
def chronKnownCard : Claim7 := { stood := { row := chronKnownRow, standIns := [], harness := (true, "6cb594623da56a3405f88b2426dbb3ee007f881231e4cd87a6c75cf037636df9"), looks := false }, kinds := [], alts := [], laidByText := true, laidKinds := [.data], laidTests := true, laidLooks := .later }
def ChronKnownCardSaid : Prop := Claim7.holds Tryd.pinned (.plain (OpenSpec.ofChange chronKnownSpec)) chronKnownCard

/-- THE TIED CARD OF 'ablautlaw13.ChronPlays'. -/
def chronPlaysCard : Claim7 := { stood := { row := chronPlaysRow, standIns := [], harness := (true, "6cb594623da56a3405f88b2426dbb3ee007f881231e4cd87a6c75cf037636df9"), looks := false }, kinds := [], alts := [], laidByText := true, laidKinds := [.data], laidTests := true, laidLooks := .later }
def ChronPlaysCardSaid : Prop := Claim7.holds Tryd.pinned (.plain (OpenSpec.ofChange chronPlaysSpec)) chronPlaysCard

/-- THE TIED CARD OF 'ablautlaw13.ChronNil'. -/
def chronNilCard : Claim7 := { stood := { row := chronNilRow, standIns := [], harness := (true, "6cb594623da56a3405f88b2426dbb3ee007f881231e4cd87a6c75cf037636df9"), looks := false }, kinds := [], alts := [], laidByText := true, laidKinds := [.data], laidTests := true, laidLooks := .later }
def ChronNilCardSaid : Prop := Claim7.holds Tryd.pinned (.plain (OpenSpec.ofChange chronNilSpec)) chronNilCard

/-- THE TIED CARD OF 'ablautlaw13.ChronAdds'. -/
def chronAddsCard : Claim7 := { stood := { row := chronAddsRow, standIns := [], harness := (true, "6cb594623da56a3405f88b2426dbb3ee007f881231e4cd87a6c75cf037636df9"), looks := false }, kinds := [], alts := [], laidByText := true, laidKinds := [.data], laidTests := true, laidLooks := .later }
def ChronAddsCardSaid : Prop := Claim7.holds Tryd.pinned (.plain (OpenSpec.ofChange chronAddsSpec)) chronAddsCard

/-- THE SECOND FORM's CARD OF 'ablautlaw13.ChronCounts'. -/
def chronCountsUptoCard : Claim7 := { stood := { row := chronCountsUptoRow, standIns := [], harness := (true, "6cb594623da56a3405f88b2426dbb3ee007f881231e4cd87a6c75cf037636df9"), looks := false }, kinds := [], alts := [], laidByText := true, laidKinds := [.data], laidTests := true, laidLooks := .later }
def ChronCountsUptoCardSaid : Prop := Claim7.holds Tryd.pinned (.plain (OpenSpec.upto chronCountsSpec)) chronCountsUptoCard

/-- THE SECOND FORM's CARD OF 'ablautlaw13.ChronReduces'. -/
def chronReducesUptoCard : Claim7 := { stood := { row := chronReducesUptoRow, standIns := [], harness := (true, "6cb594623da56a3405f88b2426dbb3ee007f881231e4cd87a6c75cf037636df9"), looks := false }, kinds := [], alts := [], laidByText := true, laidKinds := [.data], laidTests := true, laidLooks := .later }
def ChronReducesUptoCardSaid : Prop := Claim7.holds Tryd.pinned (.plain (OpenSpec.upto chronReducesSpec)) chronReducesUptoCard

/-- THE SECOND FORM's CARD OF 'ablautlaw13.ChronLevels'. -/
def chronLevelsUptoCard : Claim7 := { stood := { row := chronLevelsUptoRow, standIns := [], harness := (true, "6cb594623da56a3405f88b2426dbb3ee007f881231e4cd87a6c75cf037636df9"), looks := false }, kinds := [], alts := [], laidByText := true, laidKinds := [.data], laidTests := true, laidLooks := .later }
def ChronLevelsUptoCardSaid : Prop := Claim7.holds Tryd.pinned (.plain (OpenSpec.upto chronLevelsSpec)) chronLevelsUptoCard

/-- THE SECOND FORM's CARD OF 'ablautlaw13.ChronChains'. -/
def chronChainsUptoCard : Claim7 := { stood := { row := chronChainsUptoRow, standIns := [], harness := (true, "6cb594623da56a3405f88b2426dbb3ee007f881231e4cd87a6c75cf037636df9"), looks := false }, kinds := [], alts := [], laidByText := true, laidKinds := [.data], laidTests := true, laidLooks := .later }
def ChronChainsUptoCardSaid : Prop := Claim7.holds Tryd.pinned (.plain (OpenSpec.upto chronChainsSpec)) chronChainsUptoCard

/-- THE SECOND FORM's CARD OF 'ablautlaw13.ChronTurns'. -/
def chronTurnsUptoCard : Claim7 := { stood := { row := chronTurnsUptoRow, standIns := [], harness := (true, "6cb594623da56a3405f88b2426dbb3ee007f881231e4cd87a6c75cf037636df9"), looks := false }, kinds := [], alts := [], laidByText := true, laidKinds := [.data], laidTests := true, laidLooks := .later }
def ChronTurnsUptoCardSaid : Prop := Claim7.holds Tryd.pinned (.plain (OpenSpec.upto chronTurnsSpec)) chronTurnsUptoCard

/-- THE SECOND FORM's CARD OF 'ablautlaw13.ChronNews'. -/
def chronNewsUptoCard : Claim7 := { stood := { row := chronNewsUptoRow, standIns := [], harness := (true, "6cb594623da56a3405f88b2426dbb3ee007f881231e4cd87a6c75cf037636df9"), looks := false }, kinds := [], alts := [], laidByText := true, laidKinds := [.data], laidTests := true, laidLooks := .later }
def ChronNewsUptoCardSaid : Prop := Claim7.holds Tryd.pinned (.plain (OpenSpec.upto chronNewsSpec)) chronNewsUptoCard

/-- THE SECOND FORM's CARD OF 'ablautlaw13.ChronFollows'. -/
def chronFollowsUptoCard : Claim7 := { stood := { row := chronFollowsUptoRow, standIns := [], harness := (true, "6cb594623da56a3405f88b2426dbb3ee007f881231e4cd87a6c75cf037636df9"), looks := false }, kinds := [], alts := [], laidByText := true, laidKinds := [.data], laidTests := true, laidLooks := .later }
def ChronFollowsUptoCardSaid : Prop := Claim7.holds Tryd.pinned (.plain (OpenSpec.upto chronFollowsSpec)) chronFollowsUptoCard

/-- THE SECOND FORM's CARD OF 'ablautlaw13.ChronKnown'. -/
def chronKnownUptoCard : Claim7 := { stood := { row := chronKnownUptoRow, standIns := [], harness := (true, "6cb594623da56a3405f88b2426dbb3ee007f881231e4cd87a6c75cf037636df9"), looks := false }, kinds := [], alts := [], laidByText := true, laidKinds := [.data], laidTests := true, laidLooks := .later }
def ChronKnownUptoCardSaid : Prop := Claim7.holds Tryd.pinned (.plain (OpenSpec.upto chronKnownSpec)) chronKnownUptoCard

/-- THE SECOND FORM's CARD OF 'ablautlaw13.ChronPlays'. -/
def chronPlaysUptoCard : Claim7 := { stood := { row := chronPlaysUptoRow, standIns := [], harness := (true, "6cb594623da56a3405f88b2426dbb3ee007f881231e4cd87a6c75cf037636df9"), looks := false }, kinds := [], alts := [], laidByText := true, laidKinds := [.data], laidTests := true, laidLooks := .later }
def ChronPlaysUptoCardSaid : Prop := Claim7.holds Tryd.pinned (.plain (OpenSpec.upto chronPlaysSpec)) chronPlaysUptoCard

/-- THE SECOND FORM's CARD OF 'ablautlaw13.ChronNil'. -/
def chronNilUptoCard : Claim7 := { stood := { row := chronNilUptoRow, standIns := [], harness := (true, "6cb594623da56a3405f88b2426dbb3ee007f881231e4cd87a6c75cf037636df9"), looks := false }, kinds := [], alts := [], laidByText := true, laidKinds := [.data], laidTests := true, laidLooks := .later }
def ChronNilUptoCardSaid : Prop := Claim7.holds Tryd.pinned (.plain (OpenSpec.upto chronNilSpec)) chronNilUptoCard

/-- THE SECOND FORM's CARD OF 'ablautlaw13.ChronAdds'. -/
def chronAddsUptoCard : Claim7 := { stood := { row := chronAddsUptoRow, standIns := [], harness := (true, "6cb594623da56a3405f88b2426dbb3ee007f881231e4cd87a6c75cf037636df9"), looks := false }, kinds := [], alts := [], laidByText := true, laidKinds := [.data], laidTests := true, laidLooks := .later }
def ChronAddsUptoCardSaid : Prop := Claim7.holds Tryd.pinned (.plain (OpenSpec.upto chronAddsSpec)) chronAddsUptoCard
end Rows
end Go.Proofs.YtnnnbmkhgcpjoaaDoor
