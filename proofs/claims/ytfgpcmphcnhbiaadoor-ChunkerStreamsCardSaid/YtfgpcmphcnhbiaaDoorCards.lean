/-
  DERIVED. GIVEN WITH THE SEED: THE CARDS: each row of YtfgpcmphcnhbiaaDoorRows.lean that lists a variable, with what it lists TIED to the program's text (the seventh form; the later family's looks); each row that meets fmt, with fmt's text TOLD by the authors' own Lean function (tested against real Go, not proved from fmt's source: count such statements apart). THE CARD IS WHAT COUNTS. Prove the row's statement (the work); the ties are given (YtfgpcmphcnhbiaaDoorTie.lean); close each card by the builder's one call (the guide's Derived/Test/ToyasCard.lean, 'card_holds'). Laid BY PROGRAM, IN A SANDBOX (cutbox-door.mjs). By AI agents, Wed Nov 11 2026. No macro, syntax, notation, axiom, sorry.
-/
import Derived.Test.YtfgpcmphcnhbiaaDoorRows
import GoSem.ClaimSeven
namespace Go.Proofs.YtfgpcmphcnhbiaaDoor
namespace Rows

/-- THE TIED CARD OF 'kinkeeplaw16.ChunkerCommon'. -/
def chunkerCommonCard : Claim7 := { stood := { row := chunkerCommonRow, standIns := [], harness := (true, "1d0bd0560c2f8529b5bec21b1d575a3fdb26217ed410ba27c7569bcb3c332cdf"), looks := false }, kinds := [], alts := [], laidByText := true, laidKinds := [.data], laidTests := true, laidLooks := .later }
def ChunkerCommonCardSaid : Prop := Claim7.holds Tryd.pinned (.plain (OpenSpec.ofChange chunkerCommonSpec)) chunkerCommonCard

/-- THE TIED CARD OF 'kinkeeplaw16.ChunkerValid'. -/
def chunkerValidCard : Claim7 := { stood := { row := chunkerValidRow, standIns := [], harness := (true, "1d0bd0560c2f8529b5bec21b1d575a3fdb26217ed410ba27c7569bcb3c332cdf"), looks := false }, kinds := [], alts := [], laidByText := true, laidKinds := [.data], laidTests := true, laidLooks := .later }
def ChunkerValidCardSaid : Prop := Claim7.holds Tryd.pinned (.plain (OpenSpec.ofChange chunkerValidSpec)) chunkerValidCard

/-- THE TIED CARD OF 'kinkeeplaw16.ChunkerAtOnce'. -/
def chunkerAtOnceCard : Claim7 := { stood := { row := chunkerAtOnceRow, standIns := [], harness := (true, "1d0bd0560c2f8529b5bec21b1d575a3fdb26217ed410ba27c7569bcb3c332cdf"), looks := false }, kinds := [], alts := [], laidByText := true, laidKinds := [.data], laidTests := true, laidLooks := .later }
def ChunkerAtOnceCardSaid : Prop := Claim7.holds Tryd.pinned (.plain (OpenSpec.ofChange chunkerAtOnceSpec)) chunkerAtOnceCard

/-- THE TIED CARD OF 'kinkeeplaw16.ChunkerReach'. -/
def chunkerReachCard : Claim7 := { stood := { row := chunkerReachRow, standIns := [], harness := (true, "1d0bd0560c2f8529b5bec21b1d575a3fdb26217ed410ba27c7569bcb3c332cdf"), looks := false }, kinds := [], alts := [], laidByText := true, laidKinds := [.data], laidTests := true, laidLooks := .later }
def ChunkerReachCardSaid : Prop := Claim7.holds Tryd.pinned (.plain (OpenSpec.ofChange chunkerReachSpec)) chunkerReachCard

/-- THE TIED CARD OF 'kinkeeplaw16.ChunkerPrimary'. -/
def chunkerPrimaryCard : Claim7 := { stood := { row := chunkerPrimaryRow, standIns := [], harness := (true, "1d0bd0560c2f8529b5bec21b1d575a3fdb26217ed410ba27c7569bcb3c332cdf"), looks := false }, kinds := [], alts := [], laidByText := true, laidKinds := [.data], laidTests := true, laidLooks := .later }
def ChunkerPrimaryCardSaid : Prop := Claim7.holds Tryd.pinned (.plain (OpenSpec.ofChange chunkerPrimarySpec)) chunkerPrimaryCard

/-- THE TIED CARD OF 'kinkeeplaw16.ChunkerLocal'. -/
def chunkerLocalCard : Claim7 := { stood := { row := chunkerLocalRow, standIns := [], harness := (true, "1d0bd0560c2f8529b5bec21b1d575a3fdb26217ed410ba27c7569bcb3c332cdf"), looks := false }, kinds := [], alts := [], laidByText := true, laidKinds := [.data], laidTests := true, laidLooks := .later }
def ChunkerLocalCardSaid : Prop := Claim7.holds Tryd.pinned (.plain (OpenSpec.ofChange chunkerLocalSpec)) chunkerLocalCard

/-- THE TIED CARD OF 'kinkeeplaw16.ChunkerPrefix'. -/
def chunkerPrefixCard : Claim7 := { stood := { row := chunkerPrefixRow, standIns := [], harness := (true, "1d0bd0560c2f8529b5bec21b1d575a3fdb26217ed410ba27c7569bcb3c332cdf"), looks := false }, kinds := [], alts := [], laidByText := true, laidKinds := [.data], laidTests := true, laidLooks := .later }
def ChunkerPrefixCardSaid : Prop := Claim7.holds Tryd.pinned (.plain (OpenSpec.ofChange chunkerPrefixSpec)) chunkerPrefixCard

/-- THE TIED CARD OF 'kinkeeplaw16.ChunkerSuffix'. -/
def chunkerSuffixCard : Claim7 := { stood := { row := chunkerSuffixRow, standIns := [], harness := (true, "1d0bd0560c2f8529b5bec21b1d575a3fdb26217ed410ba27c7569bcb3c332cdf"), looks := false }, kinds := [], alts := [], laidByText := true, laidKinds := [.data], laidTests := true, laidLooks := .later }
def ChunkerSuffixCardSaid : Prop := Claim7.holds Tryd.pinned (.plain (OpenSpec.ofChange chunkerSuffixSpec)) chunkerSuffixCard

/-- THE TIED CARD OF 'kinkeeplaw16.ChunkerCuts'. -/
def chunkerCutsCard : Claim7 := { stood := { row := chunkerCutsRow, standIns := [], harness := (true, "1d0bd0560c2f8529b5bec21b1d575a3fdb26217ed410ba27c7569bcb3c332cdf"), looks := false }, kinds := [], alts := [], laidByText := true, laidKinds := [.data], laidTests := true, laidLooks := .later }
def ChunkerCutsCardSaid : Prop := Claim7.holds Tryd.pinned (.plain (OpenSpec.ofChange chunkerCutsSpec)) chunkerCutsCard

/-- THE TIED CARD OF 'kinkeeplaw16.ChunkerStreams'. -/
def chunkerStreamsCard : Claim7 := { stood := { row := chunkerStreamsRow, standIns := [], harness := (true, "1d0bd0560c2f8529b5bec21b1d575a3fdb26217ed410ba27c7569bcb3c332cdf"), looks := false }, kinds := [], alts := [], laidByText := true, laidKinds := [.data], laidTests := true, laidLooks := .later }
def ChunkerStreamsCardSaid : Prop := Claim7.holds Tryd.pinned (.plain (OpenSpec.ofChange chunkerStreamsSpec)) chunkerStreamsCard

/-- THE TIED CARD OF 'kinkeeplaw16.ChunkerBounds'. -/
def chunkerBoundsCard : Claim7 := { stood := { row := chunkerBoundsRow, standIns := [], harness := (true, "1d0bd0560c2f8529b5bec21b1d575a3fdb26217ed410ba27c7569bcb3c332cdf"), looks := false }, kinds := [], alts := [], laidByText := true, laidKinds := [.data], laidTests := true, laidLooks := .later }
def ChunkerBoundsCardSaid : Prop := Claim7.holds Tryd.pinned (.plain (OpenSpec.ofChange chunkerBoundsSpec)) chunkerBoundsCard

/-- THE SECOND FORM's CARD OF 'kinkeeplaw16.ChunkerCommon'. -/
def chunkerCommonUptoCard : Claim7 := { stood := { row := chunkerCommonUptoRow, standIns := [], harness := (true, "1d0bd0560c2f8529b5bec21b1d575a3fdb26217ed410ba27c7569bcb3c332cdf"), looks := false }, kinds := [], alts := [], laidByText := true, laidKinds := [.data], laidTests := true, laidLooks := .later }
def ChunkerCommonUptoCardSaid : Prop := Claim7.holds Tryd.pinned (.plain (OpenSpec.upto chunkerCommonSpec)) chunkerCommonUptoCard

/-- THE SECOND FORM's CARD OF 'kinkeeplaw16.ChunkerValid'. -/
def chunkerValidUptoCard : Claim7 := { stood := { row := chunkerValidUptoRow, standIns := [], harness := (true, "1d0bd0560c2f8529b5bec21b1d575a3fdb26217ed410ba27c7569bcb3c332cdf"), looks := false }, kinds := [], alts := [], laidByText := true, laidKinds := [.data], laidTests := true, laidLooks := .later }
def ChunkerValidUptoCardSaid : Prop := Claim7.holds Tryd.pinned (.plain (OpenSpec.upto chunkerValidSpec)) chunkerValidUptoCard

/-- THE SECOND FORM's CARD OF 'kinkeeplaw16.ChunkerAtOnce'. -/
def chunkerAtOnceUptoCard : Claim7 := { stood := { row := chunkerAtOnceUptoRow, standIns := [], harness := (true, "1d0bd0560c2f8529b5bec21b1d575a3fdb26217ed410ba27c7569bcb3c332cdf"), looks := false }, kinds := [], alts := [], laidByText := true, laidKinds := [.data], laidTests := true, laidLooks := .later }
def ChunkerAtOnceUptoCardSaid : Prop := Claim7.holds Tryd.pinned (.plain (OpenSpec.upto chunkerAtOnceSpec)) chunkerAtOnceUptoCard

/-- THE SECOND FORM's CARD OF 'kinkeeplaw16.ChunkerReach'. -/
def chunkerReachUptoCard : Claim7 := { stood := { row := chunkerReachUptoRow, standIns := [], harness := (true, "1d0bd0560c2f8529b5bec21b1d575a3fdb26217ed410ba27c7569bcb3c332cdf"), looks := false }, kinds := [], alts := [], laidByText := true, laidKinds := [.data], laidTests := true, laidLooks := .later }
def ChunkerReachUptoCardSaid : Prop := Claim7.holds Tryd.pinned (.plain (OpenSpec.upto chunkerReachSpec)) chunkerReachUptoCard

/-- THE SECOND FORM's CARD OF 'kinkeeplaw16.ChunkerPrimary'. -/
def chunkerPrimaryUptoCard : Claim7 := { stood := { row := chunkerPrimaryUptoRow, standIns := [], harness := (true, "1d0bd0560c2f8529b5bec21b1d575a3fdb26217ed410ba27c7569bcb3c332cdf"), looks := false }, kinds := [], alts := [], laidByText := true, laidKinds := [.data], laidTests := true, laidLooks := .later }
def ChunkerPrimaryUptoCardSaid : Prop := Claim7.holds Tryd.pinned (.plain (OpenSpec.upto chunkerPrimarySpec)) chunkerPrimaryUptoCard

/-- THE SECOND FORM's CARD OF 'kinkeeplaw16.ChunkerLocal'. -/
def chunkerLocalUptoCard : Claim7 := { stood := { row := chunkerLocalUptoRow, standIns := [], harness := (true, "1d0bd0560c2f8529b5bec21b1d575a3fdb26217ed410ba27c7569bcb3c332cdf"), looks := false }, kinds := [], alts := [], laidByText := true, laidKinds := [.data], laidTests := true, laidLooks := .later }
def ChunkerLocalUptoCardSaid : Prop := Claim7.holds Tryd.pinned (.plain (OpenSpec.upto chunkerLocalSpec)) chunkerLocalUptoCard

/-- THE SECOND FORM's CARD OF 'kinkeeplaw16.ChunkerPrefix'. -/
def chunkerPrefixUptoCard : Claim7 := { stood := { row := chunkerPrefixUptoRow, standIns := [], harness := (true, "1d0bd0560c2f8529b5bec21b1d575a3fdb26217ed410ba27c7569bcb3c332cdf"), looks := false }, kinds := [], alts := [], laidByText := true, laidKinds := [.data], laidTests := true, laidLooks := .later }
def ChunkerPrefixUptoCardSaid : Prop := Claim7.holds Tryd.pinned (.plain (OpenSpec.upto chunkerPrefixSpec)) chunkerPrefixUptoCard

/-- THE SECOND FORM's CARD OF 'kinkeeplaw16.ChunkerSuffix'. -/
def chunkerSuffixUptoCard : Claim7 := { stood := { row := chunkerSuffixUptoRow, standIns := [], harness := (true, "1d0bd0560c2f8529b5bec21b1d575a3fdb26217ed410ba27c7569bcb3c332cdf"), looks := false }, kinds := [], alts := [], laidByText := true, laidKinds := [.data], laidTests := true, laidLooks := .later }
def ChunkerSuffixUptoCardSaid : Prop := Claim7.holds Tryd.pinned (.plain (OpenSpec.upto chunkerSuffixSpec)) chunkerSuffixUptoCard

/-- THE SECOND FORM's CARD OF 'kinkeeplaw16.ChunkerCuts'. -/
def chunkerCutsUptoCard : Claim7 := { stood := { row := chunkerCutsUptoRow, standIns := [], harness := (true, "1d0bd0560c2f8529b5bec21b1d575a3fdb26217ed410ba27c7569bcb3c332cdf"), looks := false }, kinds := [], alts := [], laidByText := true, laidKinds := [.data], laidTests := true, laidLooks := .later }
def ChunkerCutsUptoCardSaid : Prop := Claim7.holds Tryd.pinned (.plain (OpenSpec.upto chunkerCutsSpec)) chunkerCutsUptoCard

/-- THE SECOND FORM's CARD OF 'kinkeeplaw16.ChunkerStreams'. -/
def chunkerStreamsUptoCard : Claim7 := { stood := { row := chunkerStreamsUptoRow, standIns := [], harness := (true, "1d0bd0560c2f8529b5bec21b1d575a3fdb26217ed410ba27c7569bcb3c332cdf"), looks := false }, kinds := [], alts := [], laidByText := true, laidKinds := [.data], laidTests := true, laidLooks := .later }
def ChunkerStreamsUptoCardSaid : Prop := Claim7.holds Tryd.pinned (.plain (OpenSpec.upto chunkerStreamsSpec)) chunkerStreamsUptoCard

/-- THE SECOND FORM's CARD OF 'kinkeeplaw16.ChunkerBounds'. -/
def chunkerBoundsUptoCard : Claim7 := { stood := { row := chunkerBoundsUptoRow, standIns := [], harness := (true, "1d0bd0560c2f8529b5bec21b1d575a3fdb26217ed410ba27c7569bcb3c332cdf"), looks := false }, kinds := [], alts := [], laidByText := true, laidKinds := [.data], laidTests := true, laidLooks := .later }
def ChunkerBoundsUptoCardSaid : Prop := Claim7.holds Tryd.pinned (.plain (OpenSpec.upto chunkerBoundsSpec)) chunkerBoundsUptoCard
end Rows
end Go.Proofs.YtfgpcmphcnhbiaaDoor
