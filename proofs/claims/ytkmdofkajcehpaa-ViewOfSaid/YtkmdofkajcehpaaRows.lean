/-
  No cell of these rows narrows 'for every input' (looked for: loops, veiled, ifaces, maps, wideKeys, modest, calm, conditions, laid).
  DERIVED. THE GIVEN ROWS OF THIS SEAT. 12 by the template 'for every input the law returns true; each argument reads behind the call as it read before'; 0 by the template 'total and deterministic' (their statements: YtkmdofkajcehpaaTotals.lean).
  GIVEN WITH THE SEED: the statements are not yours to turn. If you find one false, say at which input.
  Laid BY PROGRAM, IN A SANDBOX (cutbox-rows.mjs): the forced cells as the released guide's own fill.sh prints them over the translation 641574ad171035f3… (all of the seat's roots in one cut). By AI agents, Wed Nov 11 2026. No macro, syntax, notation, axiom, sorry.
-/
import Derived.Test.YtkmdofkajcehpaaChecked
import GoSem.Claim
import GoSem.ClaimJoined
import GoSem.ClaimMapViews
import Derived.JoinedTies
import Derived.KernelRfl
namespace Go.Proofs.Ytkmdofkajcehpaa
/- THE CELL 'sum', in the pinned program and in every row, IS THE sha256 OF THE DUMP (.gsa) THAT YtkmdofkajcehpaaProg.lean LOADS. Nothing in Lean hashes anything: it is a label: what it is worth is what the hold of that sum in a sandbox is worth. -/
noncomputable def Try.pinned : Pinned := { name := "ytkmdofkajcehpaa", sum := "641574ad171035f38471acb5801aa0aa3758c1a2de3cb8e8e30fd3c9d375c4ab", checked := Try.checked }
namespace Rows
def none {H : Type} : Left H := { results := [], args := [] }

/-- 'dactyllaw06.ShowCells': WHATEVER THE INPUT: true; the input reads as it did. -/
def showCellsSpec : ChangeSpec := { name := "showCells", fn := fun _ => fun
  | [d1, d2, d3] => { results := [.lit (.bool true)], args := [d1, d2, d3] }
  | _ => none }
def showCellsRow : OpenClaim := { program := "ytkmdofkajcehpaa", sum := "641574ad171035f38471acb5801aa0aa3758c1a2de3cb8e8e30fd3c9d375c4ab", func := "dactyl/dactyllaw06.ShowCells", spec := "showCells", unfollowed := true, recurses := true, apart := false }
def ShowCellsSaid : Prop := showCellsRow.holds Try.pinned (OpenSpec.ofChange showCellsSpec)

/-- ITS FALSE NEIGHBOUR: 'it returns false'. Refute it at one input. -/
def showCellsWrong : ChangeSpec := { name := "showCells", fn := fun _ => fun
  | [d1, d2, d3] => { results := [.lit (.bool false)], args := [d1, d2, d3] }
  | _ => none }
def ShowCellsWrongFalsely : Prop := showCellsRow.holds Try.pinned (OpenSpec.ofChange showCellsWrong)

/-- 'dactyllaw23.HistBounds': WHATEVER THE INPUT: true; the input reads as it did. -/
def histBoundsSpec : ChangeSpec := { name := "histBounds", fn := fun _ => fun
  | [d1, d2, d3] => { results := [.lit (.bool true)], args := [d1, d2, d3] }
  | _ => none }
def histBoundsRow : OpenClaim := { program := "ytkmdofkajcehpaa", sum := "641574ad171035f38471acb5801aa0aa3758c1a2de3cb8e8e30fd3c9d375c4ab", func := "dactyl/dactyllaw23.HistBounds", spec := "histBounds", unfollowed := true, recurses := true, apart := false }
def HistBoundsSaid : Prop := histBoundsRow.holds Try.pinned (OpenSpec.ofChange histBoundsSpec)

/-- ITS FALSE NEIGHBOUR: 'it returns false'. Refute it at one input. -/
def histBoundsWrong : ChangeSpec := { name := "histBounds", fn := fun _ => fun
  | [d1, d2, d3] => { results := [.lit (.bool false)], args := [d1, d2, d3] }
  | _ => none }
def HistBoundsWrongFalsely : Prop := histBoundsRow.holds Try.pinned (OpenSpec.ofChange histBoundsWrong)

/-- 'dactyllaw07.ViewOf': WHATEVER THE INPUT: true; the input reads as it did. -/
def viewOfSpec : ChangeSpec := { name := "viewOf", fn := fun _ => fun
  | [d1, d2] => { results := [.lit (.bool true)], args := [d1, d2] }
  | _ => none }
def viewOfRow : OpenClaim := { program := "ytkmdofkajcehpaa", sum := "641574ad171035f38471acb5801aa0aa3758c1a2de3cb8e8e30fd3c9d375c4ab", func := "dactyl/dactyllaw07.ViewOf", spec := "viewOf", unfollowed := true, recurses := true, apart := false }
def ViewOfSaid : Prop := viewOfRow.holds Try.pinned (OpenSpec.ofChange viewOfSpec)

/-- ITS FALSE NEIGHBOUR: 'it returns false'. Refute it at one input. -/
def viewOfWrong : ChangeSpec := { name := "viewOf", fn := fun _ => fun
  | [d1, d2] => { results := [.lit (.bool false)], args := [d1, d2] }
  | _ => none }
def ViewOfWrongFalsely : Prop := viewOfRow.holds Try.pinned (OpenSpec.ofChange viewOfWrong)

/-- 'dactyllaw07.ViewMaps': WHATEVER THE INPUT: true; the input reads as it did. -/
def viewMapsSpec : ChangeSpec := { name := "viewMaps", fn := fun _ => fun
  | [d1, d2] => { results := [.lit (.bool true)], args := [d1, d2] }
  | _ => none }
def viewMapsRow : OpenClaim := { program := "ytkmdofkajcehpaa", sum := "641574ad171035f38471acb5801aa0aa3758c1a2de3cb8e8e30fd3c9d375c4ab", func := "dactyl/dactyllaw07.ViewMaps", spec := "viewMaps", unfollowed := true, recurses := true, apart := false }
def ViewMapsSaid : Prop := viewMapsRow.holds Try.pinned (OpenSpec.ofChange viewMapsSpec)

/-- ITS FALSE NEIGHBOUR: 'it returns false'. Refute it at one input. -/
def viewMapsWrong : ChangeSpec := { name := "viewMaps", fn := fun _ => fun
  | [d1, d2] => { results := [.lit (.bool false)], args := [d1, d2] }
  | _ => none }
def ViewMapsWrongFalsely : Prop := viewMapsRow.holds Try.pinned (OpenSpec.ofChange viewMapsWrong)

/-- 'dactyllaw07.ViewApart': WHATEVER THE INPUT: true; the input reads as it did. -/
def viewApartSpec : ChangeSpec := { name := "viewApart", fn := fun _ => fun
  | [d1, d2, d3] => { results := [.lit (.bool true)], args := [d1, d2, d3] }
  | _ => none }
def viewApartRow : OpenClaim := { program := "ytkmdofkajcehpaa", sum := "641574ad171035f38471acb5801aa0aa3758c1a2de3cb8e8e30fd3c9d375c4ab", func := "dactyl/dactyllaw07.ViewApart", spec := "viewApart", unfollowed := true, recurses := true, apart := false }
def ViewApartSaid : Prop := viewApartRow.holds Try.pinned (OpenSpec.ofChange viewApartSpec)

/-- ITS FALSE NEIGHBOUR: 'it returns false'. Refute it at one input. -/
def viewApartWrong : ChangeSpec := { name := "viewApart", fn := fun _ => fun
  | [d1, d2, d3] => { results := [.lit (.bool false)], args := [d1, d2, d3] }
  | _ => none }
def ViewApartWrongFalsely : Prop := viewApartRow.holds Try.pinned (OpenSpec.ofChange viewApartWrong)

/-- 'dactyllaw07.ViewText': WHATEVER THE INPUT: true; the input reads as it did. -/
def viewTextSpec : ChangeSpec := { name := "viewText", fn := fun _ => fun
  | [d1, d2] => { results := [.lit (.bool true)], args := [d1, d2] }
  | _ => none }
def viewTextRow : OpenClaim := { program := "ytkmdofkajcehpaa", sum := "641574ad171035f38471acb5801aa0aa3758c1a2de3cb8e8e30fd3c9d375c4ab", func := "dactyl/dactyllaw07.ViewText", spec := "viewText", unfollowed := true, recurses := true, apart := false }
def ViewTextSaid : Prop := viewTextRow.holds Try.pinned (OpenSpec.ofChange viewTextSpec)

/-- ITS FALSE NEIGHBOUR: 'it returns false'. Refute it at one input. -/
def viewTextWrong : ChangeSpec := { name := "viewText", fn := fun _ => fun
  | [d1, d2] => { results := [.lit (.bool false)], args := [d1, d2] }
  | _ => none }
def ViewTextWrongFalsely : Prop := viewTextRow.holds Try.pinned (OpenSpec.ofChange viewTextWrong)

/-- 'dactyllaw13.KeyNames': WHATEVER THE INPUT: true; the input reads as it did. -/
def keyNamesSpec : ChangeSpec := { name := "keyNames", fn := fun _ => fun
  | [d] => { results := [.lit (.bool true)], args := [d] }
  | _ => none }
def keyNamesRow : OpenClaim := { program := "ytkmdofkajcehpaa", sum := "641574ad171035f38471acb5801aa0aa3758c1a2de3cb8e8e30fd3c9d375c4ab", func := "dactyl/dactyllaw13.KeyNames", spec := "keyNames", inPlace := ["internal/bytealg.IndexByteString"], unfollowed := true, recurses := true, apart := false }
def KeyNamesSaid : Prop := keyNamesRow.holds Try.pinned (OpenSpec.ofChange keyNamesSpec)

/-- ITS FALSE NEIGHBOUR: 'it returns false'. Refute it at one input. -/
def keyNamesWrong : ChangeSpec := { name := "keyNames", fn := fun _ => fun
  | [d] => { results := [.lit (.bool false)], args := [d] }
  | _ => none }
def KeyNamesWrongFalsely : Prop := keyNamesRow.holds Try.pinned (OpenSpec.ofChange keyNamesWrong)

/-- 'dactyllaw13.KeyParses': WHATEVER THE INPUT: true; the input reads as it did. -/
def keyParsesSpec : ChangeSpec := { name := "keyParses", fn := fun _ => fun
  | [d] => { results := [.lit (.bool true)], args := [d] }
  | _ => none }
def keyParsesRow : OpenClaim := { program := "ytkmdofkajcehpaa", sum := "641574ad171035f38471acb5801aa0aa3758c1a2de3cb8e8e30fd3c9d375c4ab", func := "dactyl/dactyllaw13.KeyParses", spec := "keyParses", inPlace := ["internal/bytealg.IndexByteString"], unfollowed := true, recurses := true, apart := false }
def KeyParsesSaid : Prop := keyParsesRow.holds Try.pinned (OpenSpec.ofChange keyParsesSpec)

/-- ITS FALSE NEIGHBOUR: 'it returns false'. Refute it at one input. -/
def keyParsesWrong : ChangeSpec := { name := "keyParses", fn := fun _ => fun
  | [d] => { results := [.lit (.bool false)], args := [d] }
  | _ => none }
def KeyParsesWrongFalsely : Prop := keyParsesRow.holds Try.pinned (OpenSpec.ofChange keyParsesWrong)

/-- 'dactyllaw26.OfferDoes': WHATEVER THE INPUT: true; the input reads as it did. -/
def offerDoesSpec : ChangeSpec := { name := "offerDoes", fn := fun _ => fun
  | [d1, d2, d3] => { results := [.lit (.bool true)], args := [d1, d2, d3] }
  | _ => none }
def offerDoesRow : OpenClaim := { program := "ytkmdofkajcehpaa", sum := "641574ad171035f38471acb5801aa0aa3758c1a2de3cb8e8e30fd3c9d375c4ab", func := "dactyl/dactyllaw26.OfferDoes", spec := "offerDoes", unfollowed := true, recurses := true, apart := false }
def OfferDoesSaid : Prop := offerDoesRow.holds Try.pinned (OpenSpec.ofChange offerDoesSpec)

/-- ITS FALSE NEIGHBOUR: 'it returns false'. Refute it at one input. -/
def offerDoesWrong : ChangeSpec := { name := "offerDoes", fn := fun _ => fun
  | [d1, d2, d3] => { results := [.lit (.bool false)], args := [d1, d2, d3] }
  | _ => none }
def OfferDoesWrongFalsely : Prop := offerDoesRow.holds Try.pinned (OpenSpec.ofChange offerDoesWrong)

/-- 'dactyllaw26.OfferOnly': WHATEVER THE INPUT: true; the input reads as it did. -/
def offerOnlySpec : ChangeSpec := { name := "offerOnly", fn := fun _ => fun
  | [d1, d2] => { results := [.lit (.bool true)], args := [d1, d2] }
  | _ => none }
def offerOnlyRow : OpenClaim := { program := "ytkmdofkajcehpaa", sum := "641574ad171035f38471acb5801aa0aa3758c1a2de3cb8e8e30fd3c9d375c4ab", func := "dactyl/dactyllaw26.OfferOnly", spec := "offerOnly", unfollowed := true, recurses := true, apart := false }
def OfferOnlySaid : Prop := offerOnlyRow.holds Try.pinned (OpenSpec.ofChange offerOnlySpec)

/-- ITS FALSE NEIGHBOUR: 'it returns false'. Refute it at one input. -/
def offerOnlyWrong : ChangeSpec := { name := "offerOnly", fn := fun _ => fun
  | [d1, d2] => { results := [.lit (.bool false)], args := [d1, d2] }
  | _ => none }
def OfferOnlyWrongFalsely : Prop := offerOnlyRow.holds Try.pinned (OpenSpec.ofChange offerOnlyWrong)

/-- 'dactyllaw17.LineSwaps': WHATEVER THE INPUT: true; the input reads as it did. -/
def lineSwapsSpec : ChangeSpec := { name := "lineSwaps", fn := fun _ => fun
  | [d] => { results := [.lit (.bool true)], args := [d] }
  | _ => none }
def lineSwapsRow : OpenClaim := { program := "ytkmdofkajcehpaa", sum := "641574ad171035f38471acb5801aa0aa3758c1a2de3cb8e8e30fd3c9d375c4ab", func := "dactyl/dactyllaw17.LineSwaps", spec := "lineSwaps", unfollowed := true, recurses := true, apart := false }
def LineSwapsSaid : Prop := lineSwapsRow.holds Try.pinned (OpenSpec.ofChange lineSwapsSpec)

/-- ITS FALSE NEIGHBOUR: 'it returns false'. Refute it at one input. -/
def lineSwapsWrong : ChangeSpec := { name := "lineSwaps", fn := fun _ => fun
  | [d] => { results := [.lit (.bool false)], args := [d] }
  | _ => none }
def LineSwapsWrongFalsely : Prop := lineSwapsRow.holds Try.pinned (OpenSpec.ofChange lineSwapsWrong)

/-- 'dactyllaw17.LineBack': WHATEVER THE INPUT: true; the input reads as it did. -/
def lineBackSpec : ChangeSpec := { name := "lineBack", fn := fun _ => fun
  | [d1, d2] => { results := [.lit (.bool true)], args := [d1, d2] }
  | _ => none }
def lineBackRow : OpenClaim := { program := "ytkmdofkajcehpaa", sum := "641574ad171035f38471acb5801aa0aa3758c1a2de3cb8e8e30fd3c9d375c4ab", func := "dactyl/dactyllaw17.LineBack", spec := "lineBack", unfollowed := true, recurses := true, apart := false }
def LineBackSaid : Prop := lineBackRow.holds Try.pinned (OpenSpec.ofChange lineBackSpec)

/-- ITS FALSE NEIGHBOUR: 'it returns false'. Refute it at one input. -/
def lineBackWrong : ChangeSpec := { name := "lineBack", fn := fun _ => fun
  | [d1, d2] => { results := [.lit (.bool false)], args := [d1, d2] }
  | _ => none }
def LineBackWrongFalsely : Prop := lineBackRow.holds Try.pinned (OpenSpec.ofChange lineBackWrong)

/- THE SECOND FORM. 'bulk': how many values and letters a reading holds, each counted each time it is reached (what is shared counts as often as it is met; a slice's spare places count too). A statement '..UptoSaid' is the law's where the arguments, and the package variables that the reading takes, are together of bulk at most 1048576: NARROWER than '..Said'. Prove '..Said' where nothing that the law and all that it calls make is longer than what came in: it says more and counts as full. Else prove '..UptoSaid'. A law counts once. -/
mutual
def uptoBulk {H : Type} : DataW H → Nat
  | .lit (.string bytes) => bytes.length + 1
  | .lit _ => 1
  | .nil => 1
  | .ptr d => uptoBulk d + 1
  | .slice elems spare => uptoBulkAll elems + uptoBulkAll spare + 1
  | .agg parts => uptoBulkAll parts + 1
  | .iface _ d => uptoBulk d + 1
  | .map entries => uptoBulkEntries entries + 1
  | .held _ => 1
def uptoBulkAll {H : Type} : List (DataW H) → Nat
  | [] => 0
  | d :: r => uptoBulk d + uptoBulkAll r
def uptoBulkEntries {H : Type} : List (Lit × DataW H) → Nat
  | [] => 0
  | x :: r => uptoBulkEntry x + uptoBulkEntries r
def uptoBulkEntry {H : Type} : Lit × DataW H → Nat
  | (.string bytes, d) => bytes.length + uptoBulk d + 1
  | (_, d) => uptoBulk d + 1
 end
def uptoSmall : (H : Type) → List (DataW H) → Bool := fun _ ds => decide (uptoBulkAll ds ≤ 1048576)
def OpenSpec.upto (s : _root_.Go.ChangeSpec) : _root_.Go.OpenSpec := { _root_.Go.OpenSpec.ofChange s with cond := some uptoSmall }

/-- 'dactyllaw06.ShowCells', WHERE WHAT IT READS IS OF BULK AT MOST 1048576: true; the input reads as it did. -/
def showCellsUptoRow : OpenClaim := { program := "ytkmdofkajcehpaa", sum := "641574ad171035f38471acb5801aa0aa3758c1a2de3cb8e8e30fd3c9d375c4ab", func := "dactyl/dactyllaw06.ShowCells", spec := "showCells", unfollowed := true, recurses := true, apart := false, narrowed := true }
def ShowCellsUptoSaid : Prop := showCellsUptoRow.holds Try.pinned (OpenSpec.upto showCellsSpec)

/-- 'dactyllaw23.HistBounds', WHERE WHAT IT READS IS OF BULK AT MOST 1048576: true; the input reads as it did. -/
def histBoundsUptoRow : OpenClaim := { program := "ytkmdofkajcehpaa", sum := "641574ad171035f38471acb5801aa0aa3758c1a2de3cb8e8e30fd3c9d375c4ab", func := "dactyl/dactyllaw23.HistBounds", spec := "histBounds", unfollowed := true, recurses := true, apart := false, narrowed := true }
def HistBoundsUptoSaid : Prop := histBoundsUptoRow.holds Try.pinned (OpenSpec.upto histBoundsSpec)

/-- 'dactyllaw07.ViewOf', WHERE WHAT IT READS IS OF BULK AT MOST 1048576: true; the input reads as it did. -/
def viewOfUptoRow : OpenClaim := { program := "ytkmdofkajcehpaa", sum := "641574ad171035f38471acb5801aa0aa3758c1a2de3cb8e8e30fd3c9d375c4ab", func := "dactyl/dactyllaw07.ViewOf", spec := "viewOf", unfollowed := true, recurses := true, apart := false, narrowed := true }
def ViewOfUptoSaid : Prop := viewOfUptoRow.holds Try.pinned (OpenSpec.upto viewOfSpec)

/-- 'dactyllaw07.ViewMaps', WHERE WHAT IT READS IS OF BULK AT MOST 1048576: true; the input reads as it did. -/
def viewMapsUptoRow : OpenClaim := { program := "ytkmdofkajcehpaa", sum := "641574ad171035f38471acb5801aa0aa3758c1a2de3cb8e8e30fd3c9d375c4ab", func := "dactyl/dactyllaw07.ViewMaps", spec := "viewMaps", unfollowed := true, recurses := true, apart := false, narrowed := true }
def ViewMapsUptoSaid : Prop := viewMapsUptoRow.holds Try.pinned (OpenSpec.upto viewMapsSpec)

/-- 'dactyllaw07.ViewApart', WHERE WHAT IT READS IS OF BULK AT MOST 1048576: true; the input reads as it did. -/
def viewApartUptoRow : OpenClaim := { program := "ytkmdofkajcehpaa", sum := "641574ad171035f38471acb5801aa0aa3758c1a2de3cb8e8e30fd3c9d375c4ab", func := "dactyl/dactyllaw07.ViewApart", spec := "viewApart", unfollowed := true, recurses := true, apart := false, narrowed := true }
def ViewApartUptoSaid : Prop := viewApartUptoRow.holds Try.pinned (OpenSpec.upto viewApartSpec)

/-- 'dactyllaw07.ViewText', WHERE WHAT IT READS IS OF BULK AT MOST 1048576: true; the input reads as it did. -/
def viewTextUptoRow : OpenClaim := { program := "ytkmdofkajcehpaa", sum := "641574ad171035f38471acb5801aa0aa3758c1a2de3cb8e8e30fd3c9d375c4ab", func := "dactyl/dactyllaw07.ViewText", spec := "viewText", unfollowed := true, recurses := true, apart := false, narrowed := true }
def ViewTextUptoSaid : Prop := viewTextUptoRow.holds Try.pinned (OpenSpec.upto viewTextSpec)

/-- 'dactyllaw13.KeyNames', WHERE WHAT IT READS IS OF BULK AT MOST 1048576: true; the input reads as it did. -/
def keyNamesUptoRow : OpenClaim := { program := "ytkmdofkajcehpaa", sum := "641574ad171035f38471acb5801aa0aa3758c1a2de3cb8e8e30fd3c9d375c4ab", func := "dactyl/dactyllaw13.KeyNames", spec := "keyNames", inPlace := ["internal/bytealg.IndexByteString"], unfollowed := true, recurses := true, apart := false, narrowed := true }
def KeyNamesUptoSaid : Prop := keyNamesUptoRow.holds Try.pinned (OpenSpec.upto keyNamesSpec)

/-- 'dactyllaw13.KeyParses', WHERE WHAT IT READS IS OF BULK AT MOST 1048576: true; the input reads as it did. -/
def keyParsesUptoRow : OpenClaim := { program := "ytkmdofkajcehpaa", sum := "641574ad171035f38471acb5801aa0aa3758c1a2de3cb8e8e30fd3c9d375c4ab", func := "dactyl/dactyllaw13.KeyParses", spec := "keyParses", inPlace := ["internal/bytealg.IndexByteString"], unfollowed := true, recurses := true, apart := false, narrowed := true }
def KeyParsesUptoSaid : Prop := keyParsesUptoRow.holds Try.pinned (OpenSpec.upto keyParsesSpec)

/-- 'dactyllaw26.OfferDoes', WHERE WHAT IT READS IS OF BULK AT MOST 1048576: true; the input reads as it did. -/
def offerDoesUptoRow : OpenClaim := { program := "ytkmdofkajcehpaa", sum := "641574ad171035f38471acb5801aa0aa3758c1a2de3cb8e8e30fd3c9d375c4ab", func := "dactyl/dactyllaw26.OfferDoes", spec := "offerDoes", unfollowed := true, recurses := true, apart := false, narrowed := true }
def OfferDoesUptoSaid : Prop := offerDoesUptoRow.holds Try.pinned (OpenSpec.upto offerDoesSpec)

/-- 'dactyllaw26.OfferOnly', WHERE WHAT IT READS IS OF BULK AT MOST 1048576: true; the input reads as it did. -/
def offerOnlyUptoRow : OpenClaim := { program := "ytkmdofkajcehpaa", sum := "641574ad171035f38471acb5801aa0aa3758c1a2de3cb8e8e30fd3c9d375c4ab", func := "dactyl/dactyllaw26.OfferOnly", spec := "offerOnly", unfollowed := true, recurses := true, apart := false, narrowed := true }
def OfferOnlyUptoSaid : Prop := offerOnlyUptoRow.holds Try.pinned (OpenSpec.upto offerOnlySpec)

/-- 'dactyllaw17.LineSwaps', WHERE WHAT IT READS IS OF BULK AT MOST 1048576: true; the input reads as it did. -/
def lineSwapsUptoRow : OpenClaim := { program := "ytkmdofkajcehpaa", sum := "641574ad171035f38471acb5801aa0aa3758c1a2de3cb8e8e30fd3c9d375c4ab", func := "dactyl/dactyllaw17.LineSwaps", spec := "lineSwaps", unfollowed := true, recurses := true, apart := false, narrowed := true }
def LineSwapsUptoSaid : Prop := lineSwapsUptoRow.holds Try.pinned (OpenSpec.upto lineSwapsSpec)

/-- 'dactyllaw17.LineBack', WHERE WHAT IT READS IS OF BULK AT MOST 1048576: true; the input reads as it did. -/
def lineBackUptoRow : OpenClaim := { program := "ytkmdofkajcehpaa", sum := "641574ad171035f38471acb5801aa0aa3758c1a2de3cb8e8e30fd3c9d375c4ab", func := "dactyl/dactyllaw17.LineBack", spec := "lineBack", unfollowed := true, recurses := true, apart := false, narrowed := true }
def LineBackUptoSaid : Prop := lineBackUptoRow.holds Try.pinned (OpenSpec.upto lineBackSpec)

end Rows
end Go.Proofs.Ytkmdofkajcehpaa
