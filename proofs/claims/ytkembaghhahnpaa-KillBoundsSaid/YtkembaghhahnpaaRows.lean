/-
  No cell of these rows narrows 'for every input' (looked for: loops, veiled, ifaces, maps, wideKeys, modest, calm, conditions, laid).
  DERIVED. THE GIVEN ROWS OF THIS SEAT. 11 by the template 'for every input the law returns true; each argument reads behind the call as it read before'; 0 by the template 'total and deterministic' (their statements: YtkembaghhahnpaaTotals.lean).
  GIVEN WITH THE SEED: the statements are not yours to turn. If you find one false, say at which input.
  Laid BY PROGRAM, IN A SANDBOX (cutbox-rows.mjs): the forced cells as the released guide's own fill.sh prints them over the translation bb1e4503bc54820f… (all of the seat's roots in one cut). By AI agents, Wed Nov 11 2026. No macro, syntax, notation, axiom, sorry.
-/
import Derived.Test.YtkembaghhahnpaaChecked
import GoSem.Claim
import GoSem.ClaimJoined
import GoSem.ClaimMapViews
import Derived.JoinedTies
import Derived.KernelRfl
namespace Go.Proofs.Ytkembaghhahnpaa
/- THE CELL 'sum', in the pinned program and in every row, IS THE sha256 OF THE DUMP (.gsa) THAT YtkembaghhahnpaaProg.lean LOADS. Nothing in Lean hashes anything: it is a label: what it is worth is what the hold of that sum in a sandbox is worth. -/
noncomputable def Try.pinned : Pinned := { name := "ytkembaghhahnpaa", sum := "bb1e4503bc54820f67a33ca32eb01cf595b5194a78cdcd875eb3dc1d1b1f14bd", checked := Try.checked }
namespace Rows
def none {H : Type} : Left H := { results := [], args := [] }

/-- 'dactyllaw18.KillBounds': WHATEVER THE INPUT: true; the input reads as it did. -/
def killBoundsSpec : ChangeSpec := { name := "killBounds", fn := fun _ => fun
  | [d1, d2, d3] => { results := [.lit (.bool true)], args := [d1, d2, d3] }
  | _ => none }
def killBoundsRow : OpenClaim := { program := "ytkembaghhahnpaa", sum := "bb1e4503bc54820f67a33ca32eb01cf595b5194a78cdcd875eb3dc1d1b1f14bd", func := "dactyl/dactyllaw18.KillBounds", spec := "killBounds", unfollowed := true, recurses := true, apart := false }
def KillBoundsSaid : Prop := killBoundsRow.holds Try.pinned (OpenSpec.ofChange killBoundsSpec)

/-- ITS FALSE NEIGHBOUR: 'it returns false'. Refute it at one input. -/
def killBoundsWrong : ChangeSpec := { name := "killBounds", fn := fun _ => fun
  | [d1, d2, d3] => { results := [.lit (.bool false)], args := [d1, d2, d3] }
  | _ => none }
def KillBoundsWrongFalsely : Prop := killBoundsRow.holds Try.pinned (OpenSpec.ofChange killBoundsWrong)

/-- 'dactyllaw06.ShowCells': WHATEVER THE INPUT: true; the input reads as it did. -/
def showCellsSpec : ChangeSpec := { name := "showCells", fn := fun _ => fun
  | [d1, d2, d3] => { results := [.lit (.bool true)], args := [d1, d2, d3] }
  | _ => none }
def showCellsRow : OpenClaim := { program := "ytkembaghhahnpaa", sum := "bb1e4503bc54820f67a33ca32eb01cf595b5194a78cdcd875eb3dc1d1b1f14bd", func := "dactyl/dactyllaw06.ShowCells", spec := "showCells", unfollowed := true, recurses := true, apart := false }
def ShowCellsSaid : Prop := showCellsRow.holds Try.pinned (OpenSpec.ofChange showCellsSpec)

/-- ITS FALSE NEIGHBOUR: 'it returns false'. Refute it at one input. -/
def showCellsWrong : ChangeSpec := { name := "showCells", fn := fun _ => fun
  | [d1, d2, d3] => { results := [.lit (.bool false)], args := [d1, d2, d3] }
  | _ => none }
def ShowCellsWrongFalsely : Prop := showCellsRow.holds Try.pinned (OpenSpec.ofChange showCellsWrong)

/-- 'dactyllaw06.ShowApart': WHATEVER THE INPUT: true; the input reads as it did. -/
def showApartSpec : ChangeSpec := { name := "showApart", fn := fun _ => fun
  | [d1, d2] => { results := [.lit (.bool true)], args := [d1, d2] }
  | _ => none }
def showApartRow : OpenClaim := { program := "ytkembaghhahnpaa", sum := "bb1e4503bc54820f67a33ca32eb01cf595b5194a78cdcd875eb3dc1d1b1f14bd", func := "dactyl/dactyllaw06.ShowApart", spec := "showApart", unfollowed := true, recurses := true, apart := false }
def ShowApartSaid : Prop := showApartRow.holds Try.pinned (OpenSpec.ofChange showApartSpec)

/-- ITS FALSE NEIGHBOUR: 'it returns false'. Refute it at one input. -/
def showApartWrong : ChangeSpec := { name := "showApart", fn := fun _ => fun
  | [d1, d2] => { results := [.lit (.bool false)], args := [d1, d2] }
  | _ => none }
def ShowApartWrongFalsely : Prop := showApartRow.holds Try.pinned (OpenSpec.ofChange showApartWrong)

/-- 'dactyllaw06.ShowCols': WHATEVER THE INPUT: true; the input reads as it did. -/
def showColsSpec : ChangeSpec := { name := "showCols", fn := fun _ => fun
  | [d] => { results := [.lit (.bool true)], args := [d] }
  | _ => none }
def showColsRow : OpenClaim := { program := "ytkembaghhahnpaa", sum := "bb1e4503bc54820f67a33ca32eb01cf595b5194a78cdcd875eb3dc1d1b1f14bd", func := "dactyl/dactyllaw06.ShowCols", spec := "showCols", unfollowed := true, recurses := true, apart := false }
def ShowColsSaid : Prop := showColsRow.holds Try.pinned (OpenSpec.ofChange showColsSpec)

/-- ITS FALSE NEIGHBOUR: 'it returns false'. Refute it at one input. -/
def showColsWrong : ChangeSpec := { name := "showCols", fn := fun _ => fun
  | [d] => { results := [.lit (.bool false)], args := [d] }
  | _ => none }
def ShowColsWrongFalsely : Prop := showColsRow.holds Try.pinned (OpenSpec.ofChange showColsWrong)

/-- 'dactyllaw23.HistBounds': WHATEVER THE INPUT: true; the input reads as it did. -/
def histBoundsSpec : ChangeSpec := { name := "histBounds", fn := fun _ => fun
  | [d1, d2, d3] => { results := [.lit (.bool true)], args := [d1, d2, d3] }
  | _ => none }
def histBoundsRow : OpenClaim := { program := "ytkembaghhahnpaa", sum := "bb1e4503bc54820f67a33ca32eb01cf595b5194a78cdcd875eb3dc1d1b1f14bd", func := "dactyl/dactyllaw23.HistBounds", spec := "histBounds", unfollowed := true, recurses := true, apart := false }
def HistBoundsSaid : Prop := histBoundsRow.holds Try.pinned (OpenSpec.ofChange histBoundsSpec)

/-- ITS FALSE NEIGHBOUR: 'it returns false'. Refute it at one input. -/
def histBoundsWrong : ChangeSpec := { name := "histBounds", fn := fun _ => fun
  | [d1, d2, d3] => { results := [.lit (.bool false)], args := [d1, d2, d3] }
  | _ => none }
def HistBoundsWrongFalsely : Prop := histBoundsRow.holds Try.pinned (OpenSpec.ofChange histBoundsWrong)

/-- 'dactyllaw07.ViewOf': WHATEVER THE INPUT: true; the input reads as it did. -/
def viewOfSpec : ChangeSpec := { name := "viewOf", fn := fun _ => fun
  | [d1, d2] => { results := [.lit (.bool true)], args := [d1, d2] }
  | _ => none }
def viewOfRow : OpenClaim := { program := "ytkembaghhahnpaa", sum := "bb1e4503bc54820f67a33ca32eb01cf595b5194a78cdcd875eb3dc1d1b1f14bd", func := "dactyl/dactyllaw07.ViewOf", spec := "viewOf", unfollowed := true, recurses := true, apart := false }
def ViewOfSaid : Prop := viewOfRow.holds Try.pinned (OpenSpec.ofChange viewOfSpec)

/-- ITS FALSE NEIGHBOUR: 'it returns false'. Refute it at one input. -/
def viewOfWrong : ChangeSpec := { name := "viewOf", fn := fun _ => fun
  | [d1, d2] => { results := [.lit (.bool false)], args := [d1, d2] }
  | _ => none }
def ViewOfWrongFalsely : Prop := viewOfRow.holds Try.pinned (OpenSpec.ofChange viewOfWrong)

/-- 'dactyllaw07.ViewMaps': WHATEVER THE INPUT: true; the input reads as it did. -/
def viewMapsSpec : ChangeSpec := { name := "viewMaps", fn := fun _ => fun
  | [d1, d2] => { results := [.lit (.bool true)], args := [d1, d2] }
  | _ => none }
def viewMapsRow : OpenClaim := { program := "ytkembaghhahnpaa", sum := "bb1e4503bc54820f67a33ca32eb01cf595b5194a78cdcd875eb3dc1d1b1f14bd", func := "dactyl/dactyllaw07.ViewMaps", spec := "viewMaps", unfollowed := true, recurses := true, apart := false }
def ViewMapsSaid : Prop := viewMapsRow.holds Try.pinned (OpenSpec.ofChange viewMapsSpec)

/-- ITS FALSE NEIGHBOUR: 'it returns false'. Refute it at one input. -/
def viewMapsWrong : ChangeSpec := { name := "viewMaps", fn := fun _ => fun
  | [d1, d2] => { results := [.lit (.bool false)], args := [d1, d2] }
  | _ => none }
def ViewMapsWrongFalsely : Prop := viewMapsRow.holds Try.pinned (OpenSpec.ofChange viewMapsWrong)

/-- 'dactyllaw07.ViewApart': WHATEVER THE INPUT: true; the input reads as it did. -/
def viewApartSpec : ChangeSpec := { name := "viewApart", fn := fun _ => fun
  | [d1, d2, d3] => { results := [.lit (.bool true)], args := [d1, d2, d3] }
  | _ => none }
def viewApartRow : OpenClaim := { program := "ytkembaghhahnpaa", sum := "bb1e4503bc54820f67a33ca32eb01cf595b5194a78cdcd875eb3dc1d1b1f14bd", func := "dactyl/dactyllaw07.ViewApart", spec := "viewApart", unfollowed := true, recurses := true, apart := false }
def ViewApartSaid : Prop := viewApartRow.holds Try.pinned (OpenSpec.ofChange viewApartSpec)

/-- ITS FALSE NEIGHBOUR: 'it returns false'. Refute it at one input. -/
def viewApartWrong : ChangeSpec := { name := "viewApart", fn := fun _ => fun
  | [d1, d2, d3] => { results := [.lit (.bool false)], args := [d1, d2, d3] }
  | _ => none }
def ViewApartWrongFalsely : Prop := viewApartRow.holds Try.pinned (OpenSpec.ofChange viewApartWrong)

/-- 'dactyllaw07.ViewText': WHATEVER THE INPUT: true; the input reads as it did. -/
def viewTextSpec : ChangeSpec := { name := "viewText", fn := fun _ => fun
  | [d1, d2] => { results := [.lit (.bool true)], args := [d1, d2] }
  | _ => none }
def viewTextRow : OpenClaim := { program := "ytkembaghhahnpaa", sum := "bb1e4503bc54820f67a33ca32eb01cf595b5194a78cdcd875eb3dc1d1b1f14bd", func := "dactyl/dactyllaw07.ViewText", spec := "viewText", unfollowed := true, recurses := true, apart := false }
def ViewTextSaid : Prop := viewTextRow.holds Try.pinned (OpenSpec.ofChange viewTextSpec)

/-- ITS FALSE NEIGHBOUR: 'it returns false'. Refute it at one input. -/
def viewTextWrong : ChangeSpec := { name := "viewText", fn := fun _ => fun
  | [d1, d2] => { results := [.lit (.bool false)], args := [d1, d2] }
  | _ => none }
def ViewTextWrongFalsely : Prop := viewTextRow.holds Try.pinned (OpenSpec.ofChange viewTextWrong)

/-- 'dactyllaw13.KeyNames': WHATEVER THE INPUT: true; the input reads as it did. -/
def keyNamesSpec : ChangeSpec := { name := "keyNames", fn := fun _ => fun
  | [d] => { results := [.lit (.bool true)], args := [d] }
  | _ => none }
def keyNamesRow : OpenClaim := { program := "ytkembaghhahnpaa", sum := "bb1e4503bc54820f67a33ca32eb01cf595b5194a78cdcd875eb3dc1d1b1f14bd", func := "dactyl/dactyllaw13.KeyNames", spec := "keyNames", inPlace := ["internal/bytealg.IndexByteString"], unfollowed := true, recurses := true, apart := false }
def KeyNamesSaid : Prop := keyNamesRow.holds Try.pinned (OpenSpec.ofChange keyNamesSpec)

/-- ITS FALSE NEIGHBOUR: 'it returns false'. Refute it at one input. -/
def keyNamesWrong : ChangeSpec := { name := "keyNames", fn := fun _ => fun
  | [d] => { results := [.lit (.bool false)], args := [d] }
  | _ => none }
def KeyNamesWrongFalsely : Prop := keyNamesRow.holds Try.pinned (OpenSpec.ofChange keyNamesWrong)

/-- 'dactyllaw13.KeyParses': WHATEVER THE INPUT: true; the input reads as it did. -/
def keyParsesSpec : ChangeSpec := { name := "keyParses", fn := fun _ => fun
  | [d] => { results := [.lit (.bool true)], args := [d] }
  | _ => none }
def keyParsesRow : OpenClaim := { program := "ytkembaghhahnpaa", sum := "bb1e4503bc54820f67a33ca32eb01cf595b5194a78cdcd875eb3dc1d1b1f14bd", func := "dactyl/dactyllaw13.KeyParses", spec := "keyParses", inPlace := ["internal/bytealg.IndexByteString"], unfollowed := true, recurses := true, apart := false }
def KeyParsesSaid : Prop := keyParsesRow.holds Try.pinned (OpenSpec.ofChange keyParsesSpec)

/-- ITS FALSE NEIGHBOUR: 'it returns false'. Refute it at one input. -/
def keyParsesWrong : ChangeSpec := { name := "keyParses", fn := fun _ => fun
  | [d] => { results := [.lit (.bool false)], args := [d] }
  | _ => none }
def KeyParsesWrongFalsely : Prop := keyParsesRow.holds Try.pinned (OpenSpec.ofChange keyParsesWrong)

/- THE SECOND FORM. 'bulk': how many values and letters a reading holds, each counted each time it is reached (what is shared counts as often as it is met; a slice's spare places count too). A statement '..UptoSaid' is the law's where the arguments, and the package variables that the reading takes, are together of bulk at most 1048576: NARROWER than '..Said'. Prove '..Said' where nothing that the law and all that it calls make is longer than what came in: it says more and counts as full. Else prove '..UptoSaid'. A law counts once. -/
mutual
def uptoBulk {H : Type} : DataW H → Nat
  | .lit (.string bytes) => bytes.length + 1
  | .lit _ => 1
  | .nil => 1
  | .ptr d => uptoBulk d + 1
  | .slice elems spare => uptoBulkAll elems + uptoBulkAll spare + 1
  | .agg parts => uptoBulkAll parts + 1
  | .iface _ d => uptoBulk d + 1
  | .map entries => uptoBulkEntries entries + 1
  | .held _ => 1
def uptoBulkAll {H : Type} : List (DataW H) → Nat
  | [] => 0
  | d :: r => uptoBulk d + uptoBulkAll r
def uptoBulkEntries {H : Type} : List (Lit × DataW H) → Nat
  | [] => 0
  | x :: r => uptoBulkEntry x + uptoBulkEntries r
def uptoBulkEntry {H : Type} : Lit × DataW H → Nat
  | (.string bytes, d) => bytes.length + uptoBulk d + 1
  | (_, d) => uptoBulk d + 1
 end
def uptoSmall : (H : Type) → List (DataW H) → Bool := fun _ ds => decide (uptoBulkAll ds ≤ 1048576)
def OpenSpec.upto (s : _root_.Go.ChangeSpec) : _root_.Go.OpenSpec := { _root_.Go.OpenSpec.ofChange s with cond := some uptoSmall }

/-- 'dactyllaw18.KillBounds', WHERE WHAT IT READS IS OF BULK AT MOST 1048576: true; the input reads as it did. -/
def killBoundsUptoRow : OpenClaim := { program := "ytkembaghhahnpaa", sum := "bb1e4503bc54820f67a33ca32eb01cf595b5194a78cdcd875eb3dc1d1b1f14bd", func := "dactyl/dactyllaw18.KillBounds", spec := "killBounds", unfollowed := true, recurses := true, apart := false, narrowed := true }
def KillBoundsUptoSaid : Prop := killBoundsUptoRow.holds Try.pinned (OpenSpec.upto killBoundsSpec)

/-- 'dactyllaw06.ShowCells', WHERE WHAT IT READS IS OF BULK AT MOST 1048576: true; the input reads as it did. -/
def showCellsUptoRow : OpenClaim := { program := "ytkembaghhahnpaa", sum := "bb1e4503bc54820f67a33ca32eb01cf595b5194a78cdcd875eb3dc1d1b1f14bd", func := "dactyl/dactyllaw06.ShowCells", spec := "showCells", unfollowed := true, recurses := true, apart := false, narrowed := true }
def ShowCellsUptoSaid : Prop := showCellsUptoRow.holds Try.pinned (OpenSpec.upto showCellsSpec)

/-- 'dactyllaw06.ShowApart', WHERE WHAT IT READS IS OF BULK AT MOST 1048576: true; the input reads as it did. -/
def showApartUptoRow : OpenClaim := { program := "ytkembaghhahnpaa", sum := "bb1e4503bc54820f67a33ca32eb01cf595b5194a78cdcd875eb3dc1d1b1f14bd", func := "dactyl/dactyllaw06.ShowApart", spec := "showApart", unfollowed := true, recurses := true, apart := false, narrowed := true }
def ShowApartUptoSaid : Prop := showApartUptoRow.holds Try.pinned (OpenSpec.upto showApartSpec)

/-- 'dactyllaw06.ShowCols', WHERE WHAT IT READS IS OF BULK AT MOST 1048576: true; the input reads as it did. -/
def showColsUptoRow : OpenClaim := { program := "ytkembaghhahnpaa", sum := "bb1e4503bc54820f67a33ca32eb01cf595b5194a78cdcd875eb3dc1d1b1f14bd", func := "dactyl/dactyllaw06.ShowCols", spec := "showCols", unfollowed := true, recurses := true, apart := false, narrowed := true }
def ShowColsUptoSaid : Prop := showColsUptoRow.holds Try.pinned (OpenSpec.upto showColsSpec)

/-- 'dactyllaw23.HistBounds', WHERE WHAT IT READS IS OF BULK AT MOST 1048576: true; the input reads as it did. -/
def histBoundsUptoRow : OpenClaim := { program := "ytkembaghhahnpaa", sum := "bb1e4503bc54820f67a33ca32eb01cf595b5194a78cdcd875eb3dc1d1b1f14bd", func := "dactyl/dactyllaw23.HistBounds", spec := "histBounds", unfollowed := true, recurses := true, apart := false, narrowed := true }
def HistBoundsUptoSaid : Prop := histBoundsUptoRow.holds Try.pinned (OpenSpec.upto histBoundsSpec)

/-- 'dactyllaw07.ViewOf', WHERE WHAT IT READS IS OF BULK AT MOST 1048576: true; the input reads as it did. -/
def viewOfUptoRow : OpenClaim := { program := "ytkembaghhahnpaa", sum := "bb1e4503bc54820f67a33ca32eb01cf595b5194a78cdcd875eb3dc1d1b1f14bd", func := "dactyl/dactyllaw07.ViewOf", spec := "viewOf", unfollowed := true, recurses := true, apart := false, narrowed := true }
def ViewOfUptoSaid : Prop := viewOfUptoRow.holds Try.pinned (OpenSpec.upto viewOfSpec)

/-- 'dactyllaw07.ViewMaps', WHERE WHAT IT READS IS OF BULK AT MOST 1048576: true; the input reads as it did. -/
def viewMapsUptoRow : OpenClaim := { program := "ytkembaghhahnpaa", sum := "bb1e4503bc54820f67a33ca32eb01cf595b5194a78cdcd875eb3dc1d1b1f14bd", func := "dactyl/dactyllaw07.ViewMaps", spec := "viewMaps", unfollowed := true, recurses := true, apart := false, narrowed := true }
def ViewMapsUptoSaid : Prop := viewMapsUptoRow.holds Try.pinned (OpenSpec.upto viewMapsSpec)

/-- 'dactyllaw07.ViewApart', WHERE WHAT IT READS IS OF BULK AT MOST 1048576: true; the input reads as it did. -/
def viewApartUptoRow : OpenClaim := { program := "ytkembaghhahnpaa", sum := "bb1e4503bc54820f67a33ca32eb01cf595b5194a78cdcd875eb3dc1d1b1f14bd", func := "dactyl/dactyllaw07.ViewApart", spec := "viewApart", unfollowed := true, recurses := true, apart := false, narrowed := true }
def ViewApartUptoSaid : Prop := viewApartUptoRow.holds Try.pinned (OpenSpec.upto viewApartSpec)

/-- 'dactyllaw07.ViewText', WHERE WHAT IT READS IS OF BULK AT MOST 1048576: true; the input reads as it did. -/
def viewTextUptoRow : OpenClaim := { program := "ytkembaghhahnpaa", sum := "bb1e4503bc54820f67a33ca32eb01cf595b5194a78cdcd875eb3dc1d1b1f14bd", func := "dactyl/dactyllaw07.ViewText", spec := "viewText", unfollowed := true, recurses := true, apart := false, narrowed := true }
def ViewTextUptoSaid : Prop := viewTextUptoRow.holds Try.pinned (OpenSpec.upto viewTextSpec)

/-- 'dactyllaw13.KeyNames', WHERE WHAT IT READS IS OF BULK AT MOST 1048576: true; the input reads as it did. -/
def keyNamesUptoRow : OpenClaim := { program := "ytkembaghhahnpaa", sum := "bb1e4503bc54820f67a33ca32eb01cf595b5194a78cdcd875eb3dc1d1b1f14bd", func := "dactyl/dactyllaw13.KeyNames", spec := "keyNames", inPlace := ["internal/bytealg.IndexByteString"], unfollowed := true, recurses := true, apart := false, narrowed := true }
def KeyNamesUptoSaid : Prop := keyNamesUptoRow.holds Try.pinned (OpenSpec.upto keyNamesSpec)

/-- 'dactyllaw13.KeyParses', WHERE WHAT IT READS IS OF BULK AT MOST 1048576: true; the input reads as it did. -/
def keyParsesUptoRow : OpenClaim := { program := "ytkembaghhahnpaa", sum := "bb1e4503bc54820f67a33ca32eb01cf595b5194a78cdcd875eb3dc1d1b1f14bd", func := "dactyl/dactyllaw13.KeyParses", spec := "keyParses", inPlace := ["internal/bytealg.IndexByteString"], unfollowed := true, recurses := true, apart := false, narrowed := true }
def KeyParsesUptoSaid : Prop := keyParsesUptoRow.holds Try.pinned (OpenSpec.upto keyParsesSpec)

end Rows
end Go.Proofs.Ytkembaghhahnpaa
