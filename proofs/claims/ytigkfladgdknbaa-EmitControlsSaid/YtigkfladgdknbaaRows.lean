/-
  No cell of these rows narrows 'for every input' (looked for: loops, veiled, ifaces, maps, wideKeys, modest, calm, conditions, laid).
  DERIVED. THE GIVEN ROWS OF THIS SEAT. 4 by the template 'for every input the law returns true; each argument reads behind the call as it read before'; 0 by the template 'total and deterministic' (their statements: YtigkfladgdknbaaTotals.lean).
  GIVEN WITH THE SEED: the statements are not yours to turn. If you find one false, say at which input.
  Laid BY PROGRAM, IN A SANDBOX (cutbox-rows.mjs): the forced cells as the released guide's own fill.sh prints them over the translation d21747561239d79a… (all of the seat's roots in one cut). By AI agents, Wed Nov 11 2026. No macro, syntax, notation, axiom, sorry.
-/
import Derived.Test.YtigkfladgdknbaaChecked
import GoSem.Claim
import GoSem.ClaimJoined
import GoSem.ClaimMapViews
import Derived.JoinedTies
import Derived.KernelRfl
namespace Go.Proofs.Ytigkfladgdknbaa
/- THE CELL 'sum', in the pinned program and in every row, IS THE sha256 OF THE DUMP (.gsa) THAT YtigkfladgdknbaaProg.lean LOADS. Nothing in Lean hashes anything: it is a label: what it is worth is what the hold of that sum in a sandbox is worth. -/
noncomputable def Try.pinned : Pinned := { name := "ytigkfladgdknbaa", sum := "d21747561239d79ad1f5828dc22fce996076c1dcc6518b226c49c18d7bbc6fe6", checked := Try.checked }
namespace Rows
def none {H : Type} : Left H := { results := [], args := [] }

/-- 'dactyllaw10.EmitTexts': WHATEVER THE INPUT: true; the input reads as it did. -/
def emitTextsSpec : ChangeSpec := { name := "emitTexts", fn := fun _ => fun
  | [d1, d2] => { results := [.lit (.bool true)], args := [d1, d2] }
  | _ => none }
def emitTextsRow : OpenClaim := { program := "ytigkfladgdknbaa", sum := "d21747561239d79ad1f5828dc22fce996076c1dcc6518b226c49c18d7bbc6fe6", func := "dactyl/dactyllaw10.EmitTexts", spec := "emitTexts", inPlace := ["internal/bytealg.IndexByteString", "internal/bytealg.IndexString"], unfollowed := true, recurses := true, named := ["internal/bytealg.MaxLen"], apart := false }
def EmitTextsSaid : Prop := emitTextsRow.holds Try.pinned (OpenSpec.ofChange emitTextsSpec)

/-- ITS FALSE NEIGHBOUR: 'it returns false'. Refute it at one input. -/
def emitTextsWrong : ChangeSpec := { name := "emitTexts", fn := fun _ => fun
  | [d1, d2] => { results := [.lit (.bool false)], args := [d1, d2] }
  | _ => none }
def EmitTextsWrongFalsely : Prop := emitTextsRow.holds Try.pinned (OpenSpec.ofChange emitTextsWrong)

/-- 'dactyllaw10.EmitParses': WHATEVER THE INPUT: true; the input reads as it did. -/
def emitParsesSpec : ChangeSpec := { name := "emitParses", fn := fun _ => fun
  | [d] => { results := [.lit (.bool true)], args := [d] }
  | _ => none }
def emitParsesRow : OpenClaim := { program := "ytigkfladgdknbaa", sum := "d21747561239d79ad1f5828dc22fce996076c1dcc6518b226c49c18d7bbc6fe6", func := "dactyl/dactyllaw10.EmitParses", spec := "emitParses", inPlace := ["internal/bytealg.IndexByteString", "internal/bytealg.IndexString"], unfollowed := true, recurses := true, named := ["internal/bytealg.MaxLen"], apart := false }
def EmitParsesSaid : Prop := emitParsesRow.holds Try.pinned (OpenSpec.ofChange emitParsesSpec)

/-- ITS FALSE NEIGHBOUR: 'it returns false'. Refute it at one input. -/
def emitParsesWrong : ChangeSpec := { name := "emitParses", fn := fun _ => fun
  | [d] => { results := [.lit (.bool false)], args := [d] }
  | _ => none }
def EmitParsesWrongFalsely : Prop := emitParsesRow.holds Try.pinned (OpenSpec.ofChange emitParsesWrong)

/-- 'dactyllaw10.EmitControls': WHATEVER THE INPUT: true; the input reads as it did. -/
def emitControlsSpec : ChangeSpec := { name := "emitControls", fn := fun _ => fun
  | [d] => { results := [.lit (.bool true)], args := [d] }
  | _ => none }
def emitControlsRow : OpenClaim := { program := "ytigkfladgdknbaa", sum := "d21747561239d79ad1f5828dc22fce996076c1dcc6518b226c49c18d7bbc6fe6", func := "dactyl/dactyllaw10.EmitControls", spec := "emitControls", inPlace := ["internal/bytealg.IndexByteString", "internal/bytealg.IndexString"], unfollowed := true, recurses := true, named := ["internal/bytealg.MaxLen"], apart := false }
def EmitControlsSaid : Prop := emitControlsRow.holds Try.pinned (OpenSpec.ofChange emitControlsSpec)

/-- ITS FALSE NEIGHBOUR: 'it returns false'. Refute it at one input. -/
def emitControlsWrong : ChangeSpec := { name := "emitControls", fn := fun _ => fun
  | [d] => { results := [.lit (.bool false)], args := [d] }
  | _ => none }
def EmitControlsWrongFalsely : Prop := emitControlsRow.holds Try.pinned (OpenSpec.ofChange emitControlsWrong)

/-- 'dactyllaw10.EmitCloses': WHATEVER THE INPUT: true; the input reads as it did. -/
def emitClosesSpec : ChangeSpec := { name := "emitCloses", fn := fun _ => fun
  | [d1, d2] => { results := [.lit (.bool true)], args := [d1, d2] }
  | _ => none }
def emitClosesRow : OpenClaim := { program := "ytigkfladgdknbaa", sum := "d21747561239d79ad1f5828dc22fce996076c1dcc6518b226c49c18d7bbc6fe6", func := "dactyl/dactyllaw10.EmitCloses", spec := "emitCloses", inPlace := ["internal/bytealg.IndexByteString", "internal/bytealg.IndexString"], unfollowed := true, recurses := true, named := ["internal/bytealg.MaxLen"], apart := false }
def EmitClosesSaid : Prop := emitClosesRow.holds Try.pinned (OpenSpec.ofChange emitClosesSpec)

/-- ITS FALSE NEIGHBOUR: 'it returns false'. Refute it at one input. -/
def emitClosesWrong : ChangeSpec := { name := "emitCloses", fn := fun _ => fun
  | [d1, d2] => { results := [.lit (.bool false)], args := [d1, d2] }
  | _ => none }
def EmitClosesWrongFalsely : Prop := emitClosesRow.holds Try.pinned (OpenSpec.ofChange emitClosesWrong)

/- THE SECOND FORM. 'bulk': how many values and letters a reading holds, each counted each time it is reached (what is shared counts as often as it is met; a slice's spare places count too). A statement '..UptoSaid' is the law's where the arguments, and the package variables that the reading takes, are together of bulk at most 1048576: NARROWER than '..Said'. Prove '..Said' where nothing that the law and all that it calls make is longer than what came in: it says more and counts as full. Else prove '..UptoSaid'. A law counts once. -/
mutual
def uptoBulk {H : Type} : DataW H → Nat
  | .lit (.string bytes) => bytes.length + 1
  | .lit _ => 1
  | .nil => 1
  | .ptr d => uptoBulk d + 1
  | .slice elems spare => uptoBulkAll elems + uptoBulkAll spare + 1
  | .agg parts => uptoBulkAll parts + 1
  | .iface _ d => uptoBulk d + 1
  | .map entries => uptoBulkEntries entries + 1
  | .held _ => 1
def uptoBulkAll {H : Type} : List (DataW H) → Nat
  | [] => 0
  | d :: r => uptoBulk d + uptoBulkAll r
def uptoBulkEntries {H : Type} : List (Lit × DataW H) → Nat
  | [] => 0
  | x :: r => uptoBulkEntry x + uptoBulkEntries r
def uptoBulkEntry {H : Type} : Lit × DataW H → Nat
  | (.string bytes, d) => bytes.length + uptoBulk d + 1
  | (_, d) => uptoBulk d + 1
 end
def uptoSmall : (H : Type) → List (DataW H) → Bool := fun _ ds => decide (uptoBulkAll ds ≤ 1048576)
def OpenSpec.upto (s : _root_.Go.ChangeSpec) : _root_.Go.OpenSpec := { _root_.Go.OpenSpec.ofChange s with cond := some uptoSmall }

/-- 'dactyllaw10.EmitTexts', WHERE WHAT IT READS IS OF BULK AT MOST 1048576: true; the input reads as it did. -/
def emitTextsUptoRow : OpenClaim := { program := "ytigkfladgdknbaa", sum := "d21747561239d79ad1f5828dc22fce996076c1dcc6518b226c49c18d7bbc6fe6", func := "dactyl/dactyllaw10.EmitTexts", spec := "emitTexts", inPlace := ["internal/bytealg.IndexByteString", "internal/bytealg.IndexString"], unfollowed := true, recurses := true, named := ["internal/bytealg.MaxLen"], apart := false, narrowed := true }
def EmitTextsUptoSaid : Prop := emitTextsUptoRow.holds Try.pinned (OpenSpec.upto emitTextsSpec)

/-- 'dactyllaw10.EmitParses', WHERE WHAT IT READS IS OF BULK AT MOST 1048576: true; the input reads as it did. -/
def emitParsesUptoRow : OpenClaim := { program := "ytigkfladgdknbaa", sum := "d21747561239d79ad1f5828dc22fce996076c1dcc6518b226c49c18d7bbc6fe6", func := "dactyl/dactyllaw10.EmitParses", spec := "emitParses", inPlace := ["internal/bytealg.IndexByteString", "internal/bytealg.IndexString"], unfollowed := true, recurses := true, named := ["internal/bytealg.MaxLen"], apart := false, narrowed := true }
def EmitParsesUptoSaid : Prop := emitParsesUptoRow.holds Try.pinned (OpenSpec.upto emitParsesSpec)

/-- 'dactyllaw10.EmitControls', WHERE WHAT IT READS IS OF BULK AT MOST 1048576: true; the input reads as it did. -/
def emitControlsUptoRow : OpenClaim := { program := "ytigkfladgdknbaa", sum := "d21747561239d79ad1f5828dc22fce996076c1dcc6518b226c49c18d7bbc6fe6", func := "dactyl/dactyllaw10.EmitControls", spec := "emitControls", inPlace := ["internal/bytealg.IndexByteString", "internal/bytealg.IndexString"], unfollowed := true, recurses := true, named := ["internal/bytealg.MaxLen"], apart := false, narrowed := true }
def EmitControlsUptoSaid : Prop := emitControlsUptoRow.holds Try.pinned (OpenSpec.upto emitControlsSpec)

/-- 'dactyllaw10.EmitCloses', WHERE WHAT IT READS IS OF BULK AT MOST 1048576: true; the input reads as it did. -/
def emitClosesUptoRow : OpenClaim := { program := "ytigkfladgdknbaa", sum := "d21747561239d79ad1f5828dc22fce996076c1dcc6518b226c49c18d7bbc6fe6", func := "dactyl/dactyllaw10.EmitCloses", spec := "emitCloses", inPlace := ["internal/bytealg.IndexByteString", "internal/bytealg.IndexString"], unfollowed := true, recurses := true, named := ["internal/bytealg.MaxLen"], apart := false, narrowed := true }
def EmitClosesUptoSaid : Prop := emitClosesUptoRow.holds Try.pinned (OpenSpec.upto emitClosesSpec)

end Rows
end Go.Proofs.Ytigkfladgdknbaa
