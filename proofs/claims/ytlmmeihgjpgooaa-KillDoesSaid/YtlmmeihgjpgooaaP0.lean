/- Machine side of the laws of this seat: each Go function as a plain Lean function, and its contract over the model; written by a program of this session (gprint.py) round the kit's print. Not trusted: Lean checks it. -/
import Derived.Test.YtlmmeihgjpgooaaProg
import Derived.Below
import Derived.Deep.Draws
import Derived.Deep.AppendLies
import Derived.Maps.AppendAt
import Derived.OwnWalk
import Derived.Laws.BytesArg
import Derived.Laws.MakeOwn
import Derived.Laws.OwnMore
import Derived.Deep.OwnRows
import Derived.Tactics
import Derived.Lib.ConvBytes
import Derived.Laws.Slices
import Derived.WalkKit
import Derived.KernelRfl
import Derived.RowKit3
import Derived.Deep.LoopGhost
import Derived.Deep.QuietTactic
import Derived.BigQuiet
import Derived.WideLaws
import Derived.Deep.DeepCutAuto
import Derived.Deep.CutBlock
import Derived.Deep.RegionHeld3
import Derived.Laws.Rows
import Derived.Lib.AppendStr
import Derived.ArgAppend
import Derived.Laws.IdiomCopy
import Derived.OrdersHeld
import Derived.Laws.BitsLemmas
import Derived.RowKit
import Derived.Shelf.Abstract
import Derived.WalkLawsBesides
import Derived.WalkSpells
import Derived.Laws.CopyOwn
import Derived.Laws.Tables
import Derived.Lib.OthersKept
import Derived.Lib.RuneCount
import Derived.Laws.RangeAny
import Derived.Lib.RuneBytes
import Derived.Test.YtlmmeihgjpgooaaGBase
import Derived.Test.YtlmmeihgjpgooaaGWords
import Derived.Test.YtlmmeihgjpgooaaGAm
import Derived.Test.YtlmmeihgjpgooaaWWords
import Derived.Test.YtlmmeihgjpgooaaWLast
import Derived.Test.YtlmmeihgjpgooaaWTab
import Derived.Test.YtlmmeihgjpgooaaWFour
import Derived.Test.YtlmmeihgjpgooaaWQPut
import Derived.Test.YtlmmeihgjpgooaaWApart
import Derived.Test.YtlmmeihgjpgooaaWArr
import Derived.Test.YtlmmeihgjpgooaaWZeros
import Derived.Test.YtlmmeihgjpgooaaWFoot
import Derived.Test.YtlmmeihgjpgooaaWKept
import Derived.Test.YtlmmeihgjpgooaaWShare
import Derived.Test.YtlmmeihgjpgooaaWN
import Derived.Test.YtlmmeihgjpgooaaWFootNe
import Derived.Test.YtlmmeihgjpgooaaWAt
import Derived.Test.YtlmmeihgjpgooaaWEqStruct
import Derived.Test.YtlmmeihgjpgooaaWRepsOne
import Derived.Test.YtlmmeihgjpgooaaWInv
import Derived.Test.YtlmmeihgjpgooaaWInvWords
import Derived.Test.YtlmmeihgjpgooaaWGuard
import Derived.Test.YtlmmeihgjpgooaaWNEv
import Derived.Test.YtlmmeihgjpgooaaWMore
namespace Go.Proofs.Ytlmmeihgjpgooaa.P
open Go.RowKit Go.Proofs.YtlmmeihgjpgooaaW.PrintWords Go.Proofs.YtlmmeihgjpgooaaW.PrintLast Go.Proofs.YtlmmeihgjpgooaaW.PrintMore
attribute [local go_sem] max2_int min2_int max_two min_two max_three min_three max_four min_four   -- for this text's walks alone
set_option linter.unusedVariables false
set_option linter.unusedSimpArgs false
/-! #### struct type 13 -/
structure S13 where
  f0 : ByteArray
  f1 : Int
def z13 : S13 := ⟨(⟨#[]⟩ : ByteArray), (0 : Int)⟩
/-! #### struct type 46 -/
structure S46 where
  f0 : Int
  f1 : Int
/-! #### struct type 44 -/
structure S44 where
  f0 : Int
  f1 : Int
  f2 : Int
/-! #### struct type 43 -/
structure S43 where
  f0 : Int
  f1 : Int
  f2 : Int
/-! #### struct type 45 -/
structure S45 where
  f0 : Int
  f1 : Int
/-! #### struct type 58 -/
structure S58 where
  f0 : Int
  f1 : (List S46)
/-! #### struct type 55 -/
structure S55 where
  f0 : (List (List S46))
  f1 : Int
/-! #### struct type 56 -/
structure S56 where
  f0 : (List (List S46))
  f1 : Int
/-! #### struct type 57 -/
structure S57 where
  f0 : Int
  f1 : (List S46)
/-! #### struct type 80 -/
structure S80 where
  f0 : Int
  f1 : Int
/-! #### struct type 79 -/
structure S79 where
  f0 : Int
  f1 : Int
/-! #### struct type 112 -/
structure S112 where
  f0 : Int
  f1 : Int
  f2 : Int
/-! #### struct type 111 -/
structure S111 where
  f0 : Int
  f1 : Int
  f2 : Int
end Go.Proofs.Ytlmmeihgjpgooaa.P
