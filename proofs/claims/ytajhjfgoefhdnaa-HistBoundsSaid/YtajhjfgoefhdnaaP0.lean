/- Machine side of the laws of this seat: each Go function as a plain Lean function, and its contract over the model; written by a program of this session (gprint.py) round the kit's print. Not trusted: Lean checks it. -/
import Derived.Test.YtajhjfgoefhdnaaProg
import Derived.Below
import Derived.Deep.Draws
import Derived.Deep.AppendLies
import Derived.Maps.AppendAt
import Derived.OwnWalk
import Derived.Laws.BytesArg
import Derived.Laws.MakeOwn
import Derived.Laws.OwnMore
import Derived.Deep.OwnRows
import Derived.Tactics
import Derived.Lib.ConvBytes
import Derived.Laws.Slices
import Derived.WalkKit
import Derived.KernelRfl
import Derived.RowKit3
import Derived.Deep.LoopGhost
import Derived.Deep.QuietTactic
import Derived.BigQuiet
import Derived.WideLaws
import Derived.Deep.DeepCutAuto
import Derived.Deep.CutBlock
import Derived.Deep.RegionHeld3
import Derived.Laws.Rows
import Derived.Lib.AppendStr
import Derived.ArgAppend
import Derived.Laws.IdiomCopy
import Derived.OrdersHeld
import Derived.Laws.BitsLemmas
import Derived.RowKit
import Derived.Shelf.Abstract
import Derived.WalkLawsBesides
import Derived.WalkSpells
import Derived.Laws.CopyOwn
import Derived.Laws.Tables
import Derived.Lib.OthersKept
import Derived.Lib.RuneCount
import Derived.Laws.RangeAny
import Derived.Lib.RuneBytes
import Derived.Test.YtajhjfgoefhdnaaGBase
import Derived.Test.YtajhjfgoefhdnaaGWords
import Derived.Test.YtajhjfgoefhdnaaGAm
import Derived.Test.YtajhjfgoefhdnaaWWords
namespace Go.Proofs.Ytajhjfgoefhdnaa.P
open Go.RowKit Go.Proofs.YtajhjfgoefhdnaaW.PrintWords Go.Proofs.YtajhjfgoefhdnaaW.PrintLast Go.Proofs.YtajhjfgoefhdnaaW.PrintMore
attribute [local go_sem] max2_int min2_int max_two min_two max_three min_three max_four min_four   -- for this text's walks alone
set_option linter.unusedVariables false
set_option linter.unusedSimpArgs false
/-! #### struct type 13 -/
structure S13 where
  f0 : ByteArray
  f1 : Int
/-! #### struct type 46 -/
structure S46 where
  f0 : Int
  f1 : Int
/-! #### struct type 45 -/
structure S45 where
  f0 : Int
  f1 : Int
/-! #### struct type 47 -/
structure S47 where
  f0 : (List (List S46))
  f1 : Int
  f2 : (List S46)
  f3 : Int
  f4 : Int
/-! #### struct type 48 -/
structure S48 where
  f0 : (List (List S46))
  f1 : Int
  f2 : (List S46)
  f3 : Int
  f4 : Int
end Go.Proofs.Ytajhjfgoefhdnaa.P
