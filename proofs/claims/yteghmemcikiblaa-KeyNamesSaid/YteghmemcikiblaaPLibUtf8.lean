/- Machine side of the laws of this seat: each Go function as a plain Lean function, and its contract over the model; written by a program of this session (gprint.py) round the kit's print. Not trusted: Lean checks it. -/
import Derived.Test.YteghmemcikiblaaP0
namespace Go.Proofs.Yteghmemcikiblaa.P
open Go.RowKit Go.Proofs.YteghmemcikiblaaW.PrintWords Go.Proofs.YteghmemcikiblaaW.PrintLast Go.Proofs.YteghmemcikiblaaW.PrintMore
attribute [local go_sem] max2_int min2_int max_two min_two max_three min_three max_four min_four   -- for this text's walks alone
set_option linter.unusedVariables false
set_option linter.unusedSimpArgs false
end Go.Proofs.Yteghmemcikiblaa.P
