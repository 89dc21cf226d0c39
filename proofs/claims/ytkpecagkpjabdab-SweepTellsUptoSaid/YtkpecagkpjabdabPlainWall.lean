/- The plain model of solve.Wall. No condition, no program in sight. -/
import Derived.Test.YtkpecagkpjabdabPlainSolve
namespace Go.Proofs.Ytkpecagkpjabdab
set_option linter.unusedVariables false
set_option linter.unusedSimpArgs false
set_option maxRecDepth 100000
namespace M
def far (half wide : Int) : Int := if wide - half < half then half else wide - half
def wallA (at_ half wide : Int) : Int := if at_ < half then half else if far half wide < at_ then far half wide else at_
def wallP (at_ push half wide back : Int) : Int :=
  if at_ < half then part (abs push) (within back 256) 256 else if far half wide < at_ then -part (abs push) (within back 256) 256 else push
end M
end Go.Proofs.Ytkpecagkpjabdab
