/- The step of a schedule, in the program and in the reference. -/
import Derived.Test.YtipnhlnbokkihaaStepI
import Derived.Test.YtipnhlnbokkihaaSpecStep
namespace Go.Proofs.Ytipnhlnbokkihaa
end Go.Proofs.Ytipnhlnbokkihaa
