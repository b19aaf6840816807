/- Part B3 of the proof (F0): contracts of functions, and plain lemmas about what they compute. -/
import Derived.Test.YtokhmghgghjmhaaProg
import Derived.JoinedOf
import Derived.KernelRfl
import Derived.ProofKit
import Derived.Test.YtokhmghgghjmhaaA0
import Derived.Test.YtokhmghgghjmhaaA1
import Derived.Test.YtokhmghgghjmhaaA2
import Derived.Test.YtokhmghgghjmhaaA3
import Derived.Test.YtokhmghgghjmhaaA4
import Derived.Test.YtokhmghgghjmhaaB0
import Derived.Test.YtokhmghgghjmhaaB1
import Derived.Test.YtokhmghgghjmhaaB2
namespace Go.Proofs.Ytokhmghgghjmhaa.Q
theorem fact_enter : Try.prog.mayEnter = true := by kernel_rfl
end Go.Proofs.Ytokhmghgghjmhaa.Q
