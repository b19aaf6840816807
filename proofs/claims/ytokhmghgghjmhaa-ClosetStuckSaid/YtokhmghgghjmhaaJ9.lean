/- Part 9 of the proof (F0): contracts of functions, and plain lemmas about what they compute. -/
import Derived.Test.YtokhmghgghjmhaaProg
import Derived.JoinedOf
import Derived.KernelRfl
import Derived.ProofKit
import Derived.Test.YtokhmghgghjmhaaJ0
import Derived.Test.YtokhmghgghjmhaaJ1
import Derived.Test.YtokhmghgghjmhaaJ2
import Derived.Test.YtokhmghgghjmhaaJ3
import Derived.Test.YtokhmghgghjmhaaJ4
import Derived.Test.YtokhmghgghjmhaaJ5
import Derived.Test.YtokhmghgghjmhaaJ6
import Derived.Test.YtokhmghgghjmhaaJ7
import Derived.Test.YtokhmghgghjmhaaJ8
namespace Go.Proofs.Ytokhmghgghjmhaa.Q
theorem fact_enter : Try.prog.mayEnter = true := by kernel_rfl
end Go.Proofs.Ytokhmghgghjmhaa.Q

