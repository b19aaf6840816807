/- Part L4x3 of the proof (Z4): contracts of functions, and plain lemmas about what they compute. -/
import Derived.Test.YtokhmghgghjmhaaRows
import Derived.Test.YtokhmghgghjmhaaA0
import Derived.Test.YtokhmghgghjmhaaA1
import Derived.Test.YtokhmghgghjmhaaA2
import Derived.Test.YtokhmghgghjmhaaA3
import Derived.Test.YtokhmghgghjmhaaA4
import Derived.Test.YtokhmghgghjmhaaB0
import Derived.Test.YtokhmghgghjmhaaB1
import Derived.Test.YtokhmghgghjmhaaB2
import Derived.Test.YtokhmghgghjmhaaB3
import Derived.Test.YtokhmghgghjmhaaB4
import Derived.Test.YtokhmghgghjmhaaB5
import Derived.Test.YtokhmghgghjmhaaB6
import Derived.Test.YtokhmghgghjmhaaL4x0
import Derived.Test.YtokhmghgghjmhaaL4x1
import Derived.Test.YtokhmghgghjmhaaL4x2
namespace Go.Proofs.Ytokhmghgghjmhaa.Q
theorem fz_inPlace : (Rows.closetAsksRow.inPlace == Try.prog.inPlace 4) = true := by kernel_rfl
theorem fz_unf : (Rows.closetAsksRow.unfollowed == Try.prog.unfollowed 4) = true := by kernel_rfl
theorem fz_rec : (Rows.closetAsksRow.recurses == Try.prog.recurses 4) = true := by kernel_rfl
theorem fz_named : (Rows.closetAsksRow.named == Try.prog.varsNamed 4) = true := by kernel_rfl
end Go.Proofs.Ytokhmghgghjmhaa.Q
