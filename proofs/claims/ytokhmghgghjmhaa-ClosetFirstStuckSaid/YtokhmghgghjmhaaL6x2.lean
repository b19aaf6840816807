/- Part L6x2 of the proof (Z6): contracts of functions, and plain lemmas about what they compute. -/
import Derived.Test.YtokhmghgghjmhaaRows
import Derived.Test.YtokhmghgghjmhaaA0
import Derived.Test.YtokhmghgghjmhaaA1
import Derived.Test.YtokhmghgghjmhaaA2
import Derived.Test.YtokhmghgghjmhaaA3
import Derived.Test.YtokhmghgghjmhaaA4
import Derived.Test.YtokhmghgghjmhaaB0
import Derived.Test.YtokhmghgghjmhaaB1
import Derived.Test.YtokhmghgghjmhaaB2
import Derived.Test.YtokhmghgghjmhaaB3
import Derived.Test.YtokhmghgghjmhaaB4
import Derived.Test.YtokhmghgghjmhaaB5
import Derived.Test.YtokhmghgghjmhaaB6
import Derived.Test.YtokhmghgghjmhaaB7
import Derived.Test.YtokhmghgghjmhaaL6x0
import Derived.Test.YtokhmghgghjmhaaL6x1
namespace Go.Proofs.Ytokhmghgghjmhaa.Q
theorem fz_inPlace : (Rows.closetFirstStuckRow.inPlace == Try.prog.inPlace 6) = true := by kernel_rfl
theorem fz_unf : (Rows.closetFirstStuckRow.unfollowed == Try.prog.unfollowed 6) = true := by kernel_rfl
theorem fz_rec : (Rows.closetFirstStuckRow.recurses == Try.prog.recurses 6) = true := by kernel_rfl
theorem fz_named : (Rows.closetFirstStuckRow.named == Try.prog.varsNamed 6) = true := by kernel_rfl
end Go.Proofs.Ytokhmghgghjmhaa.Q
