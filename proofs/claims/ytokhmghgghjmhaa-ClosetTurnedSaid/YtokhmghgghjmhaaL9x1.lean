/- Part L9x1 of the proof (Z9): contracts of functions, and plain lemmas about what they compute. -/
import Derived.Test.YtokhmghgghjmhaaRows
import Derived.Test.YtokhmghgghjmhaaA0
import Derived.Test.YtokhmghgghjmhaaA1
import Derived.Test.YtokhmghgghjmhaaA2
import Derived.Test.YtokhmghgghjmhaaA3
import Derived.Test.YtokhmghgghjmhaaA4
import Derived.Test.YtokhmghgghjmhaaB0
import Derived.Test.YtokhmghgghjmhaaB1
import Derived.Test.YtokhmghgghjmhaaB2
import Derived.Test.YtokhmghgghjmhaaB3
import Derived.Test.YtokhmghgghjmhaaB4
import Derived.Test.YtokhmghgghjmhaaB5
import Derived.Test.YtokhmghgghjmhaaB6
import Derived.Test.YtokhmghgghjmhaaB7
import Derived.Test.YtokhmghgghjmhaaL9x0
namespace Go.Proofs.Ytokhmghgghjmhaa.Q
theorem fz_inPlace : (Rows.closetTurnedRow.inPlace == Try.prog.inPlace 9) = true := by kernel_rfl
theorem fz_unf : (Rows.closetTurnedRow.unfollowed == Try.prog.unfollowed 9) = true := by kernel_rfl
theorem fz_rec : (Rows.closetTurnedRow.recurses == Try.prog.recurses 9) = true := by kernel_rfl
theorem fz_named : (Rows.closetTurnedRow.named == Try.prog.varsNamed 9) = true := by kernel_rfl
end Go.Proofs.Ytokhmghgghjmhaa.Q
