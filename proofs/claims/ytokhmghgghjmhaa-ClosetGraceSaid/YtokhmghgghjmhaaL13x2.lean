/- Part L13x2 of the proof (Z8): contracts of functions, and plain lemmas about what they compute. -/
import Derived.Test.YtokhmghgghjmhaaRows
import Derived.Test.YtokhmghgghjmhaaA0
import Derived.Test.YtokhmghgghjmhaaA1
import Derived.Test.YtokhmghgghjmhaaA2
import Derived.Test.YtokhmghgghjmhaaA3
import Derived.Test.YtokhmghgghjmhaaA4
import Derived.Test.YtokhmghgghjmhaaB0
import Derived.Test.YtokhmghgghjmhaaB1
import Derived.Test.YtokhmghgghjmhaaB2
import Derived.Test.YtokhmghgghjmhaaB3
import Derived.Test.YtokhmghgghjmhaaB4
import Derived.Test.YtokhmghgghjmhaaB5
import Derived.Test.YtokhmghgghjmhaaB6
import Derived.Test.YtokhmghgghjmhaaL13x0
import Derived.Test.YtokhmghgghjmhaaL13x1
namespace Go.Proofs.Ytokhmghgghjmhaa.Q
theorem fz_inPlace : (Rows.closetGraceRow.inPlace == Try.prog.inPlace 8) = true := by kernel_rfl
theorem fz_unf : (Rows.closetGraceRow.unfollowed == Try.prog.unfollowed 8) = true := by kernel_rfl
theorem fz_rec : (Rows.closetGraceRow.recurses == Try.prog.recurses 8) = true := by kernel_rfl
theorem fz_named : (Rows.closetGraceRow.named == Try.prog.varsNamed 8) = true := by kernel_rfl
end Go.Proofs.Ytokhmghgghjmhaa.Q
