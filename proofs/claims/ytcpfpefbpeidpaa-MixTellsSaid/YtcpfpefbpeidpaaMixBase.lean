/- One more fact on blocks for the walks of package mix. -/
import Derived.Test.YtcpfpefbpeidpaaBase
namespace Go.Proofs.Ytcpfpefbpeidpaa
open Go.RowKit
theorem Blk.newAt {w : World} {t : TypeId} {cs : Array Value} {g : Nat} (e : g = w.heap.size) : Blk (w.alloc (.cells cs t)) g t cs := by subst e; exact heap_alloc_new w _
end Go.Proofs.Ytcpfpefbpeidpaa
