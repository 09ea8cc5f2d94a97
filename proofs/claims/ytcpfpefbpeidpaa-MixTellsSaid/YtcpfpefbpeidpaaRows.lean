/-
  No cell of these rows narrows 'for every input' (looked for: loops, veiled, ifaces, maps, wideKeys, modest, calm, conditions, laid).
  DERIVED. THE GIVEN ROWS OF THIS SEAT. 6 by the template 'for every input the law returns true; each argument reads behind the call as it read before'; 0 by the template 'total and deterministic' (their statements: YtcpfpefbpeidpaaTotals.lean).
  GIVEN WITH THE SEED: the statements are not yours to turn. If you find one false, say at which input.
  Laid BY PROGRAM, IN A SANDBOX (cutbox-rows.mjs): the forced cells as the released guide's own fill.sh prints them over the translation 25ca3b50850c130a… (all of the seat's roots in one cut). By AI agents, Wed Nov 11 2026. No macro, syntax, notation, axiom, sorry.
-/
import Derived.Test.YtcpfpefbpeidpaaChecked
import GoSem.Claim
import GoSem.ClaimJoined
import GoSem.ClaimMapViews
import Derived.JoinedTies
import Derived.KernelRfl
namespace Go.Proofs.Ytcpfpefbpeidpaa
/- THE CELL 'sum', in the pinned program and in every row, IS THE sha256 OF THE DUMP (.gsa) THAT YtcpfpefbpeidpaaProg.lean LOADS. Nothing in Lean hashes anything: it is a label: what it is worth is what the hold of that sum in a sandbox is worth. -/
noncomputable def Try.pinned : Pinned := { name := "ytcpfpefbpeidpaa", sum := "25ca3b50850c130aeca0326973ff3824c538427c74d7db5e0ac3c46d9e537ea2", checked := Try.checked }
namespace Rows
def none {H : Type} : Left H := { results := [], args := [] }

/-- 'heliographlaw22.ViewMeets': WHATEVER THE INPUT: true; the input reads as it did. -/
def viewMeetsSpec : ChangeSpec := { name := "viewMeets", fn := fun _ => fun
  | [d1, d2, d3, d4, d5] => { results := [.lit (.bool true)], args := [d1, d2, d3, d4, d5] }
  | _ => none }
def viewMeetsRow : OpenClaim := { program := "ytcpfpefbpeidpaa", sum := "25ca3b50850c130aeca0326973ff3824c538427c74d7db5e0ac3c46d9e537ea2", func := "heliograph/heliographlaw22.ViewMeets", spec := "viewMeets", apart := false }
def ViewMeetsSaid : Prop := viewMeetsRow.holds Try.pinned (OpenSpec.ofChange viewMeetsSpec)

/-- ITS FALSE NEIGHBOUR: 'it returns false'. Refute it at one input. -/
def viewMeetsWrong : ChangeSpec := { name := "viewMeets", fn := fun _ => fun
  | [d1, d2, d3, d4, d5] => { results := [.lit (.bool false)], args := [d1, d2, d3, d4, d5] }
  | _ => none }
def ViewMeetsWrongFalsely : Prop := viewMeetsRow.holds Try.pinned (OpenSpec.ofChange viewMeetsWrong)

/-- 'heliographlaw24.MixRows': WHATEVER THE INPUT: true; the input reads as it did. -/
def mixRowsSpec : ChangeSpec := { name := "mixRows", fn := fun _ => fun
  | [d1, d2] => { results := [.lit (.bool true)], args := [d1, d2] }
  | _ => none }
def mixRowsRow : OpenClaim := { program := "ytcpfpefbpeidpaa", sum := "25ca3b50850c130aeca0326973ff3824c538427c74d7db5e0ac3c46d9e537ea2", func := "heliograph/heliographlaw24.MixRows", spec := "mixRows", apart := false }
def MixRowsSaid : Prop := mixRowsRow.holds Try.pinned (OpenSpec.ofChange mixRowsSpec)

/-- ITS FALSE NEIGHBOUR: 'it returns false'. Refute it at one input. -/
def mixRowsWrong : ChangeSpec := { name := "mixRows", fn := fun _ => fun
  | [d1, d2] => { results := [.lit (.bool false)], args := [d1, d2] }
  | _ => none }
def MixRowsWrongFalsely : Prop := mixRowsRow.holds Try.pinned (OpenSpec.ofChange mixRowsWrong)

/-- 'heliographlaw24.MixTells': WHATEVER THE INPUT: true; the input reads as it did. -/
def mixTellsSpec : ChangeSpec := { name := "mixTells", fn := fun _ => fun
  | [d1, d2, d3, d4, d5] => { results := [.lit (.bool true)], args := [d1, d2, d3, d4, d5] }
  | _ => none }
def mixTellsRow : OpenClaim := { program := "ytcpfpefbpeidpaa", sum := "25ca3b50850c130aeca0326973ff3824c538427c74d7db5e0ac3c46d9e537ea2", func := "heliograph/heliographlaw24.MixTells", spec := "mixTells", apart := false }
def MixTellsSaid : Prop := mixTellsRow.holds Try.pinned (OpenSpec.ofChange mixTellsSpec)

/-- ITS FALSE NEIGHBOUR: 'it returns false'. Refute it at one input. -/
def mixTellsWrong : ChangeSpec := { name := "mixTells", fn := fun _ => fun
  | [d1, d2, d3, d4, d5] => { results := [.lit (.bool false)], args := [d1, d2, d3, d4, d5] }
  | _ => none }
def MixTellsWrongFalsely : Prop := mixTellsRow.holds Try.pinned (OpenSpec.ofChange mixTellsWrong)

/-- 'heliographlaw24.MixSure': WHATEVER THE INPUT: true; the input reads as it did. -/
def mixSureSpec : ChangeSpec := { name := "mixSure", fn := fun _ => fun
  | [d1, d2, d3, d4, d5, d6, d7, d8, d9] => { results := [.lit (.bool true)], args := [d1, d2, d3, d4, d5, d6, d7, d8, d9] }
  | _ => none }
def mixSureRow : OpenClaim := { program := "ytcpfpefbpeidpaa", sum := "25ca3b50850c130aeca0326973ff3824c538427c74d7db5e0ac3c46d9e537ea2", func := "heliograph/heliographlaw24.MixSure", spec := "mixSure", apart := false }
def MixSureSaid : Prop := mixSureRow.holds Try.pinned (OpenSpec.ofChange mixSureSpec)

/-- ITS FALSE NEIGHBOUR: 'it returns false'. Refute it at one input. -/
def mixSureWrong : ChangeSpec := { name := "mixSure", fn := fun _ => fun
  | [d1, d2, d3, d4, d5, d6, d7, d8, d9] => { results := [.lit (.bool false)], args := [d1, d2, d3, d4, d5, d6, d7, d8, d9] }
  | _ => none }
def MixSureWrongFalsely : Prop := mixSureRow.holds Try.pinned (OpenSpec.ofChange mixSureWrong)

/-- 'heliographlaw24.MixEnds': WHATEVER THE INPUT: true; the input reads as it did. -/
def mixEndsSpec : ChangeSpec := { name := "mixEnds", fn := fun _ => fun
  | [d1, d2, d3, d4, d5, d6, d7, d8, d9] => { results := [.lit (.bool true)], args := [d1, d2, d3, d4, d5, d6, d7, d8, d9] }
  | _ => none }
def mixEndsRow : OpenClaim := { program := "ytcpfpefbpeidpaa", sum := "25ca3b50850c130aeca0326973ff3824c538427c74d7db5e0ac3c46d9e537ea2", func := "heliograph/heliographlaw24.MixEnds", spec := "mixEnds", apart := false }
def MixEndsSaid : Prop := mixEndsRow.holds Try.pinned (OpenSpec.ofChange mixEndsSpec)

/-- ITS FALSE NEIGHBOUR: 'it returns false'. Refute it at one input. -/
def mixEndsWrong : ChangeSpec := { name := "mixEnds", fn := fun _ => fun
  | [d1, d2, d3, d4, d5, d6, d7, d8, d9] => { results := [.lit (.bool false)], args := [d1, d2, d3, d4, d5, d6, d7, d8, d9] }
  | _ => none }
def MixEndsWrongFalsely : Prop := mixEndsRow.holds Try.pinned (OpenSpec.ofChange mixEndsWrong)

/-- 'heliographlaw24.MixBytes': WHATEVER THE INPUT: true; the input reads as it did. -/
def mixBytesSpec : ChangeSpec := { name := "mixBytes", fn := fun _ => fun
  | [d1, d2, d3, d4, d5, d6] => { results := [.lit (.bool true)], args := [d1, d2, d3, d4, d5, d6] }
  | _ => none }
def mixBytesRow : OpenClaim := { program := "ytcpfpefbpeidpaa", sum := "25ca3b50850c130aeca0326973ff3824c538427c74d7db5e0ac3c46d9e537ea2", func := "heliograph/heliographlaw24.MixBytes", spec := "mixBytes", apart := false }
def MixBytesSaid : Prop := mixBytesRow.holds Try.pinned (OpenSpec.ofChange mixBytesSpec)

/-- ITS FALSE NEIGHBOUR: 'it returns false'. Refute it at one input. -/
def mixBytesWrong : ChangeSpec := { name := "mixBytes", fn := fun _ => fun
  | [d1, d2, d3, d4, d5, d6] => { results := [.lit (.bool false)], args := [d1, d2, d3, d4, d5, d6] }
  | _ => none }
def MixBytesWrongFalsely : Prop := mixBytesRow.holds Try.pinned (OpenSpec.ofChange mixBytesWrong)

/- THE SECOND FORM. 'bulk': how many values and letters a reading holds, each counted each time it is reached (what is shared counts as often as it is met; a slice's spare places count too). A statement '..UptoSaid' is the law's where the arguments, and the package variables that the reading takes, are together of bulk at most 1048576: NARROWER than '..Said'. Prove '..Said' where nothing that the law and all that it calls make is longer than what came in: it says more and counts as full. Else prove '..UptoSaid'. A law counts once. -/
mutual
def uptoBulk {H : Type} : DataW H → Nat
  | .lit (.string bytes) => bytes.length + 1
  | .lit _ => 1
  | .nil => 1
  | .ptr d => uptoBulk d + 1
  | .slice elems spare => uptoBulkAll elems + uptoBulkAll spare + 1
  | .agg parts => uptoBulkAll parts + 1
  | .iface _ d => uptoBulk d + 1
  | .map entries => uptoBulkEntries entries + 1
  | .held _ => 1
def uptoBulkAll {H : Type} : List (DataW H) → Nat
  | [] => 0
  | d :: r => uptoBulk d + uptoBulkAll r
def uptoBulkEntries {H : Type} : List (Lit × DataW H) → Nat
  | [] => 0
  | x :: r => uptoBulkEntry x + uptoBulkEntries r
def uptoBulkEntry {H : Type} : Lit × DataW H → Nat
  | (.string bytes, d) => bytes.length + uptoBulk d + 1
  | (_, d) => uptoBulk d + 1
 end
def uptoSmall : (H : Type) → List (DataW H) → Bool := fun _ ds => decide (uptoBulkAll ds ≤ 1048576)
def OpenSpec.upto (s : _root_.Go.ChangeSpec) : _root_.Go.OpenSpec := { _root_.Go.OpenSpec.ofChange s with cond := some uptoSmall }

/-- 'heliographlaw22.ViewMeets', WHERE WHAT IT READS IS OF BULK AT MOST 1048576: true; the input reads as it did. -/
def viewMeetsUptoRow : OpenClaim := { program := "ytcpfpefbpeidpaa", sum := "25ca3b50850c130aeca0326973ff3824c538427c74d7db5e0ac3c46d9e537ea2", func := "heliograph/heliographlaw22.ViewMeets", spec := "viewMeets", apart := false, narrowed := true }
def ViewMeetsUptoSaid : Prop := viewMeetsUptoRow.holds Try.pinned (OpenSpec.upto viewMeetsSpec)

/-- 'heliographlaw24.MixRows', WHERE WHAT IT READS IS OF BULK AT MOST 1048576: true; the input reads as it did. -/
def mixRowsUptoRow : OpenClaim := { program := "ytcpfpefbpeidpaa", sum := "25ca3b50850c130aeca0326973ff3824c538427c74d7db5e0ac3c46d9e537ea2", func := "heliograph/heliographlaw24.MixRows", spec := "mixRows", apart := false, narrowed := true }
def MixRowsUptoSaid : Prop := mixRowsUptoRow.holds Try.pinned (OpenSpec.upto mixRowsSpec)

/-- 'heliographlaw24.MixTells', WHERE WHAT IT READS IS OF BULK AT MOST 1048576: true; the input reads as it did. -/
def mixTellsUptoRow : OpenClaim := { program := "ytcpfpefbpeidpaa", sum := "25ca3b50850c130aeca0326973ff3824c538427c74d7db5e0ac3c46d9e537ea2", func := "heliograph/heliographlaw24.MixTells", spec := "mixTells", apart := false, narrowed := true }
def MixTellsUptoSaid : Prop := mixTellsUptoRow.holds Try.pinned (OpenSpec.upto mixTellsSpec)

/-- 'heliographlaw24.MixSure', WHERE WHAT IT READS IS OF BULK AT MOST 1048576: true; the input reads as it did. -/
def mixSureUptoRow : OpenClaim := { program := "ytcpfpefbpeidpaa", sum := "25ca3b50850c130aeca0326973ff3824c538427c74d7db5e0ac3c46d9e537ea2", func := "heliograph/heliographlaw24.MixSure", spec := "mixSure", apart := false, narrowed := true }
def MixSureUptoSaid : Prop := mixSureUptoRow.holds Try.pinned (OpenSpec.upto mixSureSpec)

/-- 'heliographlaw24.MixEnds', WHERE WHAT IT READS IS OF BULK AT MOST 1048576: true; the input reads as it did. -/
def mixEndsUptoRow : OpenClaim := { program := "ytcpfpefbpeidpaa", sum := "25ca3b50850c130aeca0326973ff3824c538427c74d7db5e0ac3c46d9e537ea2", func := "heliograph/heliographlaw24.MixEnds", spec := "mixEnds", apart := false, narrowed := true }
def MixEndsUptoSaid : Prop := mixEndsUptoRow.holds Try.pinned (OpenSpec.upto mixEndsSpec)

/-- 'heliographlaw24.MixBytes', WHERE WHAT IT READS IS OF BULK AT MOST 1048576: true; the input reads as it did. -/
def mixBytesUptoRow : OpenClaim := { program := "ytcpfpefbpeidpaa", sum := "25ca3b50850c130aeca0326973ff3824c538427c74d7db5e0ac3c46d9e537ea2", func := "heliograph/heliographlaw24.MixBytes", spec := "mixBytes", apart := false, narrowed := true }
def MixBytesUptoSaid : Prop := mixBytesUptoRow.holds Try.pinned (OpenSpec.upto mixBytesSpec)

end Rows
end Go.Proofs.Ytcpfpefbpeidpaa
