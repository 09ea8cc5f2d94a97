/- heliographlaw14.WordLines returns true for every string and every row of numbers: line feeds and carriage returns, wherever they are put into a text, change nothing of its words but their offsets. No condition. -/
import Derived.Test.YtgbkanbahclnhaaWordLines
import Derived.ProofKit
import Derived.OpenShut
import Derived.ShutString
import Derived.ChangeOld
import Derived.Below
import Derived.Lib.SmallJoins
namespace Go.Proofs.Ytgbkanbahclnhaa.wordLines
open Go.ChangeShapes Go.WideShapes Go.ChangeAt Go.RowKit Go.Joins
open Go.ChangeMaps (open_string shut_string)
set_option linter.unusedVariables false

theorem own : ownKnob Try.prog.godebug = none := by kernel_rfl
theorem laidOut : laidOutB Try.prog = true := by kernel_rfl
theorem blk_of_cell {w : World} {a : Addr} {v : Value} (h : w.cell? a = some v) : a.block < w.heap.size := by
  rcases Nat.lt_or_ge a.block w.heap.size with hlt | hge
  · exact hlt
  · unfold World.cell? at h; rw [Array.getElem?_eq_none hge] at h; simp at h
theorem walk (b : ByteArray) (q1 : Option Addr) (len1 cap1 : Nat) (w : World) (hb : b.size ≤ maxLen) (h1 : len1 ≤ 9223372036854775807)
    (hE : ∀ j, j < len1 → ∃ ad z, q1 = some ad ∧ ad.block < w.heap.size ∧ w.cell? (ad.add j) = some (.int .i64 z)) :
    Calls Try.prog 5 #[.string b, .slice q1 len1 cap1] w fun e w' => e = .returned (.bool true) ∧ Below w.heap.size w w' := by
  have h := wordlines_c b.data.toList q1 len1 cap1 w (by unfold maxLen at hb; have : b.data.toList.length = b.size := rfl
                                                         omega) h1 hE
  have e : bs b.data.toList = b := by cases b; simp [bs]
  rw [e] at h
  exact h

set_option maxRecDepth 100000 in
set_option maxHeartbeats 1000000 in
theorem lifted (os : Os) (started : os.Started) (H : Type) (enc : TypeId × Value → H) :
    ReturnsInHanded {} Try.checked os 5 .any (Rows.wordLinesSpec.pre6 enc Try.prog Try.f5 Rows.wordLinesRow.domain false) (Rows.wordLinesSpec.post enc Try.prog Try.f5 false true false false) := by
  refine returnsInHanded_of_change (C := Try.checked) own started (by kernel_rfl) Try.func5
    (ChangeSpec.witness6 (enc := enc) (C := Try.checked) false ⟨#[], #[.string ByteArray.empty, .slice none 0 0], []⟩ 8 (by kernel_rfl) (by kernel_rfl) (by kernel_rfl) (by kernel_rfl)) ?_
  intro W base args ds gs before hval0 hW hcnd _
  have hval : ∀ (j : Nat) t v, Try.f5.params[j]? = some t → args[j]? = some v → Value.okWide Try.prog W .any base t v := hval0
  have hW' := hW
  obtain ⟨p, q, hA0, hV, rfl, hfz, hnd⟩ := hW
  have hA : DataW.TrodAll enc Try.prog W 0 (fun _ => true) true Try.f5.params.toList args.toList ds p := hA0
  rw [Try.params5] at hA hval
  obtain ⟨v0, vs0, d0, ds0, p0, q0, hargs, rfl, rfl, h0, r0⟩ := trodAll_cons hA
  obtain ⟨v1, vs1, d1, ds1, p1, q1, rfl, rfl, rfl, h1, r1⟩ := trodAll_cons r0
  obtain ⟨rfl, rfl, rfl⟩ := trodAll_nil r1
  obtain rfl : args = #[v0, v1] := by cases args; simp_all
  obtain ⟨rfl, rfl⟩ := trodVars_none hV
  have k0 := h0
  have lt0 : ∀ x ∈ p0, x.block < W.heap.size := by obtain ⟨m, hm⟩ := k0; exact DataW.trod_lt m _ _ _ hm
  have k1 := h1
  have lt1 : ∀ x ∈ p1, x.block < W.heap.size := by obtain ⟨m, hm⟩ := k1; exact DataW.trod_lt m _ _ _ hm
  obtain ⟨a0, rfl, rfl, rfl, w0⟩ := open_string Try.underlying9 (hval 0 9 v0 rfl rfl) h0
  obtain ⟨q1, len1, cap1, rfl⟩ := okWide_slice Try.underlying36 (hval 1 36 v1 rfl rfl)
  obtain ⟨fuel1, hf1⟩ := h1
  have hE : len1 ≤ 9223372036854775807 ∧ ∀ j, j < len1 → ∃ ad z, q1 = some ad ∧ ad.block < W.heap.size ∧ W.cell? (ad.add j) = some (.int .i64 z) := by
    rcases open_ints Try.underlying36 Try.underlying3 (by kernel_rfl) hf1 with ⟨hcs, -⟩ | ⟨a, len', cap', zs, hcs, -, hl, hm, hz, -, hc, -⟩
    · obtain ⟨rfl, rfl, rfl⟩ : q1 = none ∧ len1 = 0 ∧ cap1 = 0 := by simpa [Value.cells] using hcs
      exact ⟨by omega, fun j hj => absurd hj (by omega)⟩
    · obtain ⟨rfl, rfl, rfl⟩ : q1 = some a ∧ len1 = len' ∧ cap1 = cap' := by simpa [Value.cells] using hcs
      unfold maxLen at hm
      refine ⟨by omega, fun j hj => ?_⟩
      have hj' : j < zs.length := by rw [hz]; split <;> omega
      have h0 := hc 0 (by omega)
      exact ⟨a, _, rfl, blk_of_cell (by simpa [Addr.add] using h0), hc j hj'⟩

  clear hA0 hval0

  refine (walk a0 q1 len1 cap1 W w0 hE.1 hE.2).mono fun e W' ⟨he, bel⟩ => ?_
  subst he
  exact ⟨_, rfl, _, _, _, [], _, [], hW', trodAll_mk1 (shut_bool Try.underlying4 _), (trodAll_cons_mk (Below.trod laidOut (by kernel_rfl) (of_decide_eq_true (by kernel_rfl)) k0 bel lt0) (trodAll_cons_mk (Below.trod laidOut (by kernel_rfl) (of_decide_eq_true (by kernel_rfl)) k1 bel lt1) trodAll_mk0)), rfl, bel.frame _, fun h => by cases h⟩

theorem over : Rows.wordLinesRow.holds Try.pinned (OpenSpec.ofChange Rows.wordLinesSpec) :=
  OpenClaim.holds_of_wide 5 Try.f5 rfl rfl rfl rfl rfl rfl rfl ⟨rfl, rfl, rfl, rfl, rfl⟩ rfl rfl rfl rfl rfl (by kernel_rfl) Try.func5 (by kernel_rfl)
    (of_decide_eq_true (by kernel_rfl)) (by unfold Func.isWrapper; first | (rw [if_pos (by decide +kernel)]; kernel_rfl) | (rw [if_neg (by decide +kernel)]; exact ⟨rfl, rfl⟩))
    (fun os started H enc _ => lifted os started H enc)

theorem proved : Rows.WordLinesSaid := over
#print axioms proved
end Go.Proofs.Ytgbkanbahclnhaa.wordLines
