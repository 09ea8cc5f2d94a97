/- heliographlaw14.WordRows returns true for every row of strings and every row of Bools: words that are written one after the other, in groups or not, are returned. No condition. -/
import Derived.Test.YtgbkanbahclnhaaWordRows
import Derived.SliceStrings
import Derived.Deep.Grids
import Derived.ProofKit
import Derived.OpenShut
import Derived.ShutString
import Derived.ChangeOld
import Derived.Below
import Derived.Lib.SmallJoins
namespace Go.Proofs.Ytgbkanbahclnhaa.wordRows
open Go.ChangeShapes Go.WideShapes Go.ChangeAt Go.RowKit Go.Joins
open Go.ChangeMaps (open_string shut_string)
open Go.Deep
set_option linter.unusedVariables false

theorem own : ownKnob Try.prog.godebug = none := by kernel_rfl
theorem laidOut : laidOutB Try.prog = true := by kernel_rfl
theorem blk_of_cell {w : World} {a : Addr} {v : Value} (h : w.cell? a = some v) : a.block < w.heap.size := by
  rcases Nat.lt_or_ge a.block w.heap.size with hlt | hge
  · exact hlt
  · unfold World.cell? at h; rw [Array.getElem?_eq_none hge] at h; simp at h
theorem bs_back (b : ByteArray) : bs b.data.toList = b := by cases b; simp [bs]

set_option maxRecDepth 100000 in
set_option maxHeartbeats 1000000 in
theorem lifted (os : Os) (started : os.Started) (H : Type) (enc : TypeId × Value → H) :
    ReturnsInHanded {} Try.checked os 6 .any (Rows.wordRowsSpec.pre6 enc Try.prog Try.f6 Rows.wordRowsRow.domain false) (Rows.wordRowsSpec.post enc Try.prog Try.f6 false true false false) := by
  refine returnsInHanded_of_change (C := Try.checked) own started (by kernel_rfl) Try.func6
    (ChangeSpec.witness6 (enc := enc) (C := Try.checked) false ⟨#[], #[.slice none 0 0, .slice none 0 0], []⟩ 8 (by kernel_rfl) (by kernel_rfl) (by kernel_rfl) (by kernel_rfl)) ?_
  intro W base args ds gs before hval0 hW hcnd _
  have hval : ∀ (j : Nat) t v, Try.f6.params[j]? = some t → args[j]? = some v → Value.okWide Try.prog W .any base t v := hval0
  have hW' := hW
  obtain ⟨p, q, hA0, hV, rfl, hfz, hnd⟩ := hW
  have hA : DataW.TrodAll enc Try.prog W 0 (fun _ => true) true Try.f6.params.toList args.toList ds p := hA0
  rw [Try.params6] at hA hval
  obtain ⟨v0, vs0, d0, ds0, p0, q0, hargs, rfl, rfl, h0, r0⟩ := trodAll_cons hA
  obtain ⟨v1, vs1, d1, ds1, p1, q1, rfl, rfl, rfl, h1, r1⟩ := trodAll_cons r0
  obtain ⟨rfl, rfl, rfl⟩ := trodAll_nil r1
  obtain rfl : args = #[v0, v1] := by cases args; simp_all
  obtain ⟨rfl, rfl⟩ := trodVars_none hV
  have k0 := h0
  have lt0 : ∀ x ∈ p0, x.block < W.heap.size := by obtain ⟨m, hm⟩ := k0; exact DataW.trod_lt m _ _ _ hm
  have k1 := h1
  have lt1 : ∀ x ∈ p1, x.block < W.heap.size := by obtain ⟨m, hm⟩ := k1; exact DataW.trod_lt m _ _ _ hm
  obtain ⟨q0, len0, cap0, rfl⟩ := okWide_slice Try.underlying37 (hval 0 37 v0 rfl rfl)
  obtain ⟨fuel, hf⟩ := h0
  have hS : len0 ≤ 9223372036854775807 ∧ ∀ j, j < len0 → ∃ ad x, q0 = some ad ∧ ad.block < W.heap.size ∧ x.length ≤ 9223372036854775807 ∧ W.cell? (ad.add j) = some (.string (bs x)) := by
    rcases open_strings Try.underlying37 Try.underlying9 (by kernel_rfl) hf with ⟨hcs, -⟩ | ⟨a, len', cap', ss, hcs, -, hl, hm, hz, -, hc, hss⟩
    · obtain ⟨rfl, rfl, rfl⟩ : q0 = none ∧ len0 = 0 ∧ cap0 = 0 := by simpa [Value.cells] using hcs
      exact ⟨by omega, fun j hj => absurd hj (by omega)⟩
    · obtain ⟨rfl, rfl, rfl⟩ : q0 = some a ∧ len0 = len' ∧ cap0 = cap' := by simpa [Value.cells] using hcs
      have hm' := hm
      unfold maxLen at hm'
      refine ⟨by omega, fun j hj => ?_⟩
      have hj' : j < ss.length := by rw [hz]; split <;> omega
      have h0 := hc 0 (by omega)
      have hsz : (ss.getD j ByteArray.empty).size ≤ maxLen := by
        rw [List.getD_eq_getElem?_getD, List.getElem?_eq_getElem hj']; exact hss _ (List.getElem_mem hj')
      refine ⟨a, (ss.getD j ByteArray.empty).data.toList, rfl, blk_of_cell (by simpa [Addr.add] using h0), ?_, ?_⟩
      · unfold maxLen at hsz; exact hsz
      · rw [hc j hj']; rw [show bs (ss.getD j ByteArray.empty).data.toList = ss.getD j ByteArray.empty from bs_back _]

  obtain ⟨q1, len1, cap1, rfl⟩ := okWide_slice Try.underlying40 (hval 1 40 v1 rfl rfl)
  obtain ⟨fuel1, hf1⟩ := h1
  have hE : len1 ≤ 9223372036854775807 ∧ ∀ j, j < len1 → ∃ ad b, q1 = some ad ∧ ad.block < W.heap.size ∧ W.cell? (ad.add j) = some (.bool b) := by
    rcases open_bools Try.underlying40 Try.underlying4 (by kernel_rfl) hf1 with ⟨hcs, -⟩ | ⟨a, len', cap', B, hcs, -, hl, hm, -, hc⟩
    · obtain ⟨rfl, rfl, rfl⟩ : q1 = none ∧ len1 = 0 ∧ cap1 = 0 := by simpa [Value.cells] using hcs
      exact ⟨by omega, fun j hj => absurd hj (by omega)⟩
    · obtain ⟨rfl, rfl, rfl⟩ : q1 = some a ∧ len1 = len' ∧ cap1 = cap' := by simpa [Value.cells] using hcs
      unfold maxLen at hm
      refine ⟨by omega, fun j hj => ?_⟩
      have h0 := hc 0 (by omega)
      exact ⟨a, B j, rfl, blk_of_cell (by simpa [Addr.add] using h0), hc j (by omega)⟩

  clear hA0 hval0

  refine (wordrows_c q0 q1 len0 cap0 len1 cap1 W hS.1 hE.1 hS.2 hE.2).mono fun e W' ⟨he, bel⟩ => ?_
  subst he
  exact ⟨_, rfl, _, _, _, [], _, [], hW', trodAll_mk1 (shut_bool Try.underlying4 _), (trodAll_cons_mk (Below.trod laidOut (by kernel_rfl) (of_decide_eq_true (by kernel_rfl)) k0 bel lt0) (trodAll_cons_mk (Below.trod laidOut (by kernel_rfl) (of_decide_eq_true (by kernel_rfl)) k1 bel lt1) trodAll_mk0)), rfl, bel.frame _, fun h => by cases h⟩

theorem over : Rows.wordRowsRow.holds Try.pinned (OpenSpec.ofChange Rows.wordRowsSpec) :=
  OpenClaim.holds_of_wide 6 Try.f6 rfl rfl rfl rfl rfl rfl rfl ⟨rfl, rfl, rfl, rfl, rfl⟩ rfl rfl rfl rfl rfl (by kernel_rfl) Try.func6 (by kernel_rfl)
    (of_decide_eq_true (by kernel_rfl)) (by unfold Func.isWrapper; first | (rw [if_pos (by decide +kernel)]; kernel_rfl) | (rw [if_neg (by decide +kernel)]; exact ⟨rfl, rfl⟩))
    (fun os started H enc _ => lifted os started H enc)

theorem proved : Rows.WordRowsSaid := over
#print axioms proved
end Go.Proofs.Ytgbkanbahclnhaa.wordRows
