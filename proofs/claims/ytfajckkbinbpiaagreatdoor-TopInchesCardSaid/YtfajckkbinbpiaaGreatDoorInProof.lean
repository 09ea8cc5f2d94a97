/- The statement's row, proved: whatever the input, it returns true, and the input reads as it did. -/
import Derived.Test.YtfajckkbinbpiaaGreatDoorITop
import Derived.Test.YtfajckkbinbpiaaGreatDoorTopInchesFacts
import Derived.ProofKit
import Derived.OpenShut
import Derived.ShutString
import Derived.ChangeOld
import Derived.Below
import Derived.Lib.SmallJoins
import Derived.Lay
import Derived.LaidMore
import Derived.Stop.Joined
import Derived.Test.YtfajckkbinbpiaaGreatDoorTie
namespace Go.Proofs.YtfajckkbinbpiaaGreatDoor
open Go.ChangeShapes Go.WideShapes Go.ChangeAt Go.RowKit Go.Joins
open Go.ChangeMaps (open_string shut_string)
set_option linter.unusedVariables false
set_option linter.unusedSimpArgs false

theorem addr_of {w : World} {a : Addr} {v : Value} (h : w.cell? a = some v) : a = ⟨a.block, a.off, none⟩ := by
  obtain ⟨b, o, s⟩ := a
  cases s with
  | none => rfl
  | some s => unfold World.cell? at h; split at h <;> simp at h
theorem add_of (b o k : Nat) : (⟨b, o, none⟩ : Addr).add k = ⟨b, o + k, none⟩ := by unfold Addr.add; split <;> simp_all
set_option maxRecDepth 100000 in
set_option maxHeartbeats 4000000 in
theorem inches_lifted (os : Os) (started : os.Started) (H : Type) (enc : TypeId × Value → H) :
    ReturnsInHanded {} Tryz.checked os 3 .any (fun w args => (Rows.topInchesSpec.pre enc Tryz.prog Tryz.f3 Rows.topInchesRow.domain false w args ∧ laidMetH Tryz.prog Rows.topInchesRow.laid w) ∧ sizedMet enc Tryz.prog Tryz.f3 (OpenSpec.ofChange Rows.topInchesSpec) false w args)
      (Rows.topInchesSpec.post enc Tryz.prog Tryz.f3 false true false false) := by
  refine returnsInHanded_of_change_and (C := Tryz.checked) (X := fun w _ => laidMetH Tryz.prog Rows.topInchesRow.laid w) (fun _ _ _ hh h => h.of_heap hh) TopInches.own started (by kernel_rfl) Tryz.func3
    (ChangeSpec.witness_shaped (enc := enc) (C := Tryz.checked) (os := os) (X := fun w _ => laidMetH Tryz.prog Rows.topInchesRow.laid w) false (World.laidAll Tryz.prog os Rows.topInchesRow.laid) #[.slice none 0 0, .slice none 0 0] 8 (World.laidAll_os _ _ _)
      (World.shaped_of_ZipB (by kernel_rfl) (by kernel_rfl)) (by kernel_rfl) (by kernel_rfl) (by kernel_rfl)
      (by rw [MakeChecks.laidMetH_plain _ _ _ (by kernel_rfl)]; exact laidMet_laidAll _ (by kernel_rfl) (by kernel_rfl))) ?_
  intro W base args ds gs before hval0 hW _ _ _ _
  have hval : ∀ (j : Nat) t v, Tryz.f3.params[j]? = some t → args[j]? = some v → Value.okWide Tryz.prog W .any base t v := hval0
  have hW' := hW
  obtain ⟨p, q, hA0, hV, rfl, hfz, hnd⟩ := hW
  have hA : DataW.TrodAll enc Tryz.prog W 0 (fun _ => true) true Tryz.f3.params.toList args.toList ds p := hA0
  rw [Tryz.params3] at hA hval
  obtain ⟨v0, vs0, d0, ds0, p0, q0, hargs, rfl, rfl, h0, r0⟩ := trodAll_cons hA
  obtain ⟨v1, vs1, d1, ds1, p1, q1, rfl, rfl, rfl, h1, r1⟩ := trodAll_cons r0
  obtain ⟨rfl, rfl, rfl⟩ := trodAll_nil r1
  obtain rfl : args = #[v0, v1] := by cases args; simp_all
  obtain ⟨rfl, rfl⟩ := trodVars_none hV
  have k0 := h0
  have lt0 : ∀ x ∈ p0, x.block < W.heap.size := by obtain ⟨m, hm⟩ := k0; exact DataW.trod_lt m _ _ _ hm
  have k1 := h1
  have lt1 : ∀ x ∈ p1, x.block < W.heap.size := by obtain ⟨m, hm⟩ := k1; exact DataW.trod_lt m _ _ _ hm
  obtain ⟨s0, len, cap, rfl⟩ := okWide_slice Tryz.underlying22 (hval 0 22 v0 rfl rfl)
  obtain ⟨fuel, hf⟩ := h0
  obtain ⟨l, b, off, rfl, hp, hc, hlen⟩ : ∃ (l : List Int) (b off : Nat), l.length = len ∧ (0 < l.length → s0 = some ⟨b, off, none⟩) ∧ (∀ k (h : k < l.length), W.cell? ⟨b, off + k, none⟩ = some (.int .i64 l[k])) ∧ l.length ≤ 9223372036854775807 := by
    rcases open_ints Tryz.underlying22 Tryz.underlying2 (by kernel_rfl) hf with ⟨hcs, -⟩ | ⟨a, len', cap', zs, hcs, -, hl, hm, hz, -, hc, -⟩
    · obtain ⟨rfl, rfl, rfl⟩ : s0 = none ∧ len = 0 ∧ cap = 0 := by simpa [Value.cells] using hcs
      exact ⟨[], 0, 0, rfl, fun h => by simp at h, fun k h => by simp at h, by simp⟩
    · obtain ⟨rfl, rfl, rfl⟩ : s0 = some a ∧ len = len' ∧ cap = cap' := by simpa [Value.cells] using hcs
      unfold maxLen at hm
      have hzl : len ≤ zs.length := by rw [hz]; split <;> omega
      refine ⟨zs.take len, a.block, a.off, by rw [List.length_take]; omega, fun h => ?_, fun k h => ?_, by rw [List.length_take]; omega⟩
      · rw [List.length_take] at h
        have h0 := hc 0 (by omega)
        have h1 : W.cell? a = some (.int .i64 (zs.getD 0 0)) := by simpa [Addr.add] using h0
        exact congrArg some (addr_of h1)
      · rw [List.length_take] at h
        have h0 := hc 0 (by omega)
        have h1 : W.cell? a = some (.int .i64 (zs.getD 0 0)) := by simpa [Addr.add] using h0
        have hk := hc k (by omega)
        rw [addr_of h1, add_of] at hk
        rw [hk]
        simp [List.getD, List.getElem?_eq_getElem (by omega : k < zs.length)]
  obtain ⟨s1, len2, cap2, rfl⟩ := okWide_slice Tryz.underlying22 (hval 1 22 v1 rfl rfl)
  obtain ⟨fuel2, hf2⟩ := h1
  obtain ⟨n, b2, off2, rfl, hp2, hc2, hlen2⟩ : ∃ (l : List Int) (b off : Nat), l.length = len2 ∧ (0 < l.length → s1 = some ⟨b, off, none⟩) ∧ (∀ k (h : k < l.length), W.cell? ⟨b, off + k, none⟩ = some (.int .i64 l[k])) ∧ l.length ≤ 9223372036854775807 := by
    rcases open_ints Tryz.underlying22 Tryz.underlying2 (by kernel_rfl) hf2 with ⟨hcs, -⟩ | ⟨a, len', cap', zs, hcs, -, hl, hm, hz, -, hc, -⟩
    · obtain ⟨rfl, rfl, rfl⟩ : s1 = none ∧ len2 = 0 ∧ cap2 = 0 := by simpa [Value.cells] using hcs
      exact ⟨[], 0, 0, rfl, fun h => by simp at h, fun k h => by simp at h, by simp⟩
    · obtain ⟨rfl, rfl, rfl⟩ : s1 = some a ∧ len2 = len' ∧ cap2 = cap' := by simpa [Value.cells] using hcs
      unfold maxLen at hm
      have hzl : len2 ≤ zs.length := by rw [hz]; split <;> omega
      refine ⟨zs.take len2, a.block, a.off, by rw [List.length_take]; omega, fun h => ?_, fun k h => ?_, by rw [List.length_take]; omega⟩
      · rw [List.length_take] at h
        have h0 := hc 0 (by omega)
        have h1 : W.cell? a = some (.int .i64 (zs.getD 0 0)) := by simpa [Addr.add] using h0
        exact congrArg some (addr_of h1)
      · rw [List.length_take] at h
        have h0 := hc 0 (by omega)
        have h1 : W.cell? a = some (.int .i64 (zs.getD 0 0)) := by simpa [Addr.add] using h0
        have hk := hc k (by omega)
        rw [addr_of h1, add_of] at hk
        rw [hk]
        simp [List.getD, List.getElem?_eq_getElem (by omega : k < zs.length)]
  clear hA0 hval0
  refine (topinches_c l n s0 s1 b off cap b2 off2 cap2 W hp hc hlen hp2 hc2 hlen2).mono fun e W' ⟨he, bel⟩ => ?_
  subst he
  exact ⟨_, rfl, _, _, _, [], _, [], hW', trodAll_mk1 (shut_bool Tryz.underlying4 _), (trodAll_cons_mk (Below.trod TopInches.laidOut (by kernel_rfl) (of_decide_eq_true (by kernel_rfl)) k0 bel lt0) (trodAll_cons_mk (Below.trod TopInches.laidOut (by kernel_rfl) (of_decide_eq_true (by kernel_rfl)) k1 bel lt1) trodAll_mk0)), rfl, bel.frame _, fun h => by cases h⟩

theorem inches_over : Rows.TopInchesSaid :=
  OpenClaim.holds_of_wide 3 Tryz.f3 rfl rfl rfl rfl rfl rfl rfl ⟨rfl, rfl, rfl, rfl, rfl⟩ rfl rfl rfl rfl rfl TopInches.rowNamed Tryz.func3 TopInches.rowClosed TopInches.rowInst TopInches.rowWrap
    (fun os started H enc _ => inches_lifted os started H enc)
end Go.Proofs.YtfajckkbinbpiaaGreatDoor
