/- A walk: the laws' Tame returns a text of 400 bytes at most. -/
import Derived.Test.YtgbkanbahclnhaaWordWords
import Derived.Laws.Concat
namespace Go.Proofs.Ytgbkanbahclnhaa
open Go.RowKit
set_option linter.unusedVariables false

theorem bs_app (a b : List UInt8) : bs a ++ bs b = bs (a ++ b) := by
  apply ByteArray.ext
  simp [bs]
theorem mask15 : ∀ n : Fin 256, bits .and .u8 ((n.val : Nat) : Int) 15 = ((n.val % 16 : Nat) : Int) := by decide +kernel
theorem add_lit (l m : List UInt8) (S S' : ByteArray) (hS : bs l = S) (hS' : bs (l ++ m) = S') (hl : l.length ≤ 1000000) (hm : m.length ≤ 1000000) (w : World) : (Op.stringOp .add S (bs m)).run Try.prog w = .ok (.string S') w := by
  rw [run_string_add_sum w S _ (by rw [← hS, bs_size, bs_size]; omega), ← hS, ← hS', bs_app]


theorem tab_at (v : Nat) (hv : v < 16) : ∃ m : List UInt8, m.length ≤ 4 ∧ ∀ hp : v < ([.string { data := #[42] }, .string { data := #[42] }, .string { data := #[37] }, .string { data := #[65] }, .string { data := #[66, 49] }, .string { data := #[10] }, .string { data := #[13, 10] }, .string { data := #[32] }, .string { data := #[120] }, .string { data := #[42, 10] }, .string { data := #[42, 37, 10] }, .string { data := #[37, 67] }, .string { data := #[71, 48, 49, 42] }, .string { data := #[126] }, .string { data := #[49, 44] }, .string { data := #[42] }] : List Value).length, ([.string { data := #[42] }, .string { data := #[42] }, .string { data := #[37] }, .string { data := #[65] }, .string { data := #[66, 49] }, .string { data := #[10] }, .string { data := #[13, 10] }, .string { data := #[32] }, .string { data := #[120] }, .string { data := #[42, 10] }, .string { data := #[42, 37, 10] }, .string { data := #[37, 67] }, .string { data := #[71, 48, 49, 42] }, .string { data := #[126] }, .string { data := #[49, 44] }, .string { data := #[42] }] : List Value)[v]'hp = .string (bs m) := by
  have hcases : v = 0 ∨ v = 1 ∨ v = 2 ∨ v = 3 ∨ v = 4 ∨ v = 5 ∨ v = 6 ∨ v = 7 ∨ v = 8 ∨ v = 9 ∨ v = 10 ∨ v = 11 ∨ v = 12 ∨ v = 13 ∨ v = 14 ∨ v = 15 := by omega
  rcases hcases with rfl | rfl | rfl | rfl | rfl | rfl | rfl | rfl | rfl | rfl | rfl | rfl | rfl | rfl | rfl | rfl
  · exact ⟨[42], by decide, fun _ => rfl⟩
  · exact ⟨[42], by decide, fun _ => rfl⟩
  · exact ⟨[37], by decide, fun _ => rfl⟩
  · exact ⟨[65], by decide, fun _ => rfl⟩
  · exact ⟨[66, 49], by decide, fun _ => rfl⟩
  · exact ⟨[10], by decide, fun _ => rfl⟩
  · exact ⟨[13, 10], by decide, fun _ => rfl⟩
  · exact ⟨[32], by decide, fun _ => rfl⟩
  · exact ⟨[120], by decide, fun _ => rfl⟩
  · exact ⟨[42, 10], by decide, fun _ => rfl⟩
  · exact ⟨[42, 37, 10], by decide, fun _ => rfl⟩
  · exact ⟨[37, 67], by decide, fun _ => rfl⟩
  · exact ⟨[71, 48, 49, 42], by decide, fun _ => rfl⟩
  · exact ⟨[126], by decide, fun _ => rfl⟩
  · exact ⟨[49, 44], by decide, fun _ => rfl⟩
  · exact ⟨[42], by decide, fun _ => rfl⟩

theorem bin_add (S E S' : ByteArray) (ha : ∀ w, (Op.stringOp .add S E).run Try.prog w = .ok (.string S') w) (W : World) : (binOp .add 9 (.string S) (.string E)).run Try.prog W = .ok (.string S') W := by
  go_simp
set_option maxRecDepth 100000 in
set_option maxHeartbeats 4000000 in
theorem tame_c (s : List UInt8) (w : World) (hs : s.length ≤ 9223372036854775807) : Calls Try.prog 16 #[.string (bs s)] w fun e w' => ∃ t, e = .returned (.string (bs t)) ∧ t.length ≤ 400 ∧ Below w.heap.size w w' := by
  obtain ⟨N, eN⟩ : ∃ N, s.length = N := ⟨_, rfl⟩
  have hsz : (bs s).size = N := by rw [bs_size, eN]
  rw [eN] at hs
  have hAt := fun k c h w => bs_at s k c h w
  have HAt := Lib.hid hAt
  have HS := Lib.hid eN
  clear hAt eN
  obtain ⟨b, eb⟩ : ∃ b, bs s = b := ⟨_, rfl⟩
  rw [eb] at hsz ⊢
  rw [eb] at HAt
  clear eb
  go_enter Try.func16, Try.ntmps16
  go_wp2_with fail
  go_loopw [4, 3] (fun i t wr => ∃ (k : Nat) (l : List UInt8), i = .int .i64 (k : Int) ∧ t = .string (bs l) ∧ k ≤ 100 ∧ l.length ≤ 4 * k ∧ Below w.heap.size w wr) (fun i _ _ => 100 - (intOf i).toNat)
  case atStart => exact ⟨0, [], rfl, rfl, by omega, by simp, by (repeat' (first | (with_reducible exact Below.refl _ _) | (with_reducible assumption) | (with_reducible refine below_drewN ?_ _) | (with_reducible refine Below.drew ?_) | (with_reducible refine Below.alloc ?_ ?_ _) | (with_reducible refine Below.setCell ?_ ?_ _) | omega | (simp; done) | (simp; omega)))⟩
  case round =>
  obtain ⟨k, l, rfl, rfl, hk, hl, hB⟩ := hrel
  have lB := hB.size
  have fin : ∀ w', Below w.heap.size w w' → ∃ t, Ending.returned (.string (bs l)) = .returned (.string (bs t)) ∧ t.length ≤ 400 ∧ Below w.heap.size w w' := fun w' h => ⟨l, rfl, by omega, h⟩
  have FIN := Lib.hid fin
  clear fin
  obtain ⟨S, eS⟩ : ∃ x, bs l = x := ⟨_, rfl⟩
  rw [eS] at FIN
  rw [eS]
  have HL := Lib.hid eS
  clear eS
  by_cases hkN : k < N
  · by_cases hk1 : k < 100
    · have d1 : decide ((k : Int) < (N : Int)) = true := by simp; omega
      have d2 : decide ((k : Int) < 100) = true := by simp; omega
      have hkS : k < s.length := by have := HS.out; omega
      have hx := HAt.out k (s[k]) (List.getElem?_eq_getElem hkS)
      obtain ⟨c, ec⟩ : ∃ c, s[k].toNat = c := ⟨_, rfl⟩
      have hc : c < 256 := by rw [← ec]; exact UInt8.toNat_lt _
      rw [ec] at hx
      have hm := mask15 ⟨c, hc⟩
      simp only at hm
      obtain ⟨v, ev⟩ : ∃ v, c % 16 = v := ⟨_, rfl⟩
      have hv : v < 16 := by omega
      rw [ev] at hm
      clear ec ev HAt
      have hv' : (v : Int) < 16 := by omega
      obtain ⟨m, hml, hmt⟩ := tab_at v hv
      obtain ⟨E, eE⟩ : ∃ x, bs m = x := ⟨_, rfl⟩
      rw [eE] at hmt
      obtain ⟨S', eS'⟩ : ∃ x, bs (l ++ m) = x := ⟨_, rfl⟩
      have ha := fun w => add_lit l m S S' HL.out eS' (by omega) (by omega) w
      rw [eE] at ha
      have HS' := Lib.hid eS'
      have HMT := Lib.hid hmt
      have HA := Lib.hid ha
      clear eS' eE hc hmt ha
      go_wp2_with fail
      simp only [HMT.out]
      generalize hW : wr.alloc _ = W
      have hBW : Below w.heap.size w W := by rw [← hW]; exact Below.alloc hB lB _
      clear hW
      simp only [bin_add S E S' HA.out, Result.andThen]
      go_wp2_with fail
      go_roundw
      case rel => exact ⟨k + 1, l ++ m, by simp, by rw [HS'.out], by omega, by (rw [List.length_append]; omega), hBW⟩
      case measure => simp [intOf]; omega
    · have d1 : decide ((k : Int) < (N : Int)) = true := by simp; omega
      have d2 : decide ((k : Int) < 100) = false := by simp; omega
      as_aux_lemma =>
      go_wp2_with fail
      go_ret
      exact FIN.out _ hB
  · have d1 : decide ((k : Int) < (N : Int)) = false := by simp; omega
    as_aux_lemma =>
    go_wp2_with fail
    go_ret
    exact FIN.out _ hB
end Go.Proofs.Ytgbkanbahclnhaa
