/- Walks: the laws' Same at two rows that hold the same words; awake. -/
import Derived.Test.YtgbkanbahclnhaaWordWords
namespace Go.Proofs.Ytgbkanbahclnhaa
open Go.RowKit
set_option linter.unusedVariables false

theorem row_cell {w : World} {B g cap n : Nat} {l : List Wd} (h : w.ownsRow B 28 4 (.slice (some ⟨g, 0, none⟩) n cap) n (wcells l)) (hn : n = l.length) {k : Nat} (hk : k < l.length) (j : Nat) (hj : j < 4) : w.cell? ⟨g, k * 4 + j, none⟩ = (l[k]).cells[j]? := by
  rw [h.cellAt (k * 4 + j) (by omega)]
  exact wcells_at l k hk j hj
set_option maxRecDepth 100000 in
set_option maxHeartbeats 2000000 in
theorem same_c (l : List Wd) (v1 v2 : Value) (B1 B2 : Nat) (w : World) (hl : l.length ≤ 9223372036854775807) (h1 : w.ownsRow B1 28 4 v1 l.length (wcells l)) (h2 : w.ownsRow B2 28 4 v2 l.length (wcells l)) :
    Calls Try.prog 15 #[v1, v2] w fun e w' => e = .returned (.bool true) ∧ Below w.heap.size w w' := by
  by_cases h0 : l.length = 0
  · rw [h0] at h1 h2
    obtain ⟨A1, c1, rfl⟩ : ∃ A cap, v1 = .slice A 0 cap := by
      rcases h1.2 with ⟨rfl, _⟩ | ⟨g', cap, cur, rfl, _⟩
      · exact ⟨none, 0, rfl⟩
      · exact ⟨_, cap, rfl⟩
    obtain ⟨A2, c2, rfl⟩ : ∃ A cap, v2 = .slice A 0 cap := by
      rcases h2.2 with ⟨rfl, _⟩ | ⟨g', cap, cur, rfl, _⟩
      · exact ⟨none, 0, rfl⟩
      · exact ⟨_, cap, rfl⟩
    clear h1 h2
    go_enter Try.func15, Try.ntmps15
    go_wp2_with fail
    refine wp_loop_rounds 1 ?_
    rw [rounds_succ]
    go_wp2_with fail
    go_ret
    exact ⟨rfl, by go_grown⟩
  obtain ⟨g1, c1, rfl, -, b1⟩ := h1.form (by omega)
  obtain ⟨g2, c2, rfl, -, b2⟩ := h2.form (by omega)
  obtain ⟨n, en⟩ : ∃ n, l.length = n := ⟨_, rfl⟩
  rw [en] at h1 h2 hl h0 ⊢
  have H1 := Lib.hid h1
  have H2 := Lib.hid h2
  have EN := Lib.hid en
  clear h1 h2 en
  go_enter Try.func15, Try.ntmps15
  go_wp2_with fail
  go_loopw [5] (fun i wr => ∃ k : Nat, i = .int .i64 (k : Int) ∧ k ≤ n ∧ Below w.heap.size w wr) (fun i _ => n - (intOf i).toNat)
  case atStart => exact ⟨0, rfl, by omega, by (repeat' (first | (with_reducible exact Below.refl _ _) | (with_reducible assumption) | (with_reducible refine below_drewN ?_ _) | (with_reducible refine Below.drew ?_) | (with_reducible refine Below.alloc ?_ ?_ _) | (with_reducible refine Below.setCell ?_ ?_ _) | omega | (simp; done) | (simp; omega)))⟩
  case round =>
  obtain ⟨k, rfl, hk, hB⟩ := hrel
  by_cases hkn : k < n
  · have d1 : decide ((k : Int) < (n : Int)) = true := by simp; omega
    have hkn' : (k : Int) < (n : Int) := by omega
    have en := EN.out
    have hkl : k < l.length := by omega
    obtain ⟨d, ed⟩ : ∃ d, l[k] = d := ⟨_, rfl⟩
    have f := fun j hj => (hB.cell (p := ⟨g1, k * 4 + j, none⟩) b1).trans (row_cell H1.out en.symm hkl j hj)
    have f' := fun j hj => (hB.cell (p := ⟨g2, k * 4 + j, none⟩) b2).trans (row_cell H2.out en.symm hkl j hj)
    rw [ed] at f f'
    obtain ⟨a, x, y, t⟩ := d
    have x0 := f 0 (by decide); have x1 := f 1 (by decide); have x2 := f 2 (by decide); have x3 := f 3 (by decide)
    have y0 := f' 0 (by decide); have y1 := f' 1 (by decide); have y2 := f' 2 (by decide); have y3 := f' 3 (by decide)
    simp only [Wd.cells, Nat.add_zero, List.getElem?_cons_zero, List.getElem?_cons_succ] at x0 x1 x2 x3 y0 y1 y2 y3
    clear f f' ed hkl en
    obtain ⟨p, ep⟩ : ∃ p, k * 4 = p := ⟨_, rfl⟩
    rw [ep] at x0 x1 x2 x3 y0 y1 y2 y3
    go_wp2_with fail
    go_quiet (fail)
    go_wp2_with fail
    go_roundw
    case rel => exact ⟨k + 1, by simp, by omega, by (repeat' (first | (with_reducible exact Below.refl _ _) | (with_reducible assumption) | (with_reducible refine below_drewN ?_ _) | (with_reducible refine Below.drew ?_) | (with_reducible refine Below.alloc ?_ ?_ _) | (with_reducible refine Below.setCell ?_ ?_ _) | omega | (simp; done) | (simp; omega)))⟩
    case measure => simp [intOf]; omega
  · obtain rfl : n = k := by omega
    have d1 : decide ((n : Int) < (n : Int)) = false := by simp
    as_aux_lemma =>
    go_wp2_with fail
    go_ret
    exact ⟨rfl, hB⟩

theorem fixed1 : words [71, 48, 49, 42, 10, 37, 65, 77, 88, 42, 49, 44, 49, 42, 37, 77, 48, 50, 42] = ([⟨0, false, true, [71, 48, 49]⟩, ⟨6, true, true, [65, 77, 88]⟩, ⟨10, true, false, [49, 44, 49]⟩, ⟨15, false, true, [77, 48, 50]⟩], 0, 0) := by decide
theorem fixed2 : words [71, 48, 49] = ([], 3, 2) := by decide
theorem fixed3 : words [37, 37] = ([], 1, 2) := by decide

theorem fix1 (w : World) : Calls Try.prog 12 #[.string { data := #[71, 48, 49, 42, 10, 37, 65, 77, 88, 42, 49, 44, 49, 42, 37, 77, 48, 50, 42] }] w fun e w' => ∃ g cap, e = .returned (.tuple #[.slice (some ⟨g, 0, none⟩) 4 cap, .int .i64 0, .int .i64 0]) ∧ g < w'.heap.size ∧ (∀ i : Nat, i < 16 → w'.cell? ⟨g, i, none⟩ = (#[.int .i64 0, .bool false, .bool true, .string { data := #[71, 48, 49] }, .int .i64 6, .bool true, .bool true, .string { data := #[65, 77, 88] }, .int .i64 10, .bool true, .bool false, .string { data := #[49, 44, 49] }, .int .i64 15, .bool false, .bool true, .string { data := #[77, 48, 50] }] : Array Value)[i]?) ∧ Below w.heap.size w w' := by
  have h : Calls Try.prog 12 #[.string { data := #[71, 48, 49, 42, 10, 37, 65, 77, 88, 42, 49, 44, 49, 42, 37, 77, 48, 50, 42] }] w (WordsIs [71, 48, 49, 42, 10, 37, 65, 77, 88, 42, 49, 44, 49, 42, 37, 77, 48, 50, 42] w) := words_c [71, 48, 49, 42, 10, 37, 65, 77, 88, 42, 49, 44, 49, 42, 37, 77, 48, 50, 42] w (by decide)
  refine h.mono ?_
  intro e w' he
  unfold WordsIs at he
  rw [fixed1] at he
  obtain ⟨v, rfl, hv, hb⟩ := he
  obtain ⟨g, cap, rfl, -, hlt⟩ := hv.form (by decide)
  refine ⟨g, cap, rfl, hlt, fun i hi => ?_, hb⟩
  rw [hv.cellAt i (by simpa using hi)]
  have hi' : i = 0 ∨ i = 1 ∨ i = 2 ∨ i = 3 ∨ i = 4 ∨ i = 5 ∨ i = 6 ∨ i = 7 ∨ i = 8 ∨ i = 9 ∨ i = 10 ∨ i = 11 ∨ i = 12 ∨ i = 13 ∨ i = 14 ∨ i = 15 := by omega
  rcases hi' with rfl | rfl | rfl | rfl | rfl | rfl | rfl | rfl | rfl | rfl | rfl | rfl | rfl | rfl | rfl | rfl <;> rfl
theorem fix2 (w : World) : Calls Try.prog 12 #[.string { data := #[71, 48, 49] }] w fun e w' => ∃ v, e = .returned (.tuple #[v, .int .i64 3, .int .i64 2]) ∧ Below w.heap.size w w' := by
  have h : Calls Try.prog 12 #[.string { data := #[71, 48, 49] }] w (WordsIs [71, 48, 49] w) := words_c [71, 48, 49] w (by decide)
  refine h.mono ?_
  intro e w' he
  unfold WordsIs at he
  rw [fixed2] at he
  obtain ⟨v, rfl, hv, hb⟩ := he
  exact ⟨v, rfl, hb⟩
theorem fix3 (w : World) : Calls Try.prog 12 #[.string { data := #[37, 37] }] w fun e w' => ∃ v, e = .returned (.tuple #[v, .int .i64 1, .int .i64 2]) ∧ Below w.heap.size w w' := by
  have h : Calls Try.prog 12 #[.string { data := #[37, 37] }] w (WordsIs [37, 37] w) := words_c [37, 37] w (by decide)
  refine h.mono ?_
  intro e w' he
  unfold WordsIs at he
  rw [fixed3] at he
  obtain ⟨v, rfl, hv, hb⟩ := he
  exact ⟨v, rfl, hb⟩
set_option maxRecDepth 100000 in
set_option maxHeartbeats 2000000 in
theorem awake14 (w : World) : Calls Try.prog 13 #[] w fun e w' => e = .returned (.bool true) ∧ Below w.heap.size w w' := by
  go_enter Try.func13, Try.ntmps13
  go_wp2_with fail
  refine (fix1 _).mono ?_
  rintro e w1 ⟨g, cap, rfl, hg, hc, hb⟩
  have hB1 : Below w.heap.size w w1 := hb
  clear hb
  go_wp2_with fail
  refine (fix2 _).mono ?_
  rintro e w2 ⟨v2, rfl, hb⟩
  have hB2 : Below w.heap.size w w2 := hB1.trans (hb.mono hB1.size)
  have hc2 : ∀ i : Nat, i < 16 → w2.cell? ⟨g, i, none⟩ = (#[.int .i64 0, .bool false, .bool true, .string { data := #[71, 48, 49] }, .int .i64 6, .bool true, .bool true, .string { data := #[65, 77, 88] }, .int .i64 10, .bool true, .bool false, .string { data := #[49, 44, 49] }, .int .i64 15, .bool false, .bool true, .string { data := #[77, 48, 50] }] : Array Value)[i]? := fun i hi => (hb.cell (by exact hg)).trans (hc i hi)
  have hg2 : g < w2.heap.size := Nat.lt_of_lt_of_le hg hb.size
  clear hb hc hB1 hg
  go_wp2_with fail
  refine (fix3 _).mono ?_
  rintro e w3 ⟨v3, rfl, hb⟩
  have hB3 : Below w.heap.size w w3 := hB2.trans (hb.mono hB2.size)
  have hc3 : ∀ i : Nat, i < 16 → w3.cell? ⟨g, i, none⟩ = (#[.int .i64 0, .bool false, .bool true, .string { data := #[71, 48, 49] }, .int .i64 6, .bool true, .bool true, .string { data := #[65, 77, 88] }, .int .i64 10, .bool true, .bool false, .string { data := #[49, 44, 49] }, .int .i64 15, .bool false, .bool true, .string { data := #[77, 48, 50] }] : Array Value)[i]? := fun i hi => (hb.cell (by exact hg2)).trans (hc2 i hi)
  clear hb hc2 hB2 hg2
  have z0 : w3.cell? ⟨g, 0, none⟩ = some (.int .i64 0) := hc3 0 (by decide)
  have z1 : w3.cell? ⟨g, 1, none⟩ = some (.bool false) := hc3 1 (by decide)
  have z2 : w3.cell? ⟨g, 2, none⟩ = some (.bool true) := hc3 2 (by decide)
  have z3 : w3.cell? ⟨g, 3, none⟩ = some (.string { data := #[71, 48, 49] }) := hc3 3 (by decide)
  have z4 : w3.cell? ⟨g, 4, none⟩ = some (.int .i64 6) := hc3 4 (by decide)
  have z5 : w3.cell? ⟨g, 5, none⟩ = some (.bool true) := hc3 5 (by decide)
  have z6 : w3.cell? ⟨g, 6, none⟩ = some (.bool true) := hc3 6 (by decide)
  have z7 : w3.cell? ⟨g, 7, none⟩ = some (.string { data := #[65, 77, 88] }) := hc3 7 (by decide)
  have z8 : w3.cell? ⟨g, 8, none⟩ = some (.int .i64 10) := hc3 8 (by decide)
  have z9 : w3.cell? ⟨g, 9, none⟩ = some (.bool true) := hc3 9 (by decide)
  have z10 : w3.cell? ⟨g, 10, none⟩ = some (.bool false) := hc3 10 (by decide)
  have z11 : w3.cell? ⟨g, 11, none⟩ = some (.string { data := #[49, 44, 49] }) := hc3 11 (by decide)
  have z12 : w3.cell? ⟨g, 12, none⟩ = some (.int .i64 15) := hc3 12 (by decide)
  have z13 : w3.cell? ⟨g, 13, none⟩ = some (.bool false) := hc3 13 (by decide)
  have z14 : w3.cell? ⟨g, 14, none⟩ = some (.bool true) := hc3 14 (by decide)
  have z15 : w3.cell? ⟨g, 15, none⟩ = some (.string { data := #[77, 48, 50] }) := hc3 15 (by decide)
  clear hc3
  go_wp2_with fail
  go_ret
  exact ⟨rfl, hB3⟩
end Go.Proofs.Ytgbkanbahclnhaa
