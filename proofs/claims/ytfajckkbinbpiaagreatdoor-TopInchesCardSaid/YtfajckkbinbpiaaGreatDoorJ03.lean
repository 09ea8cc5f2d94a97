/- Walks: coordinates and operations. Walks: words that are always the same. Walks: formats, apertures, blocks and steps as they are written. Walks: apertures, blocks and steps as they are written. Words for memory, for the walks of package word: what a reader's block holds. Walks: definitions of apertures. -/
import Derived.Deep.AppendLies
import Derived.Deep.DeepCutAuto
import Derived.Deep.RegionHeld3
import Derived.Deep.RegionLaw
import Derived.Deep.RegionWith
import Derived.Laws.OwnMore
import Derived.Laws.ResultCell
import Derived.Lib.SlBytesRow
import Derived.Outline
import Derived.OwnWalk
import Derived.Test.YtfajckkbinbpiaaGreatDoorJ01
import Derived.Test.YtfajckkbinbpiaaGreatDoorJ02
namespace Go.Proofs.YtfajckkbinbpiaaGreatDoor
set_option maxRecDepth 100000
set_option maxHeartbeats 32000000
set_option linter.unusedVariables false
set_option linter.unusedSimpArgs false
open Go.RowKit
set_option maxRecDepth 100000 in
set_option maxHeartbeats 1000000 in
/-- A coordinate that is not there. -/
theorem coordinate_no (l : List UInt8) (c : UInt8) (w : World) (hl : l.length ≤ 1000000) (h : l.head? ≠ some c) :
    Calls Tryz.prog 155 #[.string (bs l), .string (bs [c])] w fun e w' => e = .returned (.tuple #[.string (bs []), .string (bs l)]) ∧ Below w.heap.size w w' := by
  have hg := fun w => cutP_no l [c] w hl (by simp) (by
    intro e
    cases l with
    | nil => simp at e
    | cons a l => simp at e; subst e; exact h rfl)
  obtain ⟨S, eS⟩ : ∃ x, bs l = x := ⟨_, rfl⟩
  obtain ⟨T, eT⟩ : ∃ x, bs [c] = x := ⟨_, rfl⟩
  rw [eS, eT] at hg ⊢
  have HG := Lib.hid hg
  clear hg h eS eT
  go_enter Tryz.func155, Tryz.ntmps155
  go_wp2_with (go_at_call 93; refine (HG.out _).mono ?_; rintro e w' ⟨rfl, rfl⟩)
  go_ret2
  exact ⟨rfl, by (repeat' (first | (with_reducible exact Below.refl _ _) | (with_reducible assumption) | (with_reducible refine below_drewN ?_ _) | (with_reducible refine Below.drew ?_) | (with_reducible refine Below.alloc ?_ ?_ _) | (with_reducible refine Below.setCell ?_ ?_ _) | omega | (simp; done) | (simp; omega)))⟩
set_option maxRecDepth 100000 in
set_option maxHeartbeats 1000000 in
/-- A coordinate that is there. -/
theorem coordinate_yes (c : UInt8) (d r : List UInt8) (w : World) (hl : (d ++ r).length ≤ 100000) (hd : Digits d) (hr : NoDigit r) (h1 : 0 < d.length) (h12 : d.length ≤ 12) :
    Calls Tryz.prog 155 #[.string (bs (c :: (d ++ r))), .string (bs [c])] w fun e w' => e = .returned (.tuple #[.string (bs d), .string (bs r)]) ∧ Below w.heap.size w w' := by
  have hg := fun w => cutP_yes [c] (d ++ r) w (by simp at hl ⊢; omega)
  have hdg := fun w => digits_c d r w (by omega) hd hr
  have hlen : 0 < (d ++ r).length := by rw [List.length_append]; omega
  have hh : (d ++ r).head? = some d[0] := by
    rw [List.head?_eq_getElem?, at_front d r 0 h1]
  have hne : (bs (d ++ r)).toList.isEmpty = false := by
    rw [bs_toList]
    cases hx : d ++ r with
    | nil => rw [hx] at hlen; simp at hlen
    | cons a l => rfl
  obtain ⟨c0, hc0, hx0⟩ : ∃ c0 : Nat, (48 ≤ c0 ∧ c0 ≤ 57) ∧ ∀ h : 0 < (bs (d ++ r)).size, ((bs (d ++ r))[0]'h).toNat = c0 := ⟨d[0].toNat, digits_get hd 0 h1, fun h => bs_head (d ++ r) d[0] hh h⟩
  have p1 : ((c0 : Int) == 43) = false := by simp; omega
  have p2 : ((c0 : Int) == 45) = false := by simp; omega
  have x0 : (bs (d ++ r)).extract 0 (d ++ r).length = bs (d ++ r) := by rw [bs_take, List.take_length]
  have x1 : (bs (d ++ r)).extract 0 d.length = bs d := by rw [bs_take]; simp
  have x2 : (bs (d ++ r)).extract d.length (d ++ r).length = bs r := by rw [bs_drop]; simp
  have eL : (d ++ r).length = d.length + r.length := List.length_append
  rw [eL] at hlen x0 x2
  obtain ⟨M, eM⟩ : ∃ M, d.length = M := ⟨_, rfl⟩
  obtain ⟨K, eK⟩ : ∃ M, r.length = M := ⟨_, rfl⟩
  have hsz : (bs (d ++ r)).size = M + K := by rw [bs_size, eL, eM, eK]
  obtain ⟨S, eS⟩ : ∃ x, bs (d ++ r) = x := ⟨_, rfl⟩
  obtain ⟨U, eU⟩ : ∃ x, bs d = x := ⟨_, rfl⟩
  obtain ⟨V, eV⟩ : ∃ x, bs r = x := ⟨_, rfl⟩
  obtain ⟨T, eT⟩ : ∃ x, bs [c] = x := ⟨_, rfl⟩
  obtain ⟨R, eR⟩ : ∃ x, bs ([c] ++ (d ++ r)) = x := ⟨_, rfl⟩
  have eR' : bs (c :: (d ++ r)) = R := eR
  rw [eR, eT, eS] at hg
  rw [eR', eT, eU, eV]
  rw [eS] at hdg hne hx0 hsz x0 x1 x2
  rw [eM] at h1 h12 hlen x0 x1 x2 hdg
  rw [eK] at hlen x0 x2
  rw [eU] at x1
  rw [eV] at x2
  have HG := Lib.hid hg
  have HDG := Lib.hid hdg
  have q1 : decide ((M : Int) < 1) = false := by simp; omega
  have q2 : decide (12 < (M : Int)) = false := by simp; omega
  have q3 : M ≤ M + K := by omega
  have q4 : M ≤ 1000000 := by omega
  clear hg hdg hd hr hl hh eL eM eK eS eU eV eT eR eR'
  go_enter Tryz.func155, Tryz.ntmps155
  go_wp2_with (first | (go_at_call 93; refine (HG.out _).mono ?_; rintro e w' ⟨rfl, rfl⟩) | (go_at_call 195; refine (HDG.out _).mono ?_; rintro e w' ⟨rfl, rfl⟩))
  have v1 : IntKind.i64.wrap (M : Int) = (M : Int) := by rw [IntKind.wrap_i64]; omega
  go_quiet (fail)
  go_wp2_with fail
  go_ret2
  exact ⟨rfl, by (repeat' (first | (with_reducible exact Below.refl _ _) | (with_reducible assumption) | (with_reducible refine below_drewN ?_ _) | (with_reducible refine Below.drew ?_) | (with_reducible refine Below.alloc ?_ ?_ _) | (with_reducible refine Below.setCell ?_ ?_ _) | omega | (simp; done) | (simp; omega)))⟩
theorem operation_2 (d1 d2 : List UInt8) (w : World) (hd1 : Digits d1) (hd2 : Digits d2) (a1 : 0 < d1.length) (b1 : d1.length ≤ 12) (a2 : 0 < d2.length) (b2 : d2.length ≤ 12) :
    Calls Tryz.prog 99 #[.string (bs (88 :: (d1 ++ 89 :: (d2 ++ [68, 48, 50]))))] w fun e w' => e = .returned (.tuple #[.agg #[.int .i64 0, .int .i64 7, .int .i64 2, .int .i64 0, .bool false, .string { data := #[] }, .string (bs d1), .string (bs d2), .string { data := #[] }, .string { data := #[] }, .slice none 0 0, .slice none 0 0], .bool true]) ∧ Below w.heap.size w w' := by
  have h1 := fun w => coordinate_yes 88 d1 (89 :: (d2 ++ [68, 48, 50])) w (by simp; omega) hd1 (by intro c h; simp at h; subst h; decide) a1 b1
  have h2 := fun w => coordinate_yes 89 d2 [68, 48, 50] w (by simp; omega) hd2 (by intro c h; simp at h; subst h; decide) a2 b2
  have h3 : ∀ w, Calls Tryz.prog 155 #[.string { data := #[68, 48, 50] }, .string { data := #[73] }] w fun e w' => e = .returned (.tuple #[.string { data := #[] }, .string { data := #[68, 48, 50] }]) ∧ Below w.heap.size w w' := fun w => coordinate_no [68, 48, 50] 73 w (by simp) (by simp)
  have h4 : ∀ w, Calls Tryz.prog 155 #[.string { data := #[68, 48, 50] }, .string { data := #[74] }] w fun e w' => e = .returned (.tuple #[.string { data := #[] }, .string { data := #[68, 48, 50] }]) ∧ Below w.heap.size w w' := fun w => coordinate_no [68, 48, 50] 74 w (by simp) (by simp)
  obtain ⟨S0, e0⟩ : ∃ x, bs (88 :: (d1 ++ 89 :: (d2 ++ [68, 48, 50]))) = x := ⟨_, rfl⟩
  obtain ⟨S1, e1⟩ : ∃ x, bs (89 :: (d2 ++ [68, 48, 50])) = x := ⟨_, rfl⟩
  obtain ⟨X, eX⟩ : ∃ x, bs d1 = x := ⟨_, rfl⟩
  obtain ⟨Y, eY⟩ : ∃ x, bs d2 = x := ⟨_, rfl⟩
  rw [e0, e1, eX] at h1
  rw [e1, eY, show bs [68, 48, 50] = { data := #[68, 48, 50] } from rfl] at h2
  rw [e0, eX, eY]
  have H1 := Lib.hid h1
  have H2 := Lib.hid h2
  have H3 := Lib.hid h3
  have H4 := Lib.hid h4
  clear h1 h2 h3 h4 e0 e1 eX eY hd1 hd2
  go_enter Tryz.func99, Tryz.ntmps99
  go_wp2_with fail
  refine (H1.out _).mono ?_
  rintro e w1 ⟨rfl, hb⟩
  have hB1 : Below w.heap.size w w1 := Below.trans (by exact blw) (hb.mono (by first | omega | (simp; done) | (simp; omega)))
  have k1_0 : Blk w1 (w.heap.size + 1) 103 #[.int .i64 0, .int .i64 7, .int .i64 0, .int .i64 0, .bool false, .string { data := #[] }, .string { data := #[] }, .string { data := #[] }, .string { data := #[] }, .string { data := #[] }, .slice none 0 0, .slice none 0 0] := Blk.below (by exact bkw) hb (by first | omega | (simp; done) | (simp; omega))
  have k1_1 : Blk w1 (w.heap.size) 103 #[.int .i64 0, .int .i64 0, .int .i64 0, .int .i64 0, .bool false, .string { data := #[] }, .string { data := #[] }, .string { data := #[] }, .string { data := #[] }, .string { data := #[] }, .slice none 0 0, .slice none 0 0] := Blk.below (by exact bkw) hb (by first | omega | (simp; done) | (simp; omega))
  have c1_0 := k1_0.cell
  have f1_0 := k1_0.frozen
  have l1_0 := k1_0.lt
  have c1_1 := k1_1.cell
  have f1_1 := k1_1.frozen
  have l1_1 := k1_1.lt
  have l1 := hB1.size
  clear hb
  go_wp2_with fail
  refine (H2.out _).mono ?_
  rintro e w2 ⟨rfl, hb⟩
  have hB2 : Below w.heap.size w w2 := Below.trans (by exact blw) (hb.mono (by first | omega | (simp; done) | (simp; omega)))
  have k2_0 : Blk w2 (w.heap.size + 1) 103 #[.int .i64 0, .int .i64 7, .int .i64 0, .int .i64 0, .bool false, .string { data := #[] }, .string X, .string { data := #[] }, .string { data := #[] }, .string { data := #[] }, .slice none 0 0, .slice none 0 0] := Blk.below (by exact bkw) hb (by first | omega | (simp; done) | (simp; omega))
  have k2_1 : Blk w2 (w.heap.size) 103 #[.int .i64 0, .int .i64 0, .int .i64 0, .int .i64 0, .bool false, .string { data := #[] }, .string { data := #[] }, .string { data := #[] }, .string { data := #[] }, .string { data := #[] }, .slice none 0 0, .slice none 0 0] := Blk.below (by exact bkw) hb (by first | omega | (simp; done) | (simp; omega))
  have c2_0 := k2_0.cell
  have f2_0 := k2_0.frozen
  have l2_0 := k2_0.lt
  have c2_1 := k2_1.cell
  have f2_1 := k2_1.frozen
  have l2_1 := k2_1.lt
  have l2 := hB2.size
  clear hb k1_0 k1_1 c1_0 c1_1 f1_0 f1_1
  go_wp2_with fail
  refine (H3.out _).mono ?_
  rintro e w3 ⟨rfl, hb⟩
  have hB3 : Below w.heap.size w w3 := Below.trans (by exact blw) (hb.mono (by first | omega | (simp; done) | (simp; omega)))
  have k3_0 : Blk w3 (w.heap.size + 1) 103 #[.int .i64 0, .int .i64 7, .int .i64 0, .int .i64 0, .bool false, .string { data := #[] }, .string X, .string Y, .string { data := #[] }, .string { data := #[] }, .slice none 0 0, .slice none 0 0] := Blk.below (by exact bkw) hb (by first | omega | (simp; done) | (simp; omega))
  have k3_1 : Blk w3 (w.heap.size) 103 #[.int .i64 0, .int .i64 0, .int .i64 0, .int .i64 0, .bool false, .string { data := #[] }, .string { data := #[] }, .string { data := #[] }, .string { data := #[] }, .string { data := #[] }, .slice none 0 0, .slice none 0 0] := Blk.below (by exact bkw) hb (by first | omega | (simp; done) | (simp; omega))
  have c3_0 := k3_0.cell
  have f3_0 := k3_0.frozen
  have l3_0 := k3_0.lt
  have c3_1 := k3_1.cell
  have f3_1 := k3_1.frozen
  have l3_1 := k3_1.lt
  have l3 := hB3.size
  clear hb k2_0 k2_1 c2_0 c2_1 f2_0 f2_1
  go_wp2_with fail
  refine (H4.out _).mono ?_
  rintro e w4 ⟨rfl, hb⟩
  have hB4 : Below w.heap.size w w4 := Below.trans (by exact blw) (hb.mono (by first | omega | (simp; done) | (simp; omega)))
  have k4_0 : Blk w4 (w.heap.size + 1) 103 #[.int .i64 0, .int .i64 7, .int .i64 0, .int .i64 0, .bool false, .string { data := #[] }, .string X, .string Y, .string { data := #[] }, .string { data := #[] }, .slice none 0 0, .slice none 0 0] := Blk.below (by exact bkw) hb (by first | omega | (simp; done) | (simp; omega))
  have k4_1 : Blk w4 (w.heap.size) 103 #[.int .i64 0, .int .i64 0, .int .i64 0, .int .i64 0, .bool false, .string { data := #[] }, .string { data := #[] }, .string { data := #[] }, .string { data := #[] }, .string { data := #[] }, .slice none 0 0, .slice none 0 0] := Blk.below (by exact bkw) hb (by first | omega | (simp; done) | (simp; omega))
  have c4_0 := k4_0.cell
  have f4_0 := k4_0.frozen
  have l4_0 := k4_0.lt
  have c4_1 := k4_1.cell
  have f4_1 := k4_1.frozen
  have l4_1 := k4_1.lt
  have l4 := hB4.size
  clear hb k3_0 k3_1 c3_0 c3_1 f3_0 f3_1
  go_wp2_with fail
  go_region
  go_wp2_with fail
  refine bodyPost_ret (results_row_tmp Tryz.results99 _ _ w.heap.size #[.int .i64 0, .int .i64 7, .int .i64 2, .int .i64 0, .bool false, .string { data := #[] }, .string X, .string Y, .string { data := #[] }, .string { data := #[] }, .slice none 0 0, .slice none 0 0] (by rfl) (run_loadVar_row _ _ 103 103 _ (0, 0) _ ?_ Tryz.underlying103 rfl (by kernel_rfl))) rfl ⟨rfl, ?_⟩
  · unfold Blk at k4_1
    simp [heap_drew, World.setCell, Array.getElem?_modify, k4_1]
  · exact blw
theorem operation_3 (d1 d2 : List UInt8) (w : World) (hd1 : Digits d1) (hd2 : Digits d2) (a1 : 0 < d1.length) (b1 : d1.length ≤ 12) (a2 : 0 < d2.length) (b2 : d2.length ≤ 12) :
    Calls Tryz.prog 99 #[.string (bs (88 :: (d1 ++ 89 :: (d2 ++ [68, 48, 51]))))] w fun e w' => e = .returned (.tuple #[.agg #[.int .i64 0, .int .i64 7, .int .i64 3, .int .i64 0, .bool false, .string { data := #[] }, .string (bs d1), .string (bs d2), .string { data := #[] }, .string { data := #[] }, .slice none 0 0, .slice none 0 0], .bool true]) ∧ Below w.heap.size w w' := by
  have h1 := fun w => coordinate_yes 88 d1 (89 :: (d2 ++ [68, 48, 51])) w (by simp; omega) hd1 (by intro c h; simp at h; subst h; decide) a1 b1
  have h2 := fun w => coordinate_yes 89 d2 [68, 48, 51] w (by simp; omega) hd2 (by intro c h; simp at h; subst h; decide) a2 b2
  have h3 : ∀ w, Calls Tryz.prog 155 #[.string { data := #[68, 48, 51] }, .string { data := #[73] }] w fun e w' => e = .returned (.tuple #[.string { data := #[] }, .string { data := #[68, 48, 51] }]) ∧ Below w.heap.size w w' := fun w => coordinate_no [68, 48, 51] 73 w (by simp) (by simp)
  have h4 : ∀ w, Calls Tryz.prog 155 #[.string { data := #[68, 48, 51] }, .string { data := #[74] }] w fun e w' => e = .returned (.tuple #[.string { data := #[] }, .string { data := #[68, 48, 51] }]) ∧ Below w.heap.size w w' := fun w => coordinate_no [68, 48, 51] 74 w (by simp) (by simp)
  obtain ⟨S0, e0⟩ : ∃ x, bs (88 :: (d1 ++ 89 :: (d2 ++ [68, 48, 51]))) = x := ⟨_, rfl⟩
  obtain ⟨S1, e1⟩ : ∃ x, bs (89 :: (d2 ++ [68, 48, 51])) = x := ⟨_, rfl⟩
  obtain ⟨X, eX⟩ : ∃ x, bs d1 = x := ⟨_, rfl⟩
  obtain ⟨Y, eY⟩ : ∃ x, bs d2 = x := ⟨_, rfl⟩
  rw [e0, e1, eX] at h1
  rw [e1, eY, show bs [68, 48, 51] = { data := #[68, 48, 51] } from rfl] at h2
  rw [e0, eX, eY]
  have H1 := Lib.hid h1
  have H2 := Lib.hid h2
  have H3 := Lib.hid h3
  have H4 := Lib.hid h4
  clear h1 h2 h3 h4 e0 e1 eX eY hd1 hd2
  go_enter Tryz.func99, Tryz.ntmps99
  go_wp2_with fail
  refine (H1.out _).mono ?_
  rintro e w1 ⟨rfl, hb⟩
  have hB1 : Below w.heap.size w w1 := Below.trans (by exact blw) (hb.mono (by first | omega | (simp; done) | (simp; omega)))
  have k1_0 : Blk w1 (w.heap.size + 1) 103 #[.int .i64 0, .int .i64 7, .int .i64 0, .int .i64 0, .bool false, .string { data := #[] }, .string { data := #[] }, .string { data := #[] }, .string { data := #[] }, .string { data := #[] }, .slice none 0 0, .slice none 0 0] := Blk.below (by exact bkw) hb (by first | omega | (simp; done) | (simp; omega))
  have k1_1 : Blk w1 (w.heap.size) 103 #[.int .i64 0, .int .i64 0, .int .i64 0, .int .i64 0, .bool false, .string { data := #[] }, .string { data := #[] }, .string { data := #[] }, .string { data := #[] }, .string { data := #[] }, .slice none 0 0, .slice none 0 0] := Blk.below (by exact bkw) hb (by first | omega | (simp; done) | (simp; omega))
  have c1_0 := k1_0.cell
  have f1_0 := k1_0.frozen
  have l1_0 := k1_0.lt
  have c1_1 := k1_1.cell
  have f1_1 := k1_1.frozen
  have l1_1 := k1_1.lt
  have l1 := hB1.size
  clear hb
  go_wp2_with fail
  refine (H2.out _).mono ?_
  rintro e w2 ⟨rfl, hb⟩
  have hB2 : Below w.heap.size w w2 := Below.trans (by exact blw) (hb.mono (by first | omega | (simp; done) | (simp; omega)))
  have k2_0 : Blk w2 (w.heap.size + 1) 103 #[.int .i64 0, .int .i64 7, .int .i64 0, .int .i64 0, .bool false, .string { data := #[] }, .string X, .string { data := #[] }, .string { data := #[] }, .string { data := #[] }, .slice none 0 0, .slice none 0 0] := Blk.below (by exact bkw) hb (by first | omega | (simp; done) | (simp; omega))
  have k2_1 : Blk w2 (w.heap.size) 103 #[.int .i64 0, .int .i64 0, .int .i64 0, .int .i64 0, .bool false, .string { data := #[] }, .string { data := #[] }, .string { data := #[] }, .string { data := #[] }, .string { data := #[] }, .slice none 0 0, .slice none 0 0] := Blk.below (by exact bkw) hb (by first | omega | (simp; done) | (simp; omega))
  have c2_0 := k2_0.cell
  have f2_0 := k2_0.frozen
  have l2_0 := k2_0.lt
  have c2_1 := k2_1.cell
  have f2_1 := k2_1.frozen
  have l2_1 := k2_1.lt
  have l2 := hB2.size
  clear hb k1_0 k1_1 c1_0 c1_1 f1_0 f1_1
  go_wp2_with fail
  refine (H3.out _).mono ?_
  rintro e w3 ⟨rfl, hb⟩
  have hB3 : Below w.heap.size w w3 := Below.trans (by exact blw) (hb.mono (by first | omega | (simp; done) | (simp; omega)))
  have k3_0 : Blk w3 (w.heap.size + 1) 103 #[.int .i64 0, .int .i64 7, .int .i64 0, .int .i64 0, .bool false, .string { data := #[] }, .string X, .string Y, .string { data := #[] }, .string { data := #[] }, .slice none 0 0, .slice none 0 0] := Blk.below (by exact bkw) hb (by first | omega | (simp; done) | (simp; omega))
  have k3_1 : Blk w3 (w.heap.size) 103 #[.int .i64 0, .int .i64 0, .int .i64 0, .int .i64 0, .bool false, .string { data := #[] }, .string { data := #[] }, .string { data := #[] }, .string { data := #[] }, .string { data := #[] }, .slice none 0 0, .slice none 0 0] := Blk.below (by exact bkw) hb (by first | omega | (simp; done) | (simp; omega))
  have c3_0 := k3_0.cell
  have f3_0 := k3_0.frozen
  have l3_0 := k3_0.lt
  have c3_1 := k3_1.cell
  have f3_1 := k3_1.frozen
  have l3_1 := k3_1.lt
  have l3 := hB3.size
  clear hb k2_0 k2_1 c2_0 c2_1 f2_0 f2_1
  go_wp2_with fail
  refine (H4.out _).mono ?_
  rintro e w4 ⟨rfl, hb⟩
  have hB4 : Below w.heap.size w w4 := Below.trans (by exact blw) (hb.mono (by first | omega | (simp; done) | (simp; omega)))
  have k4_0 : Blk w4 (w.heap.size + 1) 103 #[.int .i64 0, .int .i64 7, .int .i64 0, .int .i64 0, .bool false, .string { data := #[] }, .string X, .string Y, .string { data := #[] }, .string { data := #[] }, .slice none 0 0, .slice none 0 0] := Blk.below (by exact bkw) hb (by first | omega | (simp; done) | (simp; omega))
  have k4_1 : Blk w4 (w.heap.size) 103 #[.int .i64 0, .int .i64 0, .int .i64 0, .int .i64 0, .bool false, .string { data := #[] }, .string { data := #[] }, .string { data := #[] }, .string { data := #[] }, .string { data := #[] }, .slice none 0 0, .slice none 0 0] := Blk.below (by exact bkw) hb (by first | omega | (simp; done) | (simp; omega))
  have c4_0 := k4_0.cell
  have f4_0 := k4_0.frozen
  have l4_0 := k4_0.lt
  have c4_1 := k4_1.cell
  have f4_1 := k4_1.frozen
  have l4_1 := k4_1.lt
  have l4 := hB4.size
  clear hb k3_0 k3_1 c3_0 c3_1 f3_0 f3_1
  go_wp2_with fail
  go_region
  go_wp2_with fail
  refine bodyPost_ret (results_row_tmp Tryz.results99 _ _ w.heap.size #[.int .i64 0, .int .i64 7, .int .i64 3, .int .i64 0, .bool false, .string { data := #[] }, .string X, .string Y, .string { data := #[] }, .string { data := #[] }, .slice none 0 0, .slice none 0 0] (by rfl) (run_loadVar_row _ _ 103 103 _ (0, 0) _ ?_ Tryz.underlying103 rfl (by kernel_rfl))) rfl ⟨rfl, ?_⟩
  · unfold Blk at k4_1
    simp [heap_drew, World.setCell, Array.getElem?_modify, k4_1]
  · exact blw
end Go.Proofs.YtfajckkbinbpiaaGreatDoor
namespace Go.Proofs.YtfajckkbinbpiaaGreatDoor
set_option maxRecDepth 100000
set_option maxHeartbeats 32000000
set_option linter.unusedVariables false
set_option linter.unusedSimpArgs false
open Go.RowKit
theorem fixed_MOMM (w : World) : Calls Tryz.prog 147 #[.string { data := #[77, 79, 77, 77] }] w fun e w' => e = .returned (.tuple #[.agg #[.int .i64 0, .int .i64 9, .int .i64 1, .int .i64 0, .bool false, .string { data := #[] }, .string { data := #[] }, .string { data := #[] }, .string { data := #[] }, .string { data := #[] }, .slice none 0 0, .slice none 0 0], .bool true]) ∧ Below w.heap.size w w' := by
  go_enter Tryz.func147, Tryz.ntmps147
  go_wp2
  refine bodyPost_ret (results_row_tmp Tryz.results147 _ _ w.heap.size #[.int .i64 0, .int .i64 9, .int .i64 1, .int .i64 0, .bool false, .string { data := #[] }, .string { data := #[] }, .string { data := #[] }, .string { data := #[] }, .string { data := #[] }, .slice none 0 0, .slice none 0 0] (by rfl) (run_loadVar_row _ _ 103 103 _ (0, 0) _ ?_ Tryz.underlying103 rfl (by kernel_rfl))) rfl ⟨rfl, ?_⟩
  · exact Blk.new _ _ _
  · exact blw
theorem fixed_FSLAX24Y24 (w : World) : Calls Tryz.prog 147 #[.string { data := #[70, 83, 76, 65, 88, 50, 52, 89, 50, 52] }] w fun e w' => e = .returned (.tuple #[.agg #[.int .i64 0, .int .i64 0, .int .i64 0, .int .i64 0, .bool false, .string { data := #[] }, .string { data := #[] }, .string { data := #[] }, .string { data := #[] }, .string { data := #[] }, .slice none 0 0, .slice none 0 0], .bool false]) ∧ Below w.heap.size w w' := by
  go_enter Tryz.func147, Tryz.ntmps147
  go_wp2
  refine bodyPost_ret (results_row_tmp Tryz.results147 _ _ w.heap.size #[.int .i64 0, .int .i64 0, .int .i64 0, .int .i64 0, .bool false, .string { data := #[] }, .string { data := #[] }, .string { data := #[] }, .string { data := #[] }, .string { data := #[] }, .slice none 0 0, .slice none 0 0] (by rfl) (run_loadVar_row _ _ 103 103 _ (0, 0) _ ?_ Tryz.underlying103 rfl (by kernel_rfl))) rfl ⟨rfl, ?_⟩
  · exact Blk.new _ _ _
  · exact blw
theorem fixed_ADD10R_4X4 (w : World) : Calls Tryz.prog 147 #[.string { data := #[65, 68, 68, 49, 48, 82, 44, 52, 88, 52] }] w fun e w' => e = .returned (.tuple #[.agg #[.int .i64 0, .int .i64 0, .int .i64 0, .int .i64 0, .bool false, .string { data := #[] }, .string { data := #[] }, .string { data := #[] }, .string { data := #[] }, .string { data := #[] }, .slice none 0 0, .slice none 0 0], .bool false]) ∧ Below w.heap.size w w' := by
  go_enter Tryz.func147, Tryz.ntmps147
  go_wp2
  refine bodyPost_ret (results_row_tmp Tryz.results147 _ _ w.heap.size #[.int .i64 0, .int .i64 0, .int .i64 0, .int .i64 0, .bool false, .string { data := #[] }, .string { data := #[] }, .string { data := #[] }, .string { data := #[] }, .string { data := #[] }, .slice none 0 0, .slice none 0 0] (by rfl) (run_loadVar_row _ _ 103 103 _ (0, 0) _ ?_ Tryz.underlying103 rfl (by kernel_rfl))) rfl ⟨rfl, ?_⟩
  · exact Blk.new _ _ _
  · exact blw
theorem heap_drewN (w : World) (n : Nat) : (w.drewN n).heap = w.heap := rfl
theorem digits_two : ∀ w, Calls Tryz.prog 195 #[.string { data := #[50, 52, 89, 50, 52] }] w fun e w' => e = .returned (.int .i64 2) ∧ w' = w := fun w => (digits_c [50, 52] [89, 50, 52] w (by decide) (by intro c h; simp at h; rcases h with rfl | rfl <;> decide) (by intro c h; simp at h; subst h; decide)).mono fun e w' h => ⟨h.1, h.2.symm⟩
theorem format_c (w : World) : Calls Tryz.prog 148 #[.string { data := #[76, 65, 88, 50, 52, 89, 50, 52] }] w fun e w' => e = .returned (.tuple #[.agg #[.int .i64 0, .int .i64 8, .int .i64 2, .int .i64 4, .bool false, .string { data := #[] }, .string { data := #[] }, .string { data := #[] }, .string { data := #[] }, .string { data := #[] }, .slice none 0 0, .slice none 0 0], .bool true]) ∧ Below w.heap.size w w' := by
  obtain ⟨T, eT, zT, iT0, iT1, iT2, iT3, iT4, iT5, iT6, iT7, xT1_3, xT3_8, xT6_8, xT3_5⟩ : ∃ T : ByteArray, { data := #[76, 65, 88, 50, 52, 89, 50, 52] } = T ∧ T.size = 8 ∧ (∀ h : 0 < T.size, (T[0]'h).toNat = 76) ∧ (∀ h : 1 < T.size, (T[1]'h).toNat = 65) ∧ (∀ h : 2 < T.size, (T[2]'h).toNat = 88) ∧ (∀ h : 3 < T.size, (T[3]'h).toNat = 50) ∧ (∀ h : 4 < T.size, (T[4]'h).toNat = 52) ∧ (∀ h : 5 < T.size, (T[5]'h).toNat = 89) ∧ (∀ h : 6 < T.size, (T[6]'h).toNat = 50) ∧ (∀ h : 7 < T.size, (T[7]'h).toNat = 52) ∧ T.extract 1 3 = { data := #[65, 88] } ∧ T.extract 3 8 = { data := #[50, 52, 89, 50, 52] } ∧ T.extract 6 8 = { data := #[50, 52] } ∧ T.extract 3 5 = { data := #[50, 52] } := ⟨_, rfl, rfl, fun _ => rfl, fun _ => rfl, fun _ => rfl, fun _ => rfl, fun _ => rfl, fun _ => rfl, fun _ => rfl, fun _ => rfl, rfl, rfl, rfl, rfl⟩
  rw [eT]
  clear eT
  go_enter Tryz.func148, Tryz.ntmps148
  go_wp2_with fail
  go_quiet ((go_at_call 195; exact Calls.quiet_of_same (digits_two _)))
  go_wp2_with fail
  go_region
  go_wp2_with fail
  refine bodyPost_ret (results_row_tmp Tryz.results148 _ _ w.heap.size #[.int .i64 0, .int .i64 8, .int .i64 2, .int .i64 4, .bool false, .string { data := #[] }, .string { data := #[] }, .string { data := #[] }, .string { data := #[] }, .string { data := #[] }, .slice none 0 0, .slice none 0 0] (by rfl) (run_loadVar_row _ _ 103 103 _ (0, 0) _ ?_ Tryz.underlying103 rfl (by kernel_rfl))) rfl ⟨rfl, ?_⟩
  · first | (with_reducible exact Blk.new _ _ _) | (with_reducible exact heap_alloc_new _ _) | ((try simp only [World.setCell]); (try simp only [heap_drew]); (try simp only [heap_drewN]); (try simp only [Array.getElem?_modify, if_true]); (try simp only [heap_drew]); (try simp only [heap_drewN]); rw [heap_alloc_new]; rfl)
  · exact blw
theorem name_C (w : World) : Calls Tryz.prog 95 #[.string { data := #[67] }] w fun e w' => e = .returned (.bool true) ∧ w = w' := by
  obtain ⟨T, eT, zT, iT0⟩ : ∃ T : ByteArray, { data := #[67] } = T ∧ T.size = 1 ∧ (∀ h : 0 < T.size, (T[0]'h).toNat = 67) := ⟨_, rfl, rfl, fun _ => rfl⟩
  rw [eT]
  clear eT
  go_enter Tryz.func95, Tryz.ntmps95
  go_wp2_with fail
  refine wp_loop_rounds 2 ?_
  iterate 2 (rw [rounds_succ]; go_wp2_with fail)
  go_ret
  exact ⟨rfl, rfl⟩
theorem name_R (w : World) : Calls Tryz.prog 95 #[.string { data := #[82] }] w fun e w' => e = .returned (.bool true) ∧ w = w' := by
  obtain ⟨T, eT, zT, iT0⟩ : ∃ T : ByteArray, { data := #[82] } = T ∧ T.size = 1 ∧ (∀ h : 0 < T.size, (T[0]'h).toNat = 82) := ⟨_, rfl, rfl, fun _ => rfl⟩
  rw [eT]
  clear eT
  go_enter Tryz.func95, Tryz.ntmps95
  go_wp2_with fail
  refine wp_loop_rounds 2 ?_
  iterate 2 (rw [rounds_succ]; go_wp2_with fail)
  go_ret
  exact ⟨rfl, rfl⟩
section
variable {w w' : World} {g : Nat} {t : TypeId} {cs : Array Value}
theorem Blk.grown {row : Option Nat} (h : Blk w g t cs) (hb : w.grownBy w' row) (hg : some g ≠ row) : Blk w' g t cs := (hb.block g h.lt hg).trans h
theorem Blk.ne_ {g' : Nat} {t' : TypeId} {cs' : Array Value} (h : Blk w g t cs) (h' : Blk w g' t' cs') (hne : t ≠ t') : g ≠ g' := by
  rintro rfl
  unfold Blk at h h'
  rw [h] at h'
  injection h' with h'
  injection h' with _ ht
  exact hne ht
theorem own_blk_ne {base : Nat} {e : TypeId} {size n : Nat} {v : Value} {xs : List Value} (h : w.ownsRow base e size v n xs) (hg : Blk w g t cs) (hne : e ≠ t) : v.ownBlock ≠ some g := by
  rcases h.2 with ⟨rfl, _⟩ | ⟨g', cap, cur, rfl, _, hh, _⟩
  · simp [Value.ownBlock]
  · intro he
    have : g' = g := by simpa [Value.ownBlock] using he
    subst this
    exact Blk.ne_ (t := e) hh hg hne rfl
theorem own_own_ne {b1 b2 : Nat} {e1 e2 : TypeId} {s1 s2 n1 n2 : Nat} {v1 v2 : Value} {xs1 xs2 : List Value} (h : w.ownsRow b1 e1 s1 v1 n1 xs1) (h' : w.ownsRow b2 e2 s2 v2 n2 xs2) (hne : e1 ≠ e2) : v1.ownBlock = none ∨ v1.ownBlock ≠ v2.ownBlock := by
  rcases h'.2 with ⟨rfl, _⟩ | ⟨g', cap, cur, rfl, _, hh, _⟩
  · rcases h.2 with ⟨rfl, _⟩ | ⟨g'', cap, cur, rfl, _⟩
    · left; rfl
    · right; simp [Value.ownBlock]
  · right; exact own_blk_ne h (show Blk w g' e2 cur from hh) hne
theorem own_far {base : Nat} {e : TypeId} {size n : Nat} {v : Value} {xs : List Value} (h : w.ownsRow base e size v n xs) {p : Addr} (hp : v.ownBlock ≠ some p.block) (u : Value) : (w.setCell p u).ownsRow base e size v n xs := by
  refine ⟨h.1, ?_⟩
  rcases h.2 with h0 | ⟨g', cap, cur, rfl, hb, hh, hr⟩
  · exact .inl h0
  · refine .inr ⟨g', cap, cur, rfl, hb, (Below.heap_setCell w p u g' ?_).trans hh, hr⟩
    intro he; exact hp (by simp [Value.ownBlock, he])
theorem own_below {base : Nat} {e : TypeId} {size n : Nat} {v : Value} {xs : List Value} (h : w.ownsRow base e size v n xs) {B : Nat} (hb : Below B w w') (hB : w.heap.size ≤ B) : w'.ownsRow base e size v n xs := by
  refine ⟨h.1, ?_⟩
  rcases h.2 with h0 | ⟨g', cap, cur, rfl, hbb, hh, hr⟩
  · exact .inl h0
  · have hlt : g' < w.heap.size := (h.lt g' rfl).2
    exact .inr ⟨g', cap, cur, rfl, hbb, (hb.block g' (by omega)).trans hh, hr⟩
end
theorem info28 : (Tryz.prog.info? 146).map (fun i => (i.zero, i.size, i.bytes)) = some (some (.agg #[.int .i64 0, .bool false, .bool false, .string ByteArray.empty]), 4, 32) := by kernel_rfl
theorem info5 : (Tryz.prog.info? 5).map (fun i => (i.zero, i.size, i.bytes)) = some (some (.int .u8 0), 1, 1) := by kernel_rfl
structure RdAt (w : World) (B g : Nat) (wv tv : Value) (r : Rd) : Prop where
  blk : Blk w g 203 #[wv, tv, .int .i64 (r.at_ : Int), .bool r.group, .int .i64 (r.inner : Int)]
  ws : w.ownsRow B 146 4 wv r.words.length (wcells r.words)
  ts : w.ownsRow B 5 1 tv r.text.length (tcells r.text)
  le : B ≤ g
def RdIs (w : World) (B g : Nat) (r : Rd) : Prop := ∃ wv tv, RdAt w B g wv tv r
theorem conv_text {w : World} {B cap g : Nat} {l : List UInt8} (h : w.ownsRow B 5 1 (.slice (some ⟨g, 0, none⟩) l.length cap) l.length (tcells l)) :
    (convert 35 9 (.slice (some ⟨g, 0, none⟩) l.length cap)).run Tryz.prog w = .ok (.string (bs l)) w := by
  have hb : Lib.Bytes w g 0 (bs l) := by
    intro i hi
    have hi' : i < l.length := by simpa [bs, ByteArray.size] using hi
    have := h.cellAt i (by omega)
    rw [Nat.zero_add, this]
    simp [tcells, bs, hi']
    rfl
  have hs : (bs l).size = l.length := by simp [bs, ByteArray.size]
  have := Lib.run_convert_whole (P := Tryz.prog) w 35 5 9 Tryz.underlying35 Tryz.underlying5 Tryz.underlying9 g 0 (bs l) hb cap
  rw [hs] at this
  exact this
theorem info2 : (Tryz.prog.info? 2).map (fun i => (i.zero, i.size, i.bytes)) = some (some (.int .i64 0), 1, 8) := by kernel_rfl
def Nums (w : World) (B : Nat) (v : Value) (l : List Int) : Prop := w.ownsRow B 2 1 v l.length (l.map fun x => .int .i64 x)
end Go.Proofs.YtfajckkbinbpiaaGreatDoor
