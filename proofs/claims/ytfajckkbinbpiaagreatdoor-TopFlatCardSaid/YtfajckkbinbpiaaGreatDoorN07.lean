/- Walks: coordinates and operations. -/
import Derived.Laws.ResultCell
import Derived.Test.YtfajckkbinbpiaaGreatDoorN06
namespace Go.Proofs.YtfajckkbinbpiaaGreatDoor
set_option maxRecDepth 100000
set_option maxHeartbeats 32000000
set_option linter.unusedVariables false
set_option linter.unusedSimpArgs false
open Go.RowKit
set_option maxRecDepth 100000 in
set_option maxHeartbeats 1000000 in
/-- A coordinate that is not there. -/
theorem coordinate_no (l : List UInt8) (c : UInt8) (w : World) (hl : l.length ≤ 1000000) (h : l.head? ≠ some c) :
    Calls Tryz.prog 155 #[.string (bs l), .string (bs [c])] w fun e w' => e = .returned (.tuple #[.string (bs []), .string (bs l)]) ∧ Below w.heap.size w w' := by
  have hg := fun w => cutP_no l [c] w hl (by simp) (by
    intro e
    cases l with
    | nil => simp at e
    | cons a l => simp at e; subst e; exact h rfl)
  obtain ⟨S, eS⟩ : ∃ x, bs l = x := ⟨_, rfl⟩
  obtain ⟨T, eT⟩ : ∃ x, bs [c] = x := ⟨_, rfl⟩
  rw [eS, eT] at hg ⊢
  have HG := Lib.hid hg
  clear hg h eS eT
  go_enter Tryz.func155, Tryz.ntmps155
  go_wp2_with (go_at_call 93; refine (HG.out _).mono ?_; rintro e w' ⟨rfl, rfl⟩)
  go_ret2
  exact ⟨rfl, by (repeat' (first | (with_reducible exact Below.refl _ _) | (with_reducible assumption) | (with_reducible refine below_drewN ?_ _) | (with_reducible refine Below.drew ?_) | (with_reducible refine Below.alloc ?_ ?_ _) | (with_reducible refine Below.setCell ?_ ?_ _) | omega | (simp; done) | (simp; omega)))⟩
set_option maxRecDepth 100000 in
set_option maxHeartbeats 1000000 in
/-- A coordinate that is there. -/
theorem coordinate_yes (c : UInt8) (d r : List UInt8) (w : World) (hl : (d ++ r).length ≤ 100000) (hd : Digits d) (hr : NoDigit r) (h1 : 0 < d.length) (h12 : d.length ≤ 12) :
    Calls Tryz.prog 155 #[.string (bs (c :: (d ++ r))), .string (bs [c])] w fun e w' => e = .returned (.tuple #[.string (bs d), .string (bs r)]) ∧ Below w.heap.size w w' := by
  have hg := fun w => cutP_yes [c] (d ++ r) w (by simp at hl ⊢; omega)
  have hdg := fun w => digits_c d r w (by omega) hd hr
  have hlen : 0 < (d ++ r).length := by rw [List.length_append]; omega
  have hh : (d ++ r).head? = some d[0] := by
    rw [List.head?_eq_getElem?, at_front d r 0 h1]
  have hne : (bs (d ++ r)).toList.isEmpty = false := by
    rw [bs_toList]
    cases hx : d ++ r with
    | nil => rw [hx] at hlen; simp at hlen
    | cons a l => rfl
  obtain ⟨c0, hc0, hx0⟩ : ∃ c0 : Nat, (48 ≤ c0 ∧ c0 ≤ 57) ∧ ∀ h : 0 < (bs (d ++ r)).size, ((bs (d ++ r))[0]'h).toNat = c0 := ⟨d[0].toNat, digits_get hd 0 h1, fun h => bs_head (d ++ r) d[0] hh h⟩
  have p1 : ((c0 : Int) == 43) = false := by simp; omega
  have p2 : ((c0 : Int) == 45) = false := by simp; omega
  have x0 : (bs (d ++ r)).extract 0 (d ++ r).length = bs (d ++ r) := by rw [bs_take, List.take_length]
  have x1 : (bs (d ++ r)).extract 0 d.length = bs d := by rw [bs_take]; simp
  have x2 : (bs (d ++ r)).extract d.length (d ++ r).length = bs r := by rw [bs_drop]; simp
  have eL : (d ++ r).length = d.length + r.length := List.length_append
  rw [eL] at hlen x0 x2
  obtain ⟨M, eM⟩ : ∃ M, d.length = M := ⟨_, rfl⟩
  obtain ⟨K, eK⟩ : ∃ M, r.length = M := ⟨_, rfl⟩
  have hsz : (bs (d ++ r)).size = M + K := by rw [bs_size, eL, eM, eK]
  obtain ⟨S, eS⟩ : ∃ x, bs (d ++ r) = x := ⟨_, rfl⟩
  obtain ⟨U, eU⟩ : ∃ x, bs d = x := ⟨_, rfl⟩
  obtain ⟨V, eV⟩ : ∃ x, bs r = x := ⟨_, rfl⟩
  obtain ⟨T, eT⟩ : ∃ x, bs [c] = x := ⟨_, rfl⟩
  obtain ⟨R, eR⟩ : ∃ x, bs ([c] ++ (d ++ r)) = x := ⟨_, rfl⟩
  have eR' : bs (c :: (d ++ r)) = R := eR
  rw [eR, eT, eS] at hg
  rw [eR', eT, eU, eV]
  rw [eS] at hdg hne hx0 hsz x0 x1 x2
  rw [eM] at h1 h12 hlen x0 x1 x2 hdg
  rw [eK] at hlen x0 x2
  rw [eU] at x1
  rw [eV] at x2
  have HG := Lib.hid hg
  have HDG := Lib.hid hdg
  have q1 : decide ((M : Int) < 1) = false := by simp; omega
  have q2 : decide (12 < (M : Int)) = false := by simp; omega
  have q3 : M ≤ M + K := by omega
  have q4 : M ≤ 1000000 := by omega
  clear hg hdg hd hr hl hh eL eM eK eS eU eV eT eR eR'
  go_enter Tryz.func155, Tryz.ntmps155
  go_wp2_with (first | (go_at_call 93; refine (HG.out _).mono ?_; rintro e w' ⟨rfl, rfl⟩) | (go_at_call 195; refine (HDG.out _).mono ?_; rintro e w' ⟨rfl, rfl⟩))
  have v1 : IntKind.i64.wrap (M : Int) = (M : Int) := by rw [IntKind.wrap_i64]; omega
  go_quiet (fail)
  go_wp2_with fail
  go_ret2
  exact ⟨rfl, by (repeat' (first | (with_reducible exact Below.refl _ _) | (with_reducible assumption) | (with_reducible refine below_drewN ?_ _) | (with_reducible refine Below.drew ?_) | (with_reducible refine Below.alloc ?_ ?_ _) | (with_reducible refine Below.setCell ?_ ?_ _) | omega | (simp; done) | (simp; omega)))⟩
theorem operation_2 (d1 d2 : List UInt8) (w : World) (hd1 : Digits d1) (hd2 : Digits d2) (a1 : 0 < d1.length) (b1 : d1.length ≤ 12) (a2 : 0 < d2.length) (b2 : d2.length ≤ 12) :
    Calls Tryz.prog 99 #[.string (bs (88 :: (d1 ++ 89 :: (d2 ++ [68, 48, 50]))))] w fun e w' => e = .returned (.tuple #[.agg #[.int .i64 0, .int .i64 7, .int .i64 2, .int .i64 0, .bool false, .string { data := #[] }, .string (bs d1), .string (bs d2), .string { data := #[] }, .string { data := #[] }, .slice none 0 0, .slice none 0 0], .bool true]) ∧ Below w.heap.size w w' := by
  have h1 := fun w => coordinate_yes 88 d1 (89 :: (d2 ++ [68, 48, 50])) w (by simp; omega) hd1 (by intro c h; simp at h; subst h; decide) a1 b1
  have h2 := fun w => coordinate_yes 89 d2 [68, 48, 50] w (by simp; omega) hd2 (by intro c h; simp at h; subst h; decide) a2 b2
  have h3 : ∀ w, Calls Tryz.prog 155 #[.string { data := #[68, 48, 50] }, .string { data := #[73] }] w fun e w' => e = .returned (.tuple #[.string { data := #[] }, .string { data := #[68, 48, 50] }]) ∧ Below w.heap.size w w' := fun w => coordinate_no [68, 48, 50] 73 w (by simp) (by simp)
  have h4 : ∀ w, Calls Tryz.prog 155 #[.string { data := #[68, 48, 50] }, .string { data := #[74] }] w fun e w' => e = .returned (.tuple #[.string { data := #[] }, .string { data := #[68, 48, 50] }]) ∧ Below w.heap.size w w' := fun w => coordinate_no [68, 48, 50] 74 w (by simp) (by simp)
  obtain ⟨S0, e0⟩ : ∃ x, bs (88 :: (d1 ++ 89 :: (d2 ++ [68, 48, 50]))) = x := ⟨_, rfl⟩
  obtain ⟨S1, e1⟩ : ∃ x, bs (89 :: (d2 ++ [68, 48, 50])) = x := ⟨_, rfl⟩
  obtain ⟨X, eX⟩ : ∃ x, bs d1 = x := ⟨_, rfl⟩
  obtain ⟨Y, eY⟩ : ∃ x, bs d2 = x := ⟨_, rfl⟩
  rw [e0, e1, eX] at h1
  rw [e1, eY, show bs [68, 48, 50] = { data := #[68, 48, 50] } from rfl] at h2
  rw [e0, eX, eY]
  have H1 := Lib.hid h1
  have H2 := Lib.hid h2
  have H3 := Lib.hid h3
  have H4 := Lib.hid h4
  clear h1 h2 h3 h4 e0 e1 eX eY hd1 hd2
  go_enter Tryz.func99, Tryz.ntmps99
  go_wp2_with fail
  refine (H1.out _).mono ?_
  rintro e w1 ⟨rfl, hb⟩
  have hB1 : Below w.heap.size w w1 := Below.trans (by exact blw) (hb.mono (by first | omega | (simp; done) | (simp; omega)))
  have k1_0 : Blk w1 (w.heap.size + 1) 103 #[.int .i64 0, .int .i64 7, .int .i64 0, .int .i64 0, .bool false, .string { data := #[] }, .string { data := #[] }, .string { data := #[] }, .string { data := #[] }, .string { data := #[] }, .slice none 0 0, .slice none 0 0] := Blk.below (by exact bkw) hb (by first | omega | (simp; done) | (simp; omega))
  have k1_1 : Blk w1 (w.heap.size) 103 #[.int .i64 0, .int .i64 0, .int .i64 0, .int .i64 0, .bool false, .string { data := #[] }, .string { data := #[] }, .string { data := #[] }, .string { data := #[] }, .string { data := #[] }, .slice none 0 0, .slice none 0 0] := Blk.below (by exact bkw) hb (by first | omega | (simp; done) | (simp; omega))
  have c1_0 := k1_0.cell
  have f1_0 := k1_0.frozen
  have l1_0 := k1_0.lt
  have c1_1 := k1_1.cell
  have f1_1 := k1_1.frozen
  have l1_1 := k1_1.lt
  have l1 := hB1.size
  clear hb
  go_wp2_with fail
  refine (H2.out _).mono ?_
  rintro e w2 ⟨rfl, hb⟩
  have hB2 : Below w.heap.size w w2 := Below.trans (by exact blw) (hb.mono (by first | omega | (simp; done) | (simp; omega)))
  have k2_0 : Blk w2 (w.heap.size + 1) 103 #[.int .i64 0, .int .i64 7, .int .i64 0, .int .i64 0, .bool false, .string { data := #[] }, .string X, .string { data := #[] }, .string { data := #[] }, .string { data := #[] }, .slice none 0 0, .slice none 0 0] := Blk.below (by exact bkw) hb (by first | omega | (simp; done) | (simp; omega))
  have k2_1 : Blk w2 (w.heap.size) 103 #[.int .i64 0, .int .i64 0, .int .i64 0, .int .i64 0, .bool false, .string { data := #[] }, .string { data := #[] }, .string { data := #[] }, .string { data := #[] }, .string { data := #[] }, .slice none 0 0, .slice none 0 0] := Blk.below (by exact bkw) hb (by first | omega | (simp; done) | (simp; omega))
  have c2_0 := k2_0.cell
  have f2_0 := k2_0.frozen
  have l2_0 := k2_0.lt
  have c2_1 := k2_1.cell
  have f2_1 := k2_1.frozen
  have l2_1 := k2_1.lt
  have l2 := hB2.size
  clear hb k1_0 k1_1 c1_0 c1_1 f1_0 f1_1
  go_wp2_with fail
  refine (H3.out _).mono ?_
  rintro e w3 ⟨rfl, hb⟩
  have hB3 : Below w.heap.size w w3 := Below.trans (by exact blw) (hb.mono (by first | omega | (simp; done) | (simp; omega)))
  have k3_0 : Blk w3 (w.heap.size + 1) 103 #[.int .i64 0, .int .i64 7, .int .i64 0, .int .i64 0, .bool false, .string { data := #[] }, .string X, .string Y, .string { data := #[] }, .string { data := #[] }, .slice none 0 0, .slice none 0 0] := Blk.below (by exact bkw) hb (by first | omega | (simp; done) | (simp; omega))
  have k3_1 : Blk w3 (w.heap.size) 103 #[.int .i64 0, .int .i64 0, .int .i64 0, .int .i64 0, .bool false, .string { data := #[] }, .string { data := #[] }, .string { data := #[] }, .string { data := #[] }, .string { data := #[] }, .slice none 0 0, .slice none 0 0] := Blk.below (by exact bkw) hb (by first | omega | (simp; done) | (simp; omega))
  have c3_0 := k3_0.cell
  have f3_0 := k3_0.frozen
  have l3_0 := k3_0.lt
  have c3_1 := k3_1.cell
  have f3_1 := k3_1.frozen
  have l3_1 := k3_1.lt
  have l3 := hB3.size
  clear hb k2_0 k2_1 c2_0 c2_1 f2_0 f2_1
  go_wp2_with fail
  refine (H4.out _).mono ?_
  rintro e w4 ⟨rfl, hb⟩
  have hB4 : Below w.heap.size w w4 := Below.trans (by exact blw) (hb.mono (by first | omega | (simp; done) | (simp; omega)))
  have k4_0 : Blk w4 (w.heap.size + 1) 103 #[.int .i64 0, .int .i64 7, .int .i64 0, .int .i64 0, .bool false, .string { data := #[] }, .string X, .string Y, .string { data := #[] }, .string { data := #[] }, .slice none 0 0, .slice none 0 0] := Blk.below (by exact bkw) hb (by first | omega | (simp; done) | (simp; omega))
  have k4_1 : Blk w4 (w.heap.size) 103 #[.int .i64 0, .int .i64 0, .int .i64 0, .int .i64 0, .bool false, .string { data := #[] }, .string { data := #[] }, .string { data := #[] }, .string { data := #[] }, .string { data := #[] }, .slice none 0 0, .slice none 0 0] := Blk.below (by exact bkw) hb (by first | omega | (simp; done) | (simp; omega))
  have c4_0 := k4_0.cell
  have f4_0 := k4_0.frozen
  have l4_0 := k4_0.lt
  have c4_1 := k4_1.cell
  have f4_1 := k4_1.frozen
  have l4_1 := k4_1.lt
  have l4 := hB4.size
  clear hb k3_0 k3_1 c3_0 c3_1 f3_0 f3_1
  go_wp2_with fail
  go_region
  go_wp2_with fail
  refine bodyPost_ret (results_row_tmp Tryz.results99 _ _ w.heap.size #[.int .i64 0, .int .i64 7, .int .i64 2, .int .i64 0, .bool false, .string { data := #[] }, .string X, .string Y, .string { data := #[] }, .string { data := #[] }, .slice none 0 0, .slice none 0 0] (by rfl) (run_loadVar_row _ _ 103 103 _ (0, 0) _ ?_ Tryz.underlying103 rfl (by kernel_rfl))) rfl ⟨rfl, ?_⟩
  · unfold Blk at k4_1
    simp [heap_drew, World.setCell, Array.getElem?_modify, k4_1]
  · exact blw
theorem operation_3 (d1 d2 : List UInt8) (w : World) (hd1 : Digits d1) (hd2 : Digits d2) (a1 : 0 < d1.length) (b1 : d1.length ≤ 12) (a2 : 0 < d2.length) (b2 : d2.length ≤ 12) :
    Calls Tryz.prog 99 #[.string (bs (88 :: (d1 ++ 89 :: (d2 ++ [68, 48, 51]))))] w fun e w' => e = .returned (.tuple #[.agg #[.int .i64 0, .int .i64 7, .int .i64 3, .int .i64 0, .bool false, .string { data := #[] }, .string (bs d1), .string (bs d2), .string { data := #[] }, .string { data := #[] }, .slice none 0 0, .slice none 0 0], .bool true]) ∧ Below w.heap.size w w' := by
  have h1 := fun w => coordinate_yes 88 d1 (89 :: (d2 ++ [68, 48, 51])) w (by simp; omega) hd1 (by intro c h; simp at h; subst h; decide) a1 b1
  have h2 := fun w => coordinate_yes 89 d2 [68, 48, 51] w (by simp; omega) hd2 (by intro c h; simp at h; subst h; decide) a2 b2
  have h3 : ∀ w, Calls Tryz.prog 155 #[.string { data := #[68, 48, 51] }, .string { data := #[73] }] w fun e w' => e = .returned (.tuple #[.string { data := #[] }, .string { data := #[68, 48, 51] }]) ∧ Below w.heap.size w w' := fun w => coordinate_no [68, 48, 51] 73 w (by simp) (by simp)
  have h4 : ∀ w, Calls Tryz.prog 155 #[.string { data := #[68, 48, 51] }, .string { data := #[74] }] w fun e w' => e = .returned (.tuple #[.string { data := #[] }, .string { data := #[68, 48, 51] }]) ∧ Below w.heap.size w w' := fun w => coordinate_no [68, 48, 51] 74 w (by simp) (by simp)
  obtain ⟨S0, e0⟩ : ∃ x, bs (88 :: (d1 ++ 89 :: (d2 ++ [68, 48, 51]))) = x := ⟨_, rfl⟩
  obtain ⟨S1, e1⟩ : ∃ x, bs (89 :: (d2 ++ [68, 48, 51])) = x := ⟨_, rfl⟩
  obtain ⟨X, eX⟩ : ∃ x, bs d1 = x := ⟨_, rfl⟩
  obtain ⟨Y, eY⟩ : ∃ x, bs d2 = x := ⟨_, rfl⟩
  rw [e0, e1, eX] at h1
  rw [e1, eY, show bs [68, 48, 51] = { data := #[68, 48, 51] } from rfl] at h2
  rw [e0, eX, eY]
  have H1 := Lib.hid h1
  have H2 := Lib.hid h2
  have H3 := Lib.hid h3
  have H4 := Lib.hid h4
  clear h1 h2 h3 h4 e0 e1 eX eY hd1 hd2
  go_enter Tryz.func99, Tryz.ntmps99
  go_wp2_with fail
  refine (H1.out _).mono ?_
  rintro e w1 ⟨rfl, hb⟩
  have hB1 : Below w.heap.size w w1 := Below.trans (by exact blw) (hb.mono (by first | omega | (simp; done) | (simp; omega)))
  have k1_0 : Blk w1 (w.heap.size + 1) 103 #[.int .i64 0, .int .i64 7, .int .i64 0, .int .i64 0, .bool false, .string { data := #[] }, .string { data := #[] }, .string { data := #[] }, .string { data := #[] }, .string { data := #[] }, .slice none 0 0, .slice none 0 0] := Blk.below (by exact bkw) hb (by first | omega | (simp; done) | (simp; omega))
  have k1_1 : Blk w1 (w.heap.size) 103 #[.int .i64 0, .int .i64 0, .int .i64 0, .int .i64 0, .bool false, .string { data := #[] }, .string { data := #[] }, .string { data := #[] }, .string { data := #[] }, .string { data := #[] }, .slice none 0 0, .slice none 0 0] := Blk.below (by exact bkw) hb (by first | omega | (simp; done) | (simp; omega))
  have c1_0 := k1_0.cell
  have f1_0 := k1_0.frozen
  have l1_0 := k1_0.lt
  have c1_1 := k1_1.cell
  have f1_1 := k1_1.frozen
  have l1_1 := k1_1.lt
  have l1 := hB1.size
  clear hb
  go_wp2_with fail
  refine (H2.out _).mono ?_
  rintro e w2 ⟨rfl, hb⟩
  have hB2 : Below w.heap.size w w2 := Below.trans (by exact blw) (hb.mono (by first | omega | (simp; done) | (simp; omega)))
  have k2_0 : Blk w2 (w.heap.size + 1) 103 #[.int .i64 0, .int .i64 7, .int .i64 0, .int .i64 0, .bool false, .string { data := #[] }, .string X, .string { data := #[] }, .string { data := #[] }, .string { data := #[] }, .slice none 0 0, .slice none 0 0] := Blk.below (by exact bkw) hb (by first | omega | (simp; done) | (simp; omega))
  have k2_1 : Blk w2 (w.heap.size) 103 #[.int .i64 0, .int .i64 0, .int .i64 0, .int .i64 0, .bool false, .string { data := #[] }, .string { data := #[] }, .string { data := #[] }, .string { data := #[] }, .string { data := #[] }, .slice none 0 0, .slice none 0 0] := Blk.below (by exact bkw) hb (by first | omega | (simp; done) | (simp; omega))
  have c2_0 := k2_0.cell
  have f2_0 := k2_0.frozen
  have l2_0 := k2_0.lt
  have c2_1 := k2_1.cell
  have f2_1 := k2_1.frozen
  have l2_1 := k2_1.lt
  have l2 := hB2.size
  clear hb k1_0 k1_1 c1_0 c1_1 f1_0 f1_1
  go_wp2_with fail
  refine (H3.out _).mono ?_
  rintro e w3 ⟨rfl, hb⟩
  have hB3 : Below w.heap.size w w3 := Below.trans (by exact blw) (hb.mono (by first | omega | (simp; done) | (simp; omega)))
  have k3_0 : Blk w3 (w.heap.size + 1) 103 #[.int .i64 0, .int .i64 7, .int .i64 0, .int .i64 0, .bool false, .string { data := #[] }, .string X, .string Y, .string { data := #[] }, .string { data := #[] }, .slice none 0 0, .slice none 0 0] := Blk.below (by exact bkw) hb (by first | omega | (simp; done) | (simp; omega))
  have k3_1 : Blk w3 (w.heap.size) 103 #[.int .i64 0, .int .i64 0, .int .i64 0, .int .i64 0, .bool false, .string { data := #[] }, .string { data := #[] }, .string { data := #[] }, .string { data := #[] }, .string { data := #[] }, .slice none 0 0, .slice none 0 0] := Blk.below (by exact bkw) hb (by first | omega | (simp; done) | (simp; omega))
  have c3_0 := k3_0.cell
  have f3_0 := k3_0.frozen
  have l3_0 := k3_0.lt
  have c3_1 := k3_1.cell
  have f3_1 := k3_1.frozen
  have l3_1 := k3_1.lt
  have l3 := hB3.size
  clear hb k2_0 k2_1 c2_0 c2_1 f2_0 f2_1
  go_wp2_with fail
  refine (H4.out _).mono ?_
  rintro e w4 ⟨rfl, hb⟩
  have hB4 : Below w.heap.size w w4 := Below.trans (by exact blw) (hb.mono (by first | omega | (simp; done) | (simp; omega)))
  have k4_0 : Blk w4 (w.heap.size + 1) 103 #[.int .i64 0, .int .i64 7, .int .i64 0, .int .i64 0, .bool false, .string { data := #[] }, .string X, .string Y, .string { data := #[] }, .string { data := #[] }, .slice none 0 0, .slice none 0 0] := Blk.below (by exact bkw) hb (by first | omega | (simp; done) | (simp; omega))
  have k4_1 : Blk w4 (w.heap.size) 103 #[.int .i64 0, .int .i64 0, .int .i64 0, .int .i64 0, .bool false, .string { data := #[] }, .string { data := #[] }, .string { data := #[] }, .string { data := #[] }, .string { data := #[] }, .slice none 0 0, .slice none 0 0] := Blk.below (by exact bkw) hb (by first | omega | (simp; done) | (simp; omega))
  have c4_0 := k4_0.cell
  have f4_0 := k4_0.frozen
  have l4_0 := k4_0.lt
  have c4_1 := k4_1.cell
  have f4_1 := k4_1.frozen
  have l4_1 := k4_1.lt
  have l4 := hB4.size
  clear hb k3_0 k3_1 c3_0 c3_1 f3_0 f3_1
  go_wp2_with fail
  go_region
  go_wp2_with fail
  refine bodyPost_ret (results_row_tmp Tryz.results99 _ _ w.heap.size #[.int .i64 0, .int .i64 7, .int .i64 3, .int .i64 0, .bool false, .string { data := #[] }, .string X, .string Y, .string { data := #[] }, .string { data := #[] }, .slice none 0 0, .slice none 0 0] (by rfl) (run_loadVar_row _ _ 103 103 _ (0, 0) _ ?_ Tryz.underlying103 rfl (by kernel_rfl))) rfl ⟨rfl, ?_⟩
  · unfold Blk at k4_1
    simp [heap_drew, World.setCell, Array.getElem?_modify, k4_1]
  · exact blw
end Go.Proofs.YtfajckkbinbpiaaGreatDoor
