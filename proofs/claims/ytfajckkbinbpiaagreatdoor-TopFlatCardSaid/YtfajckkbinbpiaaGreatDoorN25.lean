/- Walks: shapes of the reference: whether they may be, their class, their points. -/
import Derived.Test.YtfajckkbinbpiaaGreatDoorN03
import Derived.Test.YtfajckkbinbpiaaGreatDoorN14
import Derived.Test.YtfajckkbinbpiaaGreatDoorN22
import Derived.Test.YtfajckkbinbpiaaGreatDoorN24
namespace Go.Proofs.YtfajckkbinbpiaaGreatDoor
set_option maxRecDepth 100000
set_option maxHeartbeats 32000000
set_option linter.unusedVariables false
set_option linter.unusedSimpArgs false
open Go.RowKit Go.Sort
def SmSh (s : Geo.Sh) : Prop := match s with
  | .disc x y r => (-2000 ≤ x ∧ x ≤ 2000) ∧ (-2000 ≤ y ∧ y ≤ 2000) ∧ 1 ≤ r ∧ r ≤ 1000
  | .line x y c d r => (-2000 ≤ x ∧ x ≤ 2000) ∧ (-2000 ≤ y ∧ y ≤ 2000) ∧ (-2000 ≤ c ∧ c ≤ 2000) ∧ (-2000 ≤ d ∧ d ≤ 2000) ∧ 1 ≤ r ∧ r ≤ 1000
  | .poly l => l.length ≤ 4 ∧ ∀ c ∈ l, Few c
theorem rformed_disc (x y r : Int) (w : World) (x_0 : -2000 ≤ x) (x_1 : x ≤ 2000) (y_0 : -2000 ≤ y) (y_1 : y ≤ 2000) (r_0 : 1 ≤ r) (r_1 : r ≤ 1000) : Calls Tryz.prog 76 #[.agg #[.int .i64 1, .int .i64 x, .int .i64 y, .int .i64 0, .int .i64 0, .int .i64 0, .int .i64 0, .int .i64 r, .slice none 0 0, .slice none 0 0], .int .i64 8] w fun e w' => e = .returned (.bool true) ∧ Below w.heap.size w w' := by
  have n1 := fun w => rnearpt x y w x_0 x_1 y_0 y_1
  have n2 := fun w => rnearpt 0 0 w (by decide) (by decide) (by decide) (by decide)
  have n3 := fun w => rnearpt 0 0 w (by decide) (by decide) (by decide) (by decide)
  have d1 : decide (r ≤ 536870912) = true := by simp; omega
  have C1 := Lib.hid n1
  have C2 := Lib.hid n2
  have C3 := Lib.hid n3
  clear n1 n2 n3
  go_enter Tryz.func76, Tryz.ntmps76
  go_wp2_with fail
  refine (C1.out _).mono ?_
  rintro e w1 ⟨rfl, hb⟩
  have hB1 : Below w.heap.size w w1 := Below.trans (by exact blw) (hb.mono (by first | omega | (simp; done) | (simp; omega)))
  have k1_0 : Blk w1 (w.heap.size) 62 #[.int .i64 1, .int .i64 x, .int .i64 y, .int .i64 0, .int .i64 0, .int .i64 0, .int .i64 0, .int .i64 r, .slice none 0 0, .slice none 0 0] := Blk.below (by exact bkw) hb (by first | omega | (simp; done) | (simp; omega))
  have k1_1 : Blk w1 (w.heap.size + 1) 58 #[.int .i64 0, .int .i64 0] := Blk.below (by exact bkw) hb (by first | omega | (simp; done) | (simp; omega))
  have c1_0 := k1_0.cell
  have f1_0 := k1_0.frozen
  have l1_0 := k1_0.lt
  have c1_1 := k1_1.cell
  have f1_1 := k1_1.frozen
  have l1_1 := k1_1.lt
  have l1 := hB1.size
  clear hb
  go_wp2_with fail
  refine (C2.out _).mono ?_
  rintro e w2 ⟨rfl, hb⟩
  have hB2 : Below w.heap.size w w2 := Below.trans (by exact blw) (hb.mono (by first | omega | (simp; done) | (simp; omega)))
  have k2_0 : Blk w2 (w.heap.size) 62 #[.int .i64 1, .int .i64 x, .int .i64 y, .int .i64 0, .int .i64 0, .int .i64 0, .int .i64 0, .int .i64 r, .slice none 0 0, .slice none 0 0] := Blk.below (by exact bkw) hb (by first | omega | (simp; done) | (simp; omega))
  have k2_1 : Blk w2 (w.heap.size + 1) 58 #[.int .i64 0, .int .i64 0] := Blk.below (by exact bkw) hb (by first | omega | (simp; done) | (simp; omega))
  have c2_0 := k2_0.cell
  have f2_0 := k2_0.frozen
  have l2_0 := k2_0.lt
  have c2_1 := k2_1.cell
  have f2_1 := k2_1.frozen
  have l2_1 := k2_1.lt
  have l2 := hB2.size
  clear hb k1_0 c1_0 f1_0 l1_0 k1_1 c1_1 f1_1 l1_1
  go_wp2_with fail
  refine (C3.out _).mono ?_
  rintro e w3 ⟨rfl, hb⟩
  have hB3 : Below w.heap.size w w3 := Below.trans (by exact blw) (hb.mono (by first | omega | (simp; done) | (simp; omega)))
  have k3_0 : Blk w3 (w.heap.size) 62 #[.int .i64 1, .int .i64 x, .int .i64 y, .int .i64 0, .int .i64 0, .int .i64 0, .int .i64 0, .int .i64 r, .slice none 0 0, .slice none 0 0] := Blk.below (by exact bkw) hb (by first | omega | (simp; done) | (simp; omega))
  have k3_1 : Blk w3 (w.heap.size + 1) 58 #[.int .i64 0, .int .i64 0] := Blk.below (by exact bkw) hb (by first | omega | (simp; done) | (simp; omega))
  have c3_0 := k3_0.cell
  have f3_0 := k3_0.frozen
  have l3_0 := k3_0.lt
  have c3_1 := k3_1.cell
  have f3_1 := k3_1.frozen
  have l3_1 := k3_1.lt
  have l3 := hB3.size
  clear hb k2_0 c2_0 f2_0 l2_0 k2_1 c2_1 f2_1 l2_1
  go_wp2_with fail
  go_ret
  exact ⟨rfl, hB3⟩
theorem rcount_disc (x y r : Int) (w : World) : Calls Tryz.prog 77 #[.agg #[.int .i64 1, .int .i64 x, .int .i64 y, .int .i64 0, .int .i64 0, .int .i64 0, .int .i64 0, .int .i64 r, .slice none 0 0, .slice none 0 0]] w fun e w' => e = .returned (.int .i64 1) ∧ Below w.heap.size w w' := by
  go_enter Tryz.func77, Tryz.ntmps77
  go_wp2_with fail
  go_loop [3, 4] (fun n i => n = .int .i64 1 ∧ i = .int .i64 0) (fun _ _ => 0)
  case atStart => exact ⟨rfl, rfl⟩
  case round =>
  obtain ⟨rfl, rfl⟩ := hrel
  go_wp2_with fail
  go_ret
  exact ⟨rfl, by exact blw⟩
theorem rok_disc (x y r : Int) (w : World) (x_0 : -2000 ≤ x) (x_1 : x ≤ 2000) (y_0 : -2000 ≤ y) (y_1 : y ≤ 2000) (r_0 : 1 ≤ r) (r_1 : r ≤ 1000) : Calls Tryz.prog 48 #[.agg #[.int .i64 1, .int .i64 x, .int .i64 y, .int .i64 0, .int .i64 0, .int .i64 0, .int .i64 0, .int .i64 r, .slice none 0 0, .slice none 0 0]] w fun e w' => e = .returned (.bool true) ∧ Below w.heap.size w w' := by
  have n1 := fun w' => rformed_disc x y r w' x_0 x_1 y_0 y_1 r_0 r_1
  have n2 := fun w' => rcount_disc x y r w'
  have C1 := Lib.hid n1
  have C2 := Lib.hid n2
  clear n1 n2
  go_enter Tryz.func48, Tryz.ntmps48
  go_wp2_with fail
  refine (C1.out _).mono ?_
  rintro e w1 ⟨rfl, hb⟩
  have hB1 : Below w.heap.size w w1 := Below.trans (by exact blw) (hb.mono (by first | omega | (simp; done) | (simp; omega)))
  have k1_0 : Blk w1 (w.heap.size) 62 #[.int .i64 1, .int .i64 x, .int .i64 y, .int .i64 0, .int .i64 0, .int .i64 0, .int .i64 0, .int .i64 r, .slice none 0 0, .slice none 0 0] := Blk.below (by exact bkw) hb (by first | omega | (simp; done) | (simp; omega))
  have c1_0 := k1_0.cell
  have f1_0 := k1_0.frozen
  have l1_0 := k1_0.lt
  have l1 := hB1.size
  clear hb
  go_wp2_with fail
  refine (C2.out _).mono ?_
  rintro e w2 ⟨rfl, hb⟩
  have hB2 : Below w.heap.size w w2 := Below.trans (by exact blw) (hb.mono (by first | omega | (simp; done) | (simp; omega)))
  have l2 := hB2.size
  clear hb k1_0 c1_0 f1_0 l1_0
  go_wp2_with fail
  go_ret
  exact ⟨rfl, hB2⟩
theorem rclass_disc (a b c d : Int) (x y r : Int) (w : World) (x_0 : -2000 ≤ x) (x_1 : x ≤ 2000) (y_0 : -2000 ≤ y) (y_1 : y ≤ 2000) (r_0 : 1 ≤ r) (r_1 : r ≤ 1000) (a_0 : -2000 ≤ a) (a_1 : a ≤ 2000) (b_0 : -2000 ≤ b) (b_1 : b ≤ 2000) (c_0 : -2000 ≤ c) (c_1 : c ≤ 2000) (d_0 : -2000 ≤ d) (d_1 : d ≤ 2000) (ac : a ≤ c) (bd : b ≤ d) : Calls Tryz.prog 49 #[.agg #[.int .i64 1, .int .i64 x, .int .i64 y, .int .i64 0, .int .i64 0, .int .i64 0, .int .i64 0, .int .i64 r, .slice none 0 0, .slice none 0 0], .agg #[.int .i64 a, .int .i64 b, .int .i64 c, .int .i64 d]] w fun e w' => e = .returned (.int .i64 ((Geo.Sh.disc x y r).cls ⟨a, b, c, d⟩)) ∧ Below w.heap.size w w' := by
  have n1 := fun w => rdisc_c a b c d x y r w a_0 a_1 b_0 b_1 c_0 c_1 d_0 d_1 x_0 x_1 y_0 y_1 ac bd r_0 r_1
  rw [show (Geo.Sh.disc x y r).cls ⟨a, b, c, d⟩ = Geo.discC ⟨a, b, c, d⟩ x y r from rfl]
  obtain ⟨V, eV⟩ : ∃ V, Geo.discC ⟨a, b, c, d⟩ x y r = V := ⟨_, rfl⟩
  rw [eV] at n1 ⊢
  have C1 := Lib.hid n1
  clear n1 eV
  go_enter Tryz.func49, Tryz.ntmps49
  go_wp2_with fail
  refine (C1.out _).mono ?_
  rintro e w1 ⟨rfl, hb⟩
  have hB1 : Below w.heap.size w w1 := Below.trans (by exact blw) (hb.mono (by first | omega | (simp; done) | (simp; omega)))
  have l1 := hB1.size
  clear hb
  go_wp2_with fail
  go_ret
  exact ⟨rfl, hB1⟩
theorem rhas_disc (px py : Int) (x y r : Int) (w : World) (x_0 : -2000 ≤ x) (x_1 : x ≤ 2000) (y_0 : -2000 ≤ y) (y_1 : y ≤ 2000) (r_0 : 1 ≤ r) (r_1 : r ≤ 1000) (px_0 : -2000 ≤ px) (px_1 : px ≤ 2000) (py_0 : -2000 ≤ py) (py_1 : py ≤ 2000) : Calls Tryz.prog 84 #[.agg #[.int .i64 1, .int .i64 x, .int .i64 y, .int .i64 0, .int .i64 0, .int .i64 0, .int .i64 0, .int .i64 r, .slice none 0 0, .slice none 0 0], .agg #[.int .i64 px, .int .i64 py]] w fun e w' => e = .returned (.bool ((Geo.Sh.disc x y r).has (px, py))) ∧ Below w.heap.size w w' := by
  have n1 := fun w => rdischas_c px py x y r w px_0 px_1 py_0 py_1 x_0 x_1 y_0 y_1 r_0 r_1
  rw [show (Geo.Sh.disc x y r).has (px, py) = (Geo.Sh.disc x y r).has (px, py) from rfl]
  obtain ⟨V, eV⟩ : ∃ V, (Geo.Sh.disc x y r).has (px, py) = V := ⟨_, rfl⟩
  rw [eV] at n1 ⊢
  have C1 := Lib.hid n1
  clear n1 eV
  go_enter Tryz.func84, Tryz.ntmps84
  go_wp2_with fail
  refine (C1.out _).mono ?_
  rintro e w1 ⟨rfl, hb⟩
  have hB1 : Below w.heap.size w w1 := Below.trans (by exact blw) (hb.mono (by first | omega | (simp; done) | (simp; omega)))
  have l1 := hB1.size
  clear hb
  go_wp2_with fail
  go_ret
  exact ⟨rfl, hB1⟩
theorem rformed_line (x y u v r : Int) (w : World) (x_0 : -2000 ≤ x) (x_1 : x ≤ 2000) (y_0 : -2000 ≤ y) (y_1 : y ≤ 2000) (u_0 : -2000 ≤ u) (u_1 : u ≤ 2000) (v_0 : -2000 ≤ v) (v_1 : v ≤ 2000) (r_0 : 1 ≤ r) (r_1 : r ≤ 1000) : Calls Tryz.prog 76 #[.agg #[.int .i64 3, .int .i64 x, .int .i64 y, .int .i64 u, .int .i64 v, .int .i64 0, .int .i64 0, .int .i64 r, .slice none 0 0, .slice none 0 0], .int .i64 8] w fun e w' => e = .returned (.bool true) ∧ Below w.heap.size w w' := by
  have n1 := fun w => rnearpt x y w x_0 x_1 y_0 y_1
  have n2 := fun w => rnearpt u v w u_0 u_1 v_0 v_1
  have n3 := fun w => rnearpt 0 0 w (by decide) (by decide) (by decide) (by decide)
  have d1 : decide (r ≤ 536870912) = true := by simp; omega
  have C1 := Lib.hid n1
  have C2 := Lib.hid n2
  have C3 := Lib.hid n3
  clear n1 n2 n3
  go_enter Tryz.func76, Tryz.ntmps76
  go_wp2_with fail
  refine (C1.out _).mono ?_
  rintro e w1 ⟨rfl, hb⟩
  have hB1 : Below w.heap.size w w1 := Below.trans (by exact blw) (hb.mono (by first | omega | (simp; done) | (simp; omega)))
  have k1_0 : Blk w1 (w.heap.size) 62 #[.int .i64 3, .int .i64 x, .int .i64 y, .int .i64 u, .int .i64 v, .int .i64 0, .int .i64 0, .int .i64 r, .slice none 0 0, .slice none 0 0] := Blk.below (by exact bkw) hb (by first | omega | (simp; done) | (simp; omega))
  have k1_1 : Blk w1 (w.heap.size + 1) 58 #[.int .i64 0, .int .i64 0] := Blk.below (by exact bkw) hb (by first | omega | (simp; done) | (simp; omega))
  have c1_0 := k1_0.cell
  have f1_0 := k1_0.frozen
  have l1_0 := k1_0.lt
  have c1_1 := k1_1.cell
  have f1_1 := k1_1.frozen
  have l1_1 := k1_1.lt
  have l1 := hB1.size
  clear hb
  go_wp2_with fail
  refine (C2.out _).mono ?_
  rintro e w2 ⟨rfl, hb⟩
  have hB2 : Below w.heap.size w w2 := Below.trans (by exact blw) (hb.mono (by first | omega | (simp; done) | (simp; omega)))
  have k2_0 : Blk w2 (w.heap.size) 62 #[.int .i64 3, .int .i64 x, .int .i64 y, .int .i64 u, .int .i64 v, .int .i64 0, .int .i64 0, .int .i64 r, .slice none 0 0, .slice none 0 0] := Blk.below (by exact bkw) hb (by first | omega | (simp; done) | (simp; omega))
  have k2_1 : Blk w2 (w.heap.size + 1) 58 #[.int .i64 0, .int .i64 0] := Blk.below (by exact bkw) hb (by first | omega | (simp; done) | (simp; omega))
  have c2_0 := k2_0.cell
  have f2_0 := k2_0.frozen
  have l2_0 := k2_0.lt
  have c2_1 := k2_1.cell
  have f2_1 := k2_1.frozen
  have l2_1 := k2_1.lt
  have l2 := hB2.size
  clear hb k1_0 c1_0 f1_0 l1_0 k1_1 c1_1 f1_1 l1_1
  go_wp2_with fail
  refine (C3.out _).mono ?_
  rintro e w3 ⟨rfl, hb⟩
  have hB3 : Below w.heap.size w w3 := Below.trans (by exact blw) (hb.mono (by first | omega | (simp; done) | (simp; omega)))
  have k3_0 : Blk w3 (w.heap.size) 62 #[.int .i64 3, .int .i64 x, .int .i64 y, .int .i64 u, .int .i64 v, .int .i64 0, .int .i64 0, .int .i64 r, .slice none 0 0, .slice none 0 0] := Blk.below (by exact bkw) hb (by first | omega | (simp; done) | (simp; omega))
  have k3_1 : Blk w3 (w.heap.size + 1) 58 #[.int .i64 0, .int .i64 0] := Blk.below (by exact bkw) hb (by first | omega | (simp; done) | (simp; omega))
  have c3_0 := k3_0.cell
  have f3_0 := k3_0.frozen
  have l3_0 := k3_0.lt
  have c3_1 := k3_1.cell
  have f3_1 := k3_1.frozen
  have l3_1 := k3_1.lt
  have l3 := hB3.size
  clear hb k2_0 c2_0 f2_0 l2_0 k2_1 c2_1 f2_1 l2_1
  go_wp2_with fail
  go_ret
  exact ⟨rfl, hB3⟩
theorem rcount_line (x y u v r : Int) (w : World) : Calls Tryz.prog 77 #[.agg #[.int .i64 3, .int .i64 x, .int .i64 y, .int .i64 u, .int .i64 v, .int .i64 0, .int .i64 0, .int .i64 r, .slice none 0 0, .slice none 0 0]] w fun e w' => e = .returned (.int .i64 1) ∧ Below w.heap.size w w' := by
  go_enter Tryz.func77, Tryz.ntmps77
  go_wp2_with fail
  go_loop [3, 4] (fun n i => n = .int .i64 1 ∧ i = .int .i64 0) (fun _ _ => 0)
  case atStart => exact ⟨rfl, rfl⟩
  case round =>
  obtain ⟨rfl, rfl⟩ := hrel
  go_wp2_with fail
  go_ret
  exact ⟨rfl, by exact blw⟩
theorem rok_line (x y u v r : Int) (w : World) (x_0 : -2000 ≤ x) (x_1 : x ≤ 2000) (y_0 : -2000 ≤ y) (y_1 : y ≤ 2000) (u_0 : -2000 ≤ u) (u_1 : u ≤ 2000) (v_0 : -2000 ≤ v) (v_1 : v ≤ 2000) (r_0 : 1 ≤ r) (r_1 : r ≤ 1000) : Calls Tryz.prog 48 #[.agg #[.int .i64 3, .int .i64 x, .int .i64 y, .int .i64 u, .int .i64 v, .int .i64 0, .int .i64 0, .int .i64 r, .slice none 0 0, .slice none 0 0]] w fun e w' => e = .returned (.bool true) ∧ Below w.heap.size w w' := by
  have n1 := fun w' => rformed_line x y u v r w' x_0 x_1 y_0 y_1 u_0 u_1 v_0 v_1 r_0 r_1
  have n2 := fun w' => rcount_line x y u v r w'
  have C1 := Lib.hid n1
  have C2 := Lib.hid n2
  clear n1 n2
  go_enter Tryz.func48, Tryz.ntmps48
  go_wp2_with fail
  refine (C1.out _).mono ?_
  rintro e w1 ⟨rfl, hb⟩
  have hB1 : Below w.heap.size w w1 := Below.trans (by exact blw) (hb.mono (by first | omega | (simp; done) | (simp; omega)))
  have k1_0 : Blk w1 (w.heap.size) 62 #[.int .i64 3, .int .i64 x, .int .i64 y, .int .i64 u, .int .i64 v, .int .i64 0, .int .i64 0, .int .i64 r, .slice none 0 0, .slice none 0 0] := Blk.below (by exact bkw) hb (by first | omega | (simp; done) | (simp; omega))
  have c1_0 := k1_0.cell
  have f1_0 := k1_0.frozen
  have l1_0 := k1_0.lt
  have l1 := hB1.size
  clear hb
  go_wp2_with fail
  refine (C2.out _).mono ?_
  rintro e w2 ⟨rfl, hb⟩
  have hB2 : Below w.heap.size w w2 := Below.trans (by exact blw) (hb.mono (by first | omega | (simp; done) | (simp; omega)))
  have l2 := hB2.size
  clear hb k1_0 c1_0 f1_0 l1_0
  go_wp2_with fail
  go_ret
  exact ⟨rfl, hB2⟩
theorem rclass_line (a b c d : Int) (x y u v r : Int) (w : World) (x_0 : -2000 ≤ x) (x_1 : x ≤ 2000) (y_0 : -2000 ≤ y) (y_1 : y ≤ 2000) (u_0 : -2000 ≤ u) (u_1 : u ≤ 2000) (v_0 : -2000 ≤ v) (v_1 : v ≤ 2000) (r_0 : 1 ≤ r) (r_1 : r ≤ 1000) (a_0 : -2000 ≤ a) (a_1 : a ≤ 2000) (b_0 : -2000 ≤ b) (b_1 : b ≤ 2000) (c_0 : -2000 ≤ c) (c_1 : c ≤ 2000) (d_0 : -2000 ≤ d) (d_1 : d ≤ 2000) (ac : a ≤ c) (bd : b ≤ d) : Calls Tryz.prog 49 #[.agg #[.int .i64 3, .int .i64 x, .int .i64 y, .int .i64 u, .int .i64 v, .int .i64 0, .int .i64 0, .int .i64 r, .slice none 0 0, .slice none 0 0], .agg #[.int .i64 a, .int .i64 b, .int .i64 c, .int .i64 d]] w fun e w' => e = .returned (.int .i64 ((Geo.Sh.line x y u v r).cls ⟨a, b, c, d⟩)) ∧ Below w.heap.size w w' := by
  have n1 := fun w => rline_c a b c d x y u v r w a_0 a_1 b_0 b_1 c_0 c_1 d_0 d_1 x_0 x_1 y_0 y_1 u_0 u_1 v_0 v_1 ac bd r_0 r_1
  rw [show (Geo.Sh.line x y u v r).cls ⟨a, b, c, d⟩ = Geo.lineC ⟨a, b, c, d⟩ x y u v r from rfl]
  obtain ⟨V, eV⟩ : ∃ V, Geo.lineC ⟨a, b, c, d⟩ x y u v r = V := ⟨_, rfl⟩
  rw [eV] at n1 ⊢
  have C1 := Lib.hid n1
  clear n1 eV
  go_enter Tryz.func49, Tryz.ntmps49
  go_wp2_with fail
  refine (C1.out _).mono ?_
  rintro e w1 ⟨rfl, hb⟩
  have hB1 : Below w.heap.size w w1 := Below.trans (by exact blw) (hb.mono (by first | omega | (simp; done) | (simp; omega)))
  have l1 := hB1.size
  clear hb
  go_wp2_with fail
  go_ret
  exact ⟨rfl, hB1⟩
theorem rhas_line (px py : Int) (x y u v r : Int) (w : World) (x_0 : -2000 ≤ x) (x_1 : x ≤ 2000) (y_0 : -2000 ≤ y) (y_1 : y ≤ 2000) (u_0 : -2000 ≤ u) (u_1 : u ≤ 2000) (v_0 : -2000 ≤ v) (v_1 : v ≤ 2000) (r_0 : 1 ≤ r) (r_1 : r ≤ 1000) (px_0 : -2000 ≤ px) (px_1 : px ≤ 2000) (py_0 : -2000 ≤ py) (py_1 : py ≤ 2000) : Calls Tryz.prog 84 #[.agg #[.int .i64 3, .int .i64 x, .int .i64 y, .int .i64 u, .int .i64 v, .int .i64 0, .int .i64 0, .int .i64 r, .slice none 0 0, .slice none 0 0], .agg #[.int .i64 px, .int .i64 py]] w fun e w' => e = .returned (.bool ((Geo.Sh.line x y u v r).has (px, py))) ∧ Below w.heap.size w w' := by
  have n1 := fun w => rlinehas_c px py x y u v r w px_0 px_1 py_0 py_1 x_0 x_1 y_0 y_1 u_0 u_1 v_0 v_1 r_0 r_1
  rw [show (Geo.Sh.line x y u v r).has (px, py) = decide (Geo.HasL x y u v r px py) from rfl]
  obtain ⟨V, eV⟩ : ∃ V, decide (Geo.HasL x y u v r px py) = V := ⟨_, rfl⟩
  rw [eV] at n1 ⊢
  have C1 := Lib.hid n1
  clear n1 eV
  go_enter Tryz.func84, Tryz.ntmps84
  go_wp2_with fail
  refine (C1.out _).mono ?_
  rintro e w1 ⟨rfl, hb⟩
  have hB1 : Below w.heap.size w w1 := Below.trans (by exact blw) (hb.mono (by first | omega | (simp; done) | (simp; omega)))
  have l1 := hB1.size
  clear hb
  go_wp2_with fail
  go_ret
  exact ⟨rfl, hB1⟩
theorem rformed_poly (S : List Nat) (p : Option Addr) (n cap : Nat) (l : List (List Geo.Pt)) (w : World) (hP : PolyAt S w (.slice p n cap) l) (hl : l.length ≤ 4) (hF : ∀ c ∈ l, Few c) : Calls Tryz.prog 76 #[.agg #[.int .i64 2, .int .i64 0, .int .i64 0, .int .i64 0, .int .i64 0, .int .i64 0, .int .i64 0, .int .i64 0, .slice p n cap, .slice none 0 0], .int .i64 8] w fun e w' => e = .returned (.bool true) ∧ Below w.heap.size w w' := by
  have n1 := fun w => rnearpt 0 0 w (by decide) (by decide) (by decide) (by decide)
  have n2 := fun w => rnearpt 0 0 w (by decide) (by decide) (by decide) (by decide)
  have n3 := fun w => rnearpt 0 0 w (by decide) (by decide) (by decide) (by decide)
  have n4 := fun w' h => rpoints_c S (.slice p n cap) l w' h hl hF
  have C4 := Lib.hid n4
  have HP := Lib.hid hP
  clear n4 hP hF hl
  have C1 := Lib.hid n1
  have C2 := Lib.hid n2
  have C3 := Lib.hid n3
  clear n1 n2 n3
  go_enter Tryz.func76, Tryz.ntmps76
  go_wp2_with fail
  refine (C1.out _).mono ?_
  rintro e w1 ⟨rfl, hb⟩
  have hB1 : Below w.heap.size w w1 := Below.trans (by exact blw) (hb.mono (by first | omega | (simp; done) | (simp; omega)))
  have k1_0 : Blk w1 (w.heap.size) 62 #[.int .i64 2, .int .i64 0, .int .i64 0, .int .i64 0, .int .i64 0, .int .i64 0, .int .i64 0, .int .i64 0, .slice p n cap, .slice none 0 0] := Blk.below (by exact bkw) hb (by first | omega | (simp; done) | (simp; omega))
  have k1_1 : Blk w1 (w.heap.size + 1) 58 #[.int .i64 0, .int .i64 0] := Blk.below (by exact bkw) hb (by first | omega | (simp; done) | (simp; omega))
  have c1_0 := k1_0.cell
  have f1_0 := k1_0.frozen
  have l1_0 := k1_0.lt
  have c1_1 := k1_1.cell
  have f1_1 := k1_1.frozen
  have l1_1 := k1_1.lt
  have l1 := hB1.size
  clear hb
  go_wp2_with fail
  refine (C2.out _).mono ?_
  rintro e w2 ⟨rfl, hb⟩
  have hB2 : Below w.heap.size w w2 := Below.trans (by exact blw) (hb.mono (by first | omega | (simp; done) | (simp; omega)))
  have k2_0 : Blk w2 (w.heap.size) 62 #[.int .i64 2, .int .i64 0, .int .i64 0, .int .i64 0, .int .i64 0, .int .i64 0, .int .i64 0, .int .i64 0, .slice p n cap, .slice none 0 0] := Blk.below (by exact bkw) hb (by first | omega | (simp; done) | (simp; omega))
  have k2_1 : Blk w2 (w.heap.size + 1) 58 #[.int .i64 0, .int .i64 0] := Blk.below (by exact bkw) hb (by first | omega | (simp; done) | (simp; omega))
  have c2_0 := k2_0.cell
  have f2_0 := k2_0.frozen
  have l2_0 := k2_0.lt
  have c2_1 := k2_1.cell
  have f2_1 := k2_1.frozen
  have l2_1 := k2_1.lt
  have l2 := hB2.size
  clear hb k1_0 c1_0 f1_0 l1_0 k1_1 c1_1 f1_1 l1_1
  go_wp2_with fail
  refine (C3.out _).mono ?_
  rintro e w3 ⟨rfl, hb⟩
  have hB3 : Below w.heap.size w w3 := Below.trans (by exact blw) (hb.mono (by first | omega | (simp; done) | (simp; omega)))
  have k3_0 : Blk w3 (w.heap.size) 62 #[.int .i64 2, .int .i64 0, .int .i64 0, .int .i64 0, .int .i64 0, .int .i64 0, .int .i64 0, .int .i64 0, .slice p n cap, .slice none 0 0] := Blk.below (by exact bkw) hb (by first | omega | (simp; done) | (simp; omega))
  have k3_1 : Blk w3 (w.heap.size + 1) 58 #[.int .i64 0, .int .i64 0] := Blk.below (by exact bkw) hb (by first | omega | (simp; done) | (simp; omega))
  have c3_0 := k3_0.cell
  have f3_0 := k3_0.frozen
  have l3_0 := k3_0.lt
  have c3_1 := k3_1.cell
  have f3_1 := k3_1.frozen
  have l3_1 := k3_1.lt
  have l3 := hB3.size
  clear hb k2_0 c2_0 f2_0 l2_0 k2_1 c2_1 f2_1 l2_1
  go_wp2_with fail
  refine (C4.out _ (HP.out.below (by exact blw) (Nat.le_refl _))).mono ?_
  rintro e w4 ⟨t, ht0, ht1, rfl, hb⟩
  have hB4 : Below w.heap.size w w4 := Below.trans (by exact blw) (hb.mono (by first | omega | (simp; done) | (simp; omega)))
  have k4_0 : Blk w4 (w.heap.size) 62 #[.int .i64 2, .int .i64 0, .int .i64 0, .int .i64 0, .int .i64 0, .int .i64 0, .int .i64 0, .int .i64 0, .slice p n cap, .slice none 0 0] := Blk.below (by exact bkw) hb (by first | omega | (simp; done) | (simp; omega))
  have k4_1 : Blk w4 (w.heap.size + 1) 58 #[.int .i64 0, .int .i64 0] := Blk.below (by exact bkw) hb (by first | omega | (simp; done) | (simp; omega))
  have c4_0 := k4_0.cell
  have f4_0 := k4_0.frozen
  have l4_0 := k4_0.lt
  have c4_1 := k4_1.cell
  have f4_1 := k4_1.frozen
  have l4_1 := k4_1.lt
  have l4 := hB4.size
  clear hb k3_0 c3_0 f3_0 l3_0 k3_1 c3_1 f3_1 l3_1
  go_wp2_with fail
  go_ret
  exact ⟨rfl, hB4⟩
theorem rcount_poly (S : List Nat) (p : Option Addr) (n cap : Nat) (l : List (List Geo.Pt)) (w : World) : Calls Tryz.prog 77 #[.agg #[.int .i64 2, .int .i64 0, .int .i64 0, .int .i64 0, .int .i64 0, .int .i64 0, .int .i64 0, .int .i64 0, .slice p n cap, .slice none 0 0]] w fun e w' => e = .returned (.int .i64 1) ∧ Below w.heap.size w w' := by
  go_enter Tryz.func77, Tryz.ntmps77
  go_wp2_with fail
  go_loop [3, 4] (fun n i => n = .int .i64 1 ∧ i = .int .i64 0) (fun _ _ => 0)
  case atStart => exact ⟨rfl, rfl⟩
  case round =>
  obtain ⟨rfl, rfl⟩ := hrel
  go_wp2_with fail
  go_ret
  exact ⟨rfl, by exact blw⟩
theorem rok_poly (S : List Nat) (p : Option Addr) (n cap : Nat) (l : List (List Geo.Pt)) (w : World) (hP : PolyAt S w (.slice p n cap) l) (hl : l.length ≤ 4) (hF : ∀ c ∈ l, Few c) : Calls Tryz.prog 48 #[.agg #[.int .i64 2, .int .i64 0, .int .i64 0, .int .i64 0, .int .i64 0, .int .i64 0, .int .i64 0, .int .i64 0, .slice p n cap, .slice none 0 0]] w fun e w' => e = .returned (.bool true) ∧ Below w.heap.size w w' := by
  have n1 := fun w' h => rformed_poly S p n cap l w' h hl hF
  have n2 := fun w' => rcount_poly S p n cap l w'
  have HP := Lib.hid hP
  clear hP
  have C1 := Lib.hid n1
  have C2 := Lib.hid n2
  clear n1 n2
  go_enter Tryz.func48, Tryz.ntmps48
  go_wp2_with fail
  refine (C1.out _ (HP.out.below (by exact blw) (Nat.le_refl _))).mono ?_
  rintro e w1 ⟨rfl, hb⟩
  have hB1 : Below w.heap.size w w1 := Below.trans (by exact blw) (hb.mono (by first | omega | (simp; done) | (simp; omega)))
  have k1_0 : Blk w1 (w.heap.size) 62 #[.int .i64 2, .int .i64 0, .int .i64 0, .int .i64 0, .int .i64 0, .int .i64 0, .int .i64 0, .int .i64 0, .slice p n cap, .slice none 0 0] := Blk.below (by exact bkw) hb (by first | omega | (simp; done) | (simp; omega))
  have c1_0 := k1_0.cell
  have f1_0 := k1_0.frozen
  have l1_0 := k1_0.lt
  have l1 := hB1.size
  clear hb
  go_wp2_with fail
  refine (C2.out _).mono ?_
  rintro e w2 ⟨rfl, hb⟩
  have hB2 : Below w.heap.size w w2 := Below.trans (by exact blw) (hb.mono (by first | omega | (simp; done) | (simp; omega)))
  have l2 := hB2.size
  clear hb k1_0 c1_0 f1_0 l1_0
  go_wp2_with fail
  go_ret
  exact ⟨rfl, hB2⟩
theorem rclass_poly (a b c d : Int) (S : List Nat) (p : Option Addr) (n cap : Nat) (l : List (List Geo.Pt)) (w : World) (hP : PolyAt S w (.slice p n cap) l) (hl : l.length ≤ 4) (hF : ∀ c ∈ l, Few c) (a_0 : -2000 ≤ a) (a_1 : a ≤ 2000) (b_0 : -2000 ≤ b) (b_1 : b ≤ 2000) (c_0 : -2000 ≤ c) (c_1 : c ≤ 2000) (d_0 : -2000 ≤ d) (d_1 : d ≤ 2000) (ac : a ≤ c) (bd : b ≤ d) : Calls Tryz.prog 49 #[.agg #[.int .i64 2, .int .i64 0, .int .i64 0, .int .i64 0, .int .i64 0, .int .i64 0, .int .i64 0, .int .i64 0, .slice p n cap, .slice none 0 0], .agg #[.int .i64 a, .int .i64 b, .int .i64 c, .int .i64 d]] w fun e w' => e = .returned (.int .i64 ((Geo.Sh.poly l).cls ⟨a, b, c, d⟩)) ∧ Below w.heap.size w w' := by
  have n1 := fun w' h => rpoly_c a b c d S (.slice p n cap) l w' h hl hF a_0 a_1 b_0 b_1 c_0 c_1 d_0 d_1 ac bd
  have HP := Lib.hid hP
  clear hP
  rw [show (Geo.Sh.poly l).cls ⟨a, b, c, d⟩ = Geo.polyC ⟨a, b, c, d⟩ l from rfl]
  obtain ⟨V, eV⟩ : ∃ V, Geo.polyC ⟨a, b, c, d⟩ l = V := ⟨_, rfl⟩
  rw [eV] at n1 ⊢
  have C1 := Lib.hid n1
  clear n1 eV
  go_enter Tryz.func49, Tryz.ntmps49
  go_wp2_with fail
  refine (C1.out _ (HP.out.below (by exact blw) (Nat.le_refl _))).mono ?_
  rintro e w1 ⟨rfl, hb⟩
  have hB1 : Below w.heap.size w w1 := Below.trans (by exact blw) (hb.mono (by first | omega | (simp; done) | (simp; omega)))
  have l1 := hB1.size
  clear hb
  go_wp2_with fail
  go_ret
  exact ⟨rfl, hB1⟩
theorem rhas_poly (px py : Int) (S : List Nat) (p : Option Addr) (n cap : Nat) (l : List (List Geo.Pt)) (w : World) (hP : PolyAt S w (.slice p n cap) l) (hl : l.length ≤ 4) (hF : ∀ c ∈ l, Few c) (px_0 : -2000 ≤ px) (px_1 : px ≤ 2000) (py_0 : -2000 ≤ py) (py_1 : py ≤ 2000) : Calls Tryz.prog 84 #[.agg #[.int .i64 2, .int .i64 0, .int .i64 0, .int .i64 0, .int .i64 0, .int .i64 0, .int .i64 0, .int .i64 0, .slice p n cap, .slice none 0 0], .agg #[.int .i64 px, .int .i64 py]] w fun e w' => e = .returned (.bool ((Geo.Sh.poly l).has (px, py))) ∧ Below w.heap.size w w' := by
  have n1 := fun w' h => rpolyhas_c px py S (.slice p n cap) l w' h hl hF px_0 px_1 py_0 py_1
  have HP := Lib.hid hP
  clear hP
  rw [show (Geo.Sh.poly l).has (px, py) = (Geo.Sh.poly l).has (px, py) from rfl]
  obtain ⟨V, eV⟩ : ∃ V, (Geo.Sh.poly l).has (px, py) = V := ⟨_, rfl⟩
  rw [eV] at n1 ⊢
  have C1 := Lib.hid n1
  clear n1 eV
  go_enter Tryz.func84, Tryz.ntmps84
  go_wp2_with fail
  refine (C1.out _ (HP.out.below (by exact blw) (Nat.le_refl _))).mono ?_
  rintro e w1 ⟨rfl, hb⟩
  have hB1 : Below w.heap.size w w1 := Below.trans (by exact blw) (hb.mono (by first | omega | (simp; done) | (simp; omega)))
  have l1 := hB1.size
  clear hb
  go_wp2_with fail
  go_ret
  exact ⟨rfl, hB1⟩
theorem rok_any (S : List Nat) (s : Geo.Sh) (L : Value) (w : World) (hs : SmSh s) (hL : ShAt S w s L) : Calls Tryz.prog 48 #[.agg (shA s L)] w fun e w' => e = .returned (.bool true) ∧ Below w.heap.size w w' := by
  cases s with
  | disc x y r => exact rok_disc x y r w hs.1.1 hs.1.2 hs.2.1.1 hs.2.1.2 hs.2.2.1 hs.2.2.2
  | line x y u v r => exact rok_line x y u v r w hs.1.1 hs.1.2 hs.2.1.1 hs.2.1.2 hs.2.2.1.1 hs.2.2.1.2 hs.2.2.2.1.1 hs.2.2.2.1.2 hs.2.2.2.2.1 hs.2.2.2.2.2
  | poly l =>
    have h2 : PolyAt S w L l := hL
    obtain ⟨p, cap, rfl, _⟩ := id h2
    exact rok_poly S p _ cap l w h2 hs.1 hs.2
theorem rclass_any (a b c d : Int) (S : List Nat) (s : Geo.Sh) (L : Value) (w : World) (hs : SmSh s) (hL : ShAt S w s L) (a_0 : -2000 ≤ a) (a_1 : a ≤ 2000) (b_0 : -2000 ≤ b) (b_1 : b ≤ 2000) (c_0 : -2000 ≤ c) (c_1 : c ≤ 2000) (d_0 : -2000 ≤ d) (d_1 : d ≤ 2000) (ac : a ≤ c) (bd : b ≤ d) : Calls Tryz.prog 49 #[.agg (shA s L), .agg #[.int .i64 a, .int .i64 b, .int .i64 c, .int .i64 d]] w fun e w' => e = .returned (.int .i64 (s.cls ⟨a, b, c, d⟩)) ∧ Below w.heap.size w w' := by
  cases s with
  | disc x y r => exact rclass_disc a b c d x y r w hs.1.1 hs.1.2 hs.2.1.1 hs.2.1.2 hs.2.2.1 hs.2.2.2 a_0 a_1 b_0 b_1 c_0 c_1 d_0 d_1 ac bd
  | line x y u v r => exact rclass_line a b c d x y u v r w hs.1.1 hs.1.2 hs.2.1.1 hs.2.1.2 hs.2.2.1.1 hs.2.2.1.2 hs.2.2.2.1.1 hs.2.2.2.1.2 hs.2.2.2.2.1 hs.2.2.2.2.2 a_0 a_1 b_0 b_1 c_0 c_1 d_0 d_1 ac bd
  | poly l =>
    have h2 : PolyAt S w L l := hL
    obtain ⟨p, cap, rfl, _⟩ := id h2
    exact rclass_poly a b c d S p _ cap l w h2 hs.1 hs.2 a_0 a_1 b_0 b_1 c_0 c_1 d_0 d_1 ac bd
theorem rhas_any (px py : Int) (S : List Nat) (s : Geo.Sh) (L : Value) (w : World) (hs : SmSh s) (hL : ShAt S w s L) (px_0 : -2000 ≤ px) (px_1 : px ≤ 2000) (py_0 : -2000 ≤ py) (py_1 : py ≤ 2000) : Calls Tryz.prog 84 #[.agg (shA s L), .agg #[.int .i64 px, .int .i64 py]] w fun e w' => e = .returned (.bool (s.has (px, py))) ∧ Below w.heap.size w w' := by
  cases s with
  | disc x y r => exact rhas_disc px py x y r w hs.1.1 hs.1.2 hs.2.1.1 hs.2.1.2 hs.2.2.1 hs.2.2.2 px_0 px_1 py_0 py_1
  | line x y u v r => exact rhas_line px py x y u v r w hs.1.1 hs.1.2 hs.2.1.1 hs.2.1.2 hs.2.2.1.1 hs.2.2.1.2 hs.2.2.2.1.1 hs.2.2.2.1.2 hs.2.2.2.2.1 hs.2.2.2.2.2 px_0 px_1 py_0 py_1
  | poly l =>
    have h2 : PolyAt S w L l := hL
    obtain ⟨p, cap, rfl, _⟩ := id h2
    exact rhas_poly px py S p _ cap l w h2 hs.1 hs.2 px_0 px_1 py_0 py_1
theorem rClass_c (a b c d : Int) (S : List Nat) (s : Geo.Sh) (L : Value) (w : World) (hs : SmSh s) (hL : ShAt S w s L) (a_0 : -2000 ≤ a) (a_1 : a ≤ 2000) (b_0 : -2000 ≤ b) (b_1 : b ≤ 2000) (c_0 : -2000 ≤ c) (c_1 : c ≤ 2000) (d_0 : -2000 ≤ d) (d_1 : d ≤ 2000) (ac : a ≤ c) (bd : b ≤ d) : Calls Tryz.prog 22 #[.agg (shA s L), .agg #[.int .i64 a, .int .i64 b, .int .i64 c, .int .i64 d]] w fun e w' => e = .returned (.int .i64 (s.cls ⟨a, b, c, d⟩)) ∧ Below w.heap.size w w' := by
  have n1 := fun w' h => rok_any S s L w' hs h
  have n2 := fun w' h => rclass_any a b c d S s L w' hs h a_0 a_1 b_0 b_1 c_0 c_1 d_0 d_1 ac bd
  have HP := Lib.hid hL
  obtain ⟨kd, x, y, u, v, r, lp, ln, lc, eA⟩ := shA_at hL
  rw [eA] at n1 n2 ⊢
  obtain ⟨V, eV⟩ : ∃ V, (s.cls ⟨a, b, c, d⟩) = V := ⟨_, rfl⟩
  rw [eV] at n2 ⊢
  have C1 := Lib.hid n1
  have C2 := Lib.hid n2
  clear n1 n2 eA eV hL hs
  go_enter Tryz.func22, Tryz.ntmps22
  go_wp2_with fail
  refine (C1.out _ (HP.out.below (by exact blw) (Nat.le_refl _))).mono ?_
  rintro e w1 ⟨rfl, hb⟩
  have hB1 : Below w.heap.size w w1 := Below.trans (by exact blw) (hb.mono (by first | omega | (simp; done) | (simp; omega)))
  have k1_0 : Blk w1 (w.heap.size) 62 #[.int .i64 kd, .int .i64 x, .int .i64 y, .int .i64 u, .int .i64 v, .int .i64 0, .int .i64 0, .int .i64 r, .slice lp ln lc, .slice none 0 0] := Blk.below (by exact bkw) hb (by first | omega | (simp; done) | (simp; omega))
  have k1_1 : Blk w1 (w.heap.size + 1) 70 #[.int .i64 a, .int .i64 b, .int .i64 c, .int .i64 d] := Blk.below (by exact bkw) hb (by first | omega | (simp; done) | (simp; omega))
  have c1_0 := k1_0.cell
  have f1_0 := k1_0.frozen
  have l1_0 := k1_0.lt
  have c1_1 := k1_1.cell
  have f1_1 := k1_1.frozen
  have l1_1 := k1_1.lt
  have l1 := hB1.size
  clear hb
  go_wp2_with fail
  refine (C2.out _ (HP.out.below hB1 (Nat.le_refl _))).mono ?_
  rintro e w2 ⟨rfl, hb⟩
  have hB2 : Below w.heap.size w w2 := Below.trans (by exact blw) (hb.mono (by first | omega | (simp; done) | (simp; omega)))
  have l2 := hB2.size
  clear hb k1_0 c1_0 f1_0 l1_0 k1_1 c1_1 f1_1 l1_1
  go_wp2_with fail
  go_ret
  exact ⟨rfl, hB2⟩
theorem rHas_c (px py : Int) (S : List Nat) (s : Geo.Sh) (L : Value) (w : World) (hs : SmSh s) (hL : ShAt S w s L) (px_0 : -2000 ≤ px) (px_1 : px ≤ 2000) (py_0 : -2000 ≤ py) (py_1 : py ≤ 2000) : Calls Tryz.prog 50 #[.agg (shA s L), .agg #[.int .i64 px, .int .i64 py]] w fun e w' => e = .returned (.bool (s.has (px, py))) ∧ Below w.heap.size w w' := by
  have n1 := fun w' h => rok_any S s L w' hs h
  have n2 := fun w' h => rhas_any px py S s L w' hs h px_0 px_1 py_0 py_1
  have HP := Lib.hid hL
  obtain ⟨kd, x, y, u, v, r, lp, ln, lc, eA⟩ := shA_at hL
  rw [eA] at n1 n2 ⊢
  obtain ⟨V, eV⟩ : ∃ V, (s.has (px, py)) = V := ⟨_, rfl⟩
  rw [eV] at n2 ⊢
  have C1 := Lib.hid n1
  have C2 := Lib.hid n2
  clear n1 n2 eA eV hL hs
  go_enter Tryz.func50, Tryz.ntmps50
  go_wp2_with fail
  refine (C1.out _ (HP.out.below (by exact blw) (Nat.le_refl _))).mono ?_
  rintro e w1 ⟨rfl, hb⟩
  have hB1 : Below w.heap.size w w1 := Below.trans (by exact blw) (hb.mono (by first | omega | (simp; done) | (simp; omega)))
  have k1_0 : Blk w1 (w.heap.size) 62 #[.int .i64 kd, .int .i64 x, .int .i64 y, .int .i64 u, .int .i64 v, .int .i64 0, .int .i64 0, .int .i64 r, .slice lp ln lc, .slice none 0 0] := Blk.below (by exact bkw) hb (by first | omega | (simp; done) | (simp; omega))
  have k1_1 : Blk w1 (w.heap.size + 1) 58 #[.int .i64 px, .int .i64 py] := Blk.below (by exact bkw) hb (by first | omega | (simp; done) | (simp; omega))
  have c1_0 := k1_0.cell
  have f1_0 := k1_0.frozen
  have l1_0 := k1_0.lt
  have c1_1 := k1_1.cell
  have f1_1 := k1_1.frozen
  have l1_1 := k1_1.lt
  have l1 := hB1.size
  clear hb
  go_wp2_with fail
  refine (C2.out _ (HP.out.below hB1 (Nat.le_refl _))).mono ?_
  rintro e w2 ⟨rfl, hb⟩
  have hB2 : Below w.heap.size w w2 := Below.trans (by exact blw) (hb.mono (by first | omega | (simp; done) | (simp; omega)))
  have l2 := hB2.size
  clear hb k1_0 c1_0 f1_0 l1_0 k1_1 c1_1 f1_1 l1_1
  go_wp2_with fail
  go_ret
  exact ⟨rfl, hB2⟩
end Go.Proofs.YtfajckkbinbpiaaGreatDoor
