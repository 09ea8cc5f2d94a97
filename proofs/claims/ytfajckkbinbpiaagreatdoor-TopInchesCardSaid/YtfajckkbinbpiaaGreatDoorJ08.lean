/- Walks: operations as they are written. -/
import Derived.Test.YtfajckkbinbpiaaGreatDoorJ05
namespace Go.Proofs.YtfajckkbinbpiaaGreatDoor
set_option maxRecDepth 100000
set_option maxHeartbeats 32000000
set_option linter.unusedVariables false
set_option linter.unusedSimpArgs false
open Go.RowKit
theorem info40 : (Tryz.prog.info? 103).map (fun i => (i.zero, i.size, i.bytes)) = some (some (.agg #[.int .i64 0, .int .i64 0, .int .i64 0, .int .i64 0, .bool false, .string { data := #[] }, .string { data := #[] }, .string { data := #[] }, .string { data := #[] }, .string { data := #[] }, .slice none 0 0, .slice none 0 0]), 12, 168) := by kernel_rfl
theorem plain_op2 (d1 d2 : List UInt8) (w : World) (hd1 : Digits d1) (hd2 : Digits d2) (a1 : 0 < d1.length) (b1 : d1.length ≤ 12) (a2 : 0 < d2.length) (b2 : d2.length ≤ 12) :
    Calls Tryz.prog 62 #[.string (bs (88 :: (d1 ++ 89 :: (d2 ++ [68, 48, 50]))))] w fun e w' => ∃ v, e = .returned (.tuple #[v, .int .i64 0]) ∧ Cmds w' w.heap.size v [[.int .i64 0, .int .i64 7, .int .i64 2, .int .i64 0, .bool false, .string { data := #[] }, .string (bs d1), .string (bs d2), .string { data := #[] }, .string { data := #[] }, .slice none 0 0, .slice none 0 0]] ∧ Below w.heap.size w w' := by
  have hlen : (88 :: (d1 ++ 89 :: (d2 ++ [68, 48, 50]))).length ≤ 1000000 := by simp; omega
  have n0 : ((bs (88 :: (d1 ++ 89 :: (d2 ++ [68, 48, 50])))).toList == [71, 51, 54]) = false := by rw [bs_toList, beq_eq_false_iff_ne]; intro e; injection e with e1 e2; exact absurd e1 (by decide)
  have n1 : ((bs (88 :: (d1 ++ 89 :: (d2 ++ [68, 48, 50])))).toList == [71, 51, 55]) = false := by rw [bs_toList, beq_eq_false_iff_ne]; intro e; injection e with e1 e2; exact absurd e1 (by decide)
  have n2 : ((bs (88 :: (d1 ++ 89 :: (d2 ++ [68, 48, 50])))).toList == [71, 55, 52]) = false := by rw [bs_toList, beq_eq_false_iff_ne]; intro e; injection e with e1 e2; exact absurd e1 (by decide)
  have n3 : ((bs (88 :: (d1 ++ 89 :: (d2 ++ [68, 48, 50])))).toList == [71, 55, 53]) = false := by rw [bs_toList, beq_eq_false_iff_ne]; intro e; injection e with e1 e2; exact absurd e1 (by decide)
  have n4 : ((bs (88 :: (d1 ++ 89 :: (d2 ++ [68, 48, 50])))).toList == [77, 48, 50]) = false := by rw [bs_toList, beq_eq_false_iff_ne]; intro e; injection e with e1 e2; exact absurd e1 (by decide)
  have h1 : ∀ w, Calls Tryz.prog 93 #[.string (bs (88 :: (d1 ++ 89 :: (d2 ++ [68, 48, 50])))), .string { data := #[71, 48, 52] }] w fun e w' => e = .returned (.tuple #[.string (bs (88 :: (d1 ++ 89 :: (d2 ++ [68, 48, 50])))), .bool false]) ∧ w = w' := fun w => cutP_no _ [71, 48, 52] w hlen (by decide) (by intro e; injection e with e1 e2; exact absurd e1 (by decide))
  have h2 : ∀ w, Calls Tryz.prog 93 #[.string (bs (88 :: (d1 ++ 89 :: (d2 ++ [68, 48, 50])))), .string { data := #[71, 48, 49] }] w fun e w' => e = .returned (.tuple #[.string (bs (88 :: (d1 ++ 89 :: (d2 ++ [68, 48, 50])))), .bool false]) ∧ w = w' := fun w => cutP_no _ [71, 48, 49] w hlen (by decide) (by intro e; injection e with e1 e2; exact absurd e1 (by decide))
  have h3 : ∀ w, Calls Tryz.prog 93 #[.string (bs (88 :: (d1 ++ 89 :: (d2 ++ [68, 48, 50])))), .string { data := #[71, 48, 50] }] w fun e w' => e = .returned (.tuple #[.string (bs (88 :: (d1 ++ 89 :: (d2 ++ [68, 48, 50])))), .bool false]) ∧ w = w' := fun w => cutP_no _ [71, 48, 50] w hlen (by decide) (by intro e; injection e with e1 e2; exact absurd e1 (by decide))
  have h4 : ∀ w, Calls Tryz.prog 93 #[.string (bs (88 :: (d1 ++ 89 :: (d2 ++ [68, 48, 50])))), .string { data := #[71, 48, 51] }] w fun e w' => e = .returned (.tuple #[.string (bs (88 :: (d1 ++ 89 :: (d2 ++ [68, 48, 50])))), .bool false]) ∧ w = w' := fun w => cutP_no _ [71, 48, 51] w hlen (by decide) (by intro e; injection e with e1 e2; exact absurd e1 (by decide))
  have h5 : ∀ w, Calls Tryz.prog 93 #[.string (bs (88 :: (d1 ++ 89 :: (d2 ++ [68, 48, 50])))), .string { data := #[68] }] w fun e w' => e = .returned (.tuple #[.string (bs (88 :: (d1 ++ 89 :: (d2 ++ [68, 48, 50])))), .bool false]) ∧ w = w' := fun w => cutP_no _ [68] w hlen (by decide) (by intro e; injection e with e1 e2; exact absurd e1 (by decide))
  have h6 := fun w => operation_2 d1 d2 w hd1 hd2 a1 b1 a2 b2
  obtain ⟨T, eT⟩ : ∃ x, bs (88 :: (d1 ++ 89 :: (d2 ++ [68, 48, 50]))) = x := ⟨_, rfl⟩
  obtain ⟨X, eX⟩ : ∃ x, bs d1 = x := ⟨_, rfl⟩
  obtain ⟨Y, eY⟩ : ∃ x, bs d2 = x := ⟨_, rfl⟩
  rw [eT] at n0 n1 n2 n3 n4 h1 h2 h3 h4 h5
  rw [eT, eX, eY] at h6
  rw [eT, eX, eY]
  have H1 := Lib.hid h1
  have H2 := Lib.hid h2
  have H3 := Lib.hid h3
  have H4 := Lib.hid h4
  have H5 := Lib.hid h5
  have H6 := Lib.hid h6
  obtain ⟨i40, hi40, hz0, hz1, hz2⟩ := info_parts info40
  have HI := Lib.hid (And.intro hi40 (And.intro hz0 (And.intro hz1 hz2)))
  have hZ : Hid ((Value.agg #[.int .i64 0, .int .i64 0, .int .i64 0, .int .i64 0, .bool false, .string { data := #[] }, .string { data := #[] }, .string { data := #[] }, .string { data := #[] }, .string { data := #[] }, .slice none 0 0, .slice none 0 0]).cells.size = 12) := Lib.hid (by kernel_rfl)
  clear h1 h2 h3 h4 h5 h6 hi40 hz0 hz1 hz2 eT eX eY hlen hd1 hd2 a1 b1 a2 b2
  go_enter Tryz.func62, Tryz.ntmps62
  go_wp2_with (go_at_call 93; ((with_reducible refine (H1.out _).mono ?_); rintro e w' ⟨rfl, rfl⟩))
  refine wp_loop_rounds 4 ?_
  rw [rounds_succ]
  go_wp2_with (go_at_call 93; ((with_reducible refine (H2.out _).mono ?_); rintro e w' ⟨rfl, rfl⟩))
  rw [rounds_succ]
  go_wp2_with (go_at_call 93; ((with_reducible refine (H3.out _).mono ?_); rintro e w' ⟨rfl, rfl⟩))
  rw [rounds_succ]
  go_wp2_with (go_at_call 93; ((with_reducible refine (H4.out _).mono ?_); rintro e w' ⟨rfl, rfl⟩))
  rw [rounds_succ]
  go_wp2_with (go_at_call 93; ((with_reducible refine (H5.out _).mono ?_); rintro e w' ⟨rfl, rfl⟩))
  refine (H6.out _).mono ?_
  rintro e w1 ⟨rfl, hb⟩
  have hB1 : Below w.heap.size w w1 := Below.trans (by exact blw) (hb.mono (by first | omega | (simp; done) | (simp; omega)))
  have l1 := hB1.size
  clear hb
  have hs : ∀ o, w.heap.size ≤ ((w1.alloc (.cells #[.int .i64 0, .int .i64 7, .int .i64 2, .int .i64 0, .bool false, .string { data := #[] }, .string X, .string Y, .string { data := #[] }, .string { data := #[] }, .slice none 0 0, .slice none 0 0] 103)).alloc o).heap.size := fun o => Nat.le_trans l1 (by simp; try omega)
  have hN : ∀ j u, ([.int .i64 0, .int .i64 7, .int .i64 2, .int .i64 0, .bool false, .string { data := #[] }, .string X, .string Y, .string { data := #[] }, .string { data := #[] }, .slice none 0 0, .slice none 0 0] : List Value)[j]? = some u → ((w1.alloc (.cells #[.int .i64 0, .int .i64 7, .int .i64 2, .int .i64 0, .bool false, .string { data := #[] }, .string X, .string Y, .string { data := #[] }, .string { data := #[] }, .slice none 0 0, .slice none 0 0] 103)).alloc (.cells #[.int .i64 0, .int .i64 7, .int .i64 2, .int .i64 0, .bool false, .string { data := #[] }, .string X, .string Y, .string { data := #[] }, .string { data := #[] }, .slice none 0 0, .slice none 0 0] 103)).cell? ((⟨(w1.alloc (.cells #[.int .i64 0, .int .i64 7, .int .i64 2, .int .i64 0, .bool false, .string { data := #[] }, .string X, .string Y, .string { data := #[] }, .string { data := #[] }, .slice none 0 0, .slice none 0 0] 103)).heap.size, 0, none⟩ : Addr).add j) = some u :=
    World.news_of_block (cs := #[.int .i64 0, .int .i64 7, .int .i64 2, .int .i64 0, .bool false, .string { data := #[] }, .string X, .string Y, .string { data := #[] }, .string { data := #[] }, .slice none 0 0, .slice none 0 0]) (Blk.newAt (w := (w1.alloc (.cells #[.int .i64 0, .int .i64 7, .int .i64 2, .int .i64 0, .bool false, .string { data := #[] }, .string X, .string Y, .string { data := #[] }, .string { data := #[] }, .slice none 0 0, .slice none 0 0] 103))) rfl)
  have hO : ∀ u ∈ ([.int .i64 0, .int .i64 7, .int .i64 2, .int .i64 0, .bool false, .string { data := #[] }, .string X, .string Y, .string { data := #[] }, .string { data := #[] }, .slice none 0 0, .slice none 0 0] : List Value), u.oneCell' = true := by
    intro u hu
    simp only [List.mem_cons, List.not_mem_nil, or_false] at hu
    rcases hu with rfl | rfl | rfl | rfl | rfl | rfl | rfl | rfl | rfl | rfl | rfl | rfl <;> rfl
  have HS := Lib.hid hs
  have HN := Lib.hid hN
  have HO := Lib.hid hO
  have hBW : Below w.heap.size w ((w1.alloc (.cells #[.int .i64 0, .int .i64 7, .int .i64 2, .int .i64 0, .bool false, .string { data := #[] }, .string X, .string Y, .string { data := #[] }, .string { data := #[] }, .slice none 0 0, .slice none 0 0] 103)).alloc (.cells #[.int .i64 0, .int .i64 7, .int .i64 2, .int .i64 0, .bool false, .string { data := #[] }, .string X, .string Y, .string { data := #[] }, .string { data := #[] }, .slice none 0 0, .slice none 0 0] 103)) := by exact blw
  have HBW := Lib.hid hBW
  clear hs hN hO hBW
  go_wp2_with (at_builtin; refine wpList_append_lies _ rfl (.tmp 106) (.tmp 108) 97 rfl w.heap.size 103 i40 _ 12 168 Tryz.underlying97 HI.out.1 HI.out.2.1 HI.out.2.2.1 HI.out.2.2.2 hZ.out (by decide) (.slice none 0 0) 0 [] (by simp [Act.eval]) (World.ownsRow_nil _ _ _ _) ⟨(w1.alloc (.cells #[.int .i64 0, .int .i64 7, .int .i64 2, .int .i64 0, .bool false, .string { data := #[] }, .string X, .string Y, .string { data := #[] }, .string { data := #[] }, .slice none 0 0, .slice none 0 0] 103)).heap.size, 0, none⟩ 1 1 [.int .i64 0, .int .i64 7, .int .i64 2, .int .i64 0, .bool false, .string { data := #[] }, .string X, .string Y, .string { data := #[] }, .string { data := #[] }, .slice none 0 0, .slice none 0 0] (by simp [Act.eval]) rfl HN.out HO.out (by decide) (by decide) (by decide) (HS.out _) _ rfl ?_)
  intro g cap w3 hown hgrow hat hlt
  have hB3 : Below w.heap.size w w3 := Below.grown HBW.out hgrow (HS.out _) (by simp [Value.ownBlock])
  have HQ := Lib.hid hown
  clear hown hgrow hat
  go_wp2_with fail
  go_ret2
  refine ⟨_, rfl, ⟨by simp, ?_⟩, hB3⟩
  exact HQ.out
theorem plain_op3 (d1 d2 : List UInt8) (w : World) (hd1 : Digits d1) (hd2 : Digits d2) (a1 : 0 < d1.length) (b1 : d1.length ≤ 12) (a2 : 0 < d2.length) (b2 : d2.length ≤ 12) :
    Calls Tryz.prog 62 #[.string (bs (88 :: (d1 ++ 89 :: (d2 ++ [68, 48, 51]))))] w fun e w' => ∃ v, e = .returned (.tuple #[v, .int .i64 0]) ∧ Cmds w' w.heap.size v [[.int .i64 0, .int .i64 7, .int .i64 3, .int .i64 0, .bool false, .string { data := #[] }, .string (bs d1), .string (bs d2), .string { data := #[] }, .string { data := #[] }, .slice none 0 0, .slice none 0 0]] ∧ Below w.heap.size w w' := by
  have hlen : (88 :: (d1 ++ 89 :: (d2 ++ [68, 48, 51]))).length ≤ 1000000 := by simp; omega
  have n0 : ((bs (88 :: (d1 ++ 89 :: (d2 ++ [68, 48, 51])))).toList == [71, 51, 54]) = false := by rw [bs_toList, beq_eq_false_iff_ne]; intro e; injection e with e1 e2; exact absurd e1 (by decide)
  have n1 : ((bs (88 :: (d1 ++ 89 :: (d2 ++ [68, 48, 51])))).toList == [71, 51, 55]) = false := by rw [bs_toList, beq_eq_false_iff_ne]; intro e; injection e with e1 e2; exact absurd e1 (by decide)
  have n2 : ((bs (88 :: (d1 ++ 89 :: (d2 ++ [68, 48, 51])))).toList == [71, 55, 52]) = false := by rw [bs_toList, beq_eq_false_iff_ne]; intro e; injection e with e1 e2; exact absurd e1 (by decide)
  have n3 : ((bs (88 :: (d1 ++ 89 :: (d2 ++ [68, 48, 51])))).toList == [71, 55, 53]) = false := by rw [bs_toList, beq_eq_false_iff_ne]; intro e; injection e with e1 e2; exact absurd e1 (by decide)
  have n4 : ((bs (88 :: (d1 ++ 89 :: (d2 ++ [68, 48, 51])))).toList == [77, 48, 50]) = false := by rw [bs_toList, beq_eq_false_iff_ne]; intro e; injection e with e1 e2; exact absurd e1 (by decide)
  have h1 : ∀ w, Calls Tryz.prog 93 #[.string (bs (88 :: (d1 ++ 89 :: (d2 ++ [68, 48, 51])))), .string { data := #[71, 48, 52] }] w fun e w' => e = .returned (.tuple #[.string (bs (88 :: (d1 ++ 89 :: (d2 ++ [68, 48, 51])))), .bool false]) ∧ w = w' := fun w => cutP_no _ [71, 48, 52] w hlen (by decide) (by intro e; injection e with e1 e2; exact absurd e1 (by decide))
  have h2 : ∀ w, Calls Tryz.prog 93 #[.string (bs (88 :: (d1 ++ 89 :: (d2 ++ [68, 48, 51])))), .string { data := #[71, 48, 49] }] w fun e w' => e = .returned (.tuple #[.string (bs (88 :: (d1 ++ 89 :: (d2 ++ [68, 48, 51])))), .bool false]) ∧ w = w' := fun w => cutP_no _ [71, 48, 49] w hlen (by decide) (by intro e; injection e with e1 e2; exact absurd e1 (by decide))
  have h3 : ∀ w, Calls Tryz.prog 93 #[.string (bs (88 :: (d1 ++ 89 :: (d2 ++ [68, 48, 51])))), .string { data := #[71, 48, 50] }] w fun e w' => e = .returned (.tuple #[.string (bs (88 :: (d1 ++ 89 :: (d2 ++ [68, 48, 51])))), .bool false]) ∧ w = w' := fun w => cutP_no _ [71, 48, 50] w hlen (by decide) (by intro e; injection e with e1 e2; exact absurd e1 (by decide))
  have h4 : ∀ w, Calls Tryz.prog 93 #[.string (bs (88 :: (d1 ++ 89 :: (d2 ++ [68, 48, 51])))), .string { data := #[71, 48, 51] }] w fun e w' => e = .returned (.tuple #[.string (bs (88 :: (d1 ++ 89 :: (d2 ++ [68, 48, 51])))), .bool false]) ∧ w = w' := fun w => cutP_no _ [71, 48, 51] w hlen (by decide) (by intro e; injection e with e1 e2; exact absurd e1 (by decide))
  have h5 : ∀ w, Calls Tryz.prog 93 #[.string (bs (88 :: (d1 ++ 89 :: (d2 ++ [68, 48, 51])))), .string { data := #[68] }] w fun e w' => e = .returned (.tuple #[.string (bs (88 :: (d1 ++ 89 :: (d2 ++ [68, 48, 51])))), .bool false]) ∧ w = w' := fun w => cutP_no _ [68] w hlen (by decide) (by intro e; injection e with e1 e2; exact absurd e1 (by decide))
  have h6 := fun w => operation_3 d1 d2 w hd1 hd2 a1 b1 a2 b2
  obtain ⟨T, eT⟩ : ∃ x, bs (88 :: (d1 ++ 89 :: (d2 ++ [68, 48, 51]))) = x := ⟨_, rfl⟩
  obtain ⟨X, eX⟩ : ∃ x, bs d1 = x := ⟨_, rfl⟩
  obtain ⟨Y, eY⟩ : ∃ x, bs d2 = x := ⟨_, rfl⟩
  rw [eT] at n0 n1 n2 n3 n4 h1 h2 h3 h4 h5
  rw [eT, eX, eY] at h6
  rw [eT, eX, eY]
  have H1 := Lib.hid h1
  have H2 := Lib.hid h2
  have H3 := Lib.hid h3
  have H4 := Lib.hid h4
  have H5 := Lib.hid h5
  have H6 := Lib.hid h6
  obtain ⟨i40, hi40, hz0, hz1, hz2⟩ := info_parts info40
  have HI := Lib.hid (And.intro hi40 (And.intro hz0 (And.intro hz1 hz2)))
  have hZ : Hid ((Value.agg #[.int .i64 0, .int .i64 0, .int .i64 0, .int .i64 0, .bool false, .string { data := #[] }, .string { data := #[] }, .string { data := #[] }, .string { data := #[] }, .string { data := #[] }, .slice none 0 0, .slice none 0 0]).cells.size = 12) := Lib.hid (by kernel_rfl)
  clear h1 h2 h3 h4 h5 h6 hi40 hz0 hz1 hz2 eT eX eY hlen hd1 hd2 a1 b1 a2 b2
  go_enter Tryz.func62, Tryz.ntmps62
  go_wp2_with (go_at_call 93; ((with_reducible refine (H1.out _).mono ?_); rintro e w' ⟨rfl, rfl⟩))
  refine wp_loop_rounds 4 ?_
  rw [rounds_succ]
  go_wp2_with (go_at_call 93; ((with_reducible refine (H2.out _).mono ?_); rintro e w' ⟨rfl, rfl⟩))
  rw [rounds_succ]
  go_wp2_with (go_at_call 93; ((with_reducible refine (H3.out _).mono ?_); rintro e w' ⟨rfl, rfl⟩))
  rw [rounds_succ]
  go_wp2_with (go_at_call 93; ((with_reducible refine (H4.out _).mono ?_); rintro e w' ⟨rfl, rfl⟩))
  rw [rounds_succ]
  go_wp2_with (go_at_call 93; ((with_reducible refine (H5.out _).mono ?_); rintro e w' ⟨rfl, rfl⟩))
  refine (H6.out _).mono ?_
  rintro e w1 ⟨rfl, hb⟩
  have hB1 : Below w.heap.size w w1 := Below.trans (by exact blw) (hb.mono (by first | omega | (simp; done) | (simp; omega)))
  have l1 := hB1.size
  clear hb
  have hs : ∀ o, w.heap.size ≤ ((w1.alloc (.cells #[.int .i64 0, .int .i64 7, .int .i64 3, .int .i64 0, .bool false, .string { data := #[] }, .string X, .string Y, .string { data := #[] }, .string { data := #[] }, .slice none 0 0, .slice none 0 0] 103)).alloc o).heap.size := fun o => Nat.le_trans l1 (by simp; try omega)
  have hN : ∀ j u, ([.int .i64 0, .int .i64 7, .int .i64 3, .int .i64 0, .bool false, .string { data := #[] }, .string X, .string Y, .string { data := #[] }, .string { data := #[] }, .slice none 0 0, .slice none 0 0] : List Value)[j]? = some u → ((w1.alloc (.cells #[.int .i64 0, .int .i64 7, .int .i64 3, .int .i64 0, .bool false, .string { data := #[] }, .string X, .string Y, .string { data := #[] }, .string { data := #[] }, .slice none 0 0, .slice none 0 0] 103)).alloc (.cells #[.int .i64 0, .int .i64 7, .int .i64 3, .int .i64 0, .bool false, .string { data := #[] }, .string X, .string Y, .string { data := #[] }, .string { data := #[] }, .slice none 0 0, .slice none 0 0] 103)).cell? ((⟨(w1.alloc (.cells #[.int .i64 0, .int .i64 7, .int .i64 3, .int .i64 0, .bool false, .string { data := #[] }, .string X, .string Y, .string { data := #[] }, .string { data := #[] }, .slice none 0 0, .slice none 0 0] 103)).heap.size, 0, none⟩ : Addr).add j) = some u :=
    World.news_of_block (cs := #[.int .i64 0, .int .i64 7, .int .i64 3, .int .i64 0, .bool false, .string { data := #[] }, .string X, .string Y, .string { data := #[] }, .string { data := #[] }, .slice none 0 0, .slice none 0 0]) (Blk.newAt (w := (w1.alloc (.cells #[.int .i64 0, .int .i64 7, .int .i64 3, .int .i64 0, .bool false, .string { data := #[] }, .string X, .string Y, .string { data := #[] }, .string { data := #[] }, .slice none 0 0, .slice none 0 0] 103))) rfl)
  have hO : ∀ u ∈ ([.int .i64 0, .int .i64 7, .int .i64 3, .int .i64 0, .bool false, .string { data := #[] }, .string X, .string Y, .string { data := #[] }, .string { data := #[] }, .slice none 0 0, .slice none 0 0] : List Value), u.oneCell' = true := by
    intro u hu
    simp only [List.mem_cons, List.not_mem_nil, or_false] at hu
    rcases hu with rfl | rfl | rfl | rfl | rfl | rfl | rfl | rfl | rfl | rfl | rfl | rfl <;> rfl
  have HS := Lib.hid hs
  have HN := Lib.hid hN
  have HO := Lib.hid hO
  have hBW : Below w.heap.size w ((w1.alloc (.cells #[.int .i64 0, .int .i64 7, .int .i64 3, .int .i64 0, .bool false, .string { data := #[] }, .string X, .string Y, .string { data := #[] }, .string { data := #[] }, .slice none 0 0, .slice none 0 0] 103)).alloc (.cells #[.int .i64 0, .int .i64 7, .int .i64 3, .int .i64 0, .bool false, .string { data := #[] }, .string X, .string Y, .string { data := #[] }, .string { data := #[] }, .slice none 0 0, .slice none 0 0] 103)) := by exact blw
  have HBW := Lib.hid hBW
  clear hs hN hO hBW
  go_wp2_with (at_builtin; refine wpList_append_lies _ rfl (.tmp 106) (.tmp 108) 97 rfl w.heap.size 103 i40 _ 12 168 Tryz.underlying97 HI.out.1 HI.out.2.1 HI.out.2.2.1 HI.out.2.2.2 hZ.out (by decide) (.slice none 0 0) 0 [] (by simp [Act.eval]) (World.ownsRow_nil _ _ _ _) ⟨(w1.alloc (.cells #[.int .i64 0, .int .i64 7, .int .i64 3, .int .i64 0, .bool false, .string { data := #[] }, .string X, .string Y, .string { data := #[] }, .string { data := #[] }, .slice none 0 0, .slice none 0 0] 103)).heap.size, 0, none⟩ 1 1 [.int .i64 0, .int .i64 7, .int .i64 3, .int .i64 0, .bool false, .string { data := #[] }, .string X, .string Y, .string { data := #[] }, .string { data := #[] }, .slice none 0 0, .slice none 0 0] (by simp [Act.eval]) rfl HN.out HO.out (by decide) (by decide) (by decide) (HS.out _) _ rfl ?_)
  intro g cap w3 hown hgrow hat hlt
  have hB3 : Below w.heap.size w w3 := Below.grown HBW.out hgrow (HS.out _) (by simp [Value.ownBlock])
  have HQ := Lib.hid hown
  clear hown hgrow hat
  go_wp2_with fail
  go_ret2
  refine ⟨_, rfl, ⟨by simp, ?_⟩, hB3⟩
  exact HQ.out
end Go.Proofs.YtfajckkbinbpiaaGreatDoor
