/- Walks: strokes of the reference: whether a point is in one. -/
import Derived.LoopTactic
import Derived.Test.YtfajckkbinbpiaaGreatDoorN04
import Derived.Test.YtfajckkbinbpiaaGreatDoorN19
import Derived.Test.YtfajckkbinbpiaaGreatDoorN22
namespace Go.Proofs.YtfajckkbinbpiaaGreatDoor
set_option maxRecDepth 100000
set_option maxHeartbeats 32000000
set_option linter.unusedVariables false
set_option linter.unusedSimpArgs false
open Go.RowKit Go.Sort
theorem rsqc (v : Int) (h0 : -9223372036854775808 ≤ v) (h1 : v ≤ 9223372036854775807) {H L : Int} (eH : ((hiN (v.natAbs * v.natAbs) : Nat) : Int) = H) (eL : ((loN (v.natAbs * v.natAbs) : Nat) : Int) = L) (w : World) :
    Calls Tryz.prog 179 #[.int .i64 v] w fun e w' => e = .returned (.agg #[.int .u64 H, .int .u64 L]) ∧ Below w.heap.size w w' := by
  subst eH eL; exact rsq v h0 h1 w
theorem rmulc (x y : Nat) (hx : x < lim) (hy : y < lim) {X Y H L : Int} (eX : (x : Int) = X) (eY : (y : Int) = Y) (eH : ((hiN (x * y) : Nat) : Int) = H) (eL : ((loN (x * y) : Nat) : Int) = L) (w : World) :
    Calls Tryz.prog 180 #[.int .u64 X, .int .u64 Y] w fun e w' => e = .returned (.agg #[.int .u64 H, .int .u64 L]) ∧ Below w.heap.size w w' := by
  subst eX eY eH eL; exact rmul x y hx hy w
theorem rcmpc (n m : Nat) {A B C D H : Int} (eA : ((hiN n : Nat) : Int) = A) (eB : ((loN n : Nat) : Int) = B) (eC : ((hiN m : Nat) : Int) = C) (eD : ((loN m : Nat) : Int) = D) (eH : cmpN n m = H) (w : World) :
    Calls Tryz.prog 178 #[.agg #[.int .u64 A, .int .u64 B], .agg #[.int .u64 C, .int .u64 D]] w fun e w' => e = .returned (.int .i64 H) ∧ Below w.heap.size w w' := by
  subst eA eB eC eD eH
  have := rcmp (hiN n) (loN n) (hiN m) (loN m) (lo_lt _) (lo_lt _) w
  rw [val_hl, val_hl] at this
  exact this
theorem rwithin_c (k h l : Int) (w : World) (k_0 : -100000000 ≤ k) (k_1 : k ≤ 100000000) (h_0 : 1 ≤ h) (h_1 : h ≤ 1000) (l_0 : 0 ≤ l) (l_1 : l ≤ 100000000) :
    Calls Tryz.prog 130 #[.int .i64 k, .int .i64 h, .int .i64 l] w fun e w' => e = .returned (.bool (decide (k * k ≤ h * h * l))) ∧ Below w.heap.size w w' := by
  have sR := r_sq h_0 h_1
  have R0 := Int.mul_le_mul h_1 h_1 (by omega) (by decide : (0 : Int) ≤ 1000)
  have R1 := Int.mul_nonneg (show 0 ≤ h by omega) (show 0 ≤ h by omega)
  obtain ⟨R, eR⟩ : ∃ R, h * h = R := ⟨_, rfl⟩
  rw [eR] at sR R0 R1 ⊢
  have sR2 : IntKind.i64.wrap (h * h) = R := by rw [eR]; exact sR
  obtain ⟨Z, eZ⟩ : ∃ Z, decide (k * k ≤ R * l) = Z := ⟨_, rfl⟩
  rw [eZ]
  obtain ⟨n, en⟩ : ∃ n, k.natAbs * k.natAbs = n := ⟨_, rfl⟩
  obtain ⟨m, em⟩ : ∃ m, R.toNat * l.toNat = m := ⟨_, rfl⟩
  have eq : decide (cmpN n m ≤ 0) = Z := by rw [cmp_le, ← en, ← em, sq_le_nat _ _ _ R1 l_0]; exact eZ
  obtain ⟨q, eq'⟩ : ∃ q, cmpN n m = q := ⟨_, rfl⟩
  rw [eq'] at eq
  obtain ⟨H1, eH1⟩ : ∃ H : Int, ((hiN n : Nat) : Int) = H := ⟨_, rfl⟩
  obtain ⟨L1, eL1⟩ : ∃ H : Int, ((loN n : Nat) : Int) = H := ⟨_, rfl⟩
  obtain ⟨H2, eH2⟩ : ∃ H : Int, ((hiN m : Nat) : Int) = H := ⟨_, rfl⟩
  obtain ⟨L2, eL2⟩ : ∃ H : Int, ((loN m : Nat) : Int) = H := ⟨_, rfl⟩
  have cq := fun w => rsqc k (by omega) (by omega) (H := H1) (L := L1) (by rw [en]; exact eH1) (by rw [en]; exact eL1) w
  have m1 := fun w => rmulc R.toNat l.toNat (by rw [lim_eq]; omega) (by rw [lim_eq]; omega) (X := R) (Y := l) (H := H2) (L := L2) (by omega) (by omega) (by rw [em]; exact eH2) (by rw [em]; exact eL2) w
  have m2 := fun w => rcmpc n m (A := H1) (B := L1) (C := H2) (D := L2) (H := q) eH1 eL1 eH2 eL2 eq' w
  have x1 : IntKind.u64.wrap R = R := by rw [IntKind.wrap_u64]; omega
  have x2 : IntKind.u64.wrap l = l := by rw [IntKind.wrap_u64]; omega
  have CQ := Lib.hid cq
  have M1 := Lib.hid m1
  have M2 := Lib.hid m2
  have EZ := Lib.hid eq
  clear cq m1 m2 eH1 eL1 eH2 eL2 en em eq eq' eZ eR sR
  go_enter Tryz.func130, Tryz.ntmps130
  go_wp2_with fail
  refine (CQ.out _).mono ?_
  rintro e w1 ⟨rfl, hb⟩
  have hB1 : Below w.heap.size w w1 := Below.trans (by exact blw) (hb.mono (by first | omega | (simp; done) | (simp; omega)))
  have l1 := hB1.size
  have HB1 := Lib.hid hB1
  clear hb hB1
  go_wp2_with fail
  refine (M1.out _).mono ?_
  rintro e w2 ⟨rfl, hb⟩
  have hB2 : Below w.heap.size w w2 := HB1.out.trans (Below.trans (by exact blw) (hb.mono (by first | omega | (simp; done) | (simp; omega))))
  have l2 := hB2.size
  have HB2 := Lib.hid hB2
  clear hb hB2
  go_wp2_with fail
  refine (M2.out _).mono ?_
  rintro e w3 ⟨rfl, hb⟩
  have hB3 : Below w.heap.size w w3 := HB2.out.trans (Below.trans (by exact blw) (hb.mono (by first | omega | (simp; done) | (simp; omega))))
  have HB3 := Lib.hid hB3
  clear hb hB3
  go_wp2_with fail
  go_ret
  exact ⟨congrArg (fun z => Ending.returned (Value.bool z)) EZ.out, HB3.out⟩
theorem cross_rng {a b c d x y : Int} (a_0 : -2000 ≤ a) (a_1 : a ≤ 2000) (b_0 : -2000 ≤ b) (b_1 : b ≤ 2000) (c_0 : -2000 ≤ c) (c_1 : c ≤ 2000) (d_0 : -2000 ≤ d) (d_1 : d ≤ 2000) (x_0 : -2000 ≤ x) (x_1 : x ≤ 2000) (y_0 : -2000 ≤ y) (y_1 : y ≤ 2000) : -32000000 ≤ Geo.cross a b c d x y ∧ Geo.cross a b c d x y ≤ 32000000 := by
  have h1 := pr_rng (u := c - a) (v := y - b) (by omega) (by omega) (by omega) (by omega)
  have h2 := pr_rng (u := d - b) (v := x - a) (by omega) (by omega) (by omega) (by omega)
  unfold Geo.cross
  omega
theorem rdist_rng {a b x y : Int} (a_0 : -2000 ≤ a) (a_1 : a ≤ 2000) (b_0 : -2000 ≤ b) (b_1 : b ≤ 2000) (x_0 : -2000 ≤ x) (x_1 : x ≤ 2000) (y_0 : -2000 ≤ y) (y_1 : y ≤ 2000) : 0 ≤ Geo.dist a b x y ∧ Geo.dist a b x y ≤ 32000000 := by
  have h1 := pr_rng (u := a - x) (v := a - x) (by omega) (by omega) (by omega) (by omega)
  have h2 := pr_rng (u := b - y) (v := b - y) (by omega) (by omega) (by omega) (by omega)
  have h3 := Geo.sq_nonneg (a - x)
  have h4 := Geo.sq_nonneg (b - y)
  unfold Geo.dist
  omega
theorem rlinehas_c (px py ax ay cx cy r : Int) (w : World) (px_0 : -2000 ≤ px) (px_1 : px ≤ 2000) (py_0 : -2000 ≤ py) (py_1 : py ≤ 2000) (ax_0 : -2000 ≤ ax) (ax_1 : ax ≤ 2000) (ay_0 : -2000 ≤ ay) (ay_1 : ay ≤ 2000) (cx_0 : -2000 ≤ cx) (cx_1 : cx ≤ 2000) (cy_0 : -2000 ≤ cy) (cy_1 : cy ≤ 2000) (r_0 : 1 ≤ r) (r_1 : r ≤ 1000) : Calls Tryz.prog 126 #[.agg #[.int .i64 px, .int .i64 py], .agg #[.int .i64 ax, .int .i64 ay], .agg #[.int .i64 cx, .int .i64 cy], .int .i64 r] w fun e w' => e = .returned (.bool (decide (Geo.HasL ax ay cx cy r px py))) ∧ Below w.heap.size w w' := by
  have nt := fun w => rdot_c ax ay cx cy px py w ax_0 ax_1 ay_0 ay_1 cx_0 cx_1 cy_0 cy_1 px_0 px_1 py_0 py_1
  have nl := fun w => rdist_c ax ay cx cy w ax_0 ax_1 ay_0 ay_1 cx_0 cx_1 cy_0 cy_1
  have na := fun w => rdist_c px py ax ay w px_0 px_1 py_0 py_1 ax_0 ax_1 ay_0 ay_1
  have nc := fun w => rdist_c px py cx cy w px_0 px_1 py_0 py_1 cx_0 cx_1 cy_0 cy_1
  have nk := fun w => rcross_c ax ay cx cy px py w ax_0 ax_1 ay_0 ay_1 cx_0 cx_1 cy_0 cy_1 px_0 px_1 py_0 py_1
  have gk := cross_rng ax_0 ax_1 ay_0 ay_1 cx_0 cx_1 cy_0 cy_1 px_0 px_1 py_0 py_1
  have gl := rdist_rng ax_0 ax_1 ay_0 ay_1 cx_0 cx_1 cy_0 cy_1
  have ga := rdist_rng px_0 px_1 py_0 py_1 ax_0 ax_1 ay_0 ay_1
  have gc := rdist_rng px_0 px_1 py_0 py_1 cx_0 cx_1 cy_0 cy_1
  have sR := r_sq r_0 r_1
  rw [hasL_dec]
  obtain ⟨Tt, eT⟩ : ∃ R, Geo.dt ax ay cx cy px py = R := ⟨_, rfl⟩
  obtain ⟨L, eL⟩ : ∃ R, Geo.dist ax ay cx cy = R := ⟨_, rfl⟩
  obtain ⟨DA, eA⟩ : ∃ R, Geo.dist px py ax ay = R := ⟨_, rfl⟩
  obtain ⟨DC, eC⟩ : ∃ R, Geo.dist px py cx cy = R := ⟨_, rfl⟩
  obtain ⟨K, eK⟩ : ∃ R, Geo.cross ax ay cx cy px py = R := ⟨_, rfl⟩
  rw [eT, eL, eA, eC, eK]
  rw [eT] at nt
  rw [eL] at nl gl
  rw [eA] at na ga
  rw [eC] at nc gc
  rw [eK] at nk gk
  have nw := fun w => rwithin_c K r L w (by omega) (by omega) r_0 r_1 gl.1 (by omega)
  obtain ⟨W, eW⟩ : ∃ R, decide (K * K ≤ r * r * L) = R := ⟨_, rfl⟩
  rw [eW] at nw ⊢
  obtain ⟨R, eR⟩ : ∃ R, r * r = R := ⟨_, rfl⟩
  rw [eR] at sR ⊢
  have sR2 : IntKind.i64.wrap (r * r) = R := by rw [eR]; exact sR
  have d1 : decide (r < 1) = false := by simp; omega
  have CT := Lib.hid nt
  have CL := Lib.hid nl
  have CA := Lib.hid na
  have CC' := Lib.hid nc
  have CK := Lib.hid nk
  have CW := Lib.hid nw
  clear nt nl na nc nk nw eT eL eA eC eK eW eR sR gk gl ga gc px_0 px_1 py_0 py_1 ax_0 ax_1 ay_0 ay_1 cx_0 cx_1 cy_0 cy_1
  rcases Int.lt_or_le 0 Tt with h | h
  · rw [if_neg (by omega)]
    have d2 : decide (Tt ≤ 0) = false := by simp; omega
    rcases Int.lt_or_le Tt L with h2 | h2
    · rw [if_neg (by omega)]
      have d3 : decide (L ≤ Tt) = false := by simp; omega
      obtain ⟨u, eu⟩ : ∃ u, ((w.alloc (.cells #[.int .i64 px, .int .i64 py] 58)).alloc (.cells #[.int .i64 ax, .int .i64 ay] 58)).alloc (.cells #[.int .i64 cx, .int .i64 cy] 58) = u := ⟨_, rfl⟩
      have hBu : Below w.heap.size w u := by rw [← eu]; exact blw
      have kp : Blk u w.heap.size 58 #[.int .i64 px, .int .i64 py] := by rw [← eu]; exact bkw
      have ka : Blk u (w.heap.size + 1) 58 #[.int .i64 ax, .int .i64 ay] := by rw [← eu]; exact bkw
      have kc : Blk u (w.heap.size + 1 + 1) 58 #[.int .i64 cx, .int .i64 cy] := by rw [← eu]; exact bkw
      have EU := Lib.hid eu
      have HBU := Lib.hid hBu
      have KP := Lib.hid kp
      have KA := Lib.hid ka
      have KC := Lib.hid kc
      have su := hBu.size
      have lp := kp.lt
      have la := ka.lt
      have lc := kc.lt
      clear eu hBu kp ka kc
      go_enter Tryz.func126, Tryz.ntmps126
      go_wp2_with fail
      rw [EU.out]
      have y00 := cell_regrown (show u.cell? ⟨w.heap.size, 0, none⟩ = some (.int .i64 px) from KP.out.cell 0)
      have y01 := cell_regrown (show u.cell? ⟨w.heap.size, 1, none⟩ = some (.int .i64 py) from KP.out.cell 1)
      have y10 := cell_regrown (show u.cell? ⟨w.heap.size + 1, 0, none⟩ = some (.int .i64 ax) from KA.out.cell 0)
      have y11 := cell_regrown (show u.cell? ⟨w.heap.size + 1, 1, none⟩ = some (.int .i64 ay) from KA.out.cell 1)
      have y20 := cell_regrown (show u.cell? ⟨w.heap.size + 1 + 1, 0, none⟩ = some (.int .i64 cx) from KC.out.cell 0)
      have y21 := cell_regrown (show u.cell? ⟨w.heap.size + 1 + 1, 1, none⟩ = some (.int .i64 cy) from KC.out.cell 1)
      have m1 : ∀ d' os, Calls Tryz.prog 128 #[.agg #[.int .i64 ax, .int .i64 ay], .agg #[.int .i64 cx, .int .i64 cy], .agg #[.int .i64 px, .int .i64 py]] (Go.Sort.grow (redrawn u d') os) fun e w'' => e = .returned (.int .i64 Tt) ∧ ∃ p : Regrown, w'' = Go.Sort.grow (redrawn u p.d) p.os := fun d' os => Calls.regrown_of (CT.out _)
      have M1 := Lib.hid m1
      have m2 : ∀ d' os, Calls Tryz.prog 127 #[.agg #[.int .i64 ax, .int .i64 ay], .agg #[.int .i64 cx, .int .i64 cy]] (Go.Sort.grow (redrawn u d') os) fun e w'' => e = .returned (.int .i64 L) ∧ ∃ p : Regrown, w'' = Go.Sort.grow (redrawn u p.d) p.os := fun d' os => Calls.regrown_of (CL.out _)
      have M2 := Lib.hid m2
      clear m1 m2
      refine wp_region_quiet_below (by kernel_rfl) (by kernel_rfl) ?_
      repeat (any_goals (first | go_big_quiet_step (first | (with_reducible exact M1.out _ _) | (with_reducible exact M2.out _ _)) | quiet_step (first | (with_reducible exact M1.out _ _) | (with_reducible exact M2.out _ _))))
      refine wpQuiet_nil ?_
      intro w1 hw'
      have hb : Below u.heap.size u w1 := by obtain ⟨p, rfl⟩ := hw'; exact below_regrown _ _ _
      have hB1 : Below w.heap.size w w1 := HBU.out.trans (hb.mono su)
      have k1p : Blk w1 w.heap.size 58 #[.int .i64 px, .int .i64 py] := KP.out.below hb lp
      have k1a : Blk w1 (w.heap.size + 1) 58 #[.int .i64 ax, .int .i64 ay] := KA.out.below hb la
      have k1c : Blk w1 (w.heap.size + 1 + 1) 58 #[.int .i64 cx, .int .i64 cy] := KC.out.below hb lc
      have g1p := k1p.cell
      have g1a := k1a.cell
      have g1c := k1c.cell
      have h1p := k1p.lt
      have h1a := k1a.lt
      have h1c := k1c.lt
      have l1 := hB1.size
      clear hw' hb y00 y01 y10 y11 y20 y21 lp la lc k1p k1a k1c
      go_wp2_with fail
      refine (CK.out _).mono ?_
      rintro e w2 ⟨rfl, hb⟩
      have hB2 : Below w.heap.size w w2 := hB1.trans (hb.mono l1)
      have l2 := hB2.size
      clear hb g1p g1a g1c h1p h1a h1c
      go_wp2_with fail
      refine (CW.out _).mono ?_
      rintro e w3 ⟨rfl, hb⟩
      have HB3 := Lib.hid (hB2.trans (hb.mono l2))
      clear hb
      go_wp2_with fail
      go_ret
      exact ⟨rfl, HB3.out⟩
    · rw [if_pos (by omega)]
      have d3 : decide (L ≤ Tt) = true := by simp; omega
      obtain ⟨Z, eZ⟩ : ∃ Z, decide (DC ≤ R) = Z := ⟨_, rfl⟩
      rw [eZ]
      obtain ⟨u, eu⟩ : ∃ u, ((w.alloc (.cells #[.int .i64 px, .int .i64 py] 58)).alloc (.cells #[.int .i64 ax, .int .i64 ay] 58)).alloc (.cells #[.int .i64 cx, .int .i64 cy] 58) = u := ⟨_, rfl⟩
      have hBu : Below w.heap.size w u := by rw [← eu]; exact blw
      have kp : Blk u w.heap.size 58 #[.int .i64 px, .int .i64 py] := by rw [← eu]; exact bkw
      have ka : Blk u (w.heap.size + 1) 58 #[.int .i64 ax, .int .i64 ay] := by rw [← eu]; exact bkw
      have kc : Blk u (w.heap.size + 1 + 1) 58 #[.int .i64 cx, .int .i64 cy] := by rw [← eu]; exact bkw
      have EU := Lib.hid eu
      have HBU := Lib.hid hBu
      have KP := Lib.hid kp
      have KA := Lib.hid ka
      have KC := Lib.hid kc
      have su := hBu.size
      have lp := kp.lt
      have la := ka.lt
      have lc := kc.lt
      clear eu hBu kp ka kc
      go_enter Tryz.func126, Tryz.ntmps126
      go_wp2_with fail
      rw [EU.out]
      have y00 := cell_regrown (show u.cell? ⟨w.heap.size, 0, none⟩ = some (.int .i64 px) from KP.out.cell 0)
      have y01 := cell_regrown (show u.cell? ⟨w.heap.size, 1, none⟩ = some (.int .i64 py) from KP.out.cell 1)
      have y10 := cell_regrown (show u.cell? ⟨w.heap.size + 1, 0, none⟩ = some (.int .i64 ax) from KA.out.cell 0)
      have y11 := cell_regrown (show u.cell? ⟨w.heap.size + 1, 1, none⟩ = some (.int .i64 ay) from KA.out.cell 1)
      have y20 := cell_regrown (show u.cell? ⟨w.heap.size + 1 + 1, 0, none⟩ = some (.int .i64 cx) from KC.out.cell 0)
      have y21 := cell_regrown (show u.cell? ⟨w.heap.size + 1 + 1, 1, none⟩ = some (.int .i64 cy) from KC.out.cell 1)
      have m1 : ∀ d' os, Calls Tryz.prog 128 #[.agg #[.int .i64 ax, .int .i64 ay], .agg #[.int .i64 cx, .int .i64 cy], .agg #[.int .i64 px, .int .i64 py]] (Go.Sort.grow (redrawn u d') os) fun e w'' => e = .returned (.int .i64 Tt) ∧ ∃ p : Regrown, w'' = Go.Sort.grow (redrawn u p.d) p.os := fun d' os => Calls.regrown_of (CT.out _)
      have M1 := Lib.hid m1
      have m2 : ∀ d' os, Calls Tryz.prog 127 #[.agg #[.int .i64 ax, .int .i64 ay], .agg #[.int .i64 cx, .int .i64 cy]] (Go.Sort.grow (redrawn u d') os) fun e w'' => e = .returned (.int .i64 L) ∧ ∃ p : Regrown, w'' = Go.Sort.grow (redrawn u p.d) p.os := fun d' os => Calls.regrown_of (CL.out _)
      have M2 := Lib.hid m2
      clear m1 m2
      refine wp_region_quiet_below (by kernel_rfl) (by kernel_rfl) ?_
      repeat (any_goals (first | go_big_quiet_step (first | (with_reducible exact M1.out _ _) | (with_reducible exact M2.out _ _)) | quiet_step (first | (with_reducible exact M1.out _ _) | (with_reducible exact M2.out _ _))))
      refine wpQuiet_nil ?_
      intro w1 hw'
      have hb : Below u.heap.size u w1 := by obtain ⟨p, rfl⟩ := hw'; exact below_regrown _ _ _
      have hB1 : Below w.heap.size w w1 := HBU.out.trans (hb.mono su)
      have k1p : Blk w1 w.heap.size 58 #[.int .i64 px, .int .i64 py] := KP.out.below hb lp
      have k1a : Blk w1 (w.heap.size + 1) 58 #[.int .i64 ax, .int .i64 ay] := KA.out.below hb la
      have k1c : Blk w1 (w.heap.size + 1 + 1) 58 #[.int .i64 cx, .int .i64 cy] := KC.out.below hb lc
      have g1p := k1p.cell
      have g1a := k1a.cell
      have g1c := k1c.cell
      have h1p := k1p.lt
      have h1a := k1a.lt
      have h1c := k1c.lt
      have l1 := hB1.size
      clear hw' hb y00 y01 y10 y11 y20 y21 lp la lc k1p k1a k1c
      go_wp2_with fail
      refine (CC'.out _).mono ?_
      rintro e w2 ⟨rfl, hb⟩
      have hB2 : Below w.heap.size w w2 := hB1.trans (hb.mono l1)
      have l2 := hB2.size
      clear hb g1p g1a g1c h1p h1a h1c
      go_wp2_with fail
      go_ret
      exact ⟨rfl, hB2⟩
  · rw [if_pos (by omega)]
    have d2 : decide (Tt ≤ 0) = true := by simp; omega
    obtain ⟨Z, eZ⟩ : ∃ Z, decide (DA ≤ R) = Z := ⟨_, rfl⟩
    rw [eZ]
    obtain ⟨u, eu⟩ : ∃ u, ((w.alloc (.cells #[.int .i64 px, .int .i64 py] 58)).alloc (.cells #[.int .i64 ax, .int .i64 ay] 58)).alloc (.cells #[.int .i64 cx, .int .i64 cy] 58) = u := ⟨_, rfl⟩
    have hBu : Below w.heap.size w u := by rw [← eu]; exact blw
    have kp : Blk u w.heap.size 58 #[.int .i64 px, .int .i64 py] := by rw [← eu]; exact bkw
    have ka : Blk u (w.heap.size + 1) 58 #[.int .i64 ax, .int .i64 ay] := by rw [← eu]; exact bkw
    have kc : Blk u (w.heap.size + 1 + 1) 58 #[.int .i64 cx, .int .i64 cy] := by rw [← eu]; exact bkw
    have EU := Lib.hid eu
    have HBU := Lib.hid hBu
    have KP := Lib.hid kp
    have KA := Lib.hid ka
    have KC := Lib.hid kc
    have su := hBu.size
    have lp := kp.lt
    have la := ka.lt
    have lc := kc.lt
    clear eu hBu kp ka kc
    go_enter Tryz.func126, Tryz.ntmps126
    go_wp2_with fail
    rw [EU.out]
    have y00 := cell_regrown (show u.cell? ⟨w.heap.size, 0, none⟩ = some (.int .i64 px) from KP.out.cell 0)
    have y01 := cell_regrown (show u.cell? ⟨w.heap.size, 1, none⟩ = some (.int .i64 py) from KP.out.cell 1)
    have y10 := cell_regrown (show u.cell? ⟨w.heap.size + 1, 0, none⟩ = some (.int .i64 ax) from KA.out.cell 0)
    have y11 := cell_regrown (show u.cell? ⟨w.heap.size + 1, 1, none⟩ = some (.int .i64 ay) from KA.out.cell 1)
    have y20 := cell_regrown (show u.cell? ⟨w.heap.size + 1 + 1, 0, none⟩ = some (.int .i64 cx) from KC.out.cell 0)
    have y21 := cell_regrown (show u.cell? ⟨w.heap.size + 1 + 1, 1, none⟩ = some (.int .i64 cy) from KC.out.cell 1)
    have m1 : ∀ d' os, Calls Tryz.prog 128 #[.agg #[.int .i64 ax, .int .i64 ay], .agg #[.int .i64 cx, .int .i64 cy], .agg #[.int .i64 px, .int .i64 py]] (Go.Sort.grow (redrawn u d') os) fun e w'' => e = .returned (.int .i64 Tt) ∧ ∃ p : Regrown, w'' = Go.Sort.grow (redrawn u p.d) p.os := fun d' os => Calls.regrown_of (CT.out _)
    have M1 := Lib.hid m1
    have m2 : ∀ d' os, Calls Tryz.prog 127 #[.agg #[.int .i64 ax, .int .i64 ay], .agg #[.int .i64 cx, .int .i64 cy]] (Go.Sort.grow (redrawn u d') os) fun e w'' => e = .returned (.int .i64 L) ∧ ∃ p : Regrown, w'' = Go.Sort.grow (redrawn u p.d) p.os := fun d' os => Calls.regrown_of (CL.out _)
    have M2 := Lib.hid m2
    clear m1 m2
    refine wp_region_quiet_below (by kernel_rfl) (by kernel_rfl) ?_
    repeat (any_goals (first | go_big_quiet_step (first | (with_reducible exact M1.out _ _) | (with_reducible exact M2.out _ _)) | quiet_step (first | (with_reducible exact M1.out _ _) | (with_reducible exact M2.out _ _))))
    refine wpQuiet_nil ?_
    intro w1 hw'
    have hb : Below u.heap.size u w1 := by obtain ⟨p, rfl⟩ := hw'; exact below_regrown _ _ _
    have hB1 : Below w.heap.size w w1 := HBU.out.trans (hb.mono su)
    have k1p : Blk w1 w.heap.size 58 #[.int .i64 px, .int .i64 py] := KP.out.below hb lp
    have k1a : Blk w1 (w.heap.size + 1) 58 #[.int .i64 ax, .int .i64 ay] := KA.out.below hb la
    have k1c : Blk w1 (w.heap.size + 1 + 1) 58 #[.int .i64 cx, .int .i64 cy] := KC.out.below hb lc
    have g1p := k1p.cell
    have g1a := k1a.cell
    have g1c := k1c.cell
    have h1p := k1p.lt
    have h1a := k1a.lt
    have h1c := k1c.lt
    have l1 := hB1.size
    clear hw' hb y00 y01 y10 y11 y20 y21 lp la lc k1p k1a k1c
    go_wp2_with fail
    refine (CA.out _).mono ?_
    rintro e w2 ⟨rfl, hb⟩
    have hB2 : Below w.heap.size w w2 := hB1.trans (hb.mono l1)
    have l2 := hB2.size
    clear hb g1p g1a g1c h1p h1a h1c
    go_wp2_with fail
    go_ret
    exact ⟨rfl, hB2⟩
end Go.Proofs.YtfajckkbinbpiaaGreatDoor
