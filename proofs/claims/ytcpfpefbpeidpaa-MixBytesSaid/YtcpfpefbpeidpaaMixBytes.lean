/- A walk: heliographlaw24.MixBytes returns true. -/
import Derived.Test.YtcpfpefbpeidpaaMixD
import Derived.Test.YtcpfpefbpeidpaaMixB
import Derived.Deep.DeepCutAuto
import Derived.Deep.RegionWith
import Derived.Lib.QuietBelow
namespace Go.Proofs.Ytcpfpefbpeidpaa
open Go.RowKit Go.Sort
set_option linter.unusedVariables false

/-- The laws' number of cells. -/
def CellsN (n : Int) : Prop := n = 1 ∨ n = 4 ∨ n = 16 ∨ n = 64 ∨ n = 256 ∨ n = 1024 ∨ n = 4096 ∨ n = 3
theorem cellsN_bd {n : Int} (h : CellsN n) : 1 ≤ n ∧ n ≤ 4096 := by unfold CellsN at h; omega
/-- What the laws' first statement leaves: a tone in a block of its own, a number of cells. -/
def Begun (w : World) (s t : Value) (wx : World) : Prop := ∃ (g : Nat) (lo hi n : Int), s = .pointer (some ⟨g, 0, none⟩) ∧ t = .int .i64 n ∧ CellsN n ∧ 0 ≤ lo ∧ lo ≤ hi ∧ hi ≤ 16711680 ∧ w.heap.size ≤ g ∧ Blk wx g 34 #[.int .i64 lo, .int .i64 hi] ∧ Below w.heap.size w wx
theorem table_at (n : Int) : ∃ (i : Nat) (m : Int), bits .and .i64 n 7 = i ∧ i < 8 ∧ CellsN m ∧ ([.int .i64 1, .int .i64 4, .int .i64 16, .int .i64 64, .int .i64 256, .int .i64 1024, .int .i64 4096, .int .i64 3] : List Value)[i]? = some (.int .i64 m) := by
  have h : n % 8 = 0 ∨ n % 8 = 1 ∨ n % 8 = 2 ∨ n % 8 = 3 ∨ n % 8 = 4 ∨ n % 8 = 5 ∨ n % 8 = 6 ∨ n % 8 = 7 := by omega
  rw [mask7]
  rcases h with h | h | h | h | h | h | h | h <;> rw [h]
  · exact ⟨0, 1, rfl, by omega, by unfold CellsN; omega, rfl⟩
  · exact ⟨1, 4, rfl, by omega, by unfold CellsN; omega, rfl⟩
  · exact ⟨2, 16, rfl, by omega, by unfold CellsN; omega, rfl⟩
  · exact ⟨3, 64, rfl, by omega, by unfold CellsN; omega, rfl⟩
  · exact ⟨4, 256, rfl, by omega, by unfold CellsN; omega, rfl⟩
  · exact ⟨5, 1024, rfl, by omega, by unfold CellsN; omega, rfl⟩
  · exact ⟨6, 4096, rfl, by omega, by unfold CellsN; omega, rfl⟩
  · exact ⟨7, 3, rfl, by omega, by unfold CellsN; omega, rfl⟩
theorem blk_two {w wq : World} {x : Obj} {cs : Array Value} (hb : Below ((w.alloc x).alloc (.cells cs 34)).drew.heap.size ((w.alloc x).alloc (.cells cs 34)).drew wq) : Blk wq (w.heap.size + 1) 34 cs := by
  refine Blk.below (Blk.drew ?_) hb ?_
  · exact Blk.newAt (by simp)
  · simp
theorem blk_one {w wq : World} {cs : Array Value} (hb : Below (w.alloc (.cells cs 34)).drew.heap.size (w.alloc (.cells cs 34)).drew wq) : Blk wq w.heap.size 34 cs := by
  refine Blk.below (Blk.drew ?_) hb ?_
  · exact Blk.new _ _ _
  · simp
theorem blk_fst {w wq : World} {x : Obj} {cs : Array Value} (hb : Below ((w.alloc (.cells cs 34)).alloc x).drew.heap.size ((w.alloc (.cells cs 34)).alloc x).drew wq) : Blk wq w.heap.size 34 cs := by
  refine Blk.below (Blk.drew (Blk.alloc (Blk.new _ _ _) _)) hb ?_
  · simp; omega
theorem table_in {i : Nat} {v : Value} {l : List Value} (h : l[i]? = some v) (hi : i < l.length) : l[i] = v := by
  rw [List.getElem?_eq_getElem hi] at h; exact Option.some.inj h

set_option maxRecDepth 100000 in
set_option maxHeartbeats 10000000 in
theorem bytes (a b x y n c : Int) (w : World) :
    Calls Try.prog 8 #[.int .i64 a, .int .i64 b, .int .i64 x, .int .i64 y, .int .i64 n, .int .i64 c] w fun e w' => e = .returned (.bool true) ∧ Below w.heap.size w w' := by
  have hk := clamp_bd c
  obtain ⟨i, m, ei, hi8, hm, ht⟩ := table_at n
  have hM := Lib.hid hm
  have hT := Lib.hid ht
  clear hm ht
  have hi8' : (i : Int) < 8 := by omega
  go_enter Try.func8, Try.ntmps8
  go_upto_region 1 with (fail)
  go_cut [13, 14] (fun s1 s2 wx => Begun w s1 s2 wx)
  case first =>
    go_region_with (go_at_call 23; refine (tone _ _ _).mono ?_; rintro e wq ⟨lo, hi, h0, h1, h2, rfl, hb⟩; obtain ⟨hc, hf⟩ := bcell hb; (first | (have hl : w.heap.size < wq.heap.size := by (have := hb.size; simp at this; omega)) | have hl : w.heap.size ≤ wq.heap.size := hb.size | skip))
    all_goals as_aux_lemma =>
      go_wp2_with fail
      go_meet
      have hB : Below w.heap.size w wq := Below.trans (by (repeat' (first | (with_reducible exact Below.refl _ _) | (with_reducible assumption) | (with_reducible refine below_drewN ?_ _) | (with_reducible refine Below.drew ?_) | (with_reducible refine Below.alloc ?_ ?_ _) | (with_reducible refine Below.setCell ?_ ?_ _) | omega | (simp; done) | (simp; omega)))) (hb.mono (by first | omega | (simp; done) | (simp; omega)))
      first
        | have hK := blk_two hb
        | have hK := blk_one hb
        | have hK := blk_fst hb
        | skip
      refine ⟨_, lo, hi, m, rfl, table_in hT.out (by simpa using hi8), hM.out, h0, h1, h2, ?_, ?_, ?_⟩
      · first | omega | (simp; done) | (simp; omega)
      · (repeat' (first | (with_reducible assumption) | (with_reducible exact Blk.new _ _ _) | (exact Blk.newAt (by first | rfl | (simp; done) | omega)) | (with_reducible refine Blk.drewN ?_ _) | (with_reducible refine Blk.drew ?_) | (with_reducible refine Blk.alloc ?_ _) | (with_reducible apply Blk.set_) | (with_reducible refine Blk.far ?_ ?_ _) | rfl | omega | (simp; done) | (simp; omega)))
      · (repeat' (first | (with_reducible exact Below.refl _ _) | (with_reducible assumption) | (with_reducible refine below_drewN ?_ _) | (with_reducible refine Below.drew ?_) | (with_reducible refine Below.alloc ?_ ?_ _) | (with_reducible refine Below.setCell ?_ ?_ _) | omega | (simp; done) | (simp; omega)))
  case rest =>
    obtain ⟨g, lo, hi, m, rfl, rfl, hm, h0, h1, h2, hg, k0_0, hB0⟩ := hcut
    have c0_0 := k0_0.cell
    have f0_0 := k0_0.frozen
    have l0_0 := k0_0.lt
    have l0 := hB0.size
    obtain ⟨n0, n1⟩ := cellsN_bd hm
    clear hm
    go_wp2_with fail
    refine (cov x y m (by omega) n1 _).mono ?_
    rintro e w1 ⟨vl, vh, v0, v1, v2, rfl, hb⟩
    have hB1 : Below w.heap.size w w1 := Below.trans (by (repeat' (first | (with_reducible exact Below.refl _ _) | (with_reducible assumption) | (with_reducible refine below_drewN ?_ _) | (with_reducible refine Below.drew ?_) | (with_reducible refine Below.alloc ?_ ?_ _) | (with_reducible refine Below.setCell ?_ ?_ _) | omega | (simp; done) | (simp; omega)))) (hb.mono (by first | omega | (simp; done) | (simp; omega)))
    have k1_0 : Blk w1 (g) 34 #[.int .i64 lo, .int .i64 hi] := Blk.below (by (repeat' (first | (with_reducible assumption) | (with_reducible exact Blk.new _ _ _) | (exact Blk.newAt (by first | rfl | (simp; done) | omega)) | (with_reducible refine Blk.drewN ?_ _) | (with_reducible refine Blk.drew ?_) | (with_reducible refine Blk.alloc ?_ _) | (with_reducible apply Blk.set_) | (with_reducible refine Blk.far ?_ ?_ _) | rfl | omega | (simp; done) | (simp; omega)))) hb (by first | omega | (simp; done) | (simp; omega))
    have c1_0 := k1_0.cell
    have f1_0 := k1_0.frozen
    have l1_0 := k1_0.lt
    have l1 := hB1.size
    clear hb k0_0 c0_0 f0_0 l0_0 hB0
    obtain ⟨K, eK⟩ : ∃ K, byteOf lo hi = K := ⟨_, rfl⟩
    obtain ⟨KL, eKL⟩ : ∃ K, byteOf lo lo = K := ⟨_, rfl⟩
    obtain ⟨KH, eKH⟩ : ∃ K, byteOf hi hi = K := ⟨_, rfl⟩
    obtain ⟨G, eG⟩ : ∃ K, greyOf vl vh m = K := ⟨_, rfl⟩
    obtain ⟨GL, eGL⟩ : ∃ K, greyOf vl vl m = K := ⟨_, rfl⟩
    obtain ⟨GH, eGH⟩ : ∃ K, greyOf vh vh m = K := ⟨_, rfl⟩
    have r1 : KL ≤ K := by unfold byteOf at eK eKL; omega
    have r2 : K ≤ KH := by unfold byteOf at eK eKH; omega
    have r3 : lo - 32768 ≤ 65536 * K := by unfold byteOf at eK; omega
    have r4 : 65536 * K ≤ hi + 32768 := by unfold byteOf at eK; omega
    have r5 : 0 ≤ KL ∧ KH ≤ 255 := by unfold byteOf at eKL eKH; omega
    have r6 : GL ≤ G := by rw [← eGL, ← eG]; exact Int.ediv_le_ediv (by omega) (by omega)
    have r7 : G ≤ GH := by rw [← eGH, ← eG]; exact Int.ediv_le_ediv (by omega) (by omega)
    have z0 : greyOf 0 0 m = 0 := by unfold greyOf; rw [show 255 * (0 + 0) + m = m by omega]; exact Int.ediv_eq_zero_of_lt (by omega) (by omega)
    have z1 : greyOf m m m = 255 := by unfold greyOf; rw [show 255 * (m + m) + m = m + 255 * (2 * m) by omega, Int.add_mul_ediv_right _ _ (by omega), Int.ediv_eq_zero_of_lt (by omega) (by omega)]; omega
    have z2 : byteOf (65536 * clamp c) (65536 * clamp c) = clamp c := by unfold byteOf; omega
    have O1 : Hid (∀ w d os, Calls Try.prog 18 #[.agg #[.int .i64 lo, .int .i64 hi]] (grow (redrawn w d) os) fun e w'' => e = .returned (.int .u8 K) ∧ ∃ p : Regrown, w'' = grow (redrawn w p.d) p.os) := Lib.hid (fun w d os => Calls.regrown_of (by have := byte_yes lo hi h0 h1 h2 (grow (redrawn w d) os); rw [eK] at this; exact this))
    have O2 : Hid (∀ w d os, Calls Try.prog 18 #[.agg #[.int .i64 lo, .int .i64 lo]] (grow (redrawn w d) os) fun e w'' => e = .returned (.int .u8 KL) ∧ ∃ p : Regrown, w'' = grow (redrawn w p.d) p.os) := Lib.hid (fun w d os => Calls.regrown_of (by have := byte_yes lo lo h0 (by omega) (by omega) (grow (redrawn w d) os); rw [eKL] at this; exact this))
    have O3 : Hid (∀ w d os, Calls Try.prog 18 #[.agg #[.int .i64 hi, .int .i64 hi]] (grow (redrawn w d) os) fun e w'' => e = .returned (.int .u8 KH) ∧ ∃ p : Regrown, w'' = grow (redrawn w p.d) p.os) := Lib.hid (fun w d os => Calls.regrown_of (by have := byte_yes hi hi (by omega) (by omega) h2 (grow (redrawn w d) os); rw [eKH] at this; exact this))
    have O4 : Hid (∀ w d os, Calls Try.prog 20 #[.agg #[.int .i64 vl, .int .i64 vh], .int .i64 m] (grow (redrawn w d) os) fun e w'' => e = .returned (.int .u8 G) ∧ ∃ p : Regrown, w'' = grow (redrawn w p.d) p.os) := Lib.hid (fun w d os => Calls.regrown_of (by have := grey_yes vl vh m n0 n1 v0 v1 v2 (grow (redrawn w d) os); rw [eG] at this; exact this))
    have P5 : Hid (∀ w, Calls Try.prog 20 #[.agg #[.int .i64 vl, .int .i64 vl], .int .i64 m] w fun e w' => e = .returned (.int .u8 GL) ∧ RowKit.Below w.heap.size w w') := Lib.hid (fun w => by have := grey_yes vl vl m n0 n1 v0 (by omega) (by omega) w; rw [eGL] at this; exact this)
    have P6 : Hid (∀ w, Calls Try.prog 20 #[.agg #[.int .i64 vh, .int .i64 vh], .int .i64 m] w fun e w' => e = .returned (.int .u8 GH) ∧ RowKit.Below w.heap.size w w') := Lib.hid (fun w => by have := grey_yes vh vh m n0 n1 (by omega) (by omega) v2 w; rw [eGH] at this; exact this)
    have P7 : Hid (∀ w, Calls Try.prog 20 #[.agg #[.int .i64 0, .int .i64 0], .int .i64 m] w fun e w' => e = .returned (.int .u8 0) ∧ RowKit.Below w.heap.size w w') := Lib.hid (fun w => by have := grey_yes 0 0 m n0 n1 (by omega) (by omega) (by omega) w; rw [z0] at this; exact this)
    have P8 : Hid (∀ w, Calls Try.prog 20 #[.agg #[.int .i64 m, .int .i64 m], .int .i64 m] w fun e w' => e = .returned (.int .u8 255) ∧ RowKit.Below w.heap.size w w') := Lib.hid (fun w => by have := grey_yes m m m n0 n1 (by omega) (by omega) (by omega) w; rw [z1] at this; exact this)
    obtain ⟨kc, ekc⟩ : ∃ k, clamp c = k := ⟨_, rfl⟩
    obtain ⟨F, eF⟩ : ∃ k, 65536 * kc = k := ⟨_, rfl⟩
    rw [ekc] at z2 hk
    rw [eF] at z2
    have P9 : Hid (∀ w, Calls Try.prog 18 #[.agg #[.int .i64 F, .int .i64 F]] w fun e w' => e = .returned (.int .u8 kc) ∧ RowKit.Below w.heap.size w w') := Lib.hid (fun w => by have := byte_yes F F (by omega) (by omega) (by omega) w; rw [z2] at this; exact this)
    have P10 : Hid (∀ w, Calls Try.prog 13 #[.int .i64 c] w fun e w' => e = .returned (.agg #[.int .i64 F, .int .i64 F]) ∧ RowKit.Below w.heap.size w w') := Lib.hid (fun w => by have := start c w; rw [ekc, eF] at this; exact this)
    have HK := Lib.hid ekc
    have d1 : decide (KL ≤ K) = true := by simpa using r1
    have d2 : decide (K ≤ KH) = true := by simpa using r2
    have d3 : decide (lo - 32768 ≤ 65536 * K) = true := by simpa using r3
    have d4 : decide (65536 * K ≤ hi + 32768) = true := by simpa using r4
    have d5 : decide (GL ≤ G) = true := by simpa using r6
    have d6 : decide (G ≤ GH) = true := by simpa using r7
    have K0 : 0 ≤ K := by omega
    have K1 : K ≤ 255 := by omega
    have KL0 : 0 ≤ KL := by omega
    have KL1 : KL ≤ 255 := by omega
    have KH0 : 0 ≤ KH := by omega
    have KH1 : KH ≤ 255 := by omega
    clear eK eKL eKH eG eGL eGH z0 z1 z2 r5 hk ekc eF
    go_wp2_with fail
    as_aux_lemma =>
      have xa0 := cell_regrown (w := (w1.alloc (.cells #[.int .i64 vl, .int .i64 vh] 38))) (a := ⟨g, 0, none⟩) (v := .int .i64 lo) (by simp [go_sem, *])
      have xa1 := cell_regrown (w := (w1.alloc (.cells #[.int .i64 vl, .int .i64 vh] 38))) (a := ⟨g, 1, none⟩) (v := .int .i64 hi) (by simp [go_sem, *])
      have xb0 := cell_regrown (w := (w1.alloc (.cells #[.int .i64 vl, .int .i64 vh] 38))) (a := ⟨w1.heap.size, 0, none⟩) (v := .int .i64 vl) (by simp [go_sem, *])
      have xb1 := cell_regrown (w := (w1.alloc (.cells #[.int .i64 vl, .int .i64 vh] 38))) (a := ⟨w1.heap.size, 1, none⟩) (v := .int .i64 vh) (by simp [go_sem, *])
      refine wp_region_quiet_below (by kernel_rfl) (by kernel_rfl) ?_
      repeat (first | go_big_quiet_step (first | (with_reducible exact O1.out _ _ _) | (with_reducible exact O2.out _ _ _) | (with_reducible exact O3.out _ _ _) | (with_reducible exact O4.out _ _ _)) | quiet_step (first | (with_reducible exact O1.out _ _ _) | (with_reducible exact O2.out _ _ _) | (with_reducible exact O3.out _ _ _) | (with_reducible exact O4.out _ _ _)))
      refine wpQuiet_nil ?_
      intro w2 hw'
      have hb : Below (w1.alloc (.cells #[.int .i64 vl, .int .i64 vh] 38)).heap.size (w1.alloc (.cells #[.int .i64 vl, .int .i64 vh] 38)) w2 := by obtain ⟨p, rfl⟩ := hw'; exact below_regrown _ _ _
      clear hw' xa0 xa1 xb0 xb1
      have hB2 : Below w.heap.size w w2 := Below.trans (by (repeat' (first | (with_reducible exact Below.refl _ _) | (with_reducible assumption) | (with_reducible refine below_drewN ?_ _) | (with_reducible refine Below.drew ?_) | (with_reducible refine Below.alloc ?_ ?_ _) | (with_reducible refine Below.setCell ?_ ?_ _) | omega | (simp; done) | (simp; omega)))) (hb.mono (by first | omega | (simp; done) | (simp; omega)))
      have k2_0 : Blk w2 g 34 #[.int .i64 lo, .int .i64 hi] := Blk.below (by (repeat' (first | (with_reducible assumption) | (with_reducible exact Blk.new _ _ _) | (exact Blk.newAt (by first | rfl | (simp; done) | omega)) | (with_reducible refine Blk.drewN ?_ _) | (with_reducible refine Blk.drew ?_) | (with_reducible refine Blk.alloc ?_ _) | (with_reducible apply Blk.set_) | (with_reducible refine Blk.far ?_ ?_ _) | rfl | omega | (simp; done) | (simp; omega)))) hb (by first | omega | (simp; done) | (simp; omega))
      have k2_1 : Blk w2 w1.heap.size 38 #[.int .i64 vl, .int .i64 vh] := Blk.below (by (repeat' (first | (with_reducible assumption) | (with_reducible exact Blk.new _ _ _) | (exact Blk.newAt (by first | rfl | (simp; done) | omega)) | (with_reducible refine Blk.drewN ?_ _) | (with_reducible refine Blk.drew ?_) | (with_reducible refine Blk.alloc ?_ _) | (with_reducible apply Blk.set_) | (with_reducible refine Blk.far ?_ ?_ _) | rfl | omega | (simp; done) | (simp; omega)))) hb (by first | omega | (simp; done) | (simp; omega))
      have c2_0 := k2_0.cell
      have c2_1 := k2_1.cell
      have l2 := hB2.size
      clear hb k1_0 c1_0 f1_0 l1_0 hB1
      go_wp2_with fail
      as_aux_lemma =>
        have xa0 := cell_regrown (w := w2) (a := ⟨g, 0, none⟩) (v := .int .i64 lo) (by simp [go_sem, *])
        have xa1 := cell_regrown (w := w2) (a := ⟨g, 1, none⟩) (v := .int .i64 hi) (by simp [go_sem, *])
        have xb0 := cell_regrown (w := w2) (a := ⟨w1.heap.size, 0, none⟩) (v := .int .i64 vl) (by simp [go_sem, *])
        have xb1 := cell_regrown (w := w2) (a := ⟨w1.heap.size, 1, none⟩) (v := .int .i64 vh) (by simp [go_sem, *])
        refine wp_region_quiet_below (by kernel_rfl) (by kernel_rfl) ?_
        repeat (first | go_big_quiet_step (first | (with_reducible exact O1.out _ _ _) | (with_reducible exact O2.out _ _ _) | (with_reducible exact O3.out _ _ _) | (with_reducible exact O4.out _ _ _)) | quiet_step (first | (with_reducible exact O1.out _ _ _) | (with_reducible exact O2.out _ _ _) | (with_reducible exact O3.out _ _ _) | (with_reducible exact O4.out _ _ _)))
        refine wpQuiet_nil ?_
        intro w3 hw'
        have hb : Below w2.heap.size w2 w3 := by obtain ⟨p, rfl⟩ := hw'; exact below_regrown _ _ _
        clear hw' xa0 xa1 xb0 xb1
        have hB3 : Below w.heap.size w w3 := hB2.trans (hb.mono l2)
        have k3_0 : Blk w3 g 34 #[.int .i64 lo, .int .i64 hi] := Blk.below (by assumption) hb k2_0.lt
        have k3_1 : Blk w3 w1.heap.size 38 #[.int .i64 vl, .int .i64 vh] := Blk.below (by assumption) hb k2_1.lt
        have c3_0 := k3_0.cell
        have c3_1 := k3_1.cell
        have f3_0 := k3_0.frozen
        have f3_1 := k3_1.frozen
        have l3_0 := k3_0.lt
        have l3_1 := k3_1.lt
        have l3 := hB3.size
        clear hb k2_0 k2_1 c2_0 c2_1 hB2 O1 O2 O3 O4
        go_wp2_with fail
        by_cases q1 : c < 0
        · have t1 : ((kc : Int) == 0) = true := by have := HK.out; unfold clamp at this; rw [if_pos q1] at this; simp; omega
          refine (P10.out _).mono ?_
          rintro e w4 ⟨rfl, hb⟩
          have hB4 : Below w.heap.size w w4 := Below.trans (by (repeat' (first | (with_reducible exact Below.refl _ _) | (with_reducible assumption) | (with_reducible refine below_drewN ?_ _) | (with_reducible refine Below.drew ?_) | (with_reducible refine Below.alloc ?_ ?_ _) | (with_reducible refine Below.setCell ?_ ?_ _) | omega | (simp; done) | (simp; omega)))) (hb.mono (by first | omega | (simp; done) | (simp; omega)))
          have k4_0 : Blk w4 (w1.heap.size) 38 #[.int .i64 vl, .int .i64 vh] := Blk.below (by (repeat' (first | (with_reducible assumption) | (with_reducible exact Blk.new _ _ _) | (exact Blk.newAt (by first | rfl | (simp; done) | omega)) | (with_reducible refine Blk.drewN ?_ _) | (with_reducible refine Blk.drew ?_) | (with_reducible refine Blk.alloc ?_ _) | (with_reducible apply Blk.set_) | (with_reducible refine Blk.far ?_ ?_ _) | rfl | omega | (simp; done) | (simp; omega)))) hb (by first | omega | (simp; done) | (simp; omega))
          have c4_0 := k4_0.cell
          have f4_0 := k4_0.frozen
          have l4_0 := k4_0.lt
          have l4 := hB4.size
          clear hb k3_0 c3_0 f3_0 l3_0 k3_1 c3_1 f3_1 l3_1 hB3
          go_wp2_with fail
          as_aux_lemma =>
            refine (P9.out _).mono ?_
            rintro e w5 ⟨rfl, hb⟩
            have hB5 : Below w.heap.size w w5 := Below.trans (by (repeat' (first | (with_reducible exact Below.refl _ _) | (with_reducible assumption) | (with_reducible refine below_drewN ?_ _) | (with_reducible refine Below.drew ?_) | (with_reducible refine Below.alloc ?_ ?_ _) | (with_reducible refine Below.setCell ?_ ?_ _) | omega | (simp; done) | (simp; omega)))) (hb.mono (by first | omega | (simp; done) | (simp; omega)))
            have k5_0 : Blk w5 (w1.heap.size) 38 #[.int .i64 vl, .int .i64 vh] := Blk.below (by (repeat' (first | (with_reducible assumption) | (with_reducible exact Blk.new _ _ _) | (exact Blk.newAt (by first | rfl | (simp; done) | omega)) | (with_reducible refine Blk.drewN ?_ _) | (with_reducible refine Blk.drew ?_) | (with_reducible refine Blk.alloc ?_ _) | (with_reducible apply Blk.set_) | (with_reducible refine Blk.far ?_ ?_ _) | rfl | omega | (simp; done) | (simp; omega)))) hb (by first | omega | (simp; done) | (simp; omega))
            have c5_0 := k5_0.cell
            have f5_0 := k5_0.frozen
            have l5_0 := k5_0.lt
            have l5 := hB5.size
            clear hb k4_0 c4_0 f4_0 l4_0 hB4
            go_wp2_with fail
            as_aux_lemma =>
              refine (P5.out _).mono ?_
              rintro e w6 ⟨rfl, hb⟩
              have hB6 : Below w.heap.size w w6 := Below.trans (by (repeat' (first | (with_reducible exact Below.refl _ _) | (with_reducible assumption) | (with_reducible refine below_drewN ?_ _) | (with_reducible refine Below.drew ?_) | (with_reducible refine Below.alloc ?_ ?_ _) | (with_reducible refine Below.setCell ?_ ?_ _) | omega | (simp; done) | (simp; omega)))) (hb.mono (by first | omega | (simp; done) | (simp; omega)))
              have k6_0 : Blk w6 (w1.heap.size) 38 #[.int .i64 vl, .int .i64 vh] := Blk.below (by (repeat' (first | (with_reducible assumption) | (with_reducible exact Blk.new _ _ _) | (exact Blk.newAt (by first | rfl | (simp; done) | omega)) | (with_reducible refine Blk.drewN ?_ _) | (with_reducible refine Blk.drew ?_) | (with_reducible refine Blk.alloc ?_ _) | (with_reducible apply Blk.set_) | (with_reducible refine Blk.far ?_ ?_ _) | rfl | omega | (simp; done) | (simp; omega)))) hb (by first | omega | (simp; done) | (simp; omega))
              have c6_0 := k6_0.cell
              have f6_0 := k6_0.frozen
              have l6_0 := k6_0.lt
              have l6 := hB6.size
              clear hb k5_0 c5_0 f5_0 l5_0 hB5
              go_wp2_with fail
              as_aux_lemma =>
                refine (P6.out _).mono ?_
                rintro e w7 ⟨rfl, hb⟩
                have hB7 : Below w.heap.size w w7 := Below.trans (by (repeat' (first | (with_reducible exact Below.refl _ _) | (with_reducible assumption) | (with_reducible refine below_drewN ?_ _) | (with_reducible refine Below.drew ?_) | (with_reducible refine Below.alloc ?_ ?_ _) | (with_reducible refine Below.setCell ?_ ?_ _) | omega | (simp; done) | (simp; omega)))) (hb.mono (by first | omega | (simp; done) | (simp; omega)))
                have k7_0 : Blk w7 (w1.heap.size) 38 #[.int .i64 vl, .int .i64 vh] := Blk.below (by (repeat' (first | (with_reducible assumption) | (with_reducible exact Blk.new _ _ _) | (exact Blk.newAt (by first | rfl | (simp; done) | omega)) | (with_reducible refine Blk.drewN ?_ _) | (with_reducible refine Blk.drew ?_) | (with_reducible refine Blk.alloc ?_ _) | (with_reducible apply Blk.set_) | (with_reducible refine Blk.far ?_ ?_ _) | rfl | omega | (simp; done) | (simp; omega)))) hb (by first | omega | (simp; done) | (simp; omega))
                have c7_0 := k7_0.cell
                have f7_0 := k7_0.frozen
                have l7_0 := k7_0.lt
                have l7 := hB7.size
                clear hb k6_0 c6_0 f6_0 l6_0 hB6
                go_wp2_with fail
                as_aux_lemma =>
                  refine (P7.out _).mono ?_
                  rintro e w8 ⟨rfl, hb⟩
                  have hB8 : Below w.heap.size w w8 := Below.trans (by (repeat' (first | (with_reducible exact Below.refl _ _) | (with_reducible assumption) | (with_reducible refine below_drewN ?_ _) | (with_reducible refine Below.drew ?_) | (with_reducible refine Below.alloc ?_ ?_ _) | (with_reducible refine Below.setCell ?_ ?_ _) | omega | (simp; done) | (simp; omega)))) (hb.mono (by first | omega | (simp; done) | (simp; omega)))
                  have l8 := hB8.size
                  clear hb k7_0 c7_0 f7_0 l7_0 hB7
                  go_wp2_with fail
                  as_aux_lemma =>
                    refine (P8.out _).mono ?_
                    rintro e w9 ⟨rfl, hb⟩
                    have hB9 : Below w.heap.size w w9 := Below.trans (by (repeat' (first | (with_reducible exact Below.refl _ _) | (with_reducible assumption) | (with_reducible refine below_drewN ?_ _) | (with_reducible refine Below.drew ?_) | (with_reducible refine Below.alloc ?_ ?_ _) | (with_reducible refine Below.setCell ?_ ?_ _) | omega | (simp; done) | (simp; omega)))) (hb.mono (by first | omega | (simp; done) | (simp; omega)))
                    have l9 := hB9.size
                    clear hb hB8
                    go_wp2_with fail
                    as_aux_lemma =>
                      refine (awake24 _).mono ?_
                      rintro e w11 ⟨rfl, hb⟩
                      have hB11 : Below w.heap.size w w11 := hB9.trans (hb.mono hB9.size)
                      go_wp2_with fail
                      go_ret
                      exact ⟨rfl, hB11⟩
        · by_cases q2 : 255 < c
          · obtain rfl : kc = 255 := by have := HK.out; unfold clamp at this; rw [if_neg q1, if_pos q2] at this; omega
            refine (P10.out _).mono ?_
            rintro e w4 ⟨rfl, hb⟩
            have hB4 : Below w.heap.size w w4 := Below.trans (by (repeat' (first | (with_reducible exact Below.refl _ _) | (with_reducible assumption) | (with_reducible refine below_drewN ?_ _) | (with_reducible refine Below.drew ?_) | (with_reducible refine Below.alloc ?_ ?_ _) | (with_reducible refine Below.setCell ?_ ?_ _) | omega | (simp; done) | (simp; omega)))) (hb.mono (by first | omega | (simp; done) | (simp; omega)))
            have k4_0 : Blk w4 (w1.heap.size) 38 #[.int .i64 vl, .int .i64 vh] := Blk.below (by (repeat' (first | (with_reducible assumption) | (with_reducible exact Blk.new _ _ _) | (exact Blk.newAt (by first | rfl | (simp; done) | omega)) | (with_reducible refine Blk.drewN ?_ _) | (with_reducible refine Blk.drew ?_) | (with_reducible refine Blk.alloc ?_ _) | (with_reducible apply Blk.set_) | (with_reducible refine Blk.far ?_ ?_ _) | rfl | omega | (simp; done) | (simp; omega)))) hb (by first | omega | (simp; done) | (simp; omega))
            have c4_0 := k4_0.cell
            have f4_0 := k4_0.frozen
            have l4_0 := k4_0.lt
            have l4 := hB4.size
            clear hb k3_0 c3_0 f3_0 l3_0 k3_1 c3_1 f3_1 l3_1 hB3
            go_wp2_with fail
            as_aux_lemma =>
              refine (P9.out _).mono ?_
              rintro e w5 ⟨rfl, hb⟩
              have hB5 : Below w.heap.size w w5 := Below.trans (by (repeat' (first | (with_reducible exact Below.refl _ _) | (with_reducible assumption) | (with_reducible refine below_drewN ?_ _) | (with_reducible refine Below.drew ?_) | (with_reducible refine Below.alloc ?_ ?_ _) | (with_reducible refine Below.setCell ?_ ?_ _) | omega | (simp; done) | (simp; omega)))) (hb.mono (by first | omega | (simp; done) | (simp; omega)))
              have k5_0 : Blk w5 (w1.heap.size) 38 #[.int .i64 vl, .int .i64 vh] := Blk.below (by (repeat' (first | (with_reducible assumption) | (with_reducible exact Blk.new _ _ _) | (exact Blk.newAt (by first | rfl | (simp; done) | omega)) | (with_reducible refine Blk.drewN ?_ _) | (with_reducible refine Blk.drew ?_) | (with_reducible refine Blk.alloc ?_ _) | (with_reducible apply Blk.set_) | (with_reducible refine Blk.far ?_ ?_ _) | rfl | omega | (simp; done) | (simp; omega)))) hb (by first | omega | (simp; done) | (simp; omega))
              have c5_0 := k5_0.cell
              have f5_0 := k5_0.frozen
              have l5_0 := k5_0.lt
              have l5 := hB5.size
              clear hb k4_0 c4_0 f4_0 l4_0 hB4
              go_wp2_with fail
              as_aux_lemma =>
                refine (P5.out _).mono ?_
                rintro e w6 ⟨rfl, hb⟩
                have hB6 : Below w.heap.size w w6 := Below.trans (by (repeat' (first | (with_reducible exact Below.refl _ _) | (with_reducible assumption) | (with_reducible refine below_drewN ?_ _) | (with_reducible refine Below.drew ?_) | (with_reducible refine Below.alloc ?_ ?_ _) | (with_reducible refine Below.setCell ?_ ?_ _) | omega | (simp; done) | (simp; omega)))) (hb.mono (by first | omega | (simp; done) | (simp; omega)))
                have k6_0 : Blk w6 (w1.heap.size) 38 #[.int .i64 vl, .int .i64 vh] := Blk.below (by (repeat' (first | (with_reducible assumption) | (with_reducible exact Blk.new _ _ _) | (exact Blk.newAt (by first | rfl | (simp; done) | omega)) | (with_reducible refine Blk.drewN ?_ _) | (with_reducible refine Blk.drew ?_) | (with_reducible refine Blk.alloc ?_ _) | (with_reducible apply Blk.set_) | (with_reducible refine Blk.far ?_ ?_ _) | rfl | omega | (simp; done) | (simp; omega)))) hb (by first | omega | (simp; done) | (simp; omega))
                have c6_0 := k6_0.cell
                have f6_0 := k6_0.frozen
                have l6_0 := k6_0.lt
                have l6 := hB6.size
                clear hb k5_0 c5_0 f5_0 l5_0 hB5
                go_wp2_with fail
                as_aux_lemma =>
                  refine (P6.out _).mono ?_
                  rintro e w7 ⟨rfl, hb⟩
                  have hB7 : Below w.heap.size w w7 := Below.trans (by (repeat' (first | (with_reducible exact Below.refl _ _) | (with_reducible assumption) | (with_reducible refine below_drewN ?_ _) | (with_reducible refine Below.drew ?_) | (with_reducible refine Below.alloc ?_ ?_ _) | (with_reducible refine Below.setCell ?_ ?_ _) | omega | (simp; done) | (simp; omega)))) (hb.mono (by first | omega | (simp; done) | (simp; omega)))
                  have k7_0 : Blk w7 (w1.heap.size) 38 #[.int .i64 vl, .int .i64 vh] := Blk.below (by (repeat' (first | (with_reducible assumption) | (with_reducible exact Blk.new _ _ _) | (exact Blk.newAt (by first | rfl | (simp; done) | omega)) | (with_reducible refine Blk.drewN ?_ _) | (with_reducible refine Blk.drew ?_) | (with_reducible refine Blk.alloc ?_ _) | (with_reducible apply Blk.set_) | (with_reducible refine Blk.far ?_ ?_ _) | rfl | omega | (simp; done) | (simp; omega)))) hb (by first | omega | (simp; done) | (simp; omega))
                  have c7_0 := k7_0.cell
                  have f7_0 := k7_0.frozen
                  have l7_0 := k7_0.lt
                  have l7 := hB7.size
                  clear hb k6_0 c6_0 f6_0 l6_0 hB6
                  go_wp2_with fail
                  as_aux_lemma =>
                    refine (P7.out _).mono ?_
                    rintro e w8 ⟨rfl, hb⟩
                    have hB8 : Below w.heap.size w w8 := Below.trans (by (repeat' (first | (with_reducible exact Below.refl _ _) | (with_reducible assumption) | (with_reducible refine below_drewN ?_ _) | (with_reducible refine Below.drew ?_) | (with_reducible refine Below.alloc ?_ ?_ _) | (with_reducible refine Below.setCell ?_ ?_ _) | omega | (simp; done) | (simp; omega)))) (hb.mono (by first | omega | (simp; done) | (simp; omega)))
                    have l8 := hB8.size
                    clear hb k7_0 c7_0 f7_0 l7_0 hB7
                    go_wp2_with fail
                    as_aux_lemma =>
                      refine (P8.out _).mono ?_
                      rintro e w9 ⟨rfl, hb⟩
                      have hB9 : Below w.heap.size w w9 := Below.trans (by (repeat' (first | (with_reducible exact Below.refl _ _) | (with_reducible assumption) | (with_reducible refine below_drewN ?_ _) | (with_reducible refine Below.drew ?_) | (with_reducible refine Below.alloc ?_ ?_ _) | (with_reducible refine Below.setCell ?_ ?_ _) | omega | (simp; done) | (simp; omega)))) (hb.mono (by first | omega | (simp; done) | (simp; omega)))
                      have l9 := hB9.size
                      clear hb hB8
                      go_wp2_with fail
                      as_aux_lemma =>
                        refine (awake24 _).mono ?_
                        rintro e w11 ⟨rfl, hb⟩
                        have hB11 : Below w.heap.size w w11 := hB9.trans (hb.mono hB9.size)
                        go_wp2_with fail
                        go_ret
                        exact ⟨rfl, hB11⟩
          · obtain rfl : c = kc := by have := HK.out; rw [clamp_in c (by omega) (by omega)] at this; omega
            have q3 : 0 ≤ c := by omega
            have q4 : c ≤ 255 := by omega
            by_cases q5 : c = 0
            · obtain rfl := q5
              refine (P10.out _).mono ?_
              rintro e w4 ⟨rfl, hb⟩
              have hB4 : Below w.heap.size w w4 := Below.trans (by (repeat' (first | (with_reducible exact Below.refl _ _) | (with_reducible assumption) | (with_reducible refine below_drewN ?_ _) | (with_reducible refine Below.drew ?_) | (with_reducible refine Below.alloc ?_ ?_ _) | (with_reducible refine Below.setCell ?_ ?_ _) | omega | (simp; done) | (simp; omega)))) (hb.mono (by first | omega | (simp; done) | (simp; omega)))
              have k4_0 : Blk w4 (w1.heap.size) 38 #[.int .i64 vl, .int .i64 vh] := Blk.below (by (repeat' (first | (with_reducible assumption) | (with_reducible exact Blk.new _ _ _) | (exact Blk.newAt (by first | rfl | (simp; done) | omega)) | (with_reducible refine Blk.drewN ?_ _) | (with_reducible refine Blk.drew ?_) | (with_reducible refine Blk.alloc ?_ _) | (with_reducible apply Blk.set_) | (with_reducible refine Blk.far ?_ ?_ _) | rfl | omega | (simp; done) | (simp; omega)))) hb (by first | omega | (simp; done) | (simp; omega))
              have c4_0 := k4_0.cell
              have f4_0 := k4_0.frozen
              have l4_0 := k4_0.lt
              have l4 := hB4.size
              clear hb k3_0 c3_0 f3_0 l3_0 k3_1 c3_1 f3_1 l3_1 hB3
              go_wp2_with fail
              as_aux_lemma =>
                refine (P9.out _).mono ?_
                rintro e w5 ⟨rfl, hb⟩
                have hB5 : Below w.heap.size w w5 := Below.trans (by (repeat' (first | (with_reducible exact Below.refl _ _) | (with_reducible assumption) | (with_reducible refine below_drewN ?_ _) | (with_reducible refine Below.drew ?_) | (with_reducible refine Below.alloc ?_ ?_ _) | (with_reducible refine Below.setCell ?_ ?_ _) | omega | (simp; done) | (simp; omega)))) (hb.mono (by first | omega | (simp; done) | (simp; omega)))
                have k5_0 : Blk w5 (w1.heap.size) 38 #[.int .i64 vl, .int .i64 vh] := Blk.below (by (repeat' (first | (with_reducible assumption) | (with_reducible exact Blk.new _ _ _) | (exact Blk.newAt (by first | rfl | (simp; done) | omega)) | (with_reducible refine Blk.drewN ?_ _) | (with_reducible refine Blk.drew ?_) | (with_reducible refine Blk.alloc ?_ _) | (with_reducible apply Blk.set_) | (with_reducible refine Blk.far ?_ ?_ _) | rfl | omega | (simp; done) | (simp; omega)))) hb (by first | omega | (simp; done) | (simp; omega))
                have c5_0 := k5_0.cell
                have f5_0 := k5_0.frozen
                have l5_0 := k5_0.lt
                have l5 := hB5.size
                clear hb k4_0 c4_0 f4_0 l4_0 hB4
                go_wp2_with fail
                as_aux_lemma =>
                  refine (P5.out _).mono ?_
                  rintro e w6 ⟨rfl, hb⟩
                  have hB6 : Below w.heap.size w w6 := Below.trans (by (repeat' (first | (with_reducible exact Below.refl _ _) | (with_reducible assumption) | (with_reducible refine below_drewN ?_ _) | (with_reducible refine Below.drew ?_) | (with_reducible refine Below.alloc ?_ ?_ _) | (with_reducible refine Below.setCell ?_ ?_ _) | omega | (simp; done) | (simp; omega)))) (hb.mono (by first | omega | (simp; done) | (simp; omega)))
                  have k6_0 : Blk w6 (w1.heap.size) 38 #[.int .i64 vl, .int .i64 vh] := Blk.below (by (repeat' (first | (with_reducible assumption) | (with_reducible exact Blk.new _ _ _) | (exact Blk.newAt (by first | rfl | (simp; done) | omega)) | (with_reducible refine Blk.drewN ?_ _) | (with_reducible refine Blk.drew ?_) | (with_reducible refine Blk.alloc ?_ _) | (with_reducible apply Blk.set_) | (with_reducible refine Blk.far ?_ ?_ _) | rfl | omega | (simp; done) | (simp; omega)))) hb (by first | omega | (simp; done) | (simp; omega))
                  have c6_0 := k6_0.cell
                  have f6_0 := k6_0.frozen
                  have l6_0 := k6_0.lt
                  have l6 := hB6.size
                  clear hb k5_0 c5_0 f5_0 l5_0 hB5
                  go_wp2_with fail
                  as_aux_lemma =>
                    refine (P6.out _).mono ?_
                    rintro e w7 ⟨rfl, hb⟩
                    have hB7 : Below w.heap.size w w7 := Below.trans (by (repeat' (first | (with_reducible exact Below.refl _ _) | (with_reducible assumption) | (with_reducible refine below_drewN ?_ _) | (with_reducible refine Below.drew ?_) | (with_reducible refine Below.alloc ?_ ?_ _) | (with_reducible refine Below.setCell ?_ ?_ _) | omega | (simp; done) | (simp; omega)))) (hb.mono (by first | omega | (simp; done) | (simp; omega)))
                    have k7_0 : Blk w7 (w1.heap.size) 38 #[.int .i64 vl, .int .i64 vh] := Blk.below (by (repeat' (first | (with_reducible assumption) | (with_reducible exact Blk.new _ _ _) | (exact Blk.newAt (by first | rfl | (simp; done) | omega)) | (with_reducible refine Blk.drewN ?_ _) | (with_reducible refine Blk.drew ?_) | (with_reducible refine Blk.alloc ?_ _) | (with_reducible apply Blk.set_) | (with_reducible refine Blk.far ?_ ?_ _) | rfl | omega | (simp; done) | (simp; omega)))) hb (by first | omega | (simp; done) | (simp; omega))
                    have c7_0 := k7_0.cell
                    have f7_0 := k7_0.frozen
                    have l7_0 := k7_0.lt
                    have l7 := hB7.size
                    clear hb k6_0 c6_0 f6_0 l6_0 hB6
                    go_wp2_with fail
                    as_aux_lemma =>
                      refine (P7.out _).mono ?_
                      rintro e w8 ⟨rfl, hb⟩
                      have hB8 : Below w.heap.size w w8 := Below.trans (by (repeat' (first | (with_reducible exact Below.refl _ _) | (with_reducible assumption) | (with_reducible refine below_drewN ?_ _) | (with_reducible refine Below.drew ?_) | (with_reducible refine Below.alloc ?_ ?_ _) | (with_reducible refine Below.setCell ?_ ?_ _) | omega | (simp; done) | (simp; omega)))) (hb.mono (by first | omega | (simp; done) | (simp; omega)))
                      have l8 := hB8.size
                      clear hb k7_0 c7_0 f7_0 l7_0 hB7
                      go_wp2_with fail
                      as_aux_lemma =>
                        refine (P8.out _).mono ?_
                        rintro e w9 ⟨rfl, hb⟩
                        have hB9 : Below w.heap.size w w9 := Below.trans (by (repeat' (first | (with_reducible exact Below.refl _ _) | (with_reducible assumption) | (with_reducible refine below_drewN ?_ _) | (with_reducible refine Below.drew ?_) | (with_reducible refine Below.alloc ?_ ?_ _) | (with_reducible refine Below.setCell ?_ ?_ _) | omega | (simp; done) | (simp; omega)))) (hb.mono (by first | omega | (simp; done) | (simp; omega)))
                        have l9 := hB9.size
                        clear hb hB8
                        go_wp2_with fail
                        as_aux_lemma =>
                          refine (awake24 _).mono ?_
                          rintro e w11 ⟨rfl, hb⟩
                          have hB11 : Below w.heap.size w w11 := hB9.trans (hb.mono hB9.size)
                          go_wp2_with fail
                          go_ret
                          exact ⟨rfl, hB11⟩
            · by_cases q6 : c = 255
              · obtain rfl := q6
                refine (P10.out _).mono ?_
                rintro e w4 ⟨rfl, hb⟩
                have hB4 : Below w.heap.size w w4 := Below.trans (by (repeat' (first | (with_reducible exact Below.refl _ _) | (with_reducible assumption) | (with_reducible refine below_drewN ?_ _) | (with_reducible refine Below.drew ?_) | (with_reducible refine Below.alloc ?_ ?_ _) | (with_reducible refine Below.setCell ?_ ?_ _) | omega | (simp; done) | (simp; omega)))) (hb.mono (by first | omega | (simp; done) | (simp; omega)))
                have k4_0 : Blk w4 (w1.heap.size) 38 #[.int .i64 vl, .int .i64 vh] := Blk.below (by (repeat' (first | (with_reducible assumption) | (with_reducible exact Blk.new _ _ _) | (exact Blk.newAt (by first | rfl | (simp; done) | omega)) | (with_reducible refine Blk.drewN ?_ _) | (with_reducible refine Blk.drew ?_) | (with_reducible refine Blk.alloc ?_ _) | (with_reducible apply Blk.set_) | (with_reducible refine Blk.far ?_ ?_ _) | rfl | omega | (simp; done) | (simp; omega)))) hb (by first | omega | (simp; done) | (simp; omega))
                have c4_0 := k4_0.cell
                have f4_0 := k4_0.frozen
                have l4_0 := k4_0.lt
                have l4 := hB4.size
                clear hb k3_0 c3_0 f3_0 l3_0 k3_1 c3_1 f3_1 l3_1 hB3
                go_wp2_with fail
                as_aux_lemma =>
                  refine (P9.out _).mono ?_
                  rintro e w5 ⟨rfl, hb⟩
                  have hB5 : Below w.heap.size w w5 := Below.trans (by (repeat' (first | (with_reducible exact Below.refl _ _) | (with_reducible assumption) | (with_reducible refine below_drewN ?_ _) | (with_reducible refine Below.drew ?_) | (with_reducible refine Below.alloc ?_ ?_ _) | (with_reducible refine Below.setCell ?_ ?_ _) | omega | (simp; done) | (simp; omega)))) (hb.mono (by first | omega | (simp; done) | (simp; omega)))
                  have k5_0 : Blk w5 (w1.heap.size) 38 #[.int .i64 vl, .int .i64 vh] := Blk.below (by (repeat' (first | (with_reducible assumption) | (with_reducible exact Blk.new _ _ _) | (exact Blk.newAt (by first | rfl | (simp; done) | omega)) | (with_reducible refine Blk.drewN ?_ _) | (with_reducible refine Blk.drew ?_) | (with_reducible refine Blk.alloc ?_ _) | (with_reducible apply Blk.set_) | (with_reducible refine Blk.far ?_ ?_ _) | rfl | omega | (simp; done) | (simp; omega)))) hb (by first | omega | (simp; done) | (simp; omega))
                  have c5_0 := k5_0.cell
                  have f5_0 := k5_0.frozen
                  have l5_0 := k5_0.lt
                  have l5 := hB5.size
                  clear hb k4_0 c4_0 f4_0 l4_0 hB4
                  go_wp2_with fail
                  as_aux_lemma =>
                    refine (P5.out _).mono ?_
                    rintro e w6 ⟨rfl, hb⟩
                    have hB6 : Below w.heap.size w w6 := Below.trans (by (repeat' (first | (with_reducible exact Below.refl _ _) | (with_reducible assumption) | (with_reducible refine below_drewN ?_ _) | (with_reducible refine Below.drew ?_) | (with_reducible refine Below.alloc ?_ ?_ _) | (with_reducible refine Below.setCell ?_ ?_ _) | omega | (simp; done) | (simp; omega)))) (hb.mono (by first | omega | (simp; done) | (simp; omega)))
                    have k6_0 : Blk w6 (w1.heap.size) 38 #[.int .i64 vl, .int .i64 vh] := Blk.below (by (repeat' (first | (with_reducible assumption) | (with_reducible exact Blk.new _ _ _) | (exact Blk.newAt (by first | rfl | (simp; done) | omega)) | (with_reducible refine Blk.drewN ?_ _) | (with_reducible refine Blk.drew ?_) | (with_reducible refine Blk.alloc ?_ _) | (with_reducible apply Blk.set_) | (with_reducible refine Blk.far ?_ ?_ _) | rfl | omega | (simp; done) | (simp; omega)))) hb (by first | omega | (simp; done) | (simp; omega))
                    have c6_0 := k6_0.cell
                    have f6_0 := k6_0.frozen
                    have l6_0 := k6_0.lt
                    have l6 := hB6.size
                    clear hb k5_0 c5_0 f5_0 l5_0 hB5
                    go_wp2_with fail
                    as_aux_lemma =>
                      refine (P6.out _).mono ?_
                      rintro e w7 ⟨rfl, hb⟩
                      have hB7 : Below w.heap.size w w7 := Below.trans (by (repeat' (first | (with_reducible exact Below.refl _ _) | (with_reducible assumption) | (with_reducible refine below_drewN ?_ _) | (with_reducible refine Below.drew ?_) | (with_reducible refine Below.alloc ?_ ?_ _) | (with_reducible refine Below.setCell ?_ ?_ _) | omega | (simp; done) | (simp; omega)))) (hb.mono (by first | omega | (simp; done) | (simp; omega)))
                      have k7_0 : Blk w7 (w1.heap.size) 38 #[.int .i64 vl, .int .i64 vh] := Blk.below (by (repeat' (first | (with_reducible assumption) | (with_reducible exact Blk.new _ _ _) | (exact Blk.newAt (by first | rfl | (simp; done) | omega)) | (with_reducible refine Blk.drewN ?_ _) | (with_reducible refine Blk.drew ?_) | (with_reducible refine Blk.alloc ?_ _) | (with_reducible apply Blk.set_) | (with_reducible refine Blk.far ?_ ?_ _) | rfl | omega | (simp; done) | (simp; omega)))) hb (by first | omega | (simp; done) | (simp; omega))
                      have c7_0 := k7_0.cell
                      have f7_0 := k7_0.frozen
                      have l7_0 := k7_0.lt
                      have l7 := hB7.size
                      clear hb k6_0 c6_0 f6_0 l6_0 hB6
                      go_wp2_with fail
                      as_aux_lemma =>
                        refine (P7.out _).mono ?_
                        rintro e w8 ⟨rfl, hb⟩
                        have hB8 : Below w.heap.size w w8 := Below.trans (by (repeat' (first | (with_reducible exact Below.refl _ _) | (with_reducible assumption) | (with_reducible refine below_drewN ?_ _) | (with_reducible refine Below.drew ?_) | (with_reducible refine Below.alloc ?_ ?_ _) | (with_reducible refine Below.setCell ?_ ?_ _) | omega | (simp; done) | (simp; omega)))) (hb.mono (by first | omega | (simp; done) | (simp; omega)))
                        have l8 := hB8.size
                        clear hb k7_0 c7_0 f7_0 l7_0 hB7
                        go_wp2_with fail
                        as_aux_lemma =>
                          refine (P8.out _).mono ?_
                          rintro e w9 ⟨rfl, hb⟩
                          have hB9 : Below w.heap.size w w9 := Below.trans (by (repeat' (first | (with_reducible exact Below.refl _ _) | (with_reducible assumption) | (with_reducible refine below_drewN ?_ _) | (with_reducible refine Below.drew ?_) | (with_reducible refine Below.alloc ?_ ?_ _) | (with_reducible refine Below.setCell ?_ ?_ _) | omega | (simp; done) | (simp; omega)))) (hb.mono (by first | omega | (simp; done) | (simp; omega)))
                          have l9 := hB9.size
                          clear hb hB8
                          go_wp2_with fail
                          as_aux_lemma =>
                            refine (awake24 _).mono ?_
                            rintro e w11 ⟨rfl, hb⟩
                            have hB11 : Below w.heap.size w w11 := hB9.trans (hb.mono hB9.size)
                            go_wp2_with fail
                            go_ret
                            exact ⟨rfl, hB11⟩
              · have q7 : 0 < c := by omega
                have q8 : c < 255 := by omega
                refine (P10.out _).mono ?_
                rintro e w4 ⟨rfl, hb⟩
                have hB4 : Below w.heap.size w w4 := Below.trans (by (repeat' (first | (with_reducible exact Below.refl _ _) | (with_reducible assumption) | (with_reducible refine below_drewN ?_ _) | (with_reducible refine Below.drew ?_) | (with_reducible refine Below.alloc ?_ ?_ _) | (with_reducible refine Below.setCell ?_ ?_ _) | omega | (simp; done) | (simp; omega)))) (hb.mono (by first | omega | (simp; done) | (simp; omega)))
                have k4_0 : Blk w4 (w1.heap.size) 38 #[.int .i64 vl, .int .i64 vh] := Blk.below (by (repeat' (first | (with_reducible assumption) | (with_reducible exact Blk.new _ _ _) | (exact Blk.newAt (by first | rfl | (simp; done) | omega)) | (with_reducible refine Blk.drewN ?_ _) | (with_reducible refine Blk.drew ?_) | (with_reducible refine Blk.alloc ?_ _) | (with_reducible apply Blk.set_) | (with_reducible refine Blk.far ?_ ?_ _) | rfl | omega | (simp; done) | (simp; omega)))) hb (by first | omega | (simp; done) | (simp; omega))
                have c4_0 := k4_0.cell
                have f4_0 := k4_0.frozen
                have l4_0 := k4_0.lt
                have l4 := hB4.size
                clear hb k3_0 c3_0 f3_0 l3_0 k3_1 c3_1 f3_1 l3_1 hB3
                go_wp2_with fail
                as_aux_lemma =>
                  refine (P9.out _).mono ?_
                  rintro e w5 ⟨rfl, hb⟩
                  have hB5 : Below w.heap.size w w5 := Below.trans (by (repeat' (first | (with_reducible exact Below.refl _ _) | (with_reducible assumption) | (with_reducible refine below_drewN ?_ _) | (with_reducible refine Below.drew ?_) | (with_reducible refine Below.alloc ?_ ?_ _) | (with_reducible refine Below.setCell ?_ ?_ _) | omega | (simp; done) | (simp; omega)))) (hb.mono (by first | omega | (simp; done) | (simp; omega)))
                  have k5_0 : Blk w5 (w1.heap.size) 38 #[.int .i64 vl, .int .i64 vh] := Blk.below (by (repeat' (first | (with_reducible assumption) | (with_reducible exact Blk.new _ _ _) | (exact Blk.newAt (by first | rfl | (simp; done) | omega)) | (with_reducible refine Blk.drewN ?_ _) | (with_reducible refine Blk.drew ?_) | (with_reducible refine Blk.alloc ?_ _) | (with_reducible apply Blk.set_) | (with_reducible refine Blk.far ?_ ?_ _) | rfl | omega | (simp; done) | (simp; omega)))) hb (by first | omega | (simp; done) | (simp; omega))
                  have c5_0 := k5_0.cell
                  have f5_0 := k5_0.frozen
                  have l5_0 := k5_0.lt
                  have l5 := hB5.size
                  clear hb k4_0 c4_0 f4_0 l4_0 hB4
                  go_wp2_with fail
                  as_aux_lemma =>
                    refine (P5.out _).mono ?_
                    rintro e w6 ⟨rfl, hb⟩
                    have hB6 : Below w.heap.size w w6 := Below.trans (by (repeat' (first | (with_reducible exact Below.refl _ _) | (with_reducible assumption) | (with_reducible refine below_drewN ?_ _) | (with_reducible refine Below.drew ?_) | (with_reducible refine Below.alloc ?_ ?_ _) | (with_reducible refine Below.setCell ?_ ?_ _) | omega | (simp; done) | (simp; omega)))) (hb.mono (by first | omega | (simp; done) | (simp; omega)))
                    have k6_0 : Blk w6 (w1.heap.size) 38 #[.int .i64 vl, .int .i64 vh] := Blk.below (by (repeat' (first | (with_reducible assumption) | (with_reducible exact Blk.new _ _ _) | (exact Blk.newAt (by first | rfl | (simp; done) | omega)) | (with_reducible refine Blk.drewN ?_ _) | (with_reducible refine Blk.drew ?_) | (with_reducible refine Blk.alloc ?_ _) | (with_reducible apply Blk.set_) | (with_reducible refine Blk.far ?_ ?_ _) | rfl | omega | (simp; done) | (simp; omega)))) hb (by first | omega | (simp; done) | (simp; omega))
                    have c6_0 := k6_0.cell
                    have f6_0 := k6_0.frozen
                    have l6_0 := k6_0.lt
                    have l6 := hB6.size
                    clear hb k5_0 c5_0 f5_0 l5_0 hB5
                    go_wp2_with fail
                    as_aux_lemma =>
                      refine (P6.out _).mono ?_
                      rintro e w7 ⟨rfl, hb⟩
                      have hB7 : Below w.heap.size w w7 := Below.trans (by (repeat' (first | (with_reducible exact Below.refl _ _) | (with_reducible assumption) | (with_reducible refine below_drewN ?_ _) | (with_reducible refine Below.drew ?_) | (with_reducible refine Below.alloc ?_ ?_ _) | (with_reducible refine Below.setCell ?_ ?_ _) | omega | (simp; done) | (simp; omega)))) (hb.mono (by first | omega | (simp; done) | (simp; omega)))
                      have k7_0 : Blk w7 (w1.heap.size) 38 #[.int .i64 vl, .int .i64 vh] := Blk.below (by (repeat' (first | (with_reducible assumption) | (with_reducible exact Blk.new _ _ _) | (exact Blk.newAt (by first | rfl | (simp; done) | omega)) | (with_reducible refine Blk.drewN ?_ _) | (with_reducible refine Blk.drew ?_) | (with_reducible refine Blk.alloc ?_ _) | (with_reducible apply Blk.set_) | (with_reducible refine Blk.far ?_ ?_ _) | rfl | omega | (simp; done) | (simp; omega)))) hb (by first | omega | (simp; done) | (simp; omega))
                      have c7_0 := k7_0.cell
                      have f7_0 := k7_0.frozen
                      have l7_0 := k7_0.lt
                      have l7 := hB7.size
                      clear hb k6_0 c6_0 f6_0 l6_0 hB6
                      go_wp2_with fail
                      as_aux_lemma =>
                        refine (P7.out _).mono ?_
                        rintro e w8 ⟨rfl, hb⟩
                        have hB8 : Below w.heap.size w w8 := Below.trans (by (repeat' (first | (with_reducible exact Below.refl _ _) | (with_reducible assumption) | (with_reducible refine below_drewN ?_ _) | (with_reducible refine Below.drew ?_) | (with_reducible refine Below.alloc ?_ ?_ _) | (with_reducible refine Below.setCell ?_ ?_ _) | omega | (simp; done) | (simp; omega)))) (hb.mono (by first | omega | (simp; done) | (simp; omega)))
                        have l8 := hB8.size
                        clear hb k7_0 c7_0 f7_0 l7_0 hB7
                        go_wp2_with fail
                        as_aux_lemma =>
                          refine (P8.out _).mono ?_
                          rintro e w9 ⟨rfl, hb⟩
                          have hB9 : Below w.heap.size w w9 := Below.trans (by (repeat' (first | (with_reducible exact Below.refl _ _) | (with_reducible assumption) | (with_reducible refine below_drewN ?_ _) | (with_reducible refine Below.drew ?_) | (with_reducible refine Below.alloc ?_ ?_ _) | (with_reducible refine Below.setCell ?_ ?_ _) | omega | (simp; done) | (simp; omega)))) (hb.mono (by first | omega | (simp; done) | (simp; omega)))
                          have l9 := hB9.size
                          clear hb hB8
                          go_wp2_with fail
                          as_aux_lemma =>
                            refine (awake24 _).mono ?_
                            rintro e w11 ⟨rfl, hb⟩
                            have hB11 : Below w.heap.size w w11 := hB9.trans (hb.mono hB9.size)
                            go_wp2_with fail
                            go_ret
                            exact ⟨rfl, hB11⟩
end Go.Proofs.Ytcpfpefbpeidpaa
