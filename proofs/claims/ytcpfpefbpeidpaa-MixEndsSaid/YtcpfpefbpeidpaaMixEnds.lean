/- A walk: heliographlaw24.MixEnds returns true. -/
import Derived.Test.YtcpfpefbpeidpaaMixD
import Derived.Test.YtcpfpefbpeidpaaMixB
import Derived.Deep.DeepCutAuto
import Derived.Deep.RegionWith
import Derived.Lib.QuietBelow
namespace Go.Proofs.Ytcpfpefbpeidpaa
open Go.RowKit Go.Sort
set_option linter.unusedVariables false

/-- The laws' number of cells. -/
def CellsN (n : Int) : Prop := n = 1 ∨ n = 4 ∨ n = 16 ∨ n = 64 ∨ n = 256 ∨ n = 1024 ∨ n = 4096 ∨ n = 3
theorem cellsN_bd {n : Int} (h : CellsN n) : 1 ≤ n ∧ n ≤ 4096 := by unfold CellsN at h; omega
/-- What the laws' first statement leaves: a tone in a block of its own, a number of cells. -/
def Begun (w : World) (s t : Value) (wx : World) : Prop := ∃ (g : Nat) (lo hi n : Int), s = .pointer (some ⟨g, 0, none⟩) ∧ t = .int .i64 n ∧ CellsN n ∧ 0 ≤ lo ∧ lo ≤ hi ∧ hi ≤ 16711680 ∧ w.heap.size ≤ g ∧ Blk wx g 34 #[.int .i64 lo, .int .i64 hi] ∧ Below w.heap.size w wx
theorem table_at (n : Int) : ∃ (i : Nat) (m : Int), bits .and .i64 n 7 = i ∧ i < 8 ∧ CellsN m ∧ ([.int .i64 1, .int .i64 4, .int .i64 16, .int .i64 64, .int .i64 256, .int .i64 1024, .int .i64 4096, .int .i64 3] : List Value)[i]? = some (.int .i64 m) := by
  have h : n % 8 = 0 ∨ n % 8 = 1 ∨ n % 8 = 2 ∨ n % 8 = 3 ∨ n % 8 = 4 ∨ n % 8 = 5 ∨ n % 8 = 6 ∨ n % 8 = 7 := by omega
  rw [mask7]
  rcases h with h | h | h | h | h | h | h | h <;> rw [h]
  · exact ⟨0, 1, rfl, by omega, by unfold CellsN; omega, rfl⟩
  · exact ⟨1, 4, rfl, by omega, by unfold CellsN; omega, rfl⟩
  · exact ⟨2, 16, rfl, by omega, by unfold CellsN; omega, rfl⟩
  · exact ⟨3, 64, rfl, by omega, by unfold CellsN; omega, rfl⟩
  · exact ⟨4, 256, rfl, by omega, by unfold CellsN; omega, rfl⟩
  · exact ⟨5, 1024, rfl, by omega, by unfold CellsN; omega, rfl⟩
  · exact ⟨6, 4096, rfl, by omega, by unfold CellsN; omega, rfl⟩
  · exact ⟨7, 3, rfl, by omega, by unfold CellsN; omega, rfl⟩
theorem blk_two {w wq : World} {x : Obj} {cs : Array Value} (hb : Below ((w.alloc x).alloc (.cells cs 34)).drew.heap.size ((w.alloc x).alloc (.cells cs 34)).drew wq) : Blk wq (w.heap.size + 1) 34 cs := by
  refine Blk.below (Blk.drew ?_) hb ?_
  · exact Blk.newAt (by simp)
  · simp
theorem blk_one {w wq : World} {cs : Array Value} (hb : Below (w.alloc (.cells cs 34)).drew.heap.size (w.alloc (.cells cs 34)).drew wq) : Blk wq w.heap.size 34 cs := by
  refine Blk.below (Blk.drew ?_) hb ?_
  · exact Blk.new _ _ _
  · simp
theorem blk_fst {w wq : World} {x : Obj} {cs : Array Value} (hb : Below ((w.alloc (.cells cs 34)).alloc x).drew.heap.size ((w.alloc (.cells cs 34)).alloc x).drew wq) : Blk wq w.heap.size 34 cs := by
  refine Blk.below (Blk.drew (Blk.alloc (Blk.new _ _ _) _)) hb ?_
  · simp; omega
theorem table_in {i : Nat} {v : Value} {l : List Value} (h : l[i]? = some v) (hi : i < l.length) : l[i] = v := by
  rw [List.getElem?_eq_getElem hi] at h; exact Option.some.inj h

set_option maxRecDepth 100000 in
set_option maxHeartbeats 10000000 in
theorem ends (a b c al x y n p q : Int) (w : World) :
    Calls Try.prog 7 #[.int .i64 a, .int .i64 b, .int .i64 c, .int .i64 al, .int .i64 x, .int .i64 y, .int .i64 n, .int .i64 p, .int .i64 q] w fun e w' => e = .returned (.bool true) ∧ Below w.heap.size w w' := by
  have mc := mask255 c
  have ma := mask255 al
  obtain ⟨C, eC⟩ : ∃ C, c % 256 = C := ⟨_, rfl⟩
  obtain ⟨A, eA⟩ : ∃ C, al % 256 = C := ⟨_, rfl⟩
  rw [eC] at mc
  rw [eA] at ma
  have C0 : 0 ≤ C := by omega
  have C1 : C ≤ 255 := by omega
  have A0 : 0 ≤ A := by omega
  have A1 : A ≤ 255 := by omega
  clear eC eA
  obtain ⟨i, m, ei, hi8, hm, ht⟩ := table_at n
  have hM := Lib.hid hm
  have hT := Lib.hid ht
  clear hm ht
  have hi8' : (i : Int) < 8 := by omega
  go_enter Try.func7, Try.ntmps7
  go_upto_region 1 with (fail)
  go_cut [19, 20] (fun s1 s2 wx => Begun w s1 s2 wx)
  case first =>
    go_region_with (go_at_call 23; refine (tone _ _ _).mono ?_; rintro e wq ⟨lo, hi, h0, h1, h2, rfl, hb⟩; obtain ⟨hc, hf⟩ := bcell hb; (first | (have hl : w.heap.size < wq.heap.size := by (have := hb.size; simp at this; omega)) | have hl : w.heap.size ≤ wq.heap.size := hb.size | skip))
    all_goals as_aux_lemma =>
      go_wp2_with fail
      go_meet
      have hB : Below w.heap.size w wq := Below.trans (by (repeat' (first | (with_reducible exact Below.refl _ _) | (with_reducible assumption) | (with_reducible refine below_drewN ?_ _) | (with_reducible refine Below.drew ?_) | (with_reducible refine Below.alloc ?_ ?_ _) | (with_reducible refine Below.setCell ?_ ?_ _) | omega | (simp; done) | (simp; omega)))) (hb.mono (by first | omega | (simp; done) | (simp; omega)))
      first
        | have hK := blk_two hb
        | have hK := blk_one hb
        | have hK := blk_fst hb
        | skip
      refine ⟨_, lo, hi, m, rfl, table_in hT.out (by simpa using hi8), hM.out, h0, h1, h2, ?_, ?_, ?_⟩
      · first | omega | (simp; done) | (simp; omega)
      · (repeat' (first | (with_reducible assumption) | (with_reducible exact Blk.new _ _ _) | (exact Blk.newAt (by first | rfl | (simp; done) | omega)) | (with_reducible refine Blk.drewN ?_ _) | (with_reducible refine Blk.drew ?_) | (with_reducible refine Blk.alloc ?_ _) | (with_reducible apply Blk.set_) | (with_reducible refine Blk.far ?_ ?_ _) | rfl | omega | (simp; done) | (simp; omega)))
      · (repeat' (first | (with_reducible exact Below.refl _ _) | (with_reducible assumption) | (with_reducible refine below_drewN ?_ _) | (with_reducible refine Below.drew ?_) | (with_reducible refine Below.alloc ?_ ?_ _) | (with_reducible refine Below.setCell ?_ ?_ _) | omega | (simp; done) | (simp; omega)))
  case rest =>
    obtain ⟨g, lo, hi, m, rfl, rfl, hm, h0, h1, h2, hg, k0_0, hB0⟩ := hcut
    have c0_0 := k0_0.cell
    have f0_0 := k0_0.frozen
    have l0_0 := k0_0.lt
    have l0 := hB0.size
    obtain ⟨n0, n1⟩ := cellsN_bd hm
    clear hm
    go_wp2_with fail
    refine (cov x y m (by omega) n1 _).mono ?_
    rintro e w1 ⟨vl, vh, v0, v1, v2, rfl, hb⟩
    have hB1 : Below w.heap.size w w1 := Below.trans (by (repeat' (first | (with_reducible exact Below.refl _ _) | (with_reducible assumption) | (with_reducible refine below_drewN ?_ _) | (with_reducible refine Below.drew ?_) | (with_reducible refine Below.alloc ?_ ?_ _) | (with_reducible refine Below.setCell ?_ ?_ _) | omega | (simp; done) | (simp; omega)))) (hb.mono (by first | omega | (simp; done) | (simp; omega)))
    have k1_0 : Blk w1 (g) 34 #[.int .i64 lo, .int .i64 hi] := Blk.below (by (repeat' (first | (with_reducible assumption) | (with_reducible exact Blk.new _ _ _) | (exact Blk.newAt (by first | rfl | (simp; done) | omega)) | (with_reducible refine Blk.drewN ?_ _) | (with_reducible refine Blk.drew ?_) | (with_reducible refine Blk.alloc ?_ _) | (with_reducible apply Blk.set_) | (with_reducible refine Blk.far ?_ ?_ _) | rfl | omega | (simp; done) | (simp; omega)))) hb (by first | omega | (simp; done) | (simp; omega))
    have c1_0 := k1_0.cell
    have f1_0 := k1_0.frozen
    have l1_0 := k1_0.lt
    have l1 := hB1.size
    clear hb k0_0 c0_0 f0_0 l0_0 hB0
    go_wp2_with fail
    as_aux_lemma =>
      refine (cov p q (vh - vl) (by omega) (by omega) _).mono ?_
      rintro e w2 ⟨wl, wh, s0, s1, s2, rfl, hb⟩
      have hB2 : Below w.heap.size w w2 := Below.trans (by (repeat' (first | (with_reducible exact Below.refl _ _) | (with_reducible assumption) | (with_reducible refine below_drewN ?_ _) | (with_reducible refine Below.drew ?_) | (with_reducible refine Below.alloc ?_ ?_ _) | (with_reducible refine Below.setCell ?_ ?_ _) | omega | (simp; done) | (simp; omega)))) (hb.mono (by first | omega | (simp; done) | (simp; omega)))
      have k2_0 : Blk w2 (g) 34 #[.int .i64 lo, .int .i64 hi] := Blk.below (by (repeat' (first | (with_reducible assumption) | (with_reducible exact Blk.new _ _ _) | (exact Blk.newAt (by first | rfl | (simp; done) | omega)) | (with_reducible refine Blk.drewN ?_ _) | (with_reducible refine Blk.drew ?_) | (with_reducible refine Blk.alloc ?_ _) | (with_reducible apply Blk.set_) | (with_reducible refine Blk.far ?_ ?_ _) | rfl | omega | (simp; done) | (simp; omega)))) hb (by first | omega | (simp; done) | (simp; omega))
      have k2_1 : Blk w2 (w1.heap.size) 38 #[.int .i64 vl, .int .i64 vh] := Blk.below (by (repeat' (first | (with_reducible assumption) | (with_reducible exact Blk.new _ _ _) | (exact Blk.newAt (by first | rfl | (simp; done) | omega)) | (with_reducible refine Blk.drewN ?_ _) | (with_reducible refine Blk.drew ?_) | (with_reducible refine Blk.alloc ?_ _) | (with_reducible apply Blk.set_) | (with_reducible refine Blk.far ?_ ?_ _) | rfl | omega | (simp; done) | (simp; omega)))) hb (by first | omega | (simp; done) | (simp; omega))
      have c2_0 := k2_0.cell
      have f2_0 := k2_0.frozen
      have l2_0 := k2_0.lt
      have c2_1 := k2_1.cell
      have f2_1 := k2_1.frozen
      have l2_1 := k2_1.lt
      have l2 := hB2.size
      clear hb k1_0 c1_0 f1_0 l1_0 hB1
      obtain ⟨M, eM⟩ : ∃ M, (lo + hi) / 2 = M := ⟨_, rfl⟩
      have M0 : lo ≤ M := by omega
      have M1 : M ≤ hi := by omega
      have w0 := Int.mul_nonneg A0 v0
      have w1' : A * vl ≤ A * (vl + wl) := Int.mul_le_mul_of_nonneg_left (by omega) A0
      have w2' : A * (vl + wl) ≤ A * (vl + wh) := Int.mul_le_mul_of_nonneg_left (by omega) A0
      have w3' : A * (vl + wh) ≤ A * vh := Int.mul_le_mul_of_nonneg_left (by omega) A0
      have w4' : A * vh ≤ 255 * m := Int.mul_le_mul A1 v2 (by omega) (by omega)
      have D1 : 1 ≤ 255 * m := by omega
      have q1 := lo_mono (255 * m) (65536 * C) lo lo (A * vl) (A * (vl + wl)) (A * (vl + wh)) (A * vh) D1 w1' w2' w3' w4' (by omega)
      have q2 := hi_mono (255 * m) (65536 * C) hi hi (A * vl) (A * (vl + wl)) (A * (vl + wh)) (A * vh) D1 w1' w2' w3' w4' (by omega)
      have q3 := lo_mono (255 * m) (65536 * C) lo M (A * (vl + wl)) (A * (vl + wl)) (A * (vl + wh)) (A * (vl + wh)) D1 (by omega) w2' (by omega) (by omega) M0
      have q4 := hi_mono (255 * m) (65536 * C) hi M (A * (vl + wl)) (A * (vl + wl)) (A * (vl + wh)) (A * (vl + wh)) D1 (by omega) w2' (by omega) (by omega) M1
      have o1 := fun w => over lo hi C A 0 0 m h0 h1 h2 C0 C1 A0 A1 n0 n1 (by omega) (by omega) (by omega) w
      have o2 := fun w => over lo hi C 0 vl vh m h0 h1 h2 C0 C1 (by omega) (by omega) n0 n1 v0 v1 v2 w
      have o3 := fun w => over lo hi C 255 m m m h0 h1 h2 C0 C1 (by omega) (by omega) n0 n1 (by omega) (by omega) (by omega) w
      have o4 := fun w => over lo hi C A vl vh m h0 h1 h2 C0 C1 A0 A1 n0 n1 v0 v1 v2 w
      have o5 := fun w => over lo hi C A (vl + wl) (vl + wh) m h0 h1 h2 C0 C1 A0 A1 n0 n1 (by omega) (by omega) (by omega) w
      have o6 := fun w => over M M C A (vl + wl) (vl + wh) m (by omega) (by omega) (by omega) C0 C1 A0 A1 n0 n1 (by omega) (by omega) (by omega) w
      simp only [Int.mul_zero, lo_zero _ _ _ D1, hi_zero _ _ _ D1] at o1
      simp only [Int.zero_mul, lo_zero _ _ _ D1, hi_zero _ _ _ D1] at o2
      simp only [lo_all _ _ _ D1, hi_all _ _ _ D1] at o3
      generalize loOf (255 * m) (65536 * C) lo (A * vl) (A * vh) = L1 at *
      generalize hiOf (255 * m) (65536 * C) hi (A * vl) (A * vh) = H1 at *
      generalize loOf (255 * m) (65536 * C) lo (A * (vl + wl)) (A * (vl + wh)) = L2 at *
      generalize hiOf (255 * m) (65536 * C) hi (A * (vl + wl)) (A * (vl + wh)) = H2 at *
      generalize loOf (255 * m) (65536 * C) M (A * (vl + wl)) (A * (vl + wh)) = L3 at *
      generalize hiOf (255 * m) (65536 * C) M (A * (vl + wl)) (A * (vl + wh)) = H3 at *
      have o7 := fun w => start C w
      rw [clamp_in C C0 C1] at o7
      have o8 := fun w => byte_yes (65536 * C) (65536 * C) (by omega) (by omega) (by omega) w
      have e8 : byteOf (65536 * C) (65536 * C) = C := by unfold byteOf; omega
      rw [e8] at o8
      obtain ⟨F, eF⟩ : ∃ F, 65536 * C = F := ⟨_, rfl⟩
      rw [eF] at o3 o7 o8
      have O1 := Lib.hid o1; have O2 := Lib.hid o2; have O3 := Lib.hid o3; have O4 := Lib.hid o4; have O5 := Lib.hid o5; have O6 := Lib.hid o6; have O7 := Lib.hid o7; have O8 := Lib.hid o8
      clear o1 o2 o3 o4 o5 o6 o7 o8 e8 eF w0 w1' w2' w3' w4' D1
      go_wp2_with fail
      as_aux_lemma =>
        refine (O1.out _).mono ?_
        rintro e w3 ⟨rfl, hb⟩
        have hB3 : Below w.heap.size w w3 := Below.trans (by (repeat' (first | (with_reducible exact Below.refl _ _) | (with_reducible assumption) | (with_reducible refine below_drewN ?_ _) | (with_reducible refine Below.drew ?_) | (with_reducible refine Below.alloc ?_ ?_ _) | (with_reducible refine Below.setCell ?_ ?_ _) | omega | (simp; done) | (simp; omega)))) (hb.mono (by first | omega | (simp; done) | (simp; omega)))
        have k3_0 : Blk w3 (g) 34 #[.int .i64 lo, .int .i64 hi] := Blk.below (by (repeat' (first | (with_reducible assumption) | (with_reducible exact Blk.new _ _ _) | (exact Blk.newAt (by first | rfl | (simp; done) | omega)) | (with_reducible refine Blk.drewN ?_ _) | (with_reducible refine Blk.drew ?_) | (with_reducible refine Blk.alloc ?_ _) | (with_reducible apply Blk.set_) | (with_reducible refine Blk.far ?_ ?_ _) | rfl | omega | (simp; done) | (simp; omega)))) hb (by first | omega | (simp; done) | (simp; omega))
        have k3_1 : Blk w3 (w1.heap.size) 38 #[.int .i64 vl, .int .i64 vh] := Blk.below (by (repeat' (first | (with_reducible assumption) | (with_reducible exact Blk.new _ _ _) | (exact Blk.newAt (by first | rfl | (simp; done) | omega)) | (with_reducible refine Blk.drewN ?_ _) | (with_reducible refine Blk.drew ?_) | (with_reducible refine Blk.alloc ?_ _) | (with_reducible apply Blk.set_) | (with_reducible refine Blk.far ?_ ?_ _) | rfl | omega | (simp; done) | (simp; omega)))) hb (by first | omega | (simp; done) | (simp; omega))
        have k3_2 : Blk w3 (w2.heap.size + 1) 38 #[.int .i64 (vl + wl), .int .i64 (vl + wh)] := Blk.below (by (repeat' (first | (with_reducible assumption) | (with_reducible exact Blk.new _ _ _) | (exact Blk.newAt (by first | rfl | (simp; done) | omega)) | (with_reducible refine Blk.drewN ?_ _) | (with_reducible refine Blk.drew ?_) | (with_reducible refine Blk.alloc ?_ _) | (with_reducible apply Blk.set_) | (with_reducible refine Blk.far ?_ ?_ _) | rfl | omega | (simp; done) | (simp; omega)))) hb (by first | omega | (simp; done) | (simp; omega))
        have c3_0 := k3_0.cell
        have f3_0 := k3_0.frozen
        have l3_0 := k3_0.lt
        have c3_1 := k3_1.cell
        have f3_1 := k3_1.frozen
        have l3_1 := k3_1.lt
        have c3_2 := k3_2.cell
        have f3_2 := k3_2.frozen
        have l3_2 := k3_2.lt
        have l3 := hB3.size
        clear hb k2_0 c2_0 f2_0 l2_0 k2_1 c2_1 f2_1 l2_1 hB2
        go_wp2_with fail
        as_aux_lemma =>
          refine (O2.out _).mono ?_
          rintro e w4 ⟨rfl, hb⟩
          have hB4 : Below w.heap.size w w4 := Below.trans (by (repeat' (first | (with_reducible exact Below.refl _ _) | (with_reducible assumption) | (with_reducible refine below_drewN ?_ _) | (with_reducible refine Below.drew ?_) | (with_reducible refine Below.alloc ?_ ?_ _) | (with_reducible refine Below.setCell ?_ ?_ _) | omega | (simp; done) | (simp; omega)))) (hb.mono (by first | omega | (simp; done) | (simp; omega)))
          have k4_0 : Blk w4 (g) 34 #[.int .i64 lo, .int .i64 hi] := Blk.below (by (repeat' (first | (with_reducible assumption) | (with_reducible exact Blk.new _ _ _) | (exact Blk.newAt (by first | rfl | (simp; done) | omega)) | (with_reducible refine Blk.drewN ?_ _) | (with_reducible refine Blk.drew ?_) | (with_reducible refine Blk.alloc ?_ _) | (with_reducible apply Blk.set_) | (with_reducible refine Blk.far ?_ ?_ _) | rfl | omega | (simp; done) | (simp; omega)))) hb (by first | omega | (simp; done) | (simp; omega))
          have k4_1 : Blk w4 (w1.heap.size) 38 #[.int .i64 vl, .int .i64 vh] := Blk.below (by (repeat' (first | (with_reducible assumption) | (with_reducible exact Blk.new _ _ _) | (exact Blk.newAt (by first | rfl | (simp; done) | omega)) | (with_reducible refine Blk.drewN ?_ _) | (with_reducible refine Blk.drew ?_) | (with_reducible refine Blk.alloc ?_ _) | (with_reducible apply Blk.set_) | (with_reducible refine Blk.far ?_ ?_ _) | rfl | omega | (simp; done) | (simp; omega)))) hb (by first | omega | (simp; done) | (simp; omega))
          have k4_2 : Blk w4 (w2.heap.size + 1) 38 #[.int .i64 (vl + wl), .int .i64 (vl + wh)] := Blk.below (by (repeat' (first | (with_reducible assumption) | (with_reducible exact Blk.new _ _ _) | (exact Blk.newAt (by first | rfl | (simp; done) | omega)) | (with_reducible refine Blk.drewN ?_ _) | (with_reducible refine Blk.drew ?_) | (with_reducible refine Blk.alloc ?_ _) | (with_reducible apply Blk.set_) | (with_reducible refine Blk.far ?_ ?_ _) | rfl | omega | (simp; done) | (simp; omega)))) hb (by first | omega | (simp; done) | (simp; omega))
          have k4_3 : Blk w4 (w3.heap.size) 34 #[.int .i64 lo, .int .i64 hi] := Blk.below (by (repeat' (first | (with_reducible assumption) | (with_reducible exact Blk.new _ _ _) | (exact Blk.newAt (by first | rfl | (simp; done) | omega)) | (with_reducible refine Blk.drewN ?_ _) | (with_reducible refine Blk.drew ?_) | (with_reducible refine Blk.alloc ?_ _) | (with_reducible apply Blk.set_) | (with_reducible refine Blk.far ?_ ?_ _) | rfl | omega | (simp; done) | (simp; omega)))) hb (by first | omega | (simp; done) | (simp; omega))
          have c4_0 := k4_0.cell
          have f4_0 := k4_0.frozen
          have l4_0 := k4_0.lt
          have c4_1 := k4_1.cell
          have f4_1 := k4_1.frozen
          have l4_1 := k4_1.lt
          have c4_2 := k4_2.cell
          have f4_2 := k4_2.frozen
          have l4_2 := k4_2.lt
          have c4_3 := k4_3.cell
          have f4_3 := k4_3.frozen
          have l4_3 := k4_3.lt
          have l4 := hB4.size
          clear hb k3_0 c3_0 f3_0 l3_0 k3_1 c3_1 f3_1 l3_1 k3_2 c3_2 f3_2 l3_2 hB3
          go_wp2_with fail
          as_aux_lemma =>
            refine (O3.out _).mono ?_
            rintro e w5 ⟨rfl, hb⟩
            have hB5 : Below w.heap.size w w5 := Below.trans (by (repeat' (first | (with_reducible exact Below.refl _ _) | (with_reducible assumption) | (with_reducible refine below_drewN ?_ _) | (with_reducible refine Below.drew ?_) | (with_reducible refine Below.alloc ?_ ?_ _) | (with_reducible refine Below.setCell ?_ ?_ _) | omega | (simp; done) | (simp; omega)))) (hb.mono (by first | omega | (simp; done) | (simp; omega)))
            have k5_0 : Blk w5 (g) 34 #[.int .i64 lo, .int .i64 hi] := Blk.below (by (repeat' (first | (with_reducible assumption) | (with_reducible exact Blk.new _ _ _) | (exact Blk.newAt (by first | rfl | (simp; done) | omega)) | (with_reducible refine Blk.drewN ?_ _) | (with_reducible refine Blk.drew ?_) | (with_reducible refine Blk.alloc ?_ _) | (with_reducible apply Blk.set_) | (with_reducible refine Blk.far ?_ ?_ _) | rfl | omega | (simp; done) | (simp; omega)))) hb (by first | omega | (simp; done) | (simp; omega))
            have k5_1 : Blk w5 (w1.heap.size) 38 #[.int .i64 vl, .int .i64 vh] := Blk.below (by (repeat' (first | (with_reducible assumption) | (with_reducible exact Blk.new _ _ _) | (exact Blk.newAt (by first | rfl | (simp; done) | omega)) | (with_reducible refine Blk.drewN ?_ _) | (with_reducible refine Blk.drew ?_) | (with_reducible refine Blk.alloc ?_ _) | (with_reducible apply Blk.set_) | (with_reducible refine Blk.far ?_ ?_ _) | rfl | omega | (simp; done) | (simp; omega)))) hb (by first | omega | (simp; done) | (simp; omega))
            have k5_2 : Blk w5 (w2.heap.size + 1) 38 #[.int .i64 (vl + wl), .int .i64 (vl + wh)] := Blk.below (by (repeat' (first | (with_reducible assumption) | (with_reducible exact Blk.new _ _ _) | (exact Blk.newAt (by first | rfl | (simp; done) | omega)) | (with_reducible refine Blk.drewN ?_ _) | (with_reducible refine Blk.drew ?_) | (with_reducible refine Blk.alloc ?_ _) | (with_reducible apply Blk.set_) | (with_reducible refine Blk.far ?_ ?_ _) | rfl | omega | (simp; done) | (simp; omega)))) hb (by first | omega | (simp; done) | (simp; omega))
            have k5_3 : Blk w5 (w3.heap.size) 34 #[.int .i64 lo, .int .i64 hi] := Blk.below (by (repeat' (first | (with_reducible assumption) | (with_reducible exact Blk.new _ _ _) | (exact Blk.newAt (by first | rfl | (simp; done) | omega)) | (with_reducible refine Blk.drewN ?_ _) | (with_reducible refine Blk.drew ?_) | (with_reducible refine Blk.alloc ?_ _) | (with_reducible apply Blk.set_) | (with_reducible refine Blk.far ?_ ?_ _) | rfl | omega | (simp; done) | (simp; omega)))) hb (by first | omega | (simp; done) | (simp; omega))
            have k5_4 : Blk w5 (w4.heap.size) 34 #[.int .i64 lo, .int .i64 hi] := Blk.below (by (repeat' (first | (with_reducible assumption) | (with_reducible exact Blk.new _ _ _) | (exact Blk.newAt (by first | rfl | (simp; done) | omega)) | (with_reducible refine Blk.drewN ?_ _) | (with_reducible refine Blk.drew ?_) | (with_reducible refine Blk.alloc ?_ _) | (with_reducible apply Blk.set_) | (with_reducible refine Blk.far ?_ ?_ _) | rfl | omega | (simp; done) | (simp; omega)))) hb (by first | omega | (simp; done) | (simp; omega))
            have c5_0 := k5_0.cell
            have f5_0 := k5_0.frozen
            have l5_0 := k5_0.lt
            have c5_1 := k5_1.cell
            have f5_1 := k5_1.frozen
            have l5_1 := k5_1.lt
            have c5_2 := k5_2.cell
            have f5_2 := k5_2.frozen
            have l5_2 := k5_2.lt
            have c5_3 := k5_3.cell
            have f5_3 := k5_3.frozen
            have l5_3 := k5_3.lt
            have c5_4 := k5_4.cell
            have f5_4 := k5_4.frozen
            have l5_4 := k5_4.lt
            have l5 := hB5.size
            clear hb k4_0 c4_0 f4_0 l4_0 k4_1 c4_1 f4_1 l4_1 k4_2 c4_2 f4_2 l4_2 k4_3 c4_3 f4_3 l4_3 hB4
            go_wp2_with fail
            as_aux_lemma =>
              refine (O4.out _).mono ?_
              rintro e w6 ⟨rfl, hb⟩
              have hB6 : Below w.heap.size w w6 := Below.trans (by (repeat' (first | (with_reducible exact Below.refl _ _) | (with_reducible assumption) | (with_reducible refine below_drewN ?_ _) | (with_reducible refine Below.drew ?_) | (with_reducible refine Below.alloc ?_ ?_ _) | (with_reducible refine Below.setCell ?_ ?_ _) | omega | (simp; done) | (simp; omega)))) (hb.mono (by first | omega | (simp; done) | (simp; omega)))
              have k6_0 : Blk w6 (g) 34 #[.int .i64 lo, .int .i64 hi] := Blk.below (by (repeat' (first | (with_reducible assumption) | (with_reducible exact Blk.new _ _ _) | (exact Blk.newAt (by first | rfl | (simp; done) | omega)) | (with_reducible refine Blk.drewN ?_ _) | (with_reducible refine Blk.drew ?_) | (with_reducible refine Blk.alloc ?_ _) | (with_reducible apply Blk.set_) | (with_reducible refine Blk.far ?_ ?_ _) | rfl | omega | (simp; done) | (simp; omega)))) hb (by first | omega | (simp; done) | (simp; omega))
              have k6_1 : Blk w6 (w1.heap.size) 38 #[.int .i64 vl, .int .i64 vh] := Blk.below (by (repeat' (first | (with_reducible assumption) | (with_reducible exact Blk.new _ _ _) | (exact Blk.newAt (by first | rfl | (simp; done) | omega)) | (with_reducible refine Blk.drewN ?_ _) | (with_reducible refine Blk.drew ?_) | (with_reducible refine Blk.alloc ?_ _) | (with_reducible apply Blk.set_) | (with_reducible refine Blk.far ?_ ?_ _) | rfl | omega | (simp; done) | (simp; omega)))) hb (by first | omega | (simp; done) | (simp; omega))
              have k6_2 : Blk w6 (w2.heap.size + 1) 38 #[.int .i64 (vl + wl), .int .i64 (vl + wh)] := Blk.below (by (repeat' (first | (with_reducible assumption) | (with_reducible exact Blk.new _ _ _) | (exact Blk.newAt (by first | rfl | (simp; done) | omega)) | (with_reducible refine Blk.drewN ?_ _) | (with_reducible refine Blk.drew ?_) | (with_reducible refine Blk.alloc ?_ _) | (with_reducible apply Blk.set_) | (with_reducible refine Blk.far ?_ ?_ _) | rfl | omega | (simp; done) | (simp; omega)))) hb (by first | omega | (simp; done) | (simp; omega))
              have k6_3 : Blk w6 (w3.heap.size) 34 #[.int .i64 lo, .int .i64 hi] := Blk.below (by (repeat' (first | (with_reducible assumption) | (with_reducible exact Blk.new _ _ _) | (exact Blk.newAt (by first | rfl | (simp; done) | omega)) | (with_reducible refine Blk.drewN ?_ _) | (with_reducible refine Blk.drew ?_) | (with_reducible refine Blk.alloc ?_ _) | (with_reducible apply Blk.set_) | (with_reducible refine Blk.far ?_ ?_ _) | rfl | omega | (simp; done) | (simp; omega)))) hb (by first | omega | (simp; done) | (simp; omega))
              have k6_4 : Blk w6 (w4.heap.size) 34 #[.int .i64 lo, .int .i64 hi] := Blk.below (by (repeat' (first | (with_reducible assumption) | (with_reducible exact Blk.new _ _ _) | (exact Blk.newAt (by first | rfl | (simp; done) | omega)) | (with_reducible refine Blk.drewN ?_ _) | (with_reducible refine Blk.drew ?_) | (with_reducible refine Blk.alloc ?_ _) | (with_reducible apply Blk.set_) | (with_reducible refine Blk.far ?_ ?_ _) | rfl | omega | (simp; done) | (simp; omega)))) hb (by first | omega | (simp; done) | (simp; omega))
              have k6_5 : Blk w6 (w5.heap.size) 34 #[.int .i64 F, .int .i64 F] := Blk.below (by (repeat' (first | (with_reducible assumption) | (with_reducible exact Blk.new _ _ _) | (exact Blk.newAt (by first | rfl | (simp; done) | omega)) | (with_reducible refine Blk.drewN ?_ _) | (with_reducible refine Blk.drew ?_) | (with_reducible refine Blk.alloc ?_ _) | (with_reducible apply Blk.set_) | (with_reducible refine Blk.far ?_ ?_ _) | rfl | omega | (simp; done) | (simp; omega)))) hb (by first | omega | (simp; done) | (simp; omega))
              have c6_0 := k6_0.cell
              have f6_0 := k6_0.frozen
              have l6_0 := k6_0.lt
              have c6_1 := k6_1.cell
              have f6_1 := k6_1.frozen
              have l6_1 := k6_1.lt
              have c6_2 := k6_2.cell
              have f6_2 := k6_2.frozen
              have l6_2 := k6_2.lt
              have c6_3 := k6_3.cell
              have f6_3 := k6_3.frozen
              have l6_3 := k6_3.lt
              have c6_4 := k6_4.cell
              have f6_4 := k6_4.frozen
              have l6_4 := k6_4.lt
              have c6_5 := k6_5.cell
              have f6_5 := k6_5.frozen
              have l6_5 := k6_5.lt
              have l6 := hB6.size
              clear hb k5_0 c5_0 f5_0 l5_0 k5_1 c5_1 f5_1 l5_1 k5_2 c5_2 f5_2 l5_2 k5_3 c5_3 f5_3 l5_3 k5_4 c5_4 f5_4 l5_4 hB5
              go_wp2_with fail
              as_aux_lemma =>
                refine (O5.out _).mono ?_
                rintro e w7 ⟨rfl, hb⟩
                have hB7 : Below w.heap.size w w7 := Below.trans (by (repeat' (first | (with_reducible exact Below.refl _ _) | (with_reducible assumption) | (with_reducible refine below_drewN ?_ _) | (with_reducible refine Below.drew ?_) | (with_reducible refine Below.alloc ?_ ?_ _) | (with_reducible refine Below.setCell ?_ ?_ _) | omega | (simp; done) | (simp; omega)))) (hb.mono (by first | omega | (simp; done) | (simp; omega)))
                have k7_0 : Blk w7 (g) 34 #[.int .i64 lo, .int .i64 hi] := Blk.below (by (repeat' (first | (with_reducible assumption) | (with_reducible exact Blk.new _ _ _) | (exact Blk.newAt (by first | rfl | (simp; done) | omega)) | (with_reducible refine Blk.drewN ?_ _) | (with_reducible refine Blk.drew ?_) | (with_reducible refine Blk.alloc ?_ _) | (with_reducible apply Blk.set_) | (with_reducible refine Blk.far ?_ ?_ _) | rfl | omega | (simp; done) | (simp; omega)))) hb (by first | omega | (simp; done) | (simp; omega))
                have k7_1 : Blk w7 (w2.heap.size + 1) 38 #[.int .i64 (vl + wl), .int .i64 (vl + wh)] := Blk.below (by (repeat' (first | (with_reducible assumption) | (with_reducible exact Blk.new _ _ _) | (exact Blk.newAt (by first | rfl | (simp; done) | omega)) | (with_reducible refine Blk.drewN ?_ _) | (with_reducible refine Blk.drew ?_) | (with_reducible refine Blk.alloc ?_ _) | (with_reducible apply Blk.set_) | (with_reducible refine Blk.far ?_ ?_ _) | rfl | omega | (simp; done) | (simp; omega)))) hb (by first | omega | (simp; done) | (simp; omega))
                have k7_2 : Blk w7 (w3.heap.size) 34 #[.int .i64 lo, .int .i64 hi] := Blk.below (by (repeat' (first | (with_reducible assumption) | (with_reducible exact Blk.new _ _ _) | (exact Blk.newAt (by first | rfl | (simp; done) | omega)) | (with_reducible refine Blk.drewN ?_ _) | (with_reducible refine Blk.drew ?_) | (with_reducible refine Blk.alloc ?_ _) | (with_reducible apply Blk.set_) | (with_reducible refine Blk.far ?_ ?_ _) | rfl | omega | (simp; done) | (simp; omega)))) hb (by first | omega | (simp; done) | (simp; omega))
                have k7_3 : Blk w7 (w4.heap.size) 34 #[.int .i64 lo, .int .i64 hi] := Blk.below (by (repeat' (first | (with_reducible assumption) | (with_reducible exact Blk.new _ _ _) | (exact Blk.newAt (by first | rfl | (simp; done) | omega)) | (with_reducible refine Blk.drewN ?_ _) | (with_reducible refine Blk.drew ?_) | (with_reducible refine Blk.alloc ?_ _) | (with_reducible apply Blk.set_) | (with_reducible refine Blk.far ?_ ?_ _) | rfl | omega | (simp; done) | (simp; omega)))) hb (by first | omega | (simp; done) | (simp; omega))
                have k7_4 : Blk w7 (w5.heap.size) 34 #[.int .i64 F, .int .i64 F] := Blk.below (by (repeat' (first | (with_reducible assumption) | (with_reducible exact Blk.new _ _ _) | (exact Blk.newAt (by first | rfl | (simp; done) | omega)) | (with_reducible refine Blk.drewN ?_ _) | (with_reducible refine Blk.drew ?_) | (with_reducible refine Blk.alloc ?_ _) | (with_reducible apply Blk.set_) | (with_reducible refine Blk.far ?_ ?_ _) | rfl | omega | (simp; done) | (simp; omega)))) hb (by first | omega | (simp; done) | (simp; omega))
                have k7_5 : Blk w7 (w6.heap.size) 34 #[.int .i64 L1, .int .i64 H1] := Blk.below (by (repeat' (first | (with_reducible assumption) | (with_reducible exact Blk.new _ _ _) | (exact Blk.newAt (by first | rfl | (simp; done) | omega)) | (with_reducible refine Blk.drewN ?_ _) | (with_reducible refine Blk.drew ?_) | (with_reducible refine Blk.alloc ?_ _) | (with_reducible apply Blk.set_) | (with_reducible refine Blk.far ?_ ?_ _) | rfl | omega | (simp; done) | (simp; omega)))) hb (by first | omega | (simp; done) | (simp; omega))
                have c7_0 := k7_0.cell
                have f7_0 := k7_0.frozen
                have l7_0 := k7_0.lt
                have c7_1 := k7_1.cell
                have f7_1 := k7_1.frozen
                have l7_1 := k7_1.lt
                have c7_2 := k7_2.cell
                have f7_2 := k7_2.frozen
                have l7_2 := k7_2.lt
                have c7_3 := k7_3.cell
                have f7_3 := k7_3.frozen
                have l7_3 := k7_3.lt
                have c7_4 := k7_4.cell
                have f7_4 := k7_4.frozen
                have l7_4 := k7_4.lt
                have c7_5 := k7_5.cell
                have f7_5 := k7_5.frozen
                have l7_5 := k7_5.lt
                have l7 := hB7.size
                clear hb k6_0 c6_0 f6_0 l6_0 k6_1 c6_1 f6_1 l6_1 k6_2 c6_2 f6_2 l6_2 k6_3 c6_3 f6_3 l6_3 k6_4 c6_4 f6_4 l6_4 k6_5 c6_5 f6_5 l6_5 hB6
                go_wp2_with fail
                as_aux_lemma =>
                  refine (O6.out _).mono ?_
                  rintro e w8 ⟨rfl, hb⟩
                  have hB8 : Below w.heap.size w w8 := Below.trans (by (repeat' (first | (with_reducible exact Below.refl _ _) | (with_reducible assumption) | (with_reducible refine below_drewN ?_ _) | (with_reducible refine Below.drew ?_) | (with_reducible refine Below.alloc ?_ ?_ _) | (with_reducible refine Below.setCell ?_ ?_ _) | omega | (simp; done) | (simp; omega)))) (hb.mono (by first | omega | (simp; done) | (simp; omega)))
                  have k8_0 : Blk w8 (g) 34 #[.int .i64 lo, .int .i64 hi] := Blk.below (by (repeat' (first | (with_reducible assumption) | (with_reducible exact Blk.new _ _ _) | (exact Blk.newAt (by first | rfl | (simp; done) | omega)) | (with_reducible refine Blk.drewN ?_ _) | (with_reducible refine Blk.drew ?_) | (with_reducible refine Blk.alloc ?_ _) | (with_reducible apply Blk.set_) | (with_reducible refine Blk.far ?_ ?_ _) | rfl | omega | (simp; done) | (simp; omega)))) hb (by first | omega | (simp; done) | (simp; omega))
                  have k8_1 : Blk w8 (w3.heap.size) 34 #[.int .i64 lo, .int .i64 hi] := Blk.below (by (repeat' (first | (with_reducible assumption) | (with_reducible exact Blk.new _ _ _) | (exact Blk.newAt (by first | rfl | (simp; done) | omega)) | (with_reducible refine Blk.drewN ?_ _) | (with_reducible refine Blk.drew ?_) | (with_reducible refine Blk.alloc ?_ _) | (with_reducible apply Blk.set_) | (with_reducible refine Blk.far ?_ ?_ _) | rfl | omega | (simp; done) | (simp; omega)))) hb (by first | omega | (simp; done) | (simp; omega))
                  have k8_2 : Blk w8 (w4.heap.size) 34 #[.int .i64 lo, .int .i64 hi] := Blk.below (by (repeat' (first | (with_reducible assumption) | (with_reducible exact Blk.new _ _ _) | (exact Blk.newAt (by first | rfl | (simp; done) | omega)) | (with_reducible refine Blk.drewN ?_ _) | (with_reducible refine Blk.drew ?_) | (with_reducible refine Blk.alloc ?_ _) | (with_reducible apply Blk.set_) | (with_reducible refine Blk.far ?_ ?_ _) | rfl | omega | (simp; done) | (simp; omega)))) hb (by first | omega | (simp; done) | (simp; omega))
                  have k8_3 : Blk w8 (w5.heap.size) 34 #[.int .i64 F, .int .i64 F] := Blk.below (by (repeat' (first | (with_reducible assumption) | (with_reducible exact Blk.new _ _ _) | (exact Blk.newAt (by first | rfl | (simp; done) | omega)) | (with_reducible refine Blk.drewN ?_ _) | (with_reducible refine Blk.drew ?_) | (with_reducible refine Blk.alloc ?_ _) | (with_reducible apply Blk.set_) | (with_reducible refine Blk.far ?_ ?_ _) | rfl | omega | (simp; done) | (simp; omega)))) hb (by first | omega | (simp; done) | (simp; omega))
                  have k8_4 : Blk w8 (w6.heap.size) 34 #[.int .i64 L1, .int .i64 H1] := Blk.below (by (repeat' (first | (with_reducible assumption) | (with_reducible exact Blk.new _ _ _) | (exact Blk.newAt (by first | rfl | (simp; done) | omega)) | (with_reducible refine Blk.drewN ?_ _) | (with_reducible refine Blk.drew ?_) | (with_reducible refine Blk.alloc ?_ _) | (with_reducible apply Blk.set_) | (with_reducible refine Blk.far ?_ ?_ _) | rfl | omega | (simp; done) | (simp; omega)))) hb (by first | omega | (simp; done) | (simp; omega))
                  have k8_5 : Blk w8 (w7.heap.size) 34 #[.int .i64 L2, .int .i64 H2] := Blk.below (by (repeat' (first | (with_reducible assumption) | (with_reducible exact Blk.new _ _ _) | (exact Blk.newAt (by first | rfl | (simp; done) | omega)) | (with_reducible refine Blk.drewN ?_ _) | (with_reducible refine Blk.drew ?_) | (with_reducible refine Blk.alloc ?_ _) | (with_reducible apply Blk.set_) | (with_reducible refine Blk.far ?_ ?_ _) | rfl | omega | (simp; done) | (simp; omega)))) hb (by first | omega | (simp; done) | (simp; omega))
                  have c8_0 := k8_0.cell
                  have f8_0 := k8_0.frozen
                  have l8_0 := k8_0.lt
                  have c8_1 := k8_1.cell
                  have f8_1 := k8_1.frozen
                  have l8_1 := k8_1.lt
                  have c8_2 := k8_2.cell
                  have f8_2 := k8_2.frozen
                  have l8_2 := k8_2.lt
                  have c8_3 := k8_3.cell
                  have f8_3 := k8_3.frozen
                  have l8_3 := k8_3.lt
                  have c8_4 := k8_4.cell
                  have f8_4 := k8_4.frozen
                  have l8_4 := k8_4.lt
                  have c8_5 := k8_5.cell
                  have f8_5 := k8_5.frozen
                  have l8_5 := k8_5.lt
                  have l8 := hB8.size
                  clear hb k7_0 c7_0 f7_0 l7_0 k7_1 c7_1 f7_1 l7_1 k7_2 c7_2 f7_2 l7_2 k7_3 c7_3 f7_3 l7_3 k7_4 c7_4 f7_4 l7_4 k7_5 c7_5 f7_5 l7_5 hB7
                  go_wp2_with fail
                  as_aux_lemma =>
                    have O9 : Hid (∀ w d os, Calls Try.prog 13 #[.int .i64 C] (grow (redrawn w d) os) fun e w'' => e = .returned (.agg #[.int .i64 F, .int .i64 F]) ∧ ∃ p : Regrown, w'' = grow (redrawn w p.d) p.os) := Lib.hid (fun w d os => Calls.regrown_of (O7.out _))
                    have O10 : Hid (∀ w d os, Calls Try.prog 18 #[.agg #[.int .i64 F, .int .i64 F]] (grow (redrawn w d) os) fun e w'' => e = .returned (.int .u8 C) ∧ ∃ p : Regrown, w'' = grow (redrawn w p.d) p.os) := Lib.hid (fun w d os => Calls.regrown_of (O8.out _))
                    have O11 : Hid (∀ w d os, Calls Try.prog 16 #[] (grow (redrawn w d) os) fun e w'' => e = .returned (.bool true) ∧ ∃ p : Regrown, w'' = grow (redrawn w p.d) p.os) := Lib.hid (fun w d os => Calls.regrown_of (awake24 _))
                    have xa0 := cell_regrown (w := (w8.alloc (.cells #[.int .i64 L3, .int .i64 H3] 34))) (a := ⟨g, 0, none⟩) (v := .int .i64 lo) (by simp [go_sem, *])
                    have xa1 := cell_regrown (w := (w8.alloc (.cells #[.int .i64 L3, .int .i64 H3] 34))) (a := ⟨g, 1, none⟩) (v := .int .i64 hi) (by simp [go_sem, *])
                    have xb0 := cell_regrown (w := (w8.alloc (.cells #[.int .i64 L3, .int .i64 H3] 34))) (a := ⟨w3.heap.size, 0, none⟩) (v := .int .i64 lo) (by simp [go_sem, *])
                    have xb1 := cell_regrown (w := (w8.alloc (.cells #[.int .i64 L3, .int .i64 H3] 34))) (a := ⟨w3.heap.size, 1, none⟩) (v := .int .i64 hi) (by simp [go_sem, *])
                    have xc0 := cell_regrown (w := (w8.alloc (.cells #[.int .i64 L3, .int .i64 H3] 34))) (a := ⟨w4.heap.size, 0, none⟩) (v := .int .i64 lo) (by simp [go_sem, *])
                    have xc1 := cell_regrown (w := (w8.alloc (.cells #[.int .i64 L3, .int .i64 H3] 34))) (a := ⟨w4.heap.size, 1, none⟩) (v := .int .i64 hi) (by simp [go_sem, *])
                    have xd0 := cell_regrown (w := (w8.alloc (.cells #[.int .i64 L3, .int .i64 H3] 34))) (a := ⟨w5.heap.size, 0, none⟩) (v := .int .i64 F) (by simp [go_sem, *])
                    have xd1 := cell_regrown (w := (w8.alloc (.cells #[.int .i64 L3, .int .i64 H3] 34))) (a := ⟨w5.heap.size, 1, none⟩) (v := .int .i64 F) (by simp [go_sem, *])
                    have xe0 := cell_regrown (w := (w8.alloc (.cells #[.int .i64 L3, .int .i64 H3] 34))) (a := ⟨w6.heap.size, 0, none⟩) (v := .int .i64 L1) (by simp [go_sem, *])
                    have xe1 := cell_regrown (w := (w8.alloc (.cells #[.int .i64 L3, .int .i64 H3] 34))) (a := ⟨w6.heap.size, 1, none⟩) (v := .int .i64 H1) (by simp [go_sem, *])
                    have xf0 := cell_regrown (w := (w8.alloc (.cells #[.int .i64 L3, .int .i64 H3] 34))) (a := ⟨w7.heap.size, 0, none⟩) (v := .int .i64 L2) (by simp [go_sem, *])
                    have xf1 := cell_regrown (w := (w8.alloc (.cells #[.int .i64 L3, .int .i64 H3] 34))) (a := ⟨w7.heap.size, 1, none⟩) (v := .int .i64 H2) (by simp [go_sem, *])
                    have xg0 := cell_regrown (w := (w8.alloc (.cells #[.int .i64 L3, .int .i64 H3] 34))) (a := ⟨w8.heap.size, 0, none⟩) (v := .int .i64 L3) (by simp [go_sem, *])
                    have xg1 := cell_regrown (w := (w8.alloc (.cells #[.int .i64 L3, .int .i64 H3] 34))) (a := ⟨w8.heap.size, 1, none⟩) (v := .int .i64 H3) (by simp [go_sem, *])
                    have d1 : decide (L1 ≤ L2) = true := by simpa using q1
                    have d2 : decide (H2 ≤ H1) = true := by simpa using q2
                    have d3 : decide (L2 ≤ L3) = true := by simpa using q3
                    have d4 : decide (H3 ≤ H2) = true := by simpa using q4
                    have d5 : IntKind.u8.wrap C = C := by rw [IntKind.wrap_u8]; omega
                    clear k8_0 c8_0 f8_0 l8_0 k8_1 c8_1 f8_1 l8_1 k8_2 c8_2 f8_2 l8_2 k8_3 c8_3 f8_3 l8_3 k8_4 c8_4 f8_4 l8_4 k8_5 c8_5 f8_5 l8_5
                    refine wp_region_quiet_below (by kernel_rfl) (by kernel_rfl) ?_
                    repeat (first | go_big_quiet_step (first | (with_reducible exact O9.out _ _ _) | (with_reducible exact O10.out _ _ _) | (with_reducible exact O11.out _ _ _)) | quiet_step (first | (with_reducible exact O9.out _ _ _) | (with_reducible exact O10.out _ _ _) | (with_reducible exact O11.out _ _ _)))
                    refine wpQuiet_nil ?_
                    intro _ hw'
                    obtain ⟨⟨dq, osq⟩, hw''⟩ := hw'
                    subst hw''
                    go_wp2
                    go_ret
                    exact ⟨rfl, (hB8.alloc l8 _).trans ((below_regrown _ dq osq).mono (by simp; omega))⟩
end Go.Proofs.Ytcpfpefbpeidpaa
