/- A walk: heliographlaw24.MixSure returns true. -/
import Derived.Test.YtcpfpefbpeidpaaMixD
import Derived.Test.YtcpfpefbpeidpaaMixB
import Derived.Deep.DeepCutAuto
import Derived.Deep.RegionWith
import Derived.Lib.QuietBelow
namespace Go.Proofs.Ytcpfpefbpeidpaa
open Go.RowKit Go.Sort
set_option linter.unusedVariables false

/-- The laws' number of cells. -/
def CellsN (n : Int) : Prop := n = 1 ∨ n = 4 ∨ n = 16 ∨ n = 64 ∨ n = 256 ∨ n = 1024 ∨ n = 4096 ∨ n = 3
theorem cellsN_bd {n : Int} (h : CellsN n) : 1 ≤ n ∧ n ≤ 4096 := by unfold CellsN at h; omega
/-- What the laws' first statement leaves: a tone in a block of its own, a number of cells. -/
def Begun (w : World) (s t : Value) (wx : World) : Prop := ∃ (g : Nat) (lo hi n : Int), s = .pointer (some ⟨g, 0, none⟩) ∧ t = .int .i64 n ∧ CellsN n ∧ 0 ≤ lo ∧ lo ≤ hi ∧ hi ≤ 16711680 ∧ w.heap.size ≤ g ∧ Blk wx g 34 #[.int .i64 lo, .int .i64 hi] ∧ Below w.heap.size w wx
theorem table_at (n : Int) : ∃ (i : Nat) (m : Int), bits .and .i64 n 7 = i ∧ i < 8 ∧ CellsN m ∧ ([.int .i64 1, .int .i64 4, .int .i64 16, .int .i64 64, .int .i64 256, .int .i64 1024, .int .i64 4096, .int .i64 3] : List Value)[i]? = some (.int .i64 m) := by
  have h : n % 8 = 0 ∨ n % 8 = 1 ∨ n % 8 = 2 ∨ n % 8 = 3 ∨ n % 8 = 4 ∨ n % 8 = 5 ∨ n % 8 = 6 ∨ n % 8 = 7 := by omega
  rw [mask7]
  rcases h with h | h | h | h | h | h | h | h <;> rw [h]
  · exact ⟨0, 1, rfl, by omega, by unfold CellsN; omega, rfl⟩
  · exact ⟨1, 4, rfl, by omega, by unfold CellsN; omega, rfl⟩
  · exact ⟨2, 16, rfl, by omega, by unfold CellsN; omega, rfl⟩
  · exact ⟨3, 64, rfl, by omega, by unfold CellsN; omega, rfl⟩
  · exact ⟨4, 256, rfl, by omega, by unfold CellsN; omega, rfl⟩
  · exact ⟨5, 1024, rfl, by omega, by unfold CellsN; omega, rfl⟩
  · exact ⟨6, 4096, rfl, by omega, by unfold CellsN; omega, rfl⟩
  · exact ⟨7, 3, rfl, by omega, by unfold CellsN; omega, rfl⟩
theorem blk_two {w wq : World} {x : Obj} {cs : Array Value} (hb : Below ((w.alloc x).alloc (.cells cs 34)).drew.heap.size ((w.alloc x).alloc (.cells cs 34)).drew wq) : Blk wq (w.heap.size + 1) 34 cs := by
  refine Blk.below (Blk.drew ?_) hb ?_
  · exact Blk.newAt (by simp)
  · simp
theorem blk_one {w wq : World} {cs : Array Value} (hb : Below (w.alloc (.cells cs 34)).drew.heap.size (w.alloc (.cells cs 34)).drew wq) : Blk wq w.heap.size 34 cs := by
  refine Blk.below (Blk.drew ?_) hb ?_
  · exact Blk.new _ _ _
  · simp
theorem blk_fst {w wq : World} {x : Obj} {cs : Array Value} (hb : Below ((w.alloc (.cells cs 34)).alloc x).drew.heap.size ((w.alloc (.cells cs 34)).alloc x).drew wq) : Blk wq w.heap.size 34 cs := by
  refine Blk.below (Blk.drew (Blk.alloc (Blk.new _ _ _) _)) hb ?_
  · simp; omega
theorem table_in {i : Nat} {v : Value} {l : List Value} (h : l[i]? = some v) (hi : i < l.length) : l[i] = v := by
  rw [List.getElem?_eq_getElem hi] at h; exact Option.some.inj h

set_option maxRecDepth 100000 in
set_option maxHeartbeats 10000000 in
theorem sure (a b c al x y n k at_ : Int) (w : World) :
    Calls Try.prog 6 #[.int .i64 a, .int .i64 b, .int .i64 c, .int .i64 al, .int .i64 x, .int .i64 y, .int .i64 n, .int .i64 k, .int .i64 at_] w fun e w' => e = .returned (.bool true) ∧ Below w.heap.size w w' := by
  have mc := mask255 c
  have ma := mask255 al
  obtain ⟨C, eC⟩ : ∃ C, c % 256 = C := ⟨_, rfl⟩
  obtain ⟨A, eA⟩ : ∃ C, al % 256 = C := ⟨_, rfl⟩
  rw [eC] at mc
  rw [eA] at ma
  have C0 : 0 ≤ C := by omega
  have C1 : C ≤ 255 := by omega
  have A0 : 0 ≤ A := by omega
  have A1 : A ≤ 255 := by omega
  clear eC eA
  obtain ⟨K, eK⟩ : ∃ K, IntKind.u64.wrap k = K := ⟨_, rfl⟩
  obtain ⟨Q, eQ⟩ : ∃ K, IntKind.u64.wrap at_ = K := ⟨_, rfl⟩
  have K0 : 0 ≤ K := by rw [← eK, IntKind.wrap_u64]; omega
  have Q0 : 0 ≤ Q := by rw [← eQ, IntKind.wrap_u64]; omega
  obtain ⟨i, m, ei, hi8, hm, ht⟩ := table_at n
  have hM := Lib.hid hm
  have hT := Lib.hid ht
  clear hm ht
  have hi8' : (i : Int) < 8 := by omega
  go_enter Try.func6, Try.ntmps6
  go_upto_region 1 with (fail)
  go_cut [19, 20] (fun s1 s2 wx => Begun w s1 s2 wx)
  case first =>
    go_region_with (go_at_call 23; refine (tone _ _ _).mono ?_; rintro e wq ⟨lo, hi, h0, h1, h2, rfl, hb⟩; obtain ⟨hc, hf⟩ := bcell hb; (first | (have hl : w.heap.size < wq.heap.size := by (have := hb.size; simp at this; omega)) | have hl : w.heap.size ≤ wq.heap.size := hb.size | skip))
    all_goals as_aux_lemma =>
      go_wp2_with fail
      go_meet
      have hB : Below w.heap.size w wq := Below.trans (by (repeat' (first | (with_reducible exact Below.refl _ _) | (with_reducible assumption) | (with_reducible refine below_drewN ?_ _) | (with_reducible refine Below.drew ?_) | (with_reducible refine Below.alloc ?_ ?_ _) | (with_reducible refine Below.setCell ?_ ?_ _) | omega | (simp; done) | (simp; omega)))) (hb.mono (by first | omega | (simp; done) | (simp; omega)))
      first
        | have hK := blk_two hb
        | have hK := blk_one hb
        | have hK := blk_fst hb
        | skip
      refine ⟨_, lo, hi, m, rfl, table_in hT.out (by simpa using hi8), hM.out, h0, h1, h2, ?_, ?_, ?_⟩
      · first | omega | (simp; done) | (simp; omega)
      · (repeat' (first | (with_reducible assumption) | (with_reducible exact Blk.new _ _ _) | (exact Blk.newAt (by first | rfl | (simp; done) | omega)) | (with_reducible refine Blk.drewN ?_ _) | (with_reducible refine Blk.drew ?_) | (with_reducible refine Blk.alloc ?_ _) | (with_reducible apply Blk.set_) | (with_reducible refine Blk.far ?_ ?_ _) | rfl | omega | (simp; done) | (simp; omega)))
      · (repeat' (first | (with_reducible exact Below.refl _ _) | (with_reducible assumption) | (with_reducible refine below_drewN ?_ _) | (with_reducible refine Below.drew ?_) | (with_reducible refine Below.alloc ?_ ?_ _) | (with_reducible refine Below.setCell ?_ ?_ _) | omega | (simp; done) | (simp; omega)))
  case rest =>
    obtain ⟨g, lo, hi, m, rfl, rfl, hm, h0, h1, h2, hg, k0_0, hB0⟩ := hcut
    have c0_0 := k0_0.cell
    have f0_0 := k0_0.frozen
    have l0_0 := k0_0.lt
    have l0 := hB0.size
    obtain ⟨n0, n1⟩ := cellsN_bd hm
    clear hm
    go_wp2_with fail
    refine (cov x y m (by omega) n1 _).mono ?_
    rintro e w1 ⟨vl, vh, v0, v1, v2, rfl, hb⟩
    have hB1 : Below w.heap.size w w1 := Below.trans (by (repeat' (first | (with_reducible exact Below.refl _ _) | (with_reducible assumption) | (with_reducible refine below_drewN ?_ _) | (with_reducible refine Below.drew ?_) | (with_reducible refine Below.alloc ?_ ?_ _) | (with_reducible refine Below.setCell ?_ ?_ _) | omega | (simp; done) | (simp; omega)))) (hb.mono (by first | omega | (simp; done) | (simp; omega)))
    have k1_0 : Blk w1 (g) 34 #[.int .i64 lo, .int .i64 hi] := Blk.below (by (repeat' (first | (with_reducible assumption) | (with_reducible exact Blk.new _ _ _) | (exact Blk.newAt (by first | rfl | (simp; done) | omega)) | (with_reducible refine Blk.drewN ?_ _) | (with_reducible refine Blk.drew ?_) | (with_reducible refine Blk.alloc ?_ _) | (with_reducible apply Blk.set_) | (with_reducible refine Blk.far ?_ ?_ _) | rfl | omega | (simp; done) | (simp; omega)))) hb (by first | omega | (simp; done) | (simp; omega))
    have c1_0 := k1_0.cell
    have f1_0 := k1_0.frozen
    have l1_0 := k1_0.lt
    have l1 := hB1.size
    clear hb k0_0 c0_0 f0_0 l0_0 hB0
    have hov := fun w => over lo hi C A vl vh m h0 h1 h2 C0 C1 A0 A1 n0 n1 v0 v1 v2 w
    obtain ⟨p, ep⟩ : ∃ p, K % (vh - vl + 1) = p := ⟨_, rfl⟩
    obtain ⟨q, eq⟩ : ∃ p, Q % (hi - lo + 1) = p := ⟨_, rfl⟩
    obtain ⟨p0, p1⟩ : 0 ≤ p ∧ p ≤ vh - vl := by
      have a := Int.emod_nonneg K (by omega : vh - vl + 1 ≠ 0)
      have b := Int.emod_lt_of_pos K (by omega : 0 < vh - vl + 1)
      omega
    obtain ⟨q0, q1⟩ : 0 ≤ q ∧ q ≤ hi - lo := by
      have a := Int.emod_nonneg Q (by omega : hi - lo + 1 ≠ 0)
      have b := Int.emod_lt_of_pos Q (by omega : 0 < hi - lo + 1)
      omega
    have u1 : IntKind.u64.wrap (vh - vl + 1) = vh - vl + 1 := IntWalk.u64_in _ (by omega)
    have u2 : IntKind.u64.wrap (hi - lo + 1) = hi - lo + 1 := IntWalk.u64_in _ (by omega)
    have z1 : (vh - vl + 1 == 0) = false := by simp; omega
    have z2 : (hi - lo + 1 == 0) = false := by simp; omega
    have w00 := Int.mul_nonneg A0 v0
    have w01 : A * vl ≤ A * (vl + p) := Int.mul_le_mul_of_nonneg_left (by omega) A0
    have w12 : A * (vl + p) ≤ A * vh := Int.mul_le_mul_of_nonneg_left (by omega) A0
    have w2D : A * vh ≤ 255 * m := Int.mul_le_mul A1 v2 (by omega) (by omega)
    have D1 : 1 ≤ 255 * m := by omega
    have btw := exact_between (255 * m) (65536 * C) lo hi (lo + q) (A * vl) (A * (vl + p)) (A * vh) D1 w01 w12 w2D (by omega) (by omega)
    have L0 := lo_nonneg (255 * m) (65536 * C) lo (A * vl) (A * vh) D1 h0 (by omega) w00 (by omega) w2D
    have H0 := hi_le (255 * m) (65536 * C) hi (A * vl) (A * vh) 16711680 D1 h2 (by omega) w00 (by omega) w2D
    have LH := lo_le_hi (255 * m) (65536 * C) lo hi (A * vl) (A * vh) D1 h1 (by omega) w2D
    have D2 : 255 * m ≤ 1044480 := by omega
    obtain ⟨L, eL⟩ : ∃ L, loOf (255 * m) (65536 * C) lo (A * vl) (A * vh) = L := ⟨_, rfl⟩
    obtain ⟨H, eH⟩ : ∃ L, hiOf (255 * m) (65536 * C) hi (A * vl) (A * vh) = L := ⟨_, rfl⟩
    obtain ⟨M, eM⟩ : ∃ L, vl + p = L := ⟨_, rfl⟩
    obtain ⟨S, eS⟩ : ∃ L, lo + q = L := ⟨_, rfl⟩
    have S0 : 0 ≤ S := by omega
    have S1 : S ≤ 16711680 := by omega
    have M0 : 0 ≤ M := by omega
    have M1 : M ≤ 4096 := by omega
    rw [eL, eH, eM, eS] at btw
    rw [eM] at w01 w12
    rw [eL] at L0 LH
    rw [eH] at H0 LH
    simp only [eL, eH] at hov
    have HOV := Lib.hid hov
    clear hov eL eH
    obtain ⟨D, eD⟩ : ∃ L, 255 * m = L := ⟨_, rfl⟩
    obtain ⟨C6, eC6⟩ : ∃ L, 65536 * C = L := ⟨_, rfl⟩
    obtain ⟨Wm, eW⟩ : ∃ L, A * M = L := ⟨_, rfl⟩
    rw [eD, eC6, eW] at btw
    rw [eD] at D1 D2 w2D
    rw [eW] at w01 w12
    have Wm0 : 0 ≤ Wm := by omega
    have Wm1 : Wm ≤ D := by omega
    have C60 : 0 ≤ C6 := by omega
    have C61 : C6 ≤ 16711680 := by omega
    have b1 := Int.mul_nonneg S0 (show 0 ≤ D - Wm by omega)
    have b2 : S * (D - Wm) ≤ 16711680 * 1044480 := Int.mul_le_mul S1 (by omega) (by omega) (by omega)
    have b3 := Int.mul_nonneg C60 Wm0
    have b4 : C6 * Wm ≤ 16711680 * 1044480 := Int.mul_le_mul C61 (by omega) (by omega) (by omega)
    have b5 := Int.mul_nonneg L0 (show 0 ≤ D by omega)
    have b6 : L * D ≤ 16711680 * 1044480 := Int.mul_le_mul (by omega) D2 (by omega) (by omega)
    have b7 := Int.mul_nonneg (show 0 ≤ H by omega) (show 0 ≤ D by omega)
    have b8 : H * D ≤ 16711680 * 1044480 := Int.mul_le_mul H0 D2 (by omega) (by omega)
    unfold mixN at btw
    obtain ⟨Z1, eZ1⟩ : ∃ L, S * (D - Wm) = L := ⟨_, rfl⟩
    obtain ⟨Z2, eZ2⟩ : ∃ L, C6 * Wm = L := ⟨_, rfl⟩
    obtain ⟨Z3, eZ3⟩ : ∃ Z, L * D = Z := ⟨_, rfl⟩
    obtain ⟨Z4, eZ4⟩ : ∃ L, H * D = L := ⟨_, rfl⟩
    rw [eZ1, eZ2, eZ3, eZ4] at btw
    rw [eZ1] at b1 b2
    rw [eZ2] at b3 b4
    rw [eZ3] at b5 b6
    rw [eZ4] at b7 b8
    obtain ⟨t1, t2⟩ := btw
    have m0 : wrap64 Wm = Wm := by unfold wrap64; omega
    clear w00 w01 w12 w2D
    go_wp2_with fail
    as_aux_lemma =>
      refine (HOV.out _).mono ?_
      rintro e w2 ⟨rfl, hb⟩
      have hB2 : Below w.heap.size w w2 := Below.trans (by (repeat' (first | (with_reducible exact Below.refl _ _) | (with_reducible assumption) | (with_reducible refine below_drewN ?_ _) | (with_reducible refine Below.drew ?_) | (with_reducible refine Below.alloc ?_ ?_ _) | (with_reducible refine Below.setCell ?_ ?_ _) | omega | (simp; done) | (simp; omega)))) (hb.mono (by first | omega | (simp; done) | (simp; omega)))
      have k2_0 : Blk w2 (g) 34 #[.int .i64 lo, .int .i64 hi] := Blk.below (by (repeat' (first | (with_reducible assumption) | (with_reducible exact Blk.new _ _ _) | (exact Blk.newAt (by first | rfl | (simp; done) | omega)) | (with_reducible refine Blk.drewN ?_ _) | (with_reducible refine Blk.drew ?_) | (with_reducible refine Blk.alloc ?_ _) | (with_reducible apply Blk.set_) | (with_reducible refine Blk.far ?_ ?_ _) | rfl | omega | (simp; done) | (simp; omega)))) hb (by first | omega | (simp; done) | (simp; omega))
      have k2_1 : Blk w2 (w1.heap.size) 38 #[.int .i64 vl, .int .i64 vh] := Blk.below (by (repeat' (first | (with_reducible assumption) | (with_reducible exact Blk.new _ _ _) | (exact Blk.newAt (by first | rfl | (simp; done) | omega)) | (with_reducible refine Blk.drewN ?_ _) | (with_reducible refine Blk.drew ?_) | (with_reducible refine Blk.alloc ?_ _) | (with_reducible apply Blk.set_) | (with_reducible refine Blk.far ?_ ?_ _) | rfl | omega | (simp; done) | (simp; omega)))) hb (by first | omega | (simp; done) | (simp; omega))
      have c2_0 := k2_0.cell
      have f2_0 := k2_0.frozen
      have l2_0 := k2_0.lt
      have c2_1 := k2_1.cell
      have f2_1 := k2_1.frozen
      have l2_1 := k2_1.lt
      have l2 := hB2.size
      clear hb k1_0 c1_0 f1_0 l1_0 hB1
      go_wp2_with fail
      go_quiet (fail)
      go_wp2_with fail
      go_quiet (fail)
      go_wp2_with fail
      refine (awake24 _).mono ?_
      rintro e w6 ⟨rfl, hb⟩
      have hB6 : Below w.heap.size w w6 := Below.trans (by (repeat' (first | (with_reducible exact Below.refl _ _) | (with_reducible assumption) | (with_reducible refine below_drewN ?_ _) | (with_reducible refine Below.drew ?_) | (with_reducible refine Below.alloc ?_ ?_ _) | (with_reducible refine Below.setCell ?_ ?_ _) | omega | (simp; done) | (simp; omega)))) (hb.mono (by first | omega | (simp; done) | (simp; omega)))
      go_wp2_with fail
      go_ret
      exact ⟨rfl, hB6⟩
end Go.Proofs.Ytcpfpefbpeidpaa
