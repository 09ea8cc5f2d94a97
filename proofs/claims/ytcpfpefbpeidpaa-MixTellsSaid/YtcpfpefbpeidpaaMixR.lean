/- Walks: the reference's Over, at the arguments that may be. -/
import Derived.Test.YtcpfpefbpeidpaaMixOver
import Derived.Test.YtcpfpefbpeidpaaMixE
namespace Go.Proofs.Ytcpfpefbpeidpaa
open Go.RowKit
set_option linter.unusedVariables false

/-- The least and the greatest of the first k of four numbers. -/
def St (n0 n1 n2 n3 k L H : Int) : Prop := (k = 0 ∧ L = 4611686018427387904 ∧ H = -1) ∨ (k = 1 ∧ L = n0 ∧ H = n0) ∨ (k = 2 ∧ L = min n0 n1 ∧ H = max n0 n1) ∨ (k = 3 ∧ L = min (min n0 n1) n2 ∧ H = max (max n0 n1) n2) ∨ (k = 4 ∧ L = min (min (min n0 n1) n2) n3 ∧ H = max (max (max n0 n1) n2) n3)
theorem leafR {w w2 : World} {X Y D m M : Int} (tm : Array Value) (h10 : tm.getD 10 undef = .pointer (some ⟨w.heap.size + 1 + 1, 0, none⟩)) (h11 : tm.getD 11 undef = .bool true)
    (c : ∀ i, w2.cell? ⟨w.heap.size + 1 + 1, i, none⟩ = (#[.int .i64 0, .int .i64 0] : Array Value)[i]?) (hB : Below w.heap.size w w2) (hx : X = m) (hy : Y = M) :
    bodyPost Try.prog Try.f17 (OverIs m M D w) Exit.ret { tmps := tm, defers := [] }
      ((w2.setCell ⟨w.heap.size + 1 + 1, 0, none⟩ (.int .i64 (X / D))).setCell ⟨w.heap.size + 1 + 1, 1, none⟩ (.int .i64 ((Y + D - 1) / D))).drew := by
  refine bodyPost_ret (v := .tuple #[.agg #[.int .i64 (X / D), .int .i64 ((Y + D - 1) / D)], .bool true]) ?_ rfl (overIs_mk hx hy ?_)
  · have g10 : tm[10]?.getD undef = .pointer (some ⟨w.heap.size + 1 + 1, 0, none⟩) := by simpa using h10
    have g11 : tm[11]?.getD undef = .bool true := by simpa using h11
    simp [results, Try.results17, go_sem, c, g10, g11]
  · (repeat' (first | (with_reducible exact Below.refl _ _) | (with_reducible assumption) | (with_reducible refine below_drewN ?_ _) | (with_reducible refine Below.drew ?_) | (with_reducible refine Below.alloc ?_ ?_ _) | (with_reducible refine Below.setCell ?_ ?_ _) | omega | (simp; done) | (simp; omega)))

set_option maxRecDepth 100000 in
set_option maxHeartbeats 4000000 in
theorem overR_core (tl th c al vl vh n D C6 W0 W1 A1 A2 A3 A4 B0 B1 : Int) (t0 : 0 ≤ tl) (t1 : tl ≤ th) (t2 : th ≤ 16711680) (c0 : 0 ≤ c) (c1 : c ≤ 255) (a0 : 0 ≤ al) (a1 : al ≤ 255) (n0 : 1 ≤ n) (n1 : n ≤ 4096)
    (v0 : 0 ≤ vl) (v1 : vl ≤ vh) (v2 : vh ≤ n) (eD : 255 * n = D) (eC : 65536 * c = C6) (eW0 : al * vl = W0) (eW1 : al * vh = W1) (e1 : tl * (D - W0) = A1) (e2 : th * (D - W0) = A2) (e3 : tl * (D - W1) = A3) (e4 : th * (D - W1) = A4)
    (e5 : C6 * W0 = B0) (e6 : C6 * W1 = B1) (b0 : 0 ≤ W0) (b1 : W0 ≤ W1) (b2 : W1 ≤ D) (f1 : 0 ≤ A1) (f2 : A1 ≤ 17592186044416) (f3 : 0 ≤ A2) (f4 : A2 ≤ 17592186044416) (f5 : 0 ≤ A3) (f6 : A3 ≤ 17592186044416) (f7 : 0 ≤ A4) (f8 : A4 ≤ 17592186044416)
    (o1 : A1 ≤ A2) (o2 : A3 ≤ A4) (g0 : 0 ≤ B0) (g1 : B0 ≤ 17592186044416) (g2 : 0 ≤ B1) (g3 : B1 ≤ 17592186044416) (w : World) :
    Calls Try.prog 17 #[.agg #[.int .i64 tl, .int .i64 th], .int .i64 c, .int .i64 al, .agg #[.int .i64 vl, .int .i64 vh], .int .i64 n] w (OverIs (min (A1 + B0) (A3 + B1)) (max (A2 + B0) (A4 + B1)) D w) := by
  have D0 : 1 ≤ D := by omega
  have D1 : D ≤ 1044480 := by omega
  have b01 : bits .and .i64 0 1 = 0 := by kernel_rfl
  have b11 : bits .and .i64 1 1 = 1 := by kernel_rfl
  have b21 : bits .and .i64 2 1 = 0 := by kernel_rfl
  have b31 : bits .and .i64 3 1 = 1 := by kernel_rfl
  have b02 : bits .and .i64 0 2 = 0 := by kernel_rfl
  have b12 : bits .and .i64 1 2 = 0 := by kernel_rfl
  have b22 : bits .and .i64 2 2 = 2 := by kernel_rfl
  have b32 : bits .and .i64 3 2 = 2 := by kernel_rfl
  have m1 := covmayR vl vh n
  rw [decide_eq_true (show CovMay vl vh n from ⟨n0, n1, v0, v1, v2⟩)] at m1
  have m2 := tonemayR tl th
  rw [decide_eq_true (show ToneMay tl th from ⟨t0, t1, t2⟩)] at m2
  have M1 := Lib.hid m1
  have M2 := Lib.hid m2
  clear m1 m2
  go_enter Try.func17, Try.ntmps17
  go_wp2_with fail
  refine (M1.out _).mono ?_
  rintro e w1 ⟨rfl, hb⟩
  have hB1 : Below w.heap.size w w1 := Below.trans (by (repeat' (first | (with_reducible exact Below.refl _ _) | (with_reducible assumption) | (with_reducible refine below_drewN ?_ _) | (with_reducible refine Below.drew ?_) | (with_reducible refine Below.alloc ?_ ?_ _) | (with_reducible refine Below.setCell ?_ ?_ _) | omega | (simp; done) | (simp; omega)))) (hb.mono (by first | omega | (simp; done) | (simp; omega)))
  have k1_0 : Blk w1 (w.heap.size) 34 #[.int .i64 tl, .int .i64 th] := Blk.below (by (repeat' (first | (with_reducible assumption) | (with_reducible exact Blk.new _ _ _) | (exact Blk.newAt (by first | rfl | (simp; done) | omega)) | (with_reducible refine Blk.drewN ?_ _) | (with_reducible refine Blk.drew ?_) | (with_reducible refine Blk.alloc ?_ _) | (with_reducible apply Blk.set_) | (with_reducible refine Blk.far ?_ ?_ _) | rfl | omega | (simp; done) | (simp; omega)))) hb (by first | omega | (simp; done) | (simp; omega))
  have k1_1 : Blk w1 (w.heap.size + 1) 38 #[.int .i64 vl, .int .i64 vh] := Blk.below (by (repeat' (first | (with_reducible assumption) | (with_reducible exact Blk.new _ _ _) | (exact Blk.newAt (by first | rfl | (simp; done) | omega)) | (with_reducible refine Blk.drewN ?_ _) | (with_reducible refine Blk.drew ?_) | (with_reducible refine Blk.alloc ?_ _) | (with_reducible apply Blk.set_) | (with_reducible refine Blk.far ?_ ?_ _) | rfl | omega | (simp; done) | (simp; omega)))) hb (by first | omega | (simp; done) | (simp; omega))
  have k1_2 : Blk w1 (w.heap.size + 1 + 1) 34 #[.int .i64 0, .int .i64 0] := Blk.below (by (repeat' (first | (with_reducible assumption) | (with_reducible exact Blk.new _ _ _) | (exact Blk.newAt (by first | rfl | (simp; done) | omega)) | (with_reducible refine Blk.drewN ?_ _) | (with_reducible refine Blk.drew ?_) | (with_reducible refine Blk.alloc ?_ _) | (with_reducible apply Blk.set_) | (with_reducible refine Blk.far ?_ ?_ _) | rfl | omega | (simp; done) | (simp; omega)))) hb (by first | omega | (simp; done) | (simp; omega))
  have c1_0 := k1_0.cell
  have f1_0 := k1_0.frozen
  have l1_0 := k1_0.lt
  have c1_1 := k1_1.cell
  have f1_1 := k1_1.frozen
  have l1_1 := k1_1.lt
  have c1_2 := k1_2.cell
  have f1_2 := k1_2.frozen
  have l1_2 := k1_2.lt
  have l1 := hB1.size
  clear hb
  go_wp2_with fail
  as_aux_lemma =>
    refine (M2.out _).mono ?_
    rintro e w2 ⟨rfl, hb⟩
    have hB2 : Below w.heap.size w w2 := Below.trans (by (repeat' (first | (with_reducible exact Below.refl _ _) | (with_reducible assumption) | (with_reducible refine below_drewN ?_ _) | (with_reducible refine Below.drew ?_) | (with_reducible refine Below.alloc ?_ ?_ _) | (with_reducible refine Below.setCell ?_ ?_ _) | omega | (simp; done) | (simp; omega)))) (hb.mono (by first | omega | (simp; done) | (simp; omega)))
    have k2_0 : Blk w2 (w.heap.size) 34 #[.int .i64 tl, .int .i64 th] := Blk.below (by (repeat' (first | (with_reducible assumption) | (with_reducible exact Blk.new _ _ _) | (exact Blk.newAt (by first | rfl | (simp; done) | omega)) | (with_reducible refine Blk.drewN ?_ _) | (with_reducible refine Blk.drew ?_) | (with_reducible refine Blk.alloc ?_ _) | (with_reducible apply Blk.set_) | (with_reducible refine Blk.far ?_ ?_ _) | rfl | omega | (simp; done) | (simp; omega)))) hb (by first | omega | (simp; done) | (simp; omega))
    have k2_1 : Blk w2 (w.heap.size + 1) 38 #[.int .i64 vl, .int .i64 vh] := Blk.below (by (repeat' (first | (with_reducible assumption) | (with_reducible exact Blk.new _ _ _) | (exact Blk.newAt (by first | rfl | (simp; done) | omega)) | (with_reducible refine Blk.drewN ?_ _) | (with_reducible refine Blk.drew ?_) | (with_reducible refine Blk.alloc ?_ _) | (with_reducible apply Blk.set_) | (with_reducible refine Blk.far ?_ ?_ _) | rfl | omega | (simp; done) | (simp; omega)))) hb (by first | omega | (simp; done) | (simp; omega))
    have k2_2 : Blk w2 (w.heap.size + 1 + 1) 34 #[.int .i64 0, .int .i64 0] := Blk.below (by (repeat' (first | (with_reducible assumption) | (with_reducible exact Blk.new _ _ _) | (exact Blk.newAt (by first | rfl | (simp; done) | omega)) | (with_reducible refine Blk.drewN ?_ _) | (with_reducible refine Blk.drew ?_) | (with_reducible refine Blk.alloc ?_ _) | (with_reducible apply Blk.set_) | (with_reducible refine Blk.far ?_ ?_ _) | rfl | omega | (simp; done) | (simp; omega)))) hb (by first | omega | (simp; done) | (simp; omega))
    have c2_0 := k2_0.cell
    have f2_0 := k2_0.frozen
    have l2_0 := k2_0.lt
    have c2_1 := k2_1.cell
    have f2_1 := k2_1.frozen
    have l2_1 := k2_1.lt
    have c2_2 := k2_2.cell
    have f2_2 := k2_2.frozen
    have l2_2 := k2_2.lt
    have l2 := hB2.size
    clear hb k1_0 c1_0 f1_0 l1_0 k1_1 c1_1 f1_1 l1_1 k1_2 c1_2 f1_2 l1_2 hB1 l1
    go_wp2_with fail
    go_loopw [13, 14, 15] (fun lo hi i wr => ∃ (k L H : Int), i = .int .i64 k ∧ lo = .int .i64 L ∧ hi = .int .i64 H ∧ St (A1 + B0) (A3 + B1) (A2 + B0) (A4 + B1) k L H ∧ Blk wr (w.heap.size) 34 #[.int .i64 tl, .int .i64 th] ∧ Blk wr (w.heap.size + 1) 38 #[.int .i64 vl, .int .i64 vh] ∧ Blk wr (w.heap.size + 1 + 1) 34 #[.int .i64 0, .int .i64 0] ∧ Below w.heap.size w wr) (fun _ _ i _ => 4 - (intOf i).toNat)
    case atStart => exact ⟨0, 4611686018427387904, -1, rfl, rfl, rfl, Or.inl ⟨rfl, rfl, rfl⟩, k2_0, k2_1, k2_2, hB2⟩
    case round =>
    obtain ⟨k, L, H, rfl, rfl, rfl, hs, q0, q1, q2, hq⟩ := hrel
    clear k2_0 c2_0 f2_0 l2_0 k2_1 c2_1 f2_1 l2_1 k2_2 c2_2 f2_2 l2_2 hB2 l2
    have c0 := q0.cell
    have c1 := q1.cell
    have c2 := q2.cell
    have f2 := q2.frozen
    have l2 := q2.lt
    unfold St at hs
    rcases hs with hs | hs | hs | hs | hs
    · obtain ⟨rfl, hL, hH⟩ := hs
      subst hL hH
      as_aux_lemma =>
        go_wp2_with fail
        go_quiet (fail)
        go_wp2_with fail
        all_goals
          go_roundw
          case rel =>
            refine ⟨1, _, _, rfl, rfl, rfl, ?_, ?_, ?_, ?_, ?_⟩
            · 
              unfold St; omega
            · (repeat' (first | (with_reducible assumption) | (with_reducible exact Blk.new _ _ _) | (exact Blk.newAt (by first | rfl | (simp; done) | omega)) | (with_reducible refine Blk.drewN ?_ _) | (with_reducible refine Blk.drew ?_) | (with_reducible refine Blk.alloc ?_ _) | (with_reducible apply Blk.set_) | (with_reducible refine Blk.far ?_ ?_ _) | rfl | omega | (simp; done) | (simp; omega)))
            · (repeat' (first | (with_reducible assumption) | (with_reducible exact Blk.new _ _ _) | (exact Blk.newAt (by first | rfl | (simp; done) | omega)) | (with_reducible refine Blk.drewN ?_ _) | (with_reducible refine Blk.drew ?_) | (with_reducible refine Blk.alloc ?_ _) | (with_reducible apply Blk.set_) | (with_reducible refine Blk.far ?_ ?_ _) | rfl | omega | (simp; done) | (simp; omega)))
            · (repeat' (first | (with_reducible assumption) | (with_reducible exact Blk.new _ _ _) | (exact Blk.newAt (by first | rfl | (simp; done) | omega)) | (with_reducible refine Blk.drewN ?_ _) | (with_reducible refine Blk.drew ?_) | (with_reducible refine Blk.alloc ?_ _) | (with_reducible apply Blk.set_) | (with_reducible refine Blk.far ?_ ?_ _) | rfl | omega | (simp; done) | (simp; omega)))
            · (repeat' (first | (with_reducible exact Below.refl _ _) | (with_reducible assumption) | (with_reducible refine below_drewN ?_ _) | (with_reducible refine Below.drew ?_) | (with_reducible refine Below.alloc ?_ ?_ _) | (with_reducible refine Below.setCell ?_ ?_ _) | omega | (simp; done) | (simp; omega)))
          case measure => simp [intOf]
    · obtain ⟨rfl, hL, hH⟩ := hs
      have L0 : 0 ≤ L := by omega
      have L1 : L ≤ 35184372088832 := by omega
      have H0 : 0 ≤ H := by omega
      have H1 : H ≤ 35184372088832 := by omega
      have S1 := Lib.hid hL
      have S2 := Lib.hid hH
      clear hL hH
      as_aux_lemma =>
        go_wp2_with fail
        go_quiet (fail)
        go_wp2_with fail
        all_goals
          go_roundw
          case rel =>
            refine ⟨2, _, _, rfl, rfl, rfl, ?_, ?_, ?_, ?_, ?_⟩
            · have S3 := S1.out; have S4 := S2.out
              unfold St; omega
            · (repeat' (first | (with_reducible assumption) | (with_reducible exact Blk.new _ _ _) | (exact Blk.newAt (by first | rfl | (simp; done) | omega)) | (with_reducible refine Blk.drewN ?_ _) | (with_reducible refine Blk.drew ?_) | (with_reducible refine Blk.alloc ?_ _) | (with_reducible apply Blk.set_) | (with_reducible refine Blk.far ?_ ?_ _) | rfl | omega | (simp; done) | (simp; omega)))
            · (repeat' (first | (with_reducible assumption) | (with_reducible exact Blk.new _ _ _) | (exact Blk.newAt (by first | rfl | (simp; done) | omega)) | (with_reducible refine Blk.drewN ?_ _) | (with_reducible refine Blk.drew ?_) | (with_reducible refine Blk.alloc ?_ _) | (with_reducible apply Blk.set_) | (with_reducible refine Blk.far ?_ ?_ _) | rfl | omega | (simp; done) | (simp; omega)))
            · (repeat' (first | (with_reducible assumption) | (with_reducible exact Blk.new _ _ _) | (exact Blk.newAt (by first | rfl | (simp; done) | omega)) | (with_reducible refine Blk.drewN ?_ _) | (with_reducible refine Blk.drew ?_) | (with_reducible refine Blk.alloc ?_ _) | (with_reducible apply Blk.set_) | (with_reducible refine Blk.far ?_ ?_ _) | rfl | omega | (simp; done) | (simp; omega)))
            · (repeat' (first | (with_reducible exact Below.refl _ _) | (with_reducible assumption) | (with_reducible refine below_drewN ?_ _) | (with_reducible refine Below.drew ?_) | (with_reducible refine Below.alloc ?_ ?_ _) | (with_reducible refine Below.setCell ?_ ?_ _) | omega | (simp; done) | (simp; omega)))
          case measure => simp [intOf]
    · obtain ⟨rfl, hL, hH⟩ := hs
      have L0 : 0 ≤ L := by omega
      have L1 : L ≤ 35184372088832 := by omega
      have H0 : 0 ≤ H := by omega
      have H1 : H ≤ 35184372088832 := by omega
      have S1 := Lib.hid hL
      have S2 := Lib.hid hH
      clear hL hH
      as_aux_lemma =>
        go_wp2_with fail
        go_quiet (fail)
        go_wp2_with fail
        all_goals
          go_roundw
          case rel =>
            refine ⟨3, _, _, rfl, rfl, rfl, ?_, ?_, ?_, ?_, ?_⟩
            · have S3 := S1.out; have S4 := S2.out
              unfold St; omega
            · (repeat' (first | (with_reducible assumption) | (with_reducible exact Blk.new _ _ _) | (exact Blk.newAt (by first | rfl | (simp; done) | omega)) | (with_reducible refine Blk.drewN ?_ _) | (with_reducible refine Blk.drew ?_) | (with_reducible refine Blk.alloc ?_ _) | (with_reducible apply Blk.set_) | (with_reducible refine Blk.far ?_ ?_ _) | rfl | omega | (simp; done) | (simp; omega)))
            · (repeat' (first | (with_reducible assumption) | (with_reducible exact Blk.new _ _ _) | (exact Blk.newAt (by first | rfl | (simp; done) | omega)) | (with_reducible refine Blk.drewN ?_ _) | (with_reducible refine Blk.drew ?_) | (with_reducible refine Blk.alloc ?_ _) | (with_reducible apply Blk.set_) | (with_reducible refine Blk.far ?_ ?_ _) | rfl | omega | (simp; done) | (simp; omega)))
            · (repeat' (first | (with_reducible assumption) | (with_reducible exact Blk.new _ _ _) | (exact Blk.newAt (by first | rfl | (simp; done) | omega)) | (with_reducible refine Blk.drewN ?_ _) | (with_reducible refine Blk.drew ?_) | (with_reducible refine Blk.alloc ?_ _) | (with_reducible apply Blk.set_) | (with_reducible refine Blk.far ?_ ?_ _) | rfl | omega | (simp; done) | (simp; omega)))
            · (repeat' (first | (with_reducible exact Below.refl _ _) | (with_reducible assumption) | (with_reducible refine below_drewN ?_ _) | (with_reducible refine Below.drew ?_) | (with_reducible refine Below.alloc ?_ ?_ _) | (with_reducible refine Below.setCell ?_ ?_ _) | omega | (simp; done) | (simp; omega)))
          case measure => simp [intOf]
    · obtain ⟨rfl, hL, hH⟩ := hs
      have L0 : 0 ≤ L := by omega
      have L1 : L ≤ 35184372088832 := by omega
      have H0 : 0 ≤ H := by omega
      have H1 : H ≤ 35184372088832 := by omega
      have S1 := Lib.hid hL
      have S2 := Lib.hid hH
      clear hL hH
      as_aux_lemma =>
        go_wp2_with fail
        go_quiet (fail)
        go_wp2_with fail
        all_goals
          go_roundw
          case rel =>
            refine ⟨4, _, _, rfl, rfl, rfl, ?_, ?_, ?_, ?_, ?_⟩
            · have S3 := S1.out; have S4 := S2.out
              unfold St; omega
            · (repeat' (first | (with_reducible assumption) | (with_reducible exact Blk.new _ _ _) | (exact Blk.newAt (by first | rfl | (simp; done) | omega)) | (with_reducible refine Blk.drewN ?_ _) | (with_reducible refine Blk.drew ?_) | (with_reducible refine Blk.alloc ?_ _) | (with_reducible apply Blk.set_) | (with_reducible refine Blk.far ?_ ?_ _) | rfl | omega | (simp; done) | (simp; omega)))
            · (repeat' (first | (with_reducible assumption) | (with_reducible exact Blk.new _ _ _) | (exact Blk.newAt (by first | rfl | (simp; done) | omega)) | (with_reducible refine Blk.drewN ?_ _) | (with_reducible refine Blk.drew ?_) | (with_reducible refine Blk.alloc ?_ _) | (with_reducible apply Blk.set_) | (with_reducible refine Blk.far ?_ ?_ _) | rfl | omega | (simp; done) | (simp; omega)))
            · (repeat' (first | (with_reducible assumption) | (with_reducible exact Blk.new _ _ _) | (exact Blk.newAt (by first | rfl | (simp; done) | omega)) | (with_reducible refine Blk.drewN ?_ _) | (with_reducible refine Blk.drew ?_) | (with_reducible refine Blk.alloc ?_ _) | (with_reducible apply Blk.set_) | (with_reducible refine Blk.far ?_ ?_ _) | rfl | omega | (simp; done) | (simp; omega)))
            · (repeat' (first | (with_reducible exact Below.refl _ _) | (with_reducible assumption) | (with_reducible refine below_drewN ?_ _) | (with_reducible refine Below.drew ?_) | (with_reducible refine Below.alloc ?_ ?_ _) | (with_reducible refine Below.setCell ?_ ?_ _) | omega | (simp; done) | (simp; omega)))
          case measure => simp [intOf]
    · obtain ⟨rfl, hL, hH⟩ := hs
      have hL' : L = min (A1 + B0) (A3 + B1) := by omega
      have hH' : H = max (A2 + B0) (A4 + B1) := by omega
      have L0 : 0 ≤ L := by omega
      have L1 : L ≤ 35184372088832 := by omega
      have H0 : 0 ≤ H := by omega
      have H1 : H ≤ 35184372088832 := by omega
      have S1 := Lib.hid hL'
      have S2 := Lib.hid hH'
      clear hL hH hL' hH'
      as_aux_lemma =>
        go_wp2_with fail
        go_region
        all_goals
          go_wp2
          exact leafR _ rfl rfl c2 hq S1.out S2.out
end Go.Proofs.Ytcpfpefbpeidpaa
