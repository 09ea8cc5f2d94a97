/- Walk: no image of a board of one layer, where its cover is a fault. -/
import Derived.Test.YtfajckkbinbpiaaGreatDoorJ27
namespace Go.Proofs.YtfajckkbinbpiaaGreatDoor
open Go.RowKit
set_option linter.unusedVariables false
set_option linter.unusedSimpArgs false

set_option maxRecDepth 100000 in
set_option maxHeartbeats 64000000 in
theorem brender_err (X Y P k : Int) (W H n : Nat) (g : Nat) (k0 k1 k2 ob st : Int) (cr cg cb al : Int) (T : ByteArray) (f0 f1 f2 f3 : Int) (hf3 : f3 ≠ 0) (w : World) (hv : VOk X Y P W H n k) (q0 : IsB k0) (q1 : IsB k1) (q2 : IsB k2) (q3 : IsB cr) (q4 : IsB cg) (q5 : IsB cb) (q6 : IsB al) (hL : Blk w g 34 #[.string T, .int .i64 cr, .int .i64 cg, .int .i64 cb, .int .i64 al, .bool false])
    (hC : ∀ w M, Blk w g 34 #[.string T, .int .i64 cr, .int .i64 cg, .int .i64 cb, .int .i64 al, .bool false] → Blk w M 133 #[.int .i64 (max 0 (min st 100000000)), .int .i64 0] → Calls Tryz.prog 31 #[.agg #[.int .i64 X, .int .i64 Y, .int .i64 P, .int .i64 (W : Int), .int .i64 (H : Int), .int .i64 (n : Int), .slice (some ⟨g, 0, none⟩) 1 1, .slice none 0 0, .int .i64 k0, .int .i64 k1, .int .i64 k2, .int .i64 ob, .int .i64 st], .int .i64 0, .slice none 0 0, .pointer (some ⟨M, 0, none⟩)] w fun e w' => e = .returned (.tuple #[.slice none 0 0, .agg #[.int .i64 f0, .int .i64 f1, .int .i64 f2, .int .i64 f3]]) ∧ Only [M] w w') :
    Calls Tryz.prog 9 #[.agg #[.int .i64 X, .int .i64 Y, .int .i64 P, .int .i64 (W : Int), .int .i64 (H : Int), .int .i64 (n : Int), .slice (some ⟨g, 0, none⟩) 1 1, .slice none 0 0, .int .i64 k0, .int .i64 k1, .int .i64 k2, .int .i64 ob, .int .i64 st]] w fun e w' => e = .returned (.tuple #[.agg #[.int .i64 0, .int .i64 0, .bool false, .slice none 0 0], .agg #[.int .i64 f0, .int .i64 f1, .int .i64 f2, .int .i64 f3]]) ∧ Below w.heap.size w w' := by
  have lG := hL.lt
  have hW : W ≤ 256 := by have := hv.w1; omega
  have hH : H ≤ 256 := by have := hv.h1; omega
  have hn3 : n ≤ 3 := by rcases hv.d with h | h | h | h <;> omega
  obtain ⟨N, eN⟩ : ∃ N, W * H = N := ⟨_, rfl⟩
  have hN : N ≤ 65536 := by rw [← eN]; exact Nat.mul_le_mul hW hH
  have hN1 : 1 ≤ N := by
    rw [← eN]
    have := hv.w0
    have := hv.h0
    exact Nat.mul_pos (show 0 < W by omega) (show 0 < H by omega)
  have sN : IntKind.i64.wrap ((W : Int) * (H : Int)) = ((N : Nat) : Int) := by
    rw [← eN, Int.natCast_mul]
    exact IntWalk.i64_in _ (by rw [← Int.natCast_mul, eN]; omega)
  have s3N : IntKind.i64.wrap (3 * (W : Int) * (H : Int)) = ((N * 3 : Nat) : Int) := by
    have e : 3 * (W : Int) * (H : Int) = ((N * 3 : Nat) : Int) := by rw [← eN, Int.mul_assoc]; push_cast; rw [Int.mul_comm]
    rw [e]
    exact IntWalk.i64_in _ (by omega)
  
  obtain ⟨C, eC⟩ : ∃ C, 4 ^ n = C := ⟨_, rfl⟩
  have hC1 : 1 ≤ C ∧ C ≤ 4096 := by
    rcases (show n = 0 ∨ n = 1 ∨ n = 2 ∨ n = 3 by omega) with rfl | rfl | rfl | rfl <;> simp at eC <;> omega
  have hcell := fun w => cells_g X Y P k W H n w hv
  rw [eC] at hcell
  have n1 := fun w h => valid_g X Y P k W H n g k0 k1 k2 ob st cr cg cb al T w hv q0 q1 q2 q3 q4 q5 q6 h
  have n2 := fun w => drilled_g X Y P k W H n g k0 k1 k2 ob st w
  have C1 := Lib.hid n1
  have C2 := Lib.hid n2
  have C3 := Lib.hid hcell
  have C4 := Lib.hid hC
  obtain ⟨bT, ebT⟩ : ∃ f, basT k0 k1 k2 = f := ⟨_, rfl⟩
  have hst : ∀ m w, Calls Tryz.prog 28 #[.int .i64 (kk k0 k1 k2 (m % 3))] w fun e w' => e = .returned (.agg #[.int .i64 (bT m).1, .int .i64 (bT m).2]) ∧ Below w.heap.size w w' := by
    intro m w
    have h := Mx.start (kk k0 k1 k2 (m % 3)) w
    have hb := kk_byte q0 q1 q2 (m % 3)
    rw [Mx.clamp_in _ hb.1 hb.2] at h
    rw [← ebT]
    exact h
  have hbT : ∀ m, 0 ≤ (bT m).1 ∧ (bT m).1 ≤ (bT m).2 ∧ (bT m).2 ≤ 16711680 := by
    intro m
    have hb := kk_byte q0 q1 q2 (m % 3)
    unfold IsB at hb
    rw [← ebT]
    simp only [basT]
    omega
  have C5 := Lib.hid hst
  have KI := Lib.hid (fun j hj w => kk_idx k0 k1 k2 j hj w)
  have HCB := Lib.hid hC1
  clear n1 n2 hcell hC hst hbT hC1 ebT eC q0 q1 q2 q3 q4 q5 q6 hv hn3
  obtain ⟨u, eu⟩ : ∃ u, ((w.alloc (.cells #[.int .i64 X, .int .i64 Y, .int .i64 P, .int .i64 (W : Int), .int .i64 (H : Int), .int .i64 (n : Int), .slice (some ⟨g, 0, none⟩) 1 1, .slice none 0 0, .int .i64 k0, .int .i64 k1, .int .i64 k2, .int .i64 ob, .int .i64 st] 31)).alloc (.cells #[.int .i64 0, .int .i64 0, .bool false, .slice none 0 0] 37)).alloc (.cells #[.int .i64 0, .int .i64 0, .int .i64 0, .int .i64 0] 40) = u := ⟨_, rfl⟩
  have om : Below w.heap.size w u := by rw [← eu]; (repeat' (first | (with_reducible exact Below.refl _ _) | (with_reducible assumption) | (with_reducible refine below_drewN ?_ _) | (with_reducible refine Below.drew ?_) | (with_reducible refine Below.alloc ?_ ?_ _) | (with_reducible refine Below.setCell ?_ ?_ _) | omega | (simp; done) | (simp; omega)))
  have kj : Blk u w.heap.size 31 #[.int .i64 X, .int .i64 Y, .int .i64 P, .int .i64 (W : Int), .int .i64 (H : Int), .int .i64 (n : Int), .slice (some ⟨g, 0, none⟩) 1 1, .slice none 0 0, .int .i64 k0, .int .i64 k1, .int .i64 k2, .int .i64 ob, .int .i64 st] := by rw [← eu]; (repeat' (first | (with_reducible assumption) | (with_reducible exact Blk.new _ _ _) | (exact Blk.newAt (by first | rfl | (simp; done) | omega)) | (with_reducible refine Blk.drewN ?_ _) | (with_reducible refine Blk.drew ?_) | (with_reducible refine Blk.alloc ?_ _) | (with_reducible apply Blk.set_) | (with_reducible refine Blk.far ?_ ?_ _) | rfl | omega | (simp; done) | (simp; omega)))
  have ki : Blk u (w.heap.size + 1) 37 #[.int .i64 0, .int .i64 0, .bool false, .slice none 0 0] := by rw [← eu]; (repeat' (first | (with_reducible assumption) | (with_reducible exact Blk.new _ _ _) | (exact Blk.newAt (by first | rfl | (simp; done) | omega)) | (with_reducible refine Blk.drewN ?_ _) | (with_reducible refine Blk.drew ?_) | (with_reducible refine Blk.alloc ?_ _) | (with_reducible apply Blk.set_) | (with_reducible refine Blk.far ?_ ?_ _) | rfl | omega | (simp; done) | (simp; omega)))
  have kf : Blk u (w.heap.size + 1 + 1) 40 #[.int .i64 0, .int .i64 0, .int .i64 0, .int .i64 0] := by rw [← eu]; (repeat' (first | (with_reducible assumption) | (with_reducible exact Blk.new _ _ _) | (exact Blk.newAt (by first | rfl | (simp; done) | omega)) | (with_reducible refine Blk.drewN ?_ _) | (with_reducible refine Blk.drew ?_) | (with_reducible refine Blk.alloc ?_ _) | (with_reducible apply Blk.set_) | (with_reducible refine Blk.far ?_ ?_ _) | rfl | omega | (simp; done) | (simp; omega)))
  have kl : Blk u g 34 #[.string T, .int .i64 cr, .int .i64 cg, .int .i64 cb, .int .i64 al, .bool false] := hL.below om lG
  have KK0 := Lib.hid (And.intro ki (And.intro kf kl))
  have OM0 := Lib.hid om
  have EU := Lib.hid eu
  obtain ⟨iT, hiT, hz0, hz1, hz2⟩ := info_parts infoTone
  have HI := Lib.hid (And.intro hiT (And.intro hz0 (And.intro hz1 hz2)))
  have hZ : Hid ((Value.agg #[.int .i64 0, .int .i64 0]).cells.size = 2) := Lib.hid (by kernel_rfl)
  obtain ⟨i5, hi5, hy0, hy1, hy2⟩ := info_parts infoU8g
  have HI5 := Lib.hid (And.intro hi5 (And.intro hy0 (And.intro hy1 hy2)))
  have hzN : iT.bytes * (N * 3) ≤ 281474976710656 := by rw [hz2]; omega
  have HZN := Lib.hid hzN
  have hzN5 : i5.bytes * (N * 3) ≤ 281474976710656 := by rw [hy2]; omega
  have HZN5 := Lib.hid hzN5
  have KJ := Lib.hid kj
  clear hL eu hiT hz0 hz1 hz2 hi5 hy0 hy1 hy2 om kj ki kf kl hzN hzN5 lG
  go_enter Tryz.func9, Tryz.ntmps9
  go_wp2_with fail
  rw [EU.out]
  refine (C1.out u KK0.out.2.2).mono ?_
  rintro e z1 ⟨rfl, hb⟩
  have KJ1 := Lib.hid (KJ.out.below hb KJ.out.lt)
  have KK1 := Lib.hid (And.intro (KK0.out.1.below hb KK0.out.1.lt) (And.intro (KK0.out.2.1.below hb KK0.out.2.1.lt) (KK0.out.2.2.below hb KK0.out.2.2.lt)))
  have OM1 := Lib.hid (OM0.out.trans (hb.mono OM0.out.size))
  have cj := KJ1.out.cell
  have lj := KJ1.out.lt
  clear hb
  go_wp2_with fail
  refine (C2.out z1).mono ?_
  rintro e z2 ⟨rfl, hb⟩
  have KJ2 := Lib.hid (KJ1.out.below hb KJ1.out.lt)
  have KK2 := Lib.hid (And.intro (KK1.out.1.below hb KK1.out.1.lt) (And.intro (KK1.out.2.1.below hb KK1.out.2.1.lt) (KK1.out.2.2.below hb KK1.out.2.2.lt)))
  have OM2 := Lib.hid (OM1.out.trans (hb.mono OM1.out.size))
  clear hb cj lj
  have cj := KJ2.out.cell
  have lj := KJ2.out.lt
  have sz2 := OM2.out.size
  clear KJ KJ1 KK0 KK1 OM0 OM1 EU C1 C2
  go_wp2_with (at_make; refine wpList_make_own _ rfl _ _ 85 rfl w.heap.size 87 iT (.agg #[.int .i64 0, .int .i64 0]) 2 Tryz.underlying85 HI.out.1 HI.out.2.1 HI.out.2.2.1 .i64 .i64 _ (N * 3) rfl rfl rfl HZN.out (by unfold maxLen; omega) (by first | exact sz2 | (simp; omega)) ?_)
  intro w4 hown hgrow
  have I4 : BIn w g #[.int .i64 X, .int .i64 Y, .int .i64 P, .int .i64 (W : Int), .int .i64 (H : Int), .int .i64 (n : Int), .slice (some ⟨g, 0, none⟩) 1 1, .slice none 0 0, .int .i64 k0, .int .i64 k1, .int .i64 k2, .int .i64 ob, .int .i64 st] #[.string T, .int .i64 cr, .int .i64 cg, .int .i64 cb, .int .i64 al, .bool false] (0 * 3) (basL bT (0 * 3)) (z2.heap.size + 1) (N * 3) w4 := by
    rw [Nat.zero_mul]
    exact ⟨(KJ2.out.alloc _).grown hgrow (by intro e; cases e), (KK2.out.1.alloc _).grown hgrow (by intro e; cases e), (KK2.out.2.1.alloc _).grown hgrow (by intro e; cases e), (KK2.out.2.2.alloc _).grown hgrow (by intro e; cases e), (by simpa [basL, covC2] using hown), (OM2.out.alloc sz2 _).grown hgrow (by simp; omega) (by intro b hb; cases hb)⟩
  have II := Lib.hid I4
  clear cj lj I4 hown hgrow KJ2 KK2 OM2
  have cj := II.out.kj.cell
  have lj := II.out.kj.lt
  go_wp2_with fail
  clear cj lj
  go_loopw [6, 53] (fun tv i wr => ∃ x : Nat, i = .int .i64 (x : Int) ∧ x ≤ N ∧ ∃ gt ct, tv = .slice (some ⟨gt, 0, none⟩) (x * 3) ct ∧ BIn w g #[.int .i64 X, .int .i64 Y, .int .i64 P, .int .i64 (W : Int), .int .i64 (H : Int), .int .i64 (n : Int), .slice (some ⟨g, 0, none⟩) 1 1, .slice none 0 0, .int .i64 k0, .int .i64 k1, .int .i64 k2, .int .i64 ob, .int .i64 st] #[.string T, .int .i64 cr, .int .i64 cg, .int .i64 cb, .int .i64 al, .bool false] (x * 3) (basL bT (x * 3)) gt ct wr) (fun tv i wr => N - (intOf i).toNat)
  case atStart => exact ⟨0, rfl, Nat.zero_le _, _, _, rfl, II.out⟩
  case round =>
  clear II
  obtain ⟨x, rfl, hx, gt, ct, rfl, hI⟩ := hrel
  by_cases hlt : x < N
  · have cJ := hI.kj.cell
    have lJ := hI.kj.lt
    have II := Lib.hid hI
    clear hI
    go_wp2_with fail
    go_loopw [6, 57] (fun tv i wr => ∃ j : Nat, i = .int .i64 (j : Int) ∧ j ≤ 3 ∧ ∃ gt ct, tv = .slice (some ⟨gt, 0, none⟩) (x * 3 + j) ct ∧ BIn w g #[.int .i64 X, .int .i64 Y, .int .i64 P, .int .i64 (W : Int), .int .i64 (H : Int), .int .i64 (n : Int), .slice (some ⟨g, 0, none⟩) 1 1, .slice none 0 0, .int .i64 k0, .int .i64 k1, .int .i64 k2, .int .i64 ob, .int .i64 st] #[.string T, .int .i64 cr, .int .i64 cg, .int .i64 cb, .int .i64 al, .bool false] (x * 3 + j) (basL bT (x * 3 + j)) gt ct wr) (fun tv i wr => 3 - (intOf i).toNat)
    case atStart => exact ⟨0, rfl, by omega, gt, ct, rfl, II.out⟩
    case round =>
    clear II cJ lJ
    obtain ⟨j, rfl, hj, gt, ct, rfl, hI⟩ := hrel
    by_cases hjl : j < 3
    · have kx := KI.out j hjl
      have hs := C5.out (x * 3 + j)
      rw [show (x * 3 + j) % 3 = j by omega] at hs
      obtain ⟨m, em⟩ : ∃ m, x * 3 + j = m := ⟨_, rfl⟩
      have hm : m < N * 3 := by omega
      rw [em] at hs hI ⊢
      obtain ⟨b1, eb1⟩ : ∃ b, (bT m).1 = b := ⟨_, rfl⟩
      obtain ⟨b2, eb2⟩ : ∃ b, (bT m).2 = b := ⟨_, rfl⟩
      rw [eb1, eb2] at hs
      have HS := Lib.hid hs
      have II := Lib.hid hI
      have EB := Lib.hid (And.intro eb1 (And.intro eb2 em))
      clear hI hs eb1 eb2 em
      go_wp2_with fail
      refine (HS.out _).mono ?_
      rintro e zs ⟨rfl, hb⟩
      have IZ := Lib.hid ((II.out.below hb).alloc (.cells #[.int .i64 b1, .int .i64 b2] 87))
      have hN9 : ∀ j v, ([.int .i64 b1, .int .i64 b2] : List Value)[j]? = some v → (zs.alloc (.cells #[.int .i64 b1, .int .i64 b2] 87)).cell? ((⟨zs.heap.size, 0, none⟩ : Addr).add j) = some v :=
        World.news_of_block (cs := #[.int .i64 b1, .int .i64 b2]) (Blk.newAt (w := zs) rfl)
      have HN9 := Lib.hid hN9
      have hsz := IZ.out.om.size
      have hb16 : (m + 1) * 16 ≤ 140737488355328 := by omega
      have hmx : m + 1 ≤ maxLen := by unfold maxLen; omega
      have HB16 := Lib.hid (And.intro hb16 (And.intro hmx hsz))
      clear hN9 hb16 hmx hsz hb II
      go_wp2_with (at_builtin; refine wpList_append_lies _ rfl (.tmp 60) (.tmp 63) 85 rfl w.heap.size 87 iT _ 2 16 Tryz.underlying85 HI.out.1 HI.out.2.1 HI.out.2.2.1 HI.out.2.2.2 hZ.out (by decide) (.slice (some ⟨gt, 0, none⟩) m ct) m (covC2 (basL bT m)) (by simp [Act.eval]) IZ.out.ot ⟨zs.heap.size, 0, none⟩ 1 1 [.int .i64 b1, .int .i64 b2] (by simp [Act.eval]) rfl HN9.out (two_i64 b1 b2) (by decide) HB16.out.2.1 HB16.out.1 HB16.out.2.2 _ rfl ?_)
      intro gn cn zY hown hgrow hat hlt2
      have hown2 : zY.ownsRow w.heap.size 87 2 (.slice (some ⟨gn, 0, none⟩) (m + 1) cn) (m + 1) (covC2 (basL bT (m + 1))) := by
        rw [basL_succ, covC2_append, EB.out.1, EB.out.2.1]
        exact hown
      have Iy : BIn w g #[.int .i64 X, .int .i64 Y, .int .i64 P, .int .i64 (W : Int), .int .i64 (H : Int), .int .i64 (n : Int), .slice (some ⟨g, 0, none⟩) 1 1, .slice none 0 0, .int .i64 k0, .int .i64 k1, .int .i64 k2, .int .i64 ob, .int .i64 st] #[.string T, .int .i64 cr, .int .i64 cg, .int .i64 cb, .int .i64 al, .bool false] (m + 1) (basL bT (m + 1)) gn cn zY := IZ.out.grown hgrow rfl hown2
      have IY := Lib.hid Iy
      clear hown hown2 hgrow hat hlt2 Iy IZ HN9 HB16
      go_wp2_with fail
      go_roundw
      case rel =>
        have hr2 : ∃ j' : Nat, Value.int .i64 ((j : Int) + 1) = .int .i64 (j' : Int) ∧ j' ≤ 3 ∧ ∃ gt' ct', Value.slice (some ⟨gn, 0, none⟩) (m + 1) cn = .slice (some ⟨gt', 0, none⟩) (x * 3 + j') ct' ∧ BIn w g #[.int .i64 X, .int .i64 Y, .int .i64 P, .int .i64 (W : Int), .int .i64 (H : Int), .int .i64 (n : Int), .slice (some ⟨g, 0, none⟩) 1 1, .slice none 0 0, .int .i64 k0, .int .i64 k1, .int .i64 k2, .int .i64 ob, .int .i64 st] #[.string T, .int .i64 cr, .int .i64 cg, .int .i64 cb, .int .i64 al, .bool false] (x * 3 + j') (basL bT (x * 3 + j')) gt' ct' zY :=
          ⟨j + 1, by go_num, by omega, gn, cn, by rw [← Nat.add_assoc, EB.out.2.2], by rw [← Nat.add_assoc, EB.out.2.2]; exact IY.out⟩
        first | exact hr2 | ((repeat apply Exists.intro); exact ⟨hr2, rfl⟩)
      case measure => simp [intOf]; omega
    · have ej : j = 3 := by omega
      subst j
      have II := Lib.hid hI
      clear hI
      go_wp2_with fail
      go_roundw
      case rel =>
        have hr2 : ∃ x' : Nat, Value.int .i64 ((x : Int) + 1) = .int .i64 (x' : Int) ∧ x' ≤ N ∧ ∃ gt' ct', Value.slice (some ⟨gt, 0, none⟩) (x * 3 + 3) ct = .slice (some ⟨gt', 0, none⟩) (x' * 3) ct' ∧ BIn w g #[.int .i64 X, .int .i64 Y, .int .i64 P, .int .i64 (W : Int), .int .i64 (H : Int), .int .i64 (n : Int), .slice (some ⟨g, 0, none⟩) 1 1, .slice none 0 0, .int .i64 k0, .int .i64 k1, .int .i64 k2, .int .i64 ob, .int .i64 st] #[.string T, .int .i64 cr, .int .i64 cg, .int .i64 cb, .int .i64 al, .bool false] (x' * 3) (basL bT (x' * 3)) gt' ct' wr :=
          ⟨x + 1, by go_num, by omega, gt, ct, by rw [show (x + 1) * 3 = x * 3 + 3 by omega], by rw [show (x + 1) * 3 = x * 3 + 3 by omega]; exact II.out⟩
        first | exact hr2 | ((repeat apply Exists.intro); exact ⟨hr2, rfl⟩)
      case measure => simp [intOf]; omega
  · have exN : x = N := by omega
    subst x
    have II := Lib.hid hI
    clear hI C5 KI
    have cJ := II.out.kj.cell
    have lJ := II.out.kj.lt
    go_wp2_with fail
    refine (C3.out _).mono ?_
    rintro e z3 ⟨rfl, hb⟩
    have I3 := Lib.hid (II.out.below hb)
    clear cJ lJ II hb
    have cJ := I3.out.kj.cell
    have lJ := I3.out.kj.lt
    go_wp2_with fail
    refine (newMeter_g st z3).mono ?_
    rintro e w' ⟨rfl, rfl⟩
    obtain ⟨ym, ey⟩ : ∃ y, z3.alloc (.cells #[.int .i64 (max 0 (min st 100000000)), .int .i64 0] 133) = y := ⟨_, rfl⟩
    have km : Blk ym z3.heap.size 133 #[.int .i64 (max 0 (min st 100000000)), .int .i64 0] := by rw [← ey]; exact Blk.new _ _ _
    have Im : BIn w g #[.int .i64 X, .int .i64 Y, .int .i64 P, .int .i64 (W : Int), .int .i64 (H : Int), .int .i64 (n : Int), .slice (some ⟨g, 0, none⟩) 1 1, .slice none 0 0, .int .i64 k0, .int .i64 k1, .int .i64 k2, .int .i64 ob, .int .i64 st] #[.string T, .int .i64 cr, .int .i64 cg, .int .i64 cb, .int .i64 al, .bool false] (N * 3) (basL bT (N * 3)) gt ct ym := by rw [← ey]; exact I3.out.alloc _
    have hMG := I3.out.om.size
    rw [ey]
    have KM := Lib.hid km
    have IM := Lib.hid Im
    clear cJ lJ ey km Im I3
    have cJ := IM.out.kj.cell
    have lJ := IM.out.kj.lt
    have cl := IM.out.kl.cell
    have ll := IM.out.kl.lt
    go_wp2_with fail
    refine wp_loop_rounds 2 ?_
    rw [rounds_succ]
    go_wp2_with fail
    obtain ⟨yc, eyc⟩ : ∃ y, ym.alloc (.cells #[.string T, .int .i64 cr, .int .i64 cg, .int .i64 cb, .int .i64 al, .bool false] 34) = y := ⟨_, rfl⟩
    have kL : Blk yc ym.heap.size 34 #[.string T, .int .i64 cr, .int .i64 cg, .int .i64 cb, .int .i64 al, .bool false] := by rw [← eyc]; exact Blk.new _ _ _
    have Ic : BIn w g #[.int .i64 X, .int .i64 Y, .int .i64 P, .int .i64 (W : Int), .int .i64 (H : Int), .int .i64 (n : Int), .slice (some ⟨g, 0, none⟩) 1 1, .slice none 0 0, .int .i64 k0, .int .i64 k1, .int .i64 k2, .int .i64 ob, .int .i64 st] #[.string T, .int .i64 cr, .int .i64 cg, .int .i64 cb, .int .i64 al, .bool false] (N * 3) (basL bT (N * 3)) gt ct yc := by rw [← eyc]; exact IM.out.alloc _
    have kmc : Blk yc z3.heap.size 133 #[.int .i64 (max 0 (min st 100000000)), .int .i64 0] := by rw [← eyc]; exact KM.out.alloc _
    first | rw [eyc] | skip
    refine (C4.out yc z3.heap.size Ic.kl kmc).mono ?_
    rintro e zc ⟨rfl, ho⟩
    have Id := Ic.meter kmc hMG ho
    have ID := Lib.hid Id
    have hd3 : (f3 == 0) = false := by simp [hf3]
    have cI := Id.ki.cell
    have lI := Id.ki.lt
    have fI := Id.ki.frozen
    have cF := Id.kf.cell
    have lF := Id.kf.lt
    have fF := Id.kf.frozen
    clear cJ lJ cl ll eyc kL Ic kmc ho Id IM KM hMG C4
    go_wp2_with fail
    obtain ⟨zd, ezd⟩ : ∃ z, zc.alloc (.cells #[.int .i64 f0, .int .i64 f1, .int .i64 f2, .int .i64 f3] 40) = z := ⟨_, rfl⟩
    have di : Blk zd (w.heap.size + 1) 37 #[.int .i64 0, .int .i64 0, .bool false, .slice none 0 0] := by rw [← ezd]; exact ID.out.ki.alloc _
    have df : Blk zd (w.heap.size + 1 + 1) 40 #[.int .i64 0, .int .i64 0, .int .i64 0, .int .i64 0] := by rw [← ezd]; exact ID.out.kf.alloc _
    have dn : Blk zd zc.heap.size 40 #[.int .i64 f0, .int .i64 f1, .int .i64 f2, .int .i64 f3] := by rw [← ezd]; exact Blk.newAt rfl
    have dm : Below w.heap.size w zd := by rw [← ezd]; exact ID.out.om.alloc ID.out.om.size _
    have ne1 : w.heap.size + 1 ≠ zc.heap.size := by omega
    have ne2 : w.heap.size + 1 + 1 ≠ zc.heap.size := by omega
    have cI := di.cell
    have lI := di.lt
    have fI := di.frozen
    have cF := df.cell
    have lF := df.lt
    have fF := df.frozen
    have cn := dn.cell
    have ln := dn.lt
    have DI := Lib.hid di
    have DF := Lib.hid df
    have DM := Lib.hid dm
    rw [ezd]
    clear ezd di df dn dm
    go_region
    all_goals
      go_wp2_with fail
      clear cI lI fI cF lF fF cn ln
      first
      | (obtain ⟨x, ex⟩ : ∃ x, ((((((((zd.setCell ⟨w.heap.size + 1, 0, none⟩ (.int .i64 0)).setCell ⟨w.heap.size + 1, 1, none⟩ (.int .i64 0)).setCell ⟨w.heap.size + 1, 2, none⟩ (.bool false)).setCell ⟨w.heap.size + 1, 3, none⟩ (.slice none 0 0)).setCell ⟨w.heap.size + 1 + 1, 0, none⟩ (.int .i64 f0)).setCell ⟨w.heap.size + 1 + 1, 1, none⟩ (.int .i64 f1)).setCell ⟨w.heap.size + 1 + 1, 2, none⟩ (.int .i64 f2)).setCell ⟨w.heap.size + 1 + 1, 3, none⟩ (.int .i64 f3)).drew = x := ⟨_, rfl⟩; rw [ex]; have xi : Blk x (w.heap.size + 1) 37 #[.int .i64 0, .int .i64 0, .bool false, .slice none 0 0] := (by rw [← ex]; exact ((((((((DI.out.set_ 0 _ rfl).set_ 1 _ rfl).set_ 2 _ rfl).set_ 3 _ rfl).far (by simp) _).far (by simp) _).far (by simp) _).far (by simp) _).drew); have xf : Blk x (w.heap.size + 1 + 1) 40 #[.int .i64 f0, .int .i64 f1, .int .i64 f2, .int .i64 f3] := (by rw [← ex]; exact ((((((((DF.out.far (by simp) _).far (by simp) _).far (by simp) _).far (by simp) _).set_ 0 _ rfl).set_ 1 _ rfl).set_ 2 _ rfl).set_ 3 _ rfl).drew); have xm : Below w.heap.size w x := (by rw [← ex]; exact (Below.setCell (Below.setCell (Below.setCell (Below.setCell (Below.setCell (Below.setCell (Below.setCell (Below.setCell DM.out (by first | (simp; done) | (simp; omega) | omega) _) (by first | (simp; done) | (simp; omega) | omega) _) (by first | (simp; done) | (simp; omega) | omega) _) (by first | (simp; done) | (simp; omega) | omega) _) (by first | (simp; done) | (simp; omega) | omega) _) (by first | (simp; done) | (simp; omega) | omega) _) (by first | (simp; done) | (simp; omega) | omega) _) (by first | (simp; done) | (simp; omega) | omega) _).drew); have ci := xi.cell; have cf := xf.cell; clear ex; exact bodyPost_ret (v := .tuple #[.agg #[.int .i64 0, .int .i64 0, .bool false, .slice none 0 0], .agg #[.int .i64 f0, .int .i64 f1, .int .i64 f2, .int .i64 f3]]) (by simp [results, Tryz.results9, go_sem, ci, cf]) rfl ⟨rfl, xm⟩)
      | (obtain ⟨x, ex⟩ : ∃ x, ((((((((zd.setCell ⟨w.heap.size + 1 + 1, 0, none⟩ (.int .i64 f0)).setCell ⟨w.heap.size + 1 + 1, 1, none⟩ (.int .i64 f1)).setCell ⟨w.heap.size + 1 + 1, 2, none⟩ (.int .i64 f2)).setCell ⟨w.heap.size + 1 + 1, 3, none⟩ (.int .i64 f3)).setCell ⟨w.heap.size + 1, 0, none⟩ (.int .i64 0)).setCell ⟨w.heap.size + 1, 1, none⟩ (.int .i64 0)).setCell ⟨w.heap.size + 1, 2, none⟩ (.bool false)).setCell ⟨w.heap.size + 1, 3, none⟩ (.slice none 0 0)).drew = x := ⟨_, rfl⟩; rw [ex]; have xi : Blk x (w.heap.size + 1) 37 #[.int .i64 0, .int .i64 0, .bool false, .slice none 0 0] := (by rw [← ex]; exact ((((((((DI.out.far (by simp) _).far (by simp) _).far (by simp) _).far (by simp) _).set_ 0 _ rfl).set_ 1 _ rfl).set_ 2 _ rfl).set_ 3 _ rfl).drew); have xf : Blk x (w.heap.size + 1 + 1) 40 #[.int .i64 f0, .int .i64 f1, .int .i64 f2, .int .i64 f3] := (by rw [← ex]; exact ((((((((DF.out.set_ 0 _ rfl).set_ 1 _ rfl).set_ 2 _ rfl).set_ 3 _ rfl).far (by simp) _).far (by simp) _).far (by simp) _).far (by simp) _).drew); have xm : Below w.heap.size w x := (by rw [← ex]; exact (Below.setCell (Below.setCell (Below.setCell (Below.setCell (Below.setCell (Below.setCell (Below.setCell (Below.setCell DM.out (by first | (simp; done) | (simp; omega) | omega) _) (by first | (simp; done) | (simp; omega) | omega) _) (by first | (simp; done) | (simp; omega) | omega) _) (by first | (simp; done) | (simp; omega) | omega) _) (by first | (simp; done) | (simp; omega) | omega) _) (by first | (simp; done) | (simp; omega) | omega) _) (by first | (simp; done) | (simp; omega) | omega) _) (by first | (simp; done) | (simp; omega) | omega) _).drew); have ci := xi.cell; have cf := xf.cell; clear ex; exact bodyPost_ret (v := .tuple #[.agg #[.int .i64 0, .int .i64 0, .bool false, .slice none 0 0], .agg #[.int .i64 f0, .int .i64 f1, .int .i64 f2, .int .i64 f3]]) (by simp [results, Tryz.results9, go_sem, ci, cf]) rfl ⟨rfl, xm⟩)
end Go.Proofs.YtfajckkbinbpiaaGreatDoor
