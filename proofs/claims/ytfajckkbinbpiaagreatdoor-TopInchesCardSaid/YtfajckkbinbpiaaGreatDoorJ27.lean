/- Walk: the image of a board of one layer. -/
import Derived.Deep.RegionHeld3
import Derived.OwnWalk
import Derived.StillTailTactics
import Derived.Test.YtfajckkbinbpiaaGreatDoorJ26
namespace Go.Proofs.YtfajckkbinbpiaaGreatDoor
set_option maxRecDepth 100000
set_option maxHeartbeats 32000000
set_option linter.unusedVariables false
set_option linter.unusedSimpArgs false
open Go.RowKit
theorem infoTone : (Tryz.prog.info? 87).map (fun i => (i.zero, i.size, i.bytes)) = some (some (.agg #[.int .i64 0, .int .i64 0]), 2, 16) := by kernel_rfl
theorem infoU8g : (Tryz.prog.info? 5).map (fun i => (i.zero, i.size, i.bytes)) = some (some (.int .u8 0), 1, 1) := by kernel_rfl
theorem one_u8 (b : Int) : ∀ v ∈ ([.int .u8 b] : List Value), v.oneCell' = true := by
  intro v hv
  simp only [List.mem_cons, List.not_mem_nil, or_false] at hv
  subst hv; rfl
theorem two_i64 (a b : Int) : ∀ v ∈ ([.int .i64 a, .int .i64 b] : List Value), v.oneCell' = true := by
  intro v hv
  simp only [List.mem_cons, List.not_mem_nil, or_false] at hv
  rcases hv with rfl | rfl <;> rfl
def ldT : Op := Op.load 87 (Operand.tmp 123)
def ixT : Op := Op.indexAddr 85 (Operand.tmp 118) (Operand.tmp 122)
theorem cov_getD (l : List (Int × Int)) (m : Nat) (h : m < l.length) : (covC2 l)[m * 2]? = some (.int .i64 (l.getD m (0, 0)).1) ∧ (covC2 l)[m * 2 + 1]? = some (.int .i64 (l.getD m (0, 0)).2) := by
  rw [show l.getD m (0, 0) = l[m] by simp [List.getD, List.getElem?_eq_getElem h]]
  exact covC2_at l m h
theorem covC2_append (l : List (Int × Int)) (c : Int × Int) : covC2 (l ++ [c]) = covC2 l ++ [.int .i64 c.1, .int .i64 c.2] := by simp [covC2]
theorem brender_ok (X Y P k : Int) (W H n : Nat) (g : Nat) (k0 k1 k2 ob st : Int) (cr cg cb al : Int) (T : ByteArray) (cs : List (Int × Int)) (w : World) (hv : VOk X Y P W H n k) (q0 : IsB k0) (q1 : IsB k1) (q2 : IsB k2) (q3 : IsB cr) (q4 : IsB cg) (q5 : IsB cb) (q6 : IsB al) (hL : Blk w g 34 #[.string T, .int .i64 cr, .int .i64 cg, .int .i64 cb, .int .i64 al, .bool false])
    (hC : ∀ w M, Blk w g 34 #[.string T, .int .i64 cr, .int .i64 cg, .int .i64 cb, .int .i64 al, .bool false] → Blk w M 133 #[.int .i64 (max 0 (min st 100000000)), .int .i64 0] → Calls Tryz.prog 31 #[.agg #[.int .i64 X, .int .i64 Y, .int .i64 P, .int .i64 (W : Int), .int .i64 (H : Int), .int .i64 (n : Int), .slice (some ⟨g, 0, none⟩) 1 1, .slice none 0 0, .int .i64 k0, .int .i64 k1, .int .i64 k2, .int .i64 ob, .int .i64 st], .int .i64 0, .slice none 0 0, .pointer (some ⟨M, 0, none⟩)] w fun e w' => ∃ vr, e = .returned (.tuple #[vr, .agg #[.int .i64 0, .int .i64 0, .int .i64 0, .int .i64 0]]) ∧ w'.ownsRow w.heap.size 75 2 vr (W * H) (covC2 cs) ∧ Only [M] w w')
    (hlen : cs.length = W * H) (hrng : ∀ c ∈ cs, 0 ≤ c.1 ∧ c.1 ≤ c.2 ∧ c.2 ≤ ((4 ^ n : Nat) : Int)) :
    Calls Tryz.prog 9 #[.agg #[.int .i64 X, .int .i64 Y, .int .i64 P, .int .i64 (W : Int), .int .i64 (H : Int), .int .i64 (n : Int), .slice (some ⟨g, 0, none⟩) 1 1, .slice none 0 0, .int .i64 k0, .int .i64 k1, .int .i64 k2, .int .i64 ob, .int .i64 st]] w fun e w' => ∃ gp cp, e = .returned (.tuple #[.agg #[.int .i64 (W : Int), .int .i64 (H : Int), .bool true, .slice (some ⟨gp, 0, none⟩) (W * H * 3) cp], .agg #[.int .i64 0, .int .i64 0, .int .i64 0, .int .i64 0]]) ∧ w'.ownsRow w.heap.size 5 1 (.slice (some ⟨gp, 0, none⟩) (W * H * 3) cp) (W * H * 3) (pixB (ovT k0 k1 k2 cr cg cb al ((4 ^ n : Nat) : Int) cs) (W * H * 3)) ∧ Below w.heap.size w w' := by
  have lG := hL.lt
  have hW : W ≤ 256 := by have := hv.w1; omega
  have hH : H ≤ 256 := by have := hv.h1; omega
  have hn3 : n ≤ 3 := by rcases hv.d with h | h | h | h <;> omega
  obtain ⟨N, eN⟩ : ∃ N, W * H = N := ⟨_, rfl⟩
  have hN : N ≤ 65536 := by rw [← eN]; exact Nat.mul_le_mul hW hH
  have hN1 : 1 ≤ N := by
    rw [← eN]
    have := hv.w0
    have := hv.h0
    exact Nat.mul_pos (show 0 < W by omega) (show 0 < H by omega)
  have sN : IntKind.i64.wrap ((W : Int) * (H : Int)) = ((N : Nat) : Int) := by
    rw [← eN, Int.natCast_mul]
    exact IntWalk.i64_in _ (by rw [← Int.natCast_mul, eN]; omega)
  have s3N : IntKind.i64.wrap (3 * (W : Int) * (H : Int)) = ((N * 3 : Nat) : Int) := by
    have e : 3 * (W : Int) * (H : Int) = ((N * 3 : Nat) : Int) := by rw [← eN, Int.mul_assoc]; push_cast; rw [Int.mul_comm]
    rw [e]
    exact IntWalk.i64_in _ (by omega)
  rw [eN] at hC hlen ⊢
  obtain ⟨C, eC⟩ : ∃ C, 4 ^ n = C := ⟨_, rfl⟩
  have hC1 : 1 ≤ C ∧ C ≤ 4096 := by
    rcases (show n = 0 ∨ n = 1 ∨ n = 2 ∨ n = 3 by omega) with rfl | rfl | rfl | rfl <;> simp at eC <;> omega
  have hcell := fun w => cells_g X Y P k W H n w hv
  rw [eC] at hcell hrng ⊢
  have n1 := fun w h => valid_g X Y P k W H n g k0 k1 k2 ob st cr cg cb al T w hv q0 q1 q2 q3 q4 q5 q6 h
  have n2 := fun w => drilled_g X Y P k W H n g k0 k1 k2 ob st w
  have C1 := Lib.hid n1
  have C2 := Lib.hid n2
  have C3 := Lib.hid hcell
  have C4 := Lib.hid hC
  obtain ⟨bT, ebT⟩ : ∃ f, basT k0 k1 k2 = f := ⟨_, rfl⟩
  obtain ⟨oT, eoT⟩ : ∃ f, ovT k0 k1 k2 cr cg cb al (C : Int) cs = f := ⟨_, rfl⟩
  have hst : ∀ m w, Calls Tryz.prog 28 #[.int .i64 (kk k0 k1 k2 (m % 3))] w fun e w' => e = .returned (.agg #[.int .i64 (bT m).1, .int .i64 (bT m).2]) ∧ Below w.heap.size w w' := by
    intro m w
    have h := Mx.start (kk k0 k1 k2 (m % 3)) w
    have hb := kk_byte q0 q1 q2 (m % 3)
    rw [Mx.clamp_in _ hb.1 hb.2] at h
    rw [← ebT]
    exact h
  have hbT : ∀ m, 0 ≤ (bT m).1 ∧ (bT m).1 ≤ (bT m).2 ∧ (bT m).2 ≤ 16711680 := by
    intro m
    have hb := kk_byte q0 q1 q2 (m % 3)
    unfold IsB at hb
    rw [← ebT]
    simp only [basT]
    omega
  have hcs : ∀ i, 0 ≤ (cs.getD i (0, 0)).1 ∧ (cs.getD i (0, 0)).1 ≤ (cs.getD i (0, 0)).2 ∧ (cs.getD i (0, 0)).2 ≤ (C : Int) := by
    intro i
    rcases Nat.lt_or_ge i cs.length with h | h
    · rw [show cs.getD i (0, 0) = cs[i] by simp [List.getD, List.getElem?_eq_getElem h]]; exact hrng _ (List.getElem_mem h)
    · rw [show cs.getD i (0, 0) = (0, 0) by simp [List.getD, List.getElem?_eq_none h]]; exact ⟨Int.le_refl _, Int.le_refl _, by simp⟩
  have hoT : ∀ m, 0 ≤ (oT m).1 ∧ (oT m).1 ≤ (oT m).2 ∧ (oT m).2 ≤ 16711680 := by
    intro m
    have hb := kk_byte q3 q4 q5 (m % 3)
    unfold IsB at hb q6
    have ht := hbT m
    have hc := hcs (m / 3)
    have w0 := Int.mul_nonneg q6.1 hc.1
    have w1 : al * (cs.getD (m / 3) (0, 0)).1 ≤ al * (cs.getD (m / 3) (0, 0)).2 := Int.mul_le_mul_of_nonneg_left hc.2.1 q6.1
    have w2 : al * (cs.getD (m / 3) (0, 0)).2 ≤ 255 * (C : Int) := Int.mul_le_mul q6.2 hc.2.2 (by omega) (by omega)
    rw [← eoT]
    simp only [ovT]
    rw [ebT]
    exact ⟨Mx.lo_nonneg _ _ _ _ _ (by omega) ht.1 (by omega) w0 w1 w2, Mx.lo_le_hi _ _ _ _ _ _ (by omega) ht.2.1 w1 w2, Mx.hi_le _ _ _ _ _ _ (by omega) ht.2.2 (by omega) w0 w1 w2⟩
  have hov : ∀ i j w, j < 3 → i < N → Calls Tryz.prog 32 #[.agg #[.int .i64 (bT (i * 3 + j)).1, .int .i64 (bT (i * 3 + j)).2], .int .i64 (kk cr cg cb j), .int .i64 al, .agg #[.int .i64 (cs.getD i (0, 0)).1, .int .i64 (cs.getD i (0, 0)).2], .int .i64 (C : Int)] w fun e w' => e = .returned (.tuple #[.agg #[.int .i64 (oT (i * 3 + j)).1, .int .i64 (oT (i * 3 + j)).2], .bool true]) ∧ Below w.heap.size w w' := by
    intro i j w hj hi
    have e1 : (i * 3 + j) % 3 = j := by omega
    have e2 : (i * 3 + j) / 3 = i := by omega
    have hb := kk_byte q3 q4 q5 j
    unfold IsB at hb q6
    have ht := hbT (i * 3 + j)
    have hc := hcs i
    have h := Mx.over (bT (i * 3 + j)).1 (bT (i * 3 + j)).2 (kk cr cg cb j) al (cs.getD i (0, 0)).1 (cs.getD i (0, 0)).2 (C : Int) ht.1 ht.2.1 ht.2.2 hb.1 hb.2 q6.1 q6.2 (by omega) (by omega) hc.1 hc.2.1 hc.2.2 w
    rw [← eoT]
    simp only [ovT, e1, e2]
    rw [ebT]
    exact h
  have hby : ∀ m w, Calls Tryz.prog 33 #[.agg #[.int .i64 (oT m).1, .int .i64 (oT m).2]] w fun e w' => e = .returned (.int .u8 (Mx.byteOf (oT m).1 (oT m).2)) ∧ Below w.heap.size w w' := fun m w => Mx.byte_yes _ _ (hoT m).1 (hoT m).2.1 (hoT m).2.2 w
  have C5 := Lib.hid hst
  have C6 := Lib.hid hov
  have C7 := Lib.hid hby
  have KI := Lib.hid (fun j hj w => kk_idx k0 k1 k2 j hj w)
  have KC := Lib.hid (fun j hj w => kk_idx cr cg cb j hj w)
  have HLEN := Lib.hid hlen
  have HCB := Lib.hid hC1
  have EOT := Lib.hid eoT
  clear n1 n2 hcell hC hst hbT hcs hoT hov hby hlen hrng hC1 ebT eoT eC q0 q1 q2 q3 q4 q5 q6 hv hn3
  obtain ⟨u, eu⟩ : ∃ u, ((w.alloc (.cells #[.int .i64 X, .int .i64 Y, .int .i64 P, .int .i64 (W : Int), .int .i64 (H : Int), .int .i64 (n : Int), .slice (some ⟨g, 0, none⟩) 1 1, .slice none 0 0, .int .i64 k0, .int .i64 k1, .int .i64 k2, .int .i64 ob, .int .i64 st] 31)).alloc (.cells #[.int .i64 0, .int .i64 0, .bool false, .slice none 0 0] 37)).alloc (.cells #[.int .i64 0, .int .i64 0, .int .i64 0, .int .i64 0] 40) = u := ⟨_, rfl⟩
  have om : Below w.heap.size w u := by rw [← eu]; exact blw
  have kj : Blk u w.heap.size 31 #[.int .i64 X, .int .i64 Y, .int .i64 P, .int .i64 (W : Int), .int .i64 (H : Int), .int .i64 (n : Int), .slice (some ⟨g, 0, none⟩) 1 1, .slice none 0 0, .int .i64 k0, .int .i64 k1, .int .i64 k2, .int .i64 ob, .int .i64 st] := by rw [← eu]; exact bkw
  have ki : Blk u (w.heap.size + 1) 37 #[.int .i64 0, .int .i64 0, .bool false, .slice none 0 0] := by rw [← eu]; exact bkw
  have kf : Blk u (w.heap.size + 1 + 1) 40 #[.int .i64 0, .int .i64 0, .int .i64 0, .int .i64 0] := by rw [← eu]; exact bkw
  have kl : Blk u g 34 #[.string T, .int .i64 cr, .int .i64 cg, .int .i64 cb, .int .i64 al, .bool false] := hL.below om lG
  have KK0 := Lib.hid (And.intro ki (And.intro kf kl))
  have OM0 := Lib.hid om
  have EU := Lib.hid eu
  obtain ⟨iT, hiT, hz0, hz1, hz2⟩ := info_parts infoTone
  have HI := Lib.hid (And.intro hiT (And.intro hz0 (And.intro hz1 hz2)))
  have hZ : Hid ((Value.agg #[.int .i64 0, .int .i64 0]).cells.size = 2) := Lib.hid (by kernel_rfl)
  obtain ⟨i5, hi5, hy0, hy1, hy2⟩ := info_parts infoU8g
  have HI5 := Lib.hid (And.intro hi5 (And.intro hy0 (And.intro hy1 hy2)))
  have hzN : iT.bytes * (N * 3) ≤ 281474976710656 := by rw [hz2]; omega
  have HZN := Lib.hid hzN
  have hzN5 : i5.bytes * (N * 3) ≤ 281474976710656 := by rw [hy2]; omega
  have HZN5 := Lib.hid hzN5
  have KJ := Lib.hid kj
  clear hL eu hiT hz0 hz1 hz2 hi5 hy0 hy1 hy2 om kj ki kf kl hzN hzN5 lG
  go_enter Tryz.func9, Tryz.ntmps9
  go_wp2_with fail
  rw [EU.out]
  refine (C1.out u KK0.out.2.2).mono ?_
  rintro e z1 ⟨rfl, hb⟩
  have KJ1 := Lib.hid (KJ.out.below hb KJ.out.lt)
  have KK1 := Lib.hid (And.intro (KK0.out.1.below hb KK0.out.1.lt) (And.intro (KK0.out.2.1.below hb KK0.out.2.1.lt) (KK0.out.2.2.below hb KK0.out.2.2.lt)))
  have OM1 := Lib.hid (OM0.out.trans (hb.mono OM0.out.size))
  have cj := KJ1.out.cell
  have lj := KJ1.out.lt
  clear hb
  go_wp2_with fail
  refine (C2.out z1).mono ?_
  rintro e z2 ⟨rfl, hb⟩
  have KJ2 := Lib.hid (KJ1.out.below hb KJ1.out.lt)
  have KK2 := Lib.hid (And.intro (KK1.out.1.below hb KK1.out.1.lt) (And.intro (KK1.out.2.1.below hb KK1.out.2.1.lt) (KK1.out.2.2.below hb KK1.out.2.2.lt)))
  have OM2 := Lib.hid (OM1.out.trans (hb.mono OM1.out.size))
  clear hb cj lj
  have cj := KJ2.out.cell
  have lj := KJ2.out.lt
  have sz2 := OM2.out.size
  clear KJ KJ1 KK0 KK1 OM0 OM1 EU C1 C2
  go_wp2_with (at_make; refine wpList_make_own _ rfl _ _ 85 rfl w.heap.size 87 iT (.agg #[.int .i64 0, .int .i64 0]) 2 Tryz.underlying85 HI.out.1 HI.out.2.1 HI.out.2.2.1 .i64 .i64 _ (N * 3) rfl rfl rfl HZN.out (by unfold maxLen; omega) (by first | exact sz2 | (simp; omega)) ?_)
  intro w4 hown hgrow
  have I4 : BIn w g #[.int .i64 X, .int .i64 Y, .int .i64 P, .int .i64 (W : Int), .int .i64 (H : Int), .int .i64 (n : Int), .slice (some ⟨g, 0, none⟩) 1 1, .slice none 0 0, .int .i64 k0, .int .i64 k1, .int .i64 k2, .int .i64 ob, .int .i64 st] #[.string T, .int .i64 cr, .int .i64 cg, .int .i64 cb, .int .i64 al, .bool false] (0 * 3) (basL bT (0 * 3)) (z2.heap.size + 1) (N * 3) w4 := by
    rw [Nat.zero_mul]
    exact ⟨(KJ2.out.alloc _).grown hgrow (by intro e; cases e), (KK2.out.1.alloc _).grown hgrow (by intro e; cases e), (KK2.out.2.1.alloc _).grown hgrow (by intro e; cases e), (KK2.out.2.2.alloc _).grown hgrow (by intro e; cases e), (by simpa [basL, covC2] using hown), (OM2.out.alloc sz2 _).grown hgrow (by simp; omega) (by intro b hb; cases hb)⟩
  have II := Lib.hid I4
  clear cj lj I4 hown hgrow KJ2 KK2 OM2
  have cj := II.out.kj.cell
  have lj := II.out.kj.lt
  go_wp2_with fail
  clear cj lj
  go_loopw [6, 53] (fun tv i wr => ∃ x : Nat, i = .int .i64 (x : Int) ∧ x ≤ N ∧ ∃ gt ct, tv = .slice (some ⟨gt, 0, none⟩) (x * 3) ct ∧ BIn w g #[.int .i64 X, .int .i64 Y, .int .i64 P, .int .i64 (W : Int), .int .i64 (H : Int), .int .i64 (n : Int), .slice (some ⟨g, 0, none⟩) 1 1, .slice none 0 0, .int .i64 k0, .int .i64 k1, .int .i64 k2, .int .i64 ob, .int .i64 st] #[.string T, .int .i64 cr, .int .i64 cg, .int .i64 cb, .int .i64 al, .bool false] (x * 3) (basL bT (x * 3)) gt ct wr) (fun tv i wr => N - (intOf i).toNat)
  case atStart => exact ⟨0, rfl, Nat.zero_le _, _, _, rfl, II.out⟩
  case round =>
  clear II
  obtain ⟨x, rfl, hx, gt, ct, rfl, hI⟩ := hrel
  by_cases hlt : x < N
  · have cJ := hI.kj.cell
    have lJ := hI.kj.lt
    have II := Lib.hid hI
    clear hI
    go_wp2_with fail
    go_loopw [6, 57] (fun tv i wr => ∃ j : Nat, i = .int .i64 (j : Int) ∧ j ≤ 3 ∧ ∃ gt ct, tv = .slice (some ⟨gt, 0, none⟩) (x * 3 + j) ct ∧ BIn w g #[.int .i64 X, .int .i64 Y, .int .i64 P, .int .i64 (W : Int), .int .i64 (H : Int), .int .i64 (n : Int), .slice (some ⟨g, 0, none⟩) 1 1, .slice none 0 0, .int .i64 k0, .int .i64 k1, .int .i64 k2, .int .i64 ob, .int .i64 st] #[.string T, .int .i64 cr, .int .i64 cg, .int .i64 cb, .int .i64 al, .bool false] (x * 3 + j) (basL bT (x * 3 + j)) gt ct wr) (fun tv i wr => 3 - (intOf i).toNat)
    case atStart => exact ⟨0, rfl, by omega, gt, ct, rfl, II.out⟩
    case round =>
    clear II cJ lJ
    obtain ⟨j, rfl, hj, gt, ct, rfl, hI⟩ := hrel
    by_cases hjl : j < 3
    · have kx := KI.out j hjl
      have hs := C5.out (x * 3 + j)
      rw [show (x * 3 + j) % 3 = j by omega] at hs
      obtain ⟨m, em⟩ : ∃ m, x * 3 + j = m := ⟨_, rfl⟩
      have hm : m < N * 3 := by omega
      rw [em] at hs hI ⊢
      obtain ⟨b1, eb1⟩ : ∃ b, (bT m).1 = b := ⟨_, rfl⟩
      obtain ⟨b2, eb2⟩ : ∃ b, (bT m).2 = b := ⟨_, rfl⟩
      rw [eb1, eb2] at hs
      have HS := Lib.hid hs
      have II := Lib.hid hI
      have EB := Lib.hid (And.intro eb1 (And.intro eb2 em))
      clear hI hs eb1 eb2 em
      go_wp2_with fail
      refine (HS.out _).mono ?_
      rintro e zs ⟨rfl, hb⟩
      have IZ := Lib.hid ((II.out.below hb).alloc (.cells #[.int .i64 b1, .int .i64 b2] 87))
      have hN9 : ∀ j v, ([.int .i64 b1, .int .i64 b2] : List Value)[j]? = some v → (zs.alloc (.cells #[.int .i64 b1, .int .i64 b2] 87)).cell? ((⟨zs.heap.size, 0, none⟩ : Addr).add j) = some v :=
        World.news_of_block (cs := #[.int .i64 b1, .int .i64 b2]) (Blk.newAt (w := zs) rfl)
      have HN9 := Lib.hid hN9
      have hsz := IZ.out.om.size
      have hb16 : (m + 1) * 16 ≤ 140737488355328 := by omega
      have hmx : m + 1 ≤ maxLen := by unfold maxLen; omega
      have HB16 := Lib.hid (And.intro hb16 (And.intro hmx hsz))
      clear hN9 hb16 hmx hsz hb II
      go_wp2_with (at_builtin; refine wpList_append_lies _ rfl (.tmp 60) (.tmp 63) 85 rfl w.heap.size 87 iT _ 2 16 Tryz.underlying85 HI.out.1 HI.out.2.1 HI.out.2.2.1 HI.out.2.2.2 hZ.out (by decide) (.slice (some ⟨gt, 0, none⟩) m ct) m (covC2 (basL bT m)) (by simp [Act.eval]) IZ.out.ot ⟨zs.heap.size, 0, none⟩ 1 1 [.int .i64 b1, .int .i64 b2] (by simp [Act.eval]) rfl HN9.out (two_i64 b1 b2) (by decide) HB16.out.2.1 HB16.out.1 HB16.out.2.2 _ rfl ?_)
      intro gn cn zY hown hgrow hat hlt2
      have hown2 : zY.ownsRow w.heap.size 87 2 (.slice (some ⟨gn, 0, none⟩) (m + 1) cn) (m + 1) (covC2 (basL bT (m + 1))) := by
        rw [basL_succ, covC2_append, EB.out.1, EB.out.2.1]
        exact hown
      have Iy : BIn w g #[.int .i64 X, .int .i64 Y, .int .i64 P, .int .i64 (W : Int), .int .i64 (H : Int), .int .i64 (n : Int), .slice (some ⟨g, 0, none⟩) 1 1, .slice none 0 0, .int .i64 k0, .int .i64 k1, .int .i64 k2, .int .i64 ob, .int .i64 st] #[.string T, .int .i64 cr, .int .i64 cg, .int .i64 cb, .int .i64 al, .bool false] (m + 1) (basL bT (m + 1)) gn cn zY := IZ.out.grown hgrow rfl hown2
      have IY := Lib.hid Iy
      clear hown hown2 hgrow hat hlt2 Iy IZ HN9 HB16
      go_wp2_with fail
      go_roundw
      case rel =>
        have hr2 : ∃ j' : Nat, Value.int .i64 ((j : Int) + 1) = .int .i64 (j' : Int) ∧ j' ≤ 3 ∧ ∃ gt' ct', Value.slice (some ⟨gn, 0, none⟩) (m + 1) cn = .slice (some ⟨gt', 0, none⟩) (x * 3 + j') ct' ∧ BIn w g #[.int .i64 X, .int .i64 Y, .int .i64 P, .int .i64 (W : Int), .int .i64 (H : Int), .int .i64 (n : Int), .slice (some ⟨g, 0, none⟩) 1 1, .slice none 0 0, .int .i64 k0, .int .i64 k1, .int .i64 k2, .int .i64 ob, .int .i64 st] #[.string T, .int .i64 cr, .int .i64 cg, .int .i64 cb, .int .i64 al, .bool false] (x * 3 + j') (basL bT (x * 3 + j')) gt' ct' zY :=
          ⟨j + 1, by go_num, by omega, gn, cn, by rw [← Nat.add_assoc, EB.out.2.2], by rw [← Nat.add_assoc, EB.out.2.2]; exact IY.out⟩
        first | exact hr2 | ((repeat apply Exists.intro); exact ⟨hr2, rfl⟩)
      case measure => simp [intOf]; omega
    · have ej : j = 3 := by omega
      subst j
      have II := Lib.hid hI
      clear hI
      go_wp2_with fail
      go_roundw
      case rel =>
        have hr2 : ∃ x' : Nat, Value.int .i64 ((x : Int) + 1) = .int .i64 (x' : Int) ∧ x' ≤ N ∧ ∃ gt' ct', Value.slice (some ⟨gt, 0, none⟩) (x * 3 + 3) ct = .slice (some ⟨gt', 0, none⟩) (x' * 3) ct' ∧ BIn w g #[.int .i64 X, .int .i64 Y, .int .i64 P, .int .i64 (W : Int), .int .i64 (H : Int), .int .i64 (n : Int), .slice (some ⟨g, 0, none⟩) 1 1, .slice none 0 0, .int .i64 k0, .int .i64 k1, .int .i64 k2, .int .i64 ob, .int .i64 st] #[.string T, .int .i64 cr, .int .i64 cg, .int .i64 cb, .int .i64 al, .bool false] (x' * 3) (basL bT (x' * 3)) gt' ct' wr :=
          ⟨x + 1, by go_num, by omega, gt, ct, by rw [show (x + 1) * 3 = x * 3 + 3 by omega], by rw [show (x + 1) * 3 = x * 3 + 3 by omega]; exact II.out⟩
        first | exact hr2 | ((repeat apply Exists.intro); exact ⟨hr2, rfl⟩)
      case measure => simp [intOf]; omega
  · have exN : x = N := by omega
    subst x
    have II := Lib.hid hI
    clear hI C5 KI
    have cJ := II.out.kj.cell
    have lJ := II.out.kj.lt
    go_wp2_with fail
    refine (C3.out _).mono ?_
    rintro e z3 ⟨rfl, hb⟩
    have I3 := Lib.hid (II.out.below hb)
    clear cJ lJ II hb
    have cJ := I3.out.kj.cell
    have lJ := I3.out.kj.lt
    go_wp2_with fail
    refine (newMeter_g st z3).mono ?_
    rintro e w' ⟨rfl, rfl⟩
    obtain ⟨ym, ey⟩ : ∃ y, z3.alloc (.cells #[.int .i64 (max 0 (min st 100000000)), .int .i64 0] 133) = y := ⟨_, rfl⟩
    have km : Blk ym z3.heap.size 133 #[.int .i64 (max 0 (min st 100000000)), .int .i64 0] := by rw [← ey]; exact Blk.new _ _ _
    have Im : BIn w g #[.int .i64 X, .int .i64 Y, .int .i64 P, .int .i64 (W : Int), .int .i64 (H : Int), .int .i64 (n : Int), .slice (some ⟨g, 0, none⟩) 1 1, .slice none 0 0, .int .i64 k0, .int .i64 k1, .int .i64 k2, .int .i64 ob, .int .i64 st] #[.string T, .int .i64 cr, .int .i64 cg, .int .i64 cb, .int .i64 al, .bool false] (N * 3) (basL bT (N * 3)) gt ct ym := by rw [← ey]; exact I3.out.alloc _
    have hMG := I3.out.om.size
    rw [ey]
    have KM := Lib.hid km
    have IM := Lib.hid Im
    clear cJ lJ ey km Im I3
    have cJ := IM.out.kj.cell
    have lJ := IM.out.kj.lt
    have cl := IM.out.kl.cell
    have ll := IM.out.kl.lt
    go_wp2_with fail
    refine wp_loop_rounds 2 ?_
    rw [rounds_succ]
    go_wp2_with fail
    obtain ⟨yc, eyc⟩ : ∃ y, ym.alloc (.cells #[.string T, .int .i64 cr, .int .i64 cg, .int .i64 cb, .int .i64 al, .bool false] 34) = y := ⟨_, rfl⟩
    have kL : Blk yc ym.heap.size 34 #[.string T, .int .i64 cr, .int .i64 cg, .int .i64 cb, .int .i64 al, .bool false] := by rw [← eyc]; exact Blk.new _ _ _
    have Ic : BIn w g #[.int .i64 X, .int .i64 Y, .int .i64 P, .int .i64 (W : Int), .int .i64 (H : Int), .int .i64 (n : Int), .slice (some ⟨g, 0, none⟩) 1 1, .slice none 0 0, .int .i64 k0, .int .i64 k1, .int .i64 k2, .int .i64 ob, .int .i64 st] #[.string T, .int .i64 cr, .int .i64 cg, .int .i64 cb, .int .i64 al, .bool false] (N * 3) (basL bT (N * 3)) gt ct yc := by rw [← eyc]; exact IM.out.alloc _
    have kmc : Blk yc z3.heap.size 133 #[.int .i64 (max 0 (min st 100000000)), .int .i64 0] := by rw [← eyc]; exact KM.out.alloc _
    first | rw [eyc] | skip
    refine (C4.out yc z3.heap.size Ic.kl kmc).mono ?_
    rintro e zc ⟨vr, rfl, hv, ho⟩
    obtain ⟨gc, cc, rfl, _, _⟩ := hv.form (by omega)
    have Id := Ic.meter kmc hMG ho
    have Xd : XIn w ym.heap.size #[.string T, .int .i64 cr, .int .i64 cg, .int .i64 cb, .int .i64 al, .bool false] N gc cc cs zc := ⟨ho.blk kL (by simpa using kL.ne_ kmc (by decide)), own_mono hv Ic.om.size⟩
    have ID := Lib.hid Id
    have XD := Lib.hid Xd
    obtain ⟨Lb, eLb⟩ : ∃ b, ym.heap.size = b := ⟨_, rfl⟩
    rw [eLb] at XD
    try simp only [eLb]
    clear cJ lJ cl ll eyc kL Ic kmc hv ho Id Xd IM KM hMG C4 eLb
    go_wp2_with fail
    have I5 := Lib.hid (ID.out.alloc (.cells #[.int .i64 0, .int .i64 0, .int .i64 0, .int .i64 0] 40))
    have X5 := Lib.hid (XD.out.alloc (.cells #[.int .i64 0, .int .i64 0, .int .i64 0, .int .i64 0] 40))
    clear ID XD
    go_loopw [96] (fun i wr => ∃ x : Nat, i = .int .i64 (x : Int) ∧ x ≤ N ∧ BIn w g #[.int .i64 X, .int .i64 Y, .int .i64 P, .int .i64 (W : Int), .int .i64 (H : Int), .int .i64 (n : Int), .slice (some ⟨g, 0, none⟩) 1 1, .slice none 0 0, .int .i64 k0, .int .i64 k1, .int .i64 k2, .int .i64 ob, .int .i64 st] #[.string T, .int .i64 cr, .int .i64 cg, .int .i64 cb, .int .i64 al, .bool false] (N * 3) (tst oT bT (N * 3) (x * 3)) gt ct wr ∧ XIn w Lb #[.string T, .int .i64 cr, .int .i64 cg, .int .i64 cb, .int .i64 al, .bool false] N gc cc cs wr) (fun i wr => N - (intOf i).toNat)
    case atStart => exact ⟨0, rfl, Nat.zero_le _, by rw [Nat.zero_mul, tst_zero]; exact I5.out, X5.out⟩
    case round =>
    clear I5 X5
    obtain ⟨x, rfl, hx, hI, hX⟩ := hrel
    by_cases hxl : x < N
    · obtain ⟨e1, e2⟩ := cov_getD cs x (by rw [HLEN.out]; exact hxl)
      obtain ⟨c1, ec1⟩ : ∃ b, (cs.getD x (0, 0)).1 = b := ⟨_, rfl⟩
      obtain ⟨c2, ec2⟩ : ∃ b, (cs.getD x (0, 0)).2 = b := ⟨_, rfl⟩
      have hov := fun j w hj => C6.out x j w hj hxl
      rw [ec1, ec2] at hov
      rw [ec1] at e1
      rw [ec2] at e2
      have v0 : wr.cell? ⟨gc, x * 2, none⟩ = some (.int .i64 c1) := by rw [hX.oc.cellAt (x * 2) (by omega), e1]
      have v1 : wr.cell? ⟨gc, x * 2 + 1, none⟩ = some (.int .i64 c2) := by rw [hX.oc.cellAt (x * 2 + 1) (by omega), e2]
      have lgc : gc < wr.heap.size := own_lt hX.oc rfl
      have cL := hX.kL.cell
      have lL := hX.kL.lt
      have HOV := Lib.hid hov
      have II := Lib.hid hI
      have XX := Lib.hid hX
      clear e1 e2 ec1 ec2 hov hI hX
      go_wp2_with fail
      have kV : Blk (wr.alloc (.cells #[.int .i64 c1, .int .i64 c2] 75)) wr.heap.size 75 #[.int .i64 c1, .int .i64 c2] := Blk.new _ _ _
      have I6 := Lib.hid (II.out.alloc (.cells #[.int .i64 c1, .int .i64 c2] 75))
      have X6 := Lib.hid (XX.out.alloc (.cells #[.int .i64 c1, .int .i64 c2] 75))
      obtain ⟨V, eV⟩ : ∃ b, wr.heap.size = b := ⟨_, rfl⟩
      rw [eV] at kV
      try simp only [eV]
      have KV := Lib.hid kV
      clear v0 v1 lgc cL lL kV eV II XX
      go_loopw [108] (fun i wr => ∃ j : Nat, i = .int .i64 (j : Int) ∧ j ≤ 3 ∧ BIn w g #[.int .i64 X, .int .i64 Y, .int .i64 P, .int .i64 (W : Int), .int .i64 (H : Int), .int .i64 (n : Int), .slice (some ⟨g, 0, none⟩) 1 1, .slice none 0 0, .int .i64 k0, .int .i64 k1, .int .i64 k2, .int .i64 ob, .int .i64 st] #[.string T, .int .i64 cr, .int .i64 cg, .int .i64 cb, .int .i64 al, .bool false] (N * 3) (tst oT bT (N * 3) (x * 3 + j)) gt ct wr ∧ XIn w Lb #[.string T, .int .i64 cr, .int .i64 cg, .int .i64 cb, .int .i64 al, .bool false] N gc cc cs wr ∧ Blk wr V 75 #[.int .i64 c1, .int .i64 c2]) (fun i wr => 3 - (intOf i).toNat)
      case atStart => exact ⟨0, rfl, by omega, I6.out, X6.out, KV.out⟩
      case round =>
      clear I6 X6 KV
      obtain ⟨j, rfl, hj, hI, hX, hV⟩ := hrel
      by_cases hjl : j < 3
      · have kx := KC.out j hjl
        have hov := fun w => HOV.out j w hjl
        obtain ⟨m, em⟩ : ∃ m, x * 3 + j = m := ⟨_, rfl⟩
        have hm : m < N * 3 := by omega
        have e4 : IntKind.i64.wrap (3 * (x : Int)) = 3 * (x : Int) := IntWalk.i64_in _ (by omega)
        have e5 : IntKind.i64.wrap (3 * (x : Int) + (j : Int)) = (m : Int) := by rw [show 3 * (x : Int) + (j : Int) = (m : Int) by omega]; exact IntWalk.i64_in _ (by omega)
        have e6 : (m : Int) < (N : Int) * 3 := by omega
        rw [em] at hov hI
        obtain ⟨y1, eb1⟩ : ∃ b, (bT m).1 = b := ⟨_, rfl⟩
        obtain ⟨y2, eb2⟩ : ∃ b, (bT m).2 = b := ⟨_, rfl⟩
        obtain ⟨o1, eo1⟩ : ∃ b, (oT m).1 = b := ⟨_, rfl⟩
        obtain ⟨o2, eo2⟩ : ∃ b, (oT m).2 = b := ⟨_, rfl⟩
        rw [eb1, eb2, eo1, eo2] at hov
        obtain ⟨kb, ekb⟩ : ∃ b, kk cr cg cb j = b := ⟨_, rfl⟩
        rw [ekb] at hov kx
        obtain ⟨g1, g2⟩ := covC2_at (tst oT bT (N * 3) m) m (by rw [tst_len]; exact hm)
        rw [tst_get oT bT (N * 3) m hm] at g1 g2
        rw [eb1] at g1
        rw [eb2] at g2
        have t0 : wr.cell? ⟨gt, m * 2, none⟩ = some (.int .i64 y1) := by rw [hI.ot.cellAt (m * 2) (by omega), g1]
        have t1 : wr.cell? ⟨gt, m * 2 + 1, none⟩ = some (.int .i64 y2) := by rw [hI.ot.cellAt (m * 2 + 1) (by omega), g2]
        have ltq : gt < wr.heap.size := hI.gt_lt
        have a4 : wr.cell? ⟨Lb, 4, none⟩ = some (.int .i64 al) := hX.kL.cell 4
        have a0 : wr.cell? ⟨V, 0, none⟩ = some (.int .i64 c1) := hV.cell 0
        have a1 : wr.cell? ⟨V, 1, none⟩ = some (.int .i64 c2) := hV.cell 1
        have nq1 : ¬ Lb = gt := fun e => own_blk_ne hI.ot hX.kL (by decide) (by rw [e]; rfl)
        have nq2 : ¬ V = gt := fun e => own_blk_ne hI.ot hV (by decide) (by rw [e]; rfl)
        have CO := Lib.hid hov
        have II := Lib.hid hI
        have XX := Lib.hid hX
        have VV := Lib.hid hV
        have EE := Lib.hid (And.intro em (And.intro eo1 eo2))
        have lLb := hX.kL.lt
        have lV := hV.lt
        have lgt := hI.gt_lt
        clear hov hI hX hV em eb1 eb2 eo1 eo2 ekb g1 g2
        have hld : ldT = Op.load 87 (Operand.tmp 123) := rfl
        have hlx : ixT = Op.indexAddr 85 (Operand.tmp 118) (Operand.tmp 122) := rfl
        rw [← hld, ← hlx]
        go_wp2_with fail
        go_region_held3 (fun w' => w'.cell? ⟨Lb, 4, none⟩ = some (.int .i64 al) ∧ w'.cell? ⟨V, 0, none⟩ = some (.int .i64 c1) ∧ w'.cell? ⟨V, 1, none⟩ = some (.int .i64 c2))
          (first | exact ⟨a4, a0, a1⟩ | exact ⟨b4, b0, b1⟩ | (refine ⟨?_, ?_, ?_⟩ <;> (simp [World.cell?_setCell_other, b4, b0, b1, nq1, nq2]; done)))
          (first | (go_at_call 32; (with_reducible refine (CO.out _).mono ?_); rintro e zo ⟨rfl, hb⟩; have I7 := II.out.drew.below hb; have s0 : zo.cell? ⟨gt, m * 2, none⟩ = some (.int .i64 y1) := ((hb.cell (p := ⟨gt, m * 2, none⟩) lgt).trans t0); have s1 : zo.cell? ⟨gt, m * 2 + 1, none⟩ = some (.int .i64 y2) := ((hb.cell (p := ⟨gt, m * 2 + 1, none⟩) lgt).trans t1); have sf0 := I7.ot.frozenAt (m * 2); have sf1 := I7.ot.frozenAt (m * 2 + 1); have b4 := (hb.cell (p := ⟨Lb, 4, none⟩) lLb).trans a4; have b0 := (hb.cell (p := ⟨V, 0, none⟩) lV).trans a0; have b1 := (hb.cell (p := ⟨V, 1, none⟩) lV).trans a1))
        clear a4 a0 a1 b4 b0 b1 nq1 nq2 hld hlx
        have X7 := XX.out.drew.below hb
        have V7 := VV.out.drew.below hb lV
        obtain ⟨hs1, hs2⟩ := own_setCells [.int .i64 o1, .int .i64 o2] (m * 2) zo _ I7.ot
        simp only [World.setCells] at hs1 hs2
        rw [covC2_set _ _ _ _ (by rw [tst_len]; exact hm)] at hs1
        have hset : (tst oT bT (N * 3) m).set m (o1, o2) = tst oT bT (N * 3) (m + 1) := by rw [← tst_set, ← EE.out.2.1, ← EE.out.2.2]
        rw [hset] at hs1
        obtain ⟨yo, ey⟩ : ∃ y, (zo.setCell ⟨gt, m * 2, none⟩ (.int .i64 o1)).setCell ⟨gt, m * 2 + 1, none⟩ (.int .i64 o2) = y := ⟨_, rfl⟩
        rw [ey] at hs1 hs2
        first | rw [ey] | skip
        have I8 : BIn w g #[.int .i64 X, .int .i64 Y, .int .i64 P, .int .i64 (W : Int), .int .i64 (H : Int), .int .i64 (n : Int), .slice (some ⟨g, 0, none⟩) 1 1, .slice none 0 0, .int .i64 k0, .int .i64 k1, .int .i64 k2, .int .i64 ob, .int .i64 st] #[.string T, .int .i64 cr, .int .i64 cg, .int .i64 cb, .int .i64 al, .bool false] (N * 3) (tst oT bT (N * 3) (m + 1)) gt ct yo := I7.grown hs2 rfl hs1
        have X8 := X7.grown I7.ot hs2 rfl
        have V8 := V7.grown hs2 (fun e => own_blk_ne I7.ot V7 (by decide) e.symm)
        have IY := Lib.hid (And.intro I8 (And.intro X8 V8))
        clear hs1 hs2 hset ey I7 X7 V7 I8 X8 V8 hb t0 t1 ltq s0 s1 sf0 sf1 lLb lV lgt II XX VV CO kx e4 e5 e6
        go_wp2_with fail
        go_roundw
        case rel =>
          have hr2 : ∃ j' : Nat, Value.int .i64 ((j : Int) + 1) = .int .i64 (j' : Int) ∧ j' ≤ 3 ∧ BIn w g #[.int .i64 X, .int .i64 Y, .int .i64 P, .int .i64 (W : Int), .int .i64 (H : Int), .int .i64 (n : Int), .slice (some ⟨g, 0, none⟩) 1 1, .slice none 0 0, .int .i64 k0, .int .i64 k1, .int .i64 k2, .int .i64 ob, .int .i64 st] #[.string T, .int .i64 cr, .int .i64 cg, .int .i64 cb, .int .i64 al, .bool false] (N * 3) (tst oT bT (N * 3) (x * 3 + j')) gt ct yo ∧ XIn w Lb #[.string T, .int .i64 cr, .int .i64 cg, .int .i64 cb, .int .i64 al, .bool false] N gc cc cs yo ∧ Blk yo V 75 #[.int .i64 c1, .int .i64 c2] :=
            ⟨j + 1, by go_num, by omega, by rw [← Nat.add_assoc, EE.out.1]; exact IY.out.1, IY.out.2.1, IY.out.2.2⟩
          first | exact hr2 | ((repeat apply Exists.intro); exact ⟨hr2, rfl⟩)
        case measure => simp [intOf]; omega
      · have ej : j = 3 := by omega
        subst j
        have II := Lib.hid hI
        have XX := Lib.hid hX
        clear hI hX hV
        go_wp2_with fail
        go_roundw
        case rel =>
          have hr2 : ∃ x' : Nat, Value.int .i64 ((x : Int) + 1) = .int .i64 (x' : Int) ∧ x' ≤ N ∧ BIn w g #[.int .i64 X, .int .i64 Y, .int .i64 P, .int .i64 (W : Int), .int .i64 (H : Int), .int .i64 (n : Int), .slice (some ⟨g, 0, none⟩) 1 1, .slice none 0 0, .int .i64 k0, .int .i64 k1, .int .i64 k2, .int .i64 ob, .int .i64 st] #[.string T, .int .i64 cr, .int .i64 cg, .int .i64 cb, .int .i64 al, .bool false] (N * 3) (tst oT bT (N * 3) (x' * 3)) gt ct wr ∧ XIn w Lb #[.string T, .int .i64 cr, .int .i64 cg, .int .i64 cb, .int .i64 al, .bool false] N gc cc cs wr :=
            ⟨x + 1, by go_num, by omega, by rw [show (x + 1) * 3 = x * 3 + 3 by omega]; exact II.out, XX.out⟩
          first | exact hr2 | ((repeat apply Exists.intro); exact ⟨hr2, rfl⟩)
        case measure => simp [intOf]; omega
    · have exN : x = N := by omega
      subst x
      rw [tst_all] at hI
      have II := Lib.hid hI
      have szr := hI.om.size
      clear hI hX C6 KC
      go_wp2_with fail
      rw [rounds_succ]
      go_wp2_with (at_make; refine wpList_make_own _ rfl _ _ 35 rfl w.heap.size 5 i5 (.int .u8 0) 1 Tryz.underlying35 HI5.out.1 HI5.out.2.1 HI5.out.2.2.1 .i64 .i64 _ (N * 3) rfl rfl rfl HZN5.out (by unfold maxLen; omega) (by first | exact szr | (simp; omega)) ?_)
      intro w8 hown hgrow
      have I8 : BIn w g #[.int .i64 X, .int .i64 Y, .int .i64 P, .int .i64 (W : Int), .int .i64 (H : Int), .int .i64 (n : Int), .slice (some ⟨g, 0, none⟩) 1 1, .slice none 0 0, .int .i64 k0, .int .i64 k1, .int .i64 k2, .int .i64 ob, .int .i64 st] #[.string T, .int .i64 cr, .int .i64 cg, .int .i64 cb, .int .i64 al, .bool false] (N * 3) (basL oT (N * 3)) gt ct w8 := ⟨II.out.kj.grown hgrow (by intro e; cases e), II.out.ki.grown hgrow (by intro e; cases e), II.out.kf.grown hgrow (by intro e; cases e), II.out.kl.grown hgrow (by intro e; cases e), own_same II.out.ot fun b hb => hgrow.block b (own_lt II.out.ot hb) (by intro e; cases e), Below.grown II.out.om hgrow II.out.om.size (by intro b hb; cases hb)⟩
      have I9 := Lib.hid I8
      have hop : w8.ownsRow w.heap.size 5 1 (.slice (some ⟨wr.heap.size, 0, none⟩) 0 (N * 3)) 0 (pixB oT 0) := by simpa [pixB] using hown
      have OP := Lib.hid hop
      clear II szr hown hgrow I8 hop
      go_wp2_with fail
      go_loopw [19, 142] (fun pv i wr => ∃ m : Nat, i = .int .i64 (m : Int) ∧ m ≤ N * 3 ∧ ∃ gp cp, pv = .slice (some ⟨gp, 0, none⟩) m cp ∧ BIn w g #[.int .i64 X, .int .i64 Y, .int .i64 P, .int .i64 (W : Int), .int .i64 (H : Int), .int .i64 (n : Int), .slice (some ⟨g, 0, none⟩) 1 1, .slice none 0 0, .int .i64 k0, .int .i64 k1, .int .i64 k2, .int .i64 ob, .int .i64 st] #[.string T, .int .i64 cr, .int .i64 cg, .int .i64 cb, .int .i64 al, .bool false] (N * 3) (basL oT (N * 3)) gt ct wr ∧ wr.ownsRow w.heap.size 5 1 (.slice (some ⟨gp, 0, none⟩) m cp) m (pixB oT m)) (fun pv i wr => N * 3 - (intOf i).toNat)
      case atStart => exact ⟨0, rfl, Nat.zero_le _, _, _, rfl, I9.out, OP.out⟩
      case round =>
      clear I9 OP
      obtain ⟨m, rfl, hm, gp, cp, rfl, hI, hP⟩ := hrel
      by_cases hml : m < N * 3
      · obtain ⟨g1, g2⟩ := covC2_at (basL oT (N * 3)) m (by rw [basL_len]; exact hml)
        rw [basL_get oT (N * 3) m hml] at g1 g2
        have hby := C7.out m
        have hpu := pixB_succ oT m
        obtain ⟨o1, eo1⟩ : ∃ b, (oT m).1 = b := ⟨_, rfl⟩
        obtain ⟨o2, eo2⟩ : ∃ b, (oT m).2 = b := ⟨_, rfl⟩
        rw [eo1, eo2] at hby hpu
        rw [eo1] at g1
        rw [eo2] at g2
        obtain ⟨bb, ebb⟩ : ∃ b, Mx.byteOf o1 o2 = b := ⟨_, rfl⟩
        rw [ebb] at hby hpu
        have t0 : wr.cell? ⟨gt, m * 2, none⟩ = some (.int .i64 o1) := by rw [hI.ot.cellAt (m * 2) (by omega), g1]
        have t1 : wr.cell? ⟨gt, m * 2 + 1, none⟩ = some (.int .i64 o2) := by rw [hI.ot.cellAt (m * 2 + 1) (by omega), g2]
        have lgt := hI.gt_lt
        have HBY := Lib.hid hby
        have HPU := Lib.hid hpu
        have II := Lib.hid hI
        have PP := Lib.hid hP
        clear g1 g2 hby hpu eo1 eo2 ebb hI hP
        go_wp2_with fail
        refine (HBY.out _).mono ?_
        rintro e zb ⟨rfl, hb⟩
        have IZ := Lib.hid (((II.out.alloc (.cells #[.int .i64 o1, .int .i64 o2] 87)).below hb).alloc (.cells #[.int .u8 bb] 5))
        have PZ := Lib.hid ((own_below (PP.out.alloc (.cells #[.int .i64 o1, .int .i64 o2] 87)) hb (Nat.le_refl _)).alloc (.cells #[.int .u8 bb] 5))
        have hN9 : ∀ j v, ([.int .u8 bb] : List Value)[j]? = some v → (zb.alloc (.cells #[.int .u8 bb] 5)).cell? ((⟨zb.heap.size, 0, none⟩ : Addr).add j) = some v :=
          World.news_of_block (cs := #[.int .u8 bb]) (Blk.newAt (w := zb) rfl)
        have HN9 := Lib.hid hN9
        have hsz := IZ.out.om.size
        have hb1 : (m + 1) * 1 ≤ 140737488355328 := by omega
        have hmx : m + 1 ≤ maxLen := by unfold maxLen; omega
        have HB1 := Lib.hid (And.intro hb1 (And.intro hmx hsz))
        clear hN9 hb1 hmx hsz hb II PP t0 t1 lgt
        go_wp2_with (at_builtin; refine wpList_append_lies _ rfl (.tmp 146) (.tmp 149) 35 rfl w.heap.size 5 i5 _ 1 1 Tryz.underlying35 HI5.out.1 HI5.out.2.1 HI5.out.2.2.1 HI5.out.2.2.2 rfl (by decide) (.slice (some ⟨gp, 0, none⟩) m cp) m (pixB oT m) (by simp [Act.eval]) PZ.out ⟨zb.heap.size, 0, none⟩ 1 1 [.int .u8 bb] (by simp [Act.eval]) rfl HN9.out (one_u8 bb) (by decide) HB1.out.2.1 HB1.out.1 HB1.out.2.2 _ rfl ?_)
        intro gn cn zY hown hgrow hat hlt2
        have Iy : BIn w g #[.int .i64 X, .int .i64 Y, .int .i64 P, .int .i64 (W : Int), .int .i64 (H : Int), .int .i64 (n : Int), .slice (some ⟨g, 0, none⟩) 1 1, .slice none 0 0, .int .i64 k0, .int .i64 k1, .int .i64 k2, .int .i64 ob, .int .i64 st] #[.string T, .int .i64 cr, .int .i64 cg, .int .i64 cb, .int .i64 al, .bool false] (N * 3) (basL oT (N * 3)) gt ct zY := IZ.out.grown2 PZ.out rfl hgrow
        rw [← HPU.out] at hown
        have IY := Lib.hid Iy
        have PY := Lib.hid hown
        clear hown hgrow hat hlt2 Iy IZ PZ HN9 HB1
        go_wp2_with fail
        go_roundw
        case rel =>
          have hr2 : ∃ m' : Nat, Value.int .i64 ((m : Int) + 1) = .int .i64 (m' : Int) ∧ m' ≤ N * 3 ∧ ∃ gp' cp', Value.slice (some ⟨gn, 0, none⟩) (m + 1) cn = .slice (some ⟨gp', 0, none⟩) m' cp' ∧ BIn w g #[.int .i64 X, .int .i64 Y, .int .i64 P, .int .i64 (W : Int), .int .i64 (H : Int), .int .i64 (n : Int), .slice (some ⟨g, 0, none⟩) 1 1, .slice none 0 0, .int .i64 k0, .int .i64 k1, .int .i64 k2, .int .i64 ob, .int .i64 st] #[.string T, .int .i64 cr, .int .i64 cg, .int .i64 cb, .int .i64 al, .bool false] (N * 3) (basL oT (N * 3)) gt ct zY ∧ zY.ownsRow w.heap.size 5 1 (.slice (some ⟨gp', 0, none⟩) m' cp') m' (pixB oT m') :=
            ⟨m + 1, by go_num, by omega, gn, cn, rfl, IY.out, PY.out⟩
          first | exact hr2 | ((repeat apply Exists.intro); exact ⟨hr2, rfl⟩)
        case measure => simp [intOf]; omega
      · have emN : m = N * 3 := by omega
        subst m
        have cJ := hI.kj.cell
        have lJ := hI.kj.lt
        have cI := hI.ki.cell
        have lI := hI.ki.lt
        have fI := hI.ki.frozen
        have cF := hI.kf.cell
        have lF := hI.kf.lt
        have fF := hI.kf.frozen
        have II := Lib.hid hI
        have PP := Lib.hid hP
        clear hI hP
        go_wp2_with fail
        obtain ⟨x, ex⟩ : ∃ x, (((((((wr.setCell ⟨w.heap.size + 1, 0, none⟩ (.int .i64 (W : Int))).setCell ⟨w.heap.size + 1, 1, none⟩ (.int .i64 (H : Int))).setCell ⟨w.heap.size + 1, 2, none⟩ (.bool true)).setCell ⟨w.heap.size + 1, 3, none⟩ (.slice (some ⟨gp, 0, none⟩) (N * 3) cp)).setCell ⟨w.heap.size + 1 + 1, 0, none⟩ (.int .i64 0)).setCell ⟨w.heap.size + 1 + 1, 1, none⟩ (.int .i64 0)).setCell ⟨w.heap.size + 1 + 1, 2, none⟩ (.int .i64 0)).setCell ⟨w.heap.size + 1 + 1, 3, none⟩ (.int .i64 0) = x := ⟨_, rfl⟩
        have xi : Blk x (w.heap.size + 1) 37 #[.int .i64 (W : Int), .int .i64 (H : Int), .bool true, .slice (some ⟨gp, 0, none⟩) (N * 3) cp] := by rw [← ex]; exact (((((((II.out.ki.set_ 0 _ rfl).set_ 1 _ rfl).set_ 2 _ rfl).set_ 3 _ rfl).far (by simp) _).far (by simp) _).far (by simp) _).far (by simp) _
        have xf : Blk x (w.heap.size + 1 + 1) 40 #[.int .i64 0, .int .i64 0, .int .i64 0, .int .i64 0] := by rw [← ex]; exact (((((((II.out.kf.far (by simp) _).far (by simp) _).far (by simp) _).far (by simp) _).set_ 0 _ rfl).set_ 1 _ rfl).set_ 2 _ rfl).set_ 3 _ rfl
        have ox : Only [w.heap.size + 1, w.heap.size + 1 + 1] wr x := by rw [← ex]; exact ((((((((Only.refl _ _).setCell (by simp) _).setCell (by simp) _).setCell (by simp) _).setCell (by simp) _).setCell (by simp) _).setCell (by simp) _).setCell (by simp) _).setCell (by simp) _
        have opx := ox.own PP.out (fun b hb hm => by
          simp only [List.mem_cons, List.not_mem_nil, or_false] at hm
          rcases hm with rfl | rfl
          · exact own_blk_ne PP.out II.out.ki (by decide) hb
          · exact own_blk_ne PP.out II.out.kf (by decide) hb)
        have omx := II.out.om.trans (ox.toBelow II.out.om.size (by simp; omega))
        have ci := xi.cell
        have cf := xf.cell
        rw [ex]
        clear ex cJ lJ cI lI fI cF lF fF
        exact bodyPost_ret (v := .tuple #[.agg #[.int .i64 (W : Int), .int .i64 (H : Int), .bool true, .slice (some ⟨gp, 0, none⟩) (N * 3) cp], .agg #[.int .i64 0, .int .i64 0, .int .i64 0, .int .i64 0]]) (by simp [results, Tryz.results9, go_sem, ci, cf]) rfl ⟨gp, cp, rfl, by rw [EOT.out]; exact opx, omx⟩
end Go.Proofs.YtfajckkbinbpiaaGreatDoor
