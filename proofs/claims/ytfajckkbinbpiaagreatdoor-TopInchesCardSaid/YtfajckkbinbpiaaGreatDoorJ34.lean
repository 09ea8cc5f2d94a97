/- Walk: the counts of all pixels. -/
import Derived.OwnWalk
import Derived.Test.YtfajckkbinbpiaaGreatDoorJ33
namespace Go.Proofs.YtfajckkbinbpiaaGreatDoor
set_option maxRecDepth 100000
set_option maxHeartbeats 32000000
set_option linter.unusedVariables false
set_option linter.unusedSimpArgs false
open Go.RowKit
theorem own_base {w : World} {base base' : Nat} {e : TypeId} {size : Nat} {v : Value} {n : Nat} {xs : List Value} (h : w.ownsRow base e size v n xs) (hb : base' ≤ base) : w.ownsRow base' e size v n xs :=
  ⟨h.1, h.2.imp id fun ⟨g, cap, cur, h1, h2, h3⟩ => ⟨g, cap, cur, h1, Nat.le_trans hb h2, h3⟩⟩
theorem infoCov : (Tryz.prog.info? 75).map (fun i => (i.zero, i.size, i.bytes)) = some (some (.agg #[.int .i64 0, .int .i64 0]), 2, 16) := by kernel_rfl
theorem cov_one (c : Int × Int) : ∀ u ∈ ([.int .i64 c.1, .int .i64 c.2] : List Value), u.oneCell' = true := by
  intro u hu
  simp only [List.mem_cons, List.not_mem_nil, or_false] at hu
  rcases hu with rfl | rfl <;> rfl
theorem rrender_c (most a0 : Int) (M : Nat) (X Y P k : Int) (W H n : Nat) (v : Value) (ol : List Obj2) (w : World) (hv : VOk X Y P W H n k) (hO : ObjsAt [M] w v ol) (hl : ol.length ≤ 100000) (hs : ∀ o ∈ ol, ShOk o.1.2) (hM : Blk w M 133 #[.int .i64 most, .int .i64 a0]) (h0 : 0 ≤ a0) (h1 : a0 ≤ 1000000000) :
    Calls Tryz.prog 46 #[v, .agg #[.int .i64 X, .int .i64 Y, .int .i64 P, .int .i64 (W : Int), .int .i64 (H : Int), .int .i64 (n : Int)], .pointer (some ⟨M, 0, none⟩)] w fun e w' => ∃ r a1, walkPx most n ((reachL ol).map (·.1)) (pxsOf X Y P W H) [] a0 = (r, a1) ∧ Blk w' M 133 #[.int .i64 most, .int .i64 a1] ∧ Only [M] w w' ∧
      (match r with
      | none => e = .returned (.tuple #[.slice none 0 0, .int .i64 6])
      | some acc => ∃ gv cv, e = .returned (.tuple #[.slice (some ⟨gv, 0, none⟩) acc.length cv, .int .i64 0]) ∧ acc.length = W * H ∧ w'.ownsRow w.heap.size 75 2 (.slice (some ⟨gv, 0, none⟩) acc.length cv) acc.length (covC2 acc)) := by
  have lM := hM.lt
  have hn3 : n ≤ 3 := by rcases hv.d with h | h | h | h <;> omega
  have hkn : k = 2 ^ n := by
    rcases hv.d with ⟨h, rfl⟩ | ⟨h, rfl⟩ | ⟨h, rfl⟩ | ⟨h, rfl⟩
    · obtain rfl : n = 0 := by omega
      rfl
    · obtain rfl : n = 1 := by omega
      rfl
    · obtain rfl : n = 2 := by omega
      rfl
    · obtain rfl : n = 3 := by omega
      rfl
  have hW : W ≤ 256 := by have := hv.w1; omega
  have hH : H ≤ 256 := by have := hv.h1; omega
  have hW1 : 1 ≤ W := by have := hv.w0; omega
  obtain ⟨N, eN⟩ : ∃ N, W * H = N := ⟨_, rfl⟩
  have hN : N ≤ 65536 := by rw [← eN]; exact Nat.mul_le_mul hW hH
  have sN : IntKind.i64.wrap ((W : Int) * (H : Int)) = ((N : Nat) : Int) := by
    rw [← eN, Int.natCast_mul]
    exact IntWalk.i64_in _ (by rw [← Int.natCast_mul, eN]; omega)
  have n1 := fun w => viewok_g X Y P W H n k w hv
  have n2 := fun w h h' => reach_c [M] v ol w h h' hl hs
  have n3 := fun x y w h1 h2 h3 h4 => pixel_g X Y P W H n k x y w hv h1 h2 h3 h4
  have C1 := Lib.hid n1
  have C2 := Lib.hid n2
  have C3 := Lib.hid n3
  have HV := Lib.hid hv
  have HO := Lib.hid hO
  have HM := Lib.hid hM
  have HS := Lib.hid hs
  have HKN := Lib.hid hkn
  have EN := Lib.hid eN
  have hx : GOk (reachL ol) := ⟨Nat.le_trans (reachL_len ol) hl, fun e he => by
      obtain ⟨o, ho, hb, h1, h2⟩ := reachL_mem he
      exact (bnd_is (hs o ho) hb).2, fun e he => by
      obtain ⟨o, ho, hb, h1, h2⟩ := reachL_mem he
      rw [h1]; exact hs o ho⟩
  have HX := Lib.hid hx
  obtain ⟨i104, hi104, hz0, hz1, hz2⟩ := info_parts infoCov
  have HI := Lib.hid (And.intro hi104 (And.intro hz0 (And.intro hz1 hz2)))
  have hZ : Hid ((Value.agg #[.int .i64 0, .int .i64 0]).cells.size = 2) := Lib.hid (by kernel_rfl)
  clear n1 n2 n3 hv hO hM hs hkn hi104 hz0 hz1 hz2 hx
  go_enter Tryz.func46, Tryz.ntmps46
  go_wp2_with fail
  refine (C1.out _).mono ?_
  rintro e w1 ⟨rfl, hb⟩
  have hB1 : Below w.heap.size w w1 := Below.trans (by exact blw) (hb.mono (by first | omega | (simp; done) | (simp; omega)))
  have k1_0 : Blk w1 (w.heap.size) 27 #[.int .i64 X, .int .i64 Y, .int .i64 P, .int .i64 (W : Int), .int .i64 (H : Int), .int .i64 (n : Int)] := Blk.below (by exact bkw) hb (by first | omega | (simp; done) | (simp; omega))
  have c1_0 := k1_0.cell
  have f1_0 := k1_0.frozen
  have l1_0 := k1_0.lt
  have l1 := hB1.size
  clear hb
  go_wp2_with fail
  refine (C2.out w1 (HO.out.below hB1 (Nat.le_refl _)) (by intro b hb; simp at hb; subst hb; omega)).mono ?_
  rintro e w2 ⟨u1, u2, rfl, hg, hb⟩
  obtain ⟨q1, c1, rfl⟩ := hg.1.1.len
  obtain ⟨q2, c2, rfl⟩ := hg.2.len
  rw [List.length_map] at hg ⊢
  have kv := k1_0.below hb k1_0.lt
  have hB2 : Below w.heap.size w w2 := hB1.trans (hb.mono l1)
  have kM2 := HM.out.below hB2 lM
  obtain ⟨z, ez⟩ : ∃ z, w2.alloc (.cells #[.slice q1 (reachL ol).length c1, .slice q2 (reachL ol).length c2] 169) = z := ⟨_, rfl⟩
  have gz : GroupAt [M] z (.slice q1 (reachL ol).length c1) (.slice q2 (reachL ol).length c2) (reachL ol) := by rw [← ez]; exact hg.alloc _
  have vz : Blk z w.heap.size 27 #[.int .i64 X, .int .i64 Y, .int .i64 P, .int .i64 (W : Int), .int .i64 (H : Int), .int .i64 (n : Int)] := by rw [← ez]; exact kv.alloc _
  have bz : Blk z w2.heap.size 169 #[.slice q1 (reachL ol).length c1, .slice q2 (reachL ol).length c2] := by rw [← ez]; exact Blk.new _ _ _
  have mz : Blk z M 133 #[.int .i64 most, .int .i64 a0] := by rw [← ez]; exact kM2.alloc _
  have Bz : Below w.heap.size w z := by rw [← ez]; exact hB2.alloc hB2.size _
  have oz : Only [M] w z := (Only.refl _ _).below Bz (Nat.le_refl _)
  have OZ := Lib.hid oz
  have OSZ := Lib.hid Bz.size
  have cvz := vz.cell
  have lvz := vz.lt
  have ZZ := Lib.hid (And.intro gz (And.intro vz (And.intro bz (And.intro mz Bz))))
  have EZ := Lib.hid ez
  obtain ⟨bG, ebG⟩ : ∃ b, w2.heap.size = b := ⟨_, rfl⟩
  rw [ebG] at ZZ
  have hbz := Bz.size
  have hzN : i104.bytes * N ≤ 281474976710656 := by rw [HI.out.2.2.2]; omega
  have HZN := Lib.hid hzN
  clear hb hg kv hB2 kM2 k1_0 c1_0 f1_0 l1_0 gz vz bz mz Bz oz hB1 l1 ez hzN
  go_upto_region 4 with (fail)
  rw [EZ.out]
  (try simp only [ebG])
  clear ebG
  go_wp2_with (at_make; refine wpList_make_own _ rfl _ _ 66 rfl z.heap.size 75 i104 (.agg #[.int .i64 0, .int .i64 0]) 2 Tryz.underlying66 HI.out.1 HI.out.2.1 HI.out.2.2.1 .i64 .i64 _ N rfl rfl rfl HZN.out (by unfold maxLen; omega) (Nat.le_refl _) ?_)
  intro w4 hown hgrow
  have R4 : RIn z M most a0 [] z.heap.size N w4 := ⟨hown, ZZ.out.2.2.2.1.grown hgrow (by intro e; cases e), (Only.refl _ _).grown hgrow (by intro b hb; cases hb), Nat.le_refl _, own_lt hown rfl⟩
  have RR4 := Lib.hid R4
  have omz : ∀ w', Only [M] z w' → Blk w' w.heap.size 27 #[.int .i64 X, .int .i64 Y, .int .i64 P, .int .i64 (W : Int), .int .i64 (H : Int), .int .i64 (n : Int)] ∧ Blk w' bG 169 #[.slice q1 (reachL ol).length c1, .slice q2 (reachL ol).length c2] := fun w' o => ⟨o.blk ZZ.out.2.1 (by simpa using ZZ.out.2.1.ne_ ZZ.out.2.2.2.1 (by decide)), o.blk ZZ.out.2.2.1 (by simpa using ZZ.out.2.2.1.ne_ ZZ.out.2.2.2.1 (by decide))⟩
  have OMZ := Lib.hid omz
  have hMz : M < z.heap.size := ZZ.out.2.2.2.1.lt
  have v4 := (omz _ R4.om).1
  have cv4 := v4.cell
  have lv4 := v4.lt
  clear R4 omz hown hgrow cvz lvz v4
  go_wp2_with fail
  clear cv4 lv4
  go_loopw [9, 34] (fun rv i wr => ∃ y : Nat, i = .int .i64 (y : Int) ∧ y ≤ H ∧ ∃ acc a gv cv, rv = .slice (some ⟨gv, 0, none⟩) acc.length cv ∧ acc.length = y * W ∧ walkPx most n ((reachL ol).map (·.1)) (pxsOf X Y P W H) [] a0 = walkPx most n ((reachL ol).map (·.1)) ((pxsOf X Y P W H).drop (y * W)) acc a ∧ a0 ≤ a ∧ a ≤ a0 + 5461 * (acc.length : Int) ∧ RIn z M most a acc gv cv wr) (fun rv i wr => H - (intOf i).toNat)
  case atStart => exact ⟨0, rfl, Nat.zero_le _, [], a0, z.heap.size, N, rfl, by simp, by simp, by omega, by simp, RR4.out⟩
  case round =>
  obtain ⟨y, rfl, hy, acc, a, gv, cv, rfl, hac, hwk, ha0, ha1, hR⟩ := hrel
  by_cases hlt : y < H
  · have vr := (OMZ.out _ hR.om).1
    have cr := vr.cell
    have lr := vr.lt
    have hp0 := fun w => C3.out 0 (y : Int) w (by omega) (by omega) (by omega) (by omega)
    have hp1 := fun w => C3.out ((W : Int) - 1) (y : Int) w (by omega) (by omega) (by omega) (by omega)
    obtain ⟨r1, r2, r3, r4⟩ := rowB_ok HV.out hlt
    obtain ⟨RB, eRB⟩ : ∃ b, rowB X Y P W H (y : Int) = b := ⟨_, rfl⟩
    obtain ⟨b0, eb0⟩ : ∃ b, pxB X Y P H 0 (y : Int) = b := ⟨_, rfl⟩
    obtain ⟨b1, eb1⟩ : ∃ b, pxB X Y P H ((W : Int) - 1) (y : Int) = b := ⟨_, rfl⟩
    have erb : RB = ⟨b0.x0, b0.y0, b1.x1, b1.y1⟩ := by rw [← eRB, ← eb0, ← eb1]; rfl
    rw [eRB] at r1 r2 r3 r4
    rw [eb0] at hp0
    rw [eb1] at hp1
    obtain ⟨p0, p1, p2, p3⟩ := b0
    obtain ⟨p4, p5, p6, p7⟩ := b1
    simp only [] at erb
    subst erb
    simp only [] at r1 r2 r3 r4
    unfold bxC at hp0 hp1
    simp only [] at hp0 hp1
    have HP0 := Lib.hid hp0
    have HP1 := Lib.hid hp1
    have hnr := fun w hg hS => gnear_c [M, gv] (.slice q1 (reachL ol).length c1) (.slice q2 (reachL ol).length c2) (reachL ol) p0 p1 p6 p7 w r1.1 (by omega) r2.1 (by omega) (by omega) r1.2 (by omega) r2.2 r3 r4 hg hS HX.out.1 HX.out.2.1
    have CN := Lib.hid hnr
    have HR := Lib.hid hR
    have HAC := Lib.hid hac
    have HWK := Lib.hid hwk
    have HRB := Lib.hid eRB
    clear vr hp0 hp1 eRB eb0 eb1 hnr hR hac hwk r1 r2 r3 r4
    go_wp2_with fail
    refine (HP0.out _).mono ?_
    rintro e zA ⟨rfl, hb⟩
    have hA := HR.out.below hb
    have vA := (OMZ.out _ hA.om).1
    have cA := vA.cell
    have lA := vA.lt
    have HRA := Lib.hid hA
    clear hb hA vA cr lr
    go_wp2_with fail
    refine (HP1.out _).mono ?_
    rintro e zB ⟨rfl, hb⟩
    have kb : Blk zB zA.heap.size 70 #[.int .i64 p0, .int .i64 p1, .int .i64 p2, .int .i64 p3] := Blk.below (Blk.newAt (w := zA) rfl) hb (by simp)
    have hB := (HRA.out.alloc (.cells #[.int .i64 p0, .int .i64 p1, .int .i64 p2, .int .i64 p3] 70)).below hb
    have g5 := (OMZ.out _ hB.om).2
    have cG := g5.cell
    have lG := g5.lt
    have cb := kb.cell
    have lb := kb.lt
    have HRB2 := Lib.hid hB
    have hzz := hB.om.size
    clear hb hB g5 kb cA lA
    go_wp2_with fail
    refine (CN.out _ ((HRB2.out.group ZZ.out.1).alloc _) (HRB2.out.alloc _).lts).mono ?_
    rintro e zC ⟨s1, s2, rfl, hgr, hb⟩
    obtain ⟨t1, d1, rfl⟩ := hgr.1.1.len
    obtain ⟨t2, d2, rfl⟩ := hgr.2.len
    rw [List.length_map] at hgr ⊢
    obtain ⟨ys, eys⟩ : ∃ ys, near2 (reachL ol) ⟨p0, p1, p6, p7⟩ = ys := ⟨_, rfl⟩
    rw [eys] at hgr ⊢
    obtain ⟨ny, eny⟩ : ∃ n, ys.length = n := ⟨_, rfl⟩
    rw [eny] at hgr ⊢
    have hC := (HRB2.out.alloc (.cells #[.int .i64 p4, .int .i64 p5, .int .i64 p6, .int .i64 p7] 70)).below hb
    obtain ⟨bR, ebR⟩ : ∃ b, zC.heap.size = b := ⟨_, rfl⟩
    obtain ⟨zD, ezD⟩ : ∃ b, zC.alloc (.cells #[.slice t1 ny d1, .slice t2 ny d2] 169) = b := ⟨_, rfl⟩
    have hD : RIn z M most a acc gv cv zD := by rw [← ezD]; exact hC.alloc _
    have rD : Blk zD bR 169 #[.slice t1 ny d1, .slice t2 ny d2] := by rw [← ezD, ← ebR]; exact Blk.new _ _ _
    have gD : GroupAt [M, gv] zD (.slice t1 ny d1) (.slice t2 ny d2) ys := by rw [← ezD]; exact hgr.alloc _
    have vD := (OMZ.out _ hD.om).1
    have cD := vD.cell
    have lD := vD.lt
    have DD := Lib.hid (And.intro hD (And.intro rD gD))
    have EYS := Lib.hid eys
    have ENY := Lib.hid eny
    have EZD := Lib.hid ezD
    have EBR := Lib.hid ebR
    clear hb hC hgr eys eny ezD ebR hD rD gD vD cG lG cb lb
    go_upto_region 11 with (fail)
    rw [EZD.out]
    simp only [EBR.out]
    clear EZD EBR
    go_wp2_with fail
    go_loopw [9, 65] (fun rv i wr => ∃ x : Nat, i = .int .i64 (x : Int) ∧ x ≤ W ∧ ∃ acc a gv cv, rv = .slice (some ⟨gv, 0, none⟩) acc.length cv ∧ acc.length = y * W + x ∧ walkPx most n ((reachL ol).map (·.1)) (pxsOf X Y P W H) [] a0 = walkPx most n ((reachL ol).map (·.1)) ((pxsOf X Y P W H).drop (y * W + x)) acc a ∧ a0 ≤ a ∧ a ≤ a0 + 5461 * (acc.length : Int) ∧ RIn z M most a acc gv cv wr ∧ Blk wr bR 169 #[.slice t1 ny d1, .slice t2 ny d2] ∧ GroupAt [M, gv] wr (.slice t1 ny d1) (.slice t2 ny d2) ys) (fun rv i wr => W - (intOf i).toNat)
    case atStart => exact ⟨0, rfl, Nat.zero_le _, acc, a, gv, cv, rfl, by rw [Nat.add_zero]; exact HAC.out, by rw [Nat.add_zero]; exact HWK.out, ha0, ha1, DD.out.1, DD.out.2.1, DD.out.2.2⟩
    case round =>
    clear HR HRA HRB2 DD cD lD HAC HWK ha0 ha1
    obtain ⟨x, rfl, hxW, acc, a, gv, cv, rfl, hac, hwk, ha0, ha1, hR, hr, hg⟩ := hrel
    by_cases hxl : x < W
    · have vr := (OMZ.out _ hR.om).1
      have cr := vr.cell
      have lr := vr.lt
      have hpx := fun w => C3.out (x : Int) (y : Int) w (by omega) (by omega) (by omega) (by omega)
      have hpo := pxB_ok (x := (x : Int)) (y := (y : Int)) HV.out (by omega) (by omega) (by omega) (by omega)
      obtain ⟨q, eq⟩ : ∃ b, pxB X Y P H (x : Int) (y : Int) = b := ⟨_, rfl⟩
      rw [eq] at hpx hpo
      rw [pxs_drop X Y P W H x y hxl hlt, HRB.out, eq] at hwk
      obtain ⟨q0, q1, q2, q3⟩ := q
      unfold bxC at hpx
      simp only [] at hpx hpo
      have hPk : P = P / 2 ^ n * 2 ^ n := by
        have h9 := HV.out.m
        rw [HKN.out] at h9
        have h8 := Int.emod_add_mul_ediv P (2 ^ n)
        rw [h9, Int.zero_add, Int.mul_comm] at h8
        exact h8.symm
      have hPp : 1 ≤ P / 2 ^ n := by
        have h9 := HV.out.p0
        have hp2 : (0 : Int) < 2 ^ n := Int.pow_pos (by decide)
        rcases Int.lt_or_le 0 (P / 2 ^ n) with h | h
        · omega
        · have := Int.mul_nonneg (show 0 ≤ -(P / 2 ^ n) by omega) (Int.le_of_lt hp2)
          rw [Int.neg_mul] at this
          omega
      obtain ⟨r, k1, er⟩ : ∃ r k1, Geo.exam most n ((near2 ys ⟨q0, q1, q2, q3⟩).map (·.1)) ⟨q0, q1, q2, q3⟩ a = (r, k1) := ⟨_, _, rfl⟩
      have hst : walkPx most n ((reachL ol).map (·.1)) (pxsOf X Y P W H) [] a0 = (match (generalizing := false) r with | none => (none, k1) | some c => walkPx most n ((reachL ol).map (·.1)) ((pxsOf X Y P W H).drop (y * W + (x + 1))) (acc ++ [c]) k1) := by
        rw [hwk, walkPx]
        simp only []
        rw [← near2_map, EYS.out, ← near2_map, er]
        cases r <;> rfl
      obtain ⟨t1, t2, t3⟩ := exam_range most n _ _ _ _ _ er
      have hs5 := steps_le n (by omega)
      have hk1 : a + 1 ≤ k1 ∧ k1 ≤ a + 5461 := ⟨t1, by omega⟩
      obtain ⟨rl, rh, ecv⟩ : ∃ x y, covA r = #[.int .i64 x, .int .i64 y] := by
        cases r with
        | none => exact ⟨_, _, rfl⟩
        | some c => exact ⟨_, _, rfl⟩
      obtain ⟨ee, eee⟩ : ∃ x, covE r = x := ⟨_, rfl⟩
      have haN : acc.length ≤ 65536 := by
        have h7 := Nat.mul_le_mul_right W (show y + 1 ≤ H by omega)
        rw [Nat.add_mul, Nat.one_mul, Nat.mul_comm H W, EN.out] at h7
        omega
      have hgx : GOk ys := by rw [← EYS.out]; exact HX.out.near _
      have hex : ∀ v1 v2 w, GroupAt [M] w v1 v2 (near2 ys ⟨q0, q1, q2, q3⟩) → Blk w M 133 #[.int .i64 most, .int .i64 a] → Calls Tryz.prog 75 #[.agg #[v1, v2], .agg #[.int .i64 q0, .int .i64 q1, .int .i64 q2, .int .i64 q3], .int .i64 (n : Int), .pointer (some ⟨M, 0, none⟩)] w fun en w' => en = .returned (.tuple #[.agg #[.int .i64 rl, .int .i64 rh], .int .i64 ee]) ∧ Blk w' M 133 #[.int .i64 most, .int .i64 k1] ∧ Only [M] w w' := fun v1 v2 w hg hm => (exam_any most M n hn3 (near2 ys ⟨q0, q1, q2, q3⟩) v1 v2 q0 q1 q2 q3 (P / 2 ^ n) (P / 2 ^ n) a w hg (hgx.near _) hm (by omega) (by omega) (by omega) (by omega) (by omega) (by omega) (by rw [← hPk]; omega) (by rw [← hPk]; omega) hPp hPp).mono (by
        rintro en w' ⟨r', k1', e1, e2, e3, e4⟩
        rw [er] at e1
        simp only [Prod.mk.injEq] at e1
        obtain ⟨rfl, rfl⟩ := e1
        rw [ecv, eee] at e2
        exact ⟨e2, e3, e4⟩)
      have hp0 := HV.out.p0
      have hnr := fun S v1 v2 w hg hS => gnear_c S v1 v2 ys q0 q1 q2 q3 w (by omega) (by omega) (by omega) (by omega) (by omega) (by omega) (by omega) (by omega) (by omega) (by omega) hg hS hgx.1 hgx.2.1
      have CNQ := Lib.hid hnr
      have CX := Lib.hid hex
      have HPX := Lib.hid hpx
      have ER := Lib.hid (And.intro er (And.intro ecv eee))
      have HST := Lib.hid hst
      have HRI := Lib.hid hR
      have HRR := Lib.hid (And.intro hr hg)
      have HAC := Lib.hid hac
      have lMr : M < wr.heap.size := hR.km.lt
      clear vr hpx hpo eq hwk hPk hPp er hst t1 t2 t3 hs5 ecv eee hgx hex hnr hR hr hg hac
      go_wp2_with fail
      refine (HPX.out _).mono ?_
      rintro e zE ⟨rfl, hb⟩
      have hE := HRI.out.below hb
      have rE := HRR.out.1.below hb HRR.out.1.lt
      have gE := HRR.out.2.below hb (Nat.le_refl _)
      obtain ⟨v, ev⟩ : ∃ v, zE.alloc (.cells #[.int .i64 q0, .int .i64 q1, .int .i64 q2, .int .i64 q3] 70) = v := ⟨_, rfl⟩
      have hV : RIn z M most a acc gv cv v := by rw [← ev]; exact hE.alloc _
      have rV : Blk v bR 169 #[.slice t1 ny d1, .slice t2 ny d2] := by rw [← ev]; exact rE.alloc _
      have gV : GroupAt [M, gv] v (.slice t1 ny d1) (.slice t2 ny d2) ys := by rw [← ev]; exact gE.alloc _
      have kb : Blk v zE.heap.size 70 #[.int .i64 q0, .int .i64 q1, .int .i64 q2, .int .i64 q3] := by rw [← ev]; exact Blk.new _ _ _
      have vV := (OMZ.out _ hV.om).1
      have hnM : zE.heap.size ≠ M := kb.ne_ hV.km (by decide)
      have hKS : ∀ w', Only [M] v w' → (w'.cell? ⟨bR, 0, none⟩ = some (.slice t1 ny d1) ∧ w'.cell? ⟨bR, 1, none⟩ = some (.slice t2 ny d2) ∧ w'.cell? ⟨zE.heap.size, 0, none⟩ = some (.int .i64 q0) ∧ w'.cell? ⟨zE.heap.size, 1, none⟩ = some (.int .i64 q1) ∧ w'.cell? ⟨zE.heap.size, 2, none⟩ = some (.int .i64 q2) ∧ w'.cell? ⟨zE.heap.size, 3, none⟩ = some (.int .i64 q3) ∧ w'.cell? ⟨w.heap.size, 5, none⟩ = some (.int .i64 (n : Int)) ∧ Only [M] v w') := fun w' o => by
        have s1 := o.blk rV (by simpa using rV.ne_ hV.km (by decide))
        have s2 := o.blk kb (by simpa using hnM)
        have s3 := o.blk vV (by simpa using vV.ne_ hV.km (by decide))
        exact ⟨s1.cell 0, s1.cell 1, s2.cell 0, s2.cell 1, s2.cell 2, s2.cell 3, s3.cell 5, o⟩
      have hlE : zE.heap.size < v.heap.size := kb.lt
      have hlM : ∀ u : World, v.heap.size ≤ u.heap.size → ∀ b ∈ [M, gv], b < u.heap.size := fun u hu b hb => Nat.lt_of_lt_of_le (hV.lts b hb) hu
      have HKS := Lib.hid hKS
      have HVV := Lib.hid hV
      have HVR := Lib.hid (And.intro rV gV)
      have HLM := Lib.hid hlM
      have EV := Lib.hid ev
      clear ev hb hE rE gE hV rV gV kb vV hnM hKS hlM cr lr
      go_upto_region 15 with (fail)
      rw [EV.out]
      go_cut [19, 20] (fun pA eE wx => ∃ A, pA = .pointer (some ⟨A, 0, none⟩) ∧ eE = .int .i64 ee ∧ Blk wx A 75 #[.int .i64 rl, .int .i64 rh] ∧ Only [M] v wx ∧ Blk wx M 133 #[.int .i64 most, .int .i64 k1] ∧ v.heap.size ≤ A)
      case first =>
        go_region_held3 (fun w' => w'.cell? ⟨bR, 0, none⟩ = some (.slice t1 ny d1) ∧ w'.cell? ⟨bR, 1, none⟩ = some (.slice t2 ny d2) ∧ w'.cell? ⟨zE.heap.size, 0, none⟩ = some (.int .i64 q0) ∧ w'.cell? ⟨zE.heap.size, 1, none⟩ = some (.int .i64 q1) ∧ w'.cell? ⟨zE.heap.size, 2, none⟩ = some (.int .i64 q2) ∧ w'.cell? ⟨zE.heap.size, 3, none⟩ = some (.int .i64 q3) ∧ w'.cell? ⟨w.heap.size, 5, none⟩ = some (.int .i64 (n : Int)) ∧ Only [M] v w')
          (exact HKS.out _ (by exact onw))
          (first | (go_at_call 74; (with_reducible refine (CNQ.out [M, gv] _ _ _ (by first | exact HVR.out.2.drew | exact (HVR.out.2.alloc _).drew) (HLM.out _ (by first | (simp; done) | (simp; omega)))).mono ?_); rintro e zN ⟨t1, t2, rfl, ht1, hb⟩; have mN : Blk zN M 133 #[.int .i64 most, .int .i64 a] := (by first | exact HVV.out.drew.km.below hb (by first | (simp; done) | (have := HVV.out.km.lt; simp; omega)) | exact (HVV.out.alloc _).drew.km.below hb (by first | (simp; done) | (have := HVV.out.km.lt; simp; omega))); (try have kA := Lib.hid (Blk.below (show Blk (v.alloc (.cells #[.int .i64 0, .int .i64 0] 75)).drew v.heap.size 75 #[.int .i64 0, .int .i64 0] from (Blk.newAt rfl).drew) hb (by simp))); have TN := Lib.hid (GroupAt.more (S' := [M]) ht1 (fun b hb _ hm => hb (by simp at hm; simp [hm]))); have MN := Lib.hid mN; have onN : Only [M] v zN := (by first | exact (Only.refl _ _).drew.below hb (Nat.le_refl _) | exact (((Only.refl _ _).alloc _).drew).below hb (by simp)); have sN := onN.size; clear hb ht1 mN) | (go_at_call 75; (with_reducible refine (CX.out _ _ _ (by first | exact TN.out | exact TN.out.alloc _) (by first | exact MN.out | exact MN.out.alloc _)).mono ?_); rintro e zX ⟨rfl, hk9, ho⟩; (try have cA := ho.blk kA.out (by simpa using kA.out.ne_ MN.out (by decide))); (try have cA := ho.blk (show Blk (zN.alloc (.cells #[.int .i64 0, .int .i64 0] 75)) zN.heap.size 75 #[.int .i64 0, .int .i64 0] from Blk.newAt rfl) (by have := MN.out.lt; simp; omega)); (try have fA := cA.cell); (try have fB := cA.frozen); (try have fC := cA.lt); have KX := Lib.hid hk9; have onX : Only [M] v zX := (by first | exact onN.trans ho | exact (onN.alloc _).trans ho); have sX := onX.size; clear hk9 ho))
        all_goals
          have hlM := KX.out.lt
          have hMM : M < v.heap.size := HVV.out.km.lt
          go_wp2_with fail
          go_meet
          first
          | exact ⟨zX.heap.size, rfl, rfl, Blk.newAt rfl, onX.alloc _, KX.out.alloc _, sX⟩
          | exact ⟨zN.heap.size, rfl, rfl, (cA.set_ 0 _ rfl).set_ 1 _ rfl, (onX.setCell (p := ⟨zN.heap.size, 0, none⟩) (.inr (by simp; omega)) _).setCell (p := ⟨zN.heap.size, 1, none⟩) (.inr (by simp; omega)) _, (KX.out.far (by simp; omega) _).far (by simp; omega) _, sN⟩
          | exact ⟨v.heap.size, rfl, rfl, (cA.set_ 0 _ rfl).set_ 1 _ rfl, (onX.setCell (p := ⟨v.heap.size, 0, none⟩) (.inr (by simp)) _).setCell (p := ⟨v.heap.size, 1, none⟩) (.inr (by simp)) _, (KX.out.far (by simp; omega) _).far (by simp; omega) _, Nat.le_refl _⟩
      case rest =>
      obtain ⟨A, rfl, rfl, kA, oA, mA, hA⟩ := hcut
      have Rc := HVV.out.meter oA mA
      have rc := oA.blk HVR.out.1 (by simpa using HVR.out.1.ne_ HVV.out.km (by decide))
      have gc := HVR.out.2.only (oA.mono (by simp))
      have cA := kA.cell
      have lA := kA.lt
      have HRC := Lib.hid Rc
      have HRG := Lib.hid (And.intro rc gc)
      clear kA oA mA Rc rc gc HKS HLM
      cases r with
      | none =>
        obtain ⟨er, ecv, eee⟩ := ER.out
        simp only [covE] at eee
        subst eee
        have hres := HST.out
        simp only [] at hres
        have HRES := Lib.hid hres
        clear hres er ecv
        go_wp2_with fail
        go_ret2
        exact ⟨none, k1, HRES.out, HRC.out.km, OZ.out.trans HRC.out.om, rfl⟩
      | some cc =>
        obtain ⟨er, ecv, eee⟩ := ER.out
        simp only [covE] at eee
        subst eee
        obtain ⟨c1, c2⟩ := cc
        simp only [covA] at ecv
        obtain ⟨rfl, rfl⟩ : c1 = rl ∧ c2 = rh := by
          have e1 := congrArg (fun z : Array Value => z[0]?) ecv
          have e2 := congrArg (fun z : Array Value => z[1]?) ecv
          simp at e1 e2
          exact ⟨e1, e2⟩
        have hres := HST.out
        simp only [] at hres
        have HRES := Lib.hid hres
        have hN9 : ∀ j v, ([.int .i64 c1, .int .i64 c2] : List Value)[j]? = some v → (wc.alloc (.cells #[.int .i64 c1, .int .i64 c2] 75)).cell? ((⟨wc.heap.size, 0, none⟩ : Addr).add j) = some v :=
          World.news_of_block (cs := #[.int .i64 c1, .int .i64 c2]) (Blk.newAt (w := wc) rfl)
        have HN9 := Lib.hid hN9
        have HRZ := Lib.hid (HRC.out.alloc (.cells #[.int .i64 c1, .int .i64 c2] 75))
        have HGZ := Lib.hid (And.intro (HRG.out.1.alloc (.cells #[.int .i64 c1, .int .i64 c2] 75)) (HRG.out.2.alloc (.cells #[.int .i64 c1, .int .i64 c2] 75)))
        have hsz := HRZ.out.om.size
        have hb16 : (acc.length + 1) * 16 ≤ 140737488355328 := by omega
        have hmx : acc.length + 1 ≤ maxLen := by unfold maxLen; omega
        have HB16 := Lib.hid (And.intro hb16 (And.intro hmx hsz))
        clear hN9 hres er ecv hb16 hmx hsz
        go_wp2_with (at_builtin; refine wpList_append_lies _ rfl (.tmp 89) (.tmp 91) 66 rfl z.heap.size 75 i104 _ 2 16 Tryz.underlying66 HI.out.1 HI.out.2.1 HI.out.2.2.1 HI.out.2.2.2 hZ.out (by decide) (.slice (some ⟨gv, 0, none⟩) acc.length cv) acc.length (covC2 acc) (by simp [Act.eval]) HRZ.out.own ⟨wc.heap.size, 0, none⟩ 1 1 [.int .i64 c1, .int .i64 c2] (by simp [Act.eval]) rfl HN9.out (cov_one (c1, c2)) (by decide) HB16.out.2.1 HB16.out.1 HB16.out.2.2 _ rfl ?_)
        intro gn cn zY hown hgrow hat hlt2
        have hge : z.heap.size ≤ gn := by
          rcases hat with h | h
          · have := HRZ.out.ge
            simp [Value.ownBlock] at h
            omega
          · have := HRZ.out.om.size
            rw [h]
            first | exact this | simpa using this
        have Ry : RIn z M most k1 (acc ++ [(c1, c2)]) gn cn zY := HRZ.out.put hgrow hown hlt2 hge
        have hoB : gn = gv ∨ (wc.alloc (.cells #[.int .i64 c1, .int .i64 c2] 75)).heap.size ≤ gn := by
          rcases hat with h | h
          · left
            simp [Value.ownBlock] at h
            exact h.symm
          · right
            rw [h]
            first | exact Nat.le_refl _ | (simp; done)
        have gy : GroupAt [M, gn] zY (.slice t1 ny d1) (.slice t2 ny d2) ys := HRZ.out.row hgrow hoB HGZ.out.2
        have ry : Blk zY bR 169 #[.slice t1 ny d1, .slice t2 ny d2] := HGZ.out.1.grown hgrow (by
          have := own_blk_ne HRZ.out.own HGZ.out.1 (by decide)
          exact fun e => this e.symm)
        have RY := Lib.hid Ry
        have GY := Lib.hid (And.intro ry gy)
        clear hown hgrow hat hlt2 hge Ry hoB gy ry HRZ HGZ HN9 cA lA
        go_wp2_with fail
        go_roundw
        case rel =>
          have hr2 : ∃ x' : Nat, Value.int .i64 ((x : Int) + 1) = .int .i64 (x' : Int) ∧ x' ≤ W ∧ ∃ acc' a' gv' cv', Value.slice (some ⟨gn, 0, none⟩) (acc.length + 1) cn = .slice (some ⟨gv', 0, none⟩) acc'.length cv' ∧ acc'.length = y * W + x' ∧ walkPx most n ((reachL ol).map (·.1)) (pxsOf X Y P W H) [] a0 = walkPx most n ((reachL ol).map (·.1)) ((pxsOf X Y P W H).drop (y * W + x')) acc' a' ∧ a0 ≤ a' ∧ a' ≤ a0 + 5461 * (acc'.length : Int) ∧ RIn z M most a' acc' gv' cv' zY ∧ Blk zY bR 169 #[.slice t1 ny d1, .slice t2 ny d2] ∧ GroupAt [M, gv'] zY (.slice t1 ny d1) (.slice t2 ny d2) ys :=
            ⟨x + 1, by go_num, by omega, acc ++ [(c1, c2)], k1, gn, cn, by simp, by rw [List.length_append, List.length_singleton, HAC.out]; omega, HRES.out, by omega, by rw [List.length_append, List.length_singleton]; omega, RY.out, GY.out.1, GY.out.2⟩
          first | exact hr2 | ((repeat apply Exists.intro); exact ⟨hr2, rfl⟩)
        case measure => simp [intOf]; omega
    · have exW : x = W := by omega
      subst x
      have vr := (OMZ.out _ hR.om).1
      have cr := vr.cell
      have lr := vr.lt
      have HRI := Lib.hid hR
      have ey : y * W + W = (y + 1) * W := by rw [Nat.add_mul, Nat.one_mul]
      rw [ey] at hac hwk
      have HAC := Lib.hid hac
      have HWK := Lib.hid hwk
      clear vr hR hr hg hac hwk ey
      go_wp2_with fail
      go_roundw
      case rel =>
        have hr2 : ∃ y' : Nat, Value.int .i64 ((y : Int) + 1) = .int .i64 (y' : Int) ∧ y' ≤ H ∧ ∃ acc' a' gv' cv', (.slice (some ⟨gv, 0, none⟩) acc.length cv : Value) = .slice (some ⟨gv', 0, none⟩) acc'.length cv' ∧ acc'.length = y' * W ∧ walkPx most n ((reachL ol).map (·.1)) (pxsOf X Y P W H) [] a0 = walkPx most n ((reachL ol).map (·.1)) ((pxsOf X Y P W H).drop (y' * W)) acc' a' ∧ a0 ≤ a' ∧ a' ≤ a0 + 5461 * (acc'.length : Int) ∧ RIn z M most a' acc' gv' cv' wr :=
          ⟨y + 1, by go_num, by omega, acc, a, gv, cv, rfl, HAC.out, HWK.out, ha0, ha1, HRI.out⟩
        first | exact hr2 | ((repeat apply Exists.intro); exact ⟨hr2, rfl⟩)
      case measure => simp [intOf]; omega
  · have eyH : y = H := by omega
    subst y
    have hd : (pxsOf X Y P W H).drop (H * W) = [] := List.drop_eq_nil_of_le (by rw [pxs_len, Nat.mul_comm]; exact Nat.le_refl _)
    rw [hd, walkPx] at hwk
    have HWK := Lib.hid hwk
    have HRI := Lib.hid hR
    have HAC := Lib.hid hac
    clear hd hwk hR hac
    go_wp2_with fail
    go_ret2
    exact ⟨some acc, a, HWK.out, HRI.out.km, OZ.out.trans HRI.out.om, gv, cv, rfl, by rw [HAC.out, Nat.mul_comm], own_base HRI.out.own OSZ.out⟩
end Go.Proofs.YtfajckkbinbpiaaGreatDoor
