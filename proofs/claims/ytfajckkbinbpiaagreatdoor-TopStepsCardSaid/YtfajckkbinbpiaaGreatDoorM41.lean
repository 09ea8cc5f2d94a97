/- Walks: what a layer holds. Walks: the group of the one object. -/
import Derived.Test.YtfajckkbinbpiaaGreatDoorM40
import Derived.Test.YtfajckkbinbpiaaGreatDoorM24
namespace Go.Proofs.YtfajckkbinbpiaaGreatDoor
open Go.RowKit
set_option linter.unusedVariables false
set_option linter.unusedSimpArgs false

set_option maxRecDepth 100000 in
set_option maxHeartbeats 4000000 in
theorem objects_c (L : Nat) (w : World) (hL : Blk w L 199 #[.string { data := #[37, 70, 83, 76, 65, 88, 50, 52, 89, 50, 52, 42, 37, 37, 77, 79, 77, 77, 42, 37, 37, 65, 68, 68, 49, 48, 82, 44, 52, 88, 52, 42, 37, 68, 49, 48, 42, 88, 48, 89, 48, 68, 48, 51, 42, 77, 48, 50, 42] }, .int .i64 10, .int .u32 0, .int .i32 0, .int .u32 0, .int .i32 0, .slice none 0 0, .int .i64 0, .int .i64 0]) :
    Calls Tryz.prog 56 #[.pointer (some ⟨L, 0, none⟩)] w fun e w' => ∃ u1 gl gp cp, e = .returned (.tuple #[u1, .int .i64 0, .int .i64 0]) ∧ ObR w' u1 gl 1 gp cp ∧ Only [L] w w' := by
  have lL := hL.lt
  obtain ⟨v, ev⟩ : ∃ v, w.alloc (.cells #[.pointer (some ⟨L, 0, none⟩)] 134) = v := ⟨_, rfl⟩
  have kv : Blk v L 199 #[.string { data := #[37, 70, 83, 76, 65, 88, 50, 52, 89, 50, 52, 42, 37, 37, 77, 79, 77, 77, 42, 37, 37, 65, 68, 68, 49, 48, 82, 44, 52, 88, 52, 42, 37, 68, 49, 48, 42, 88, 48, 89, 48, 68, 48, 51, 42, 77, 48, 50, 42] }, .int .i64 10, .int .u32 0, .int .i32 0, .int .u32 0, .int .i32 0, .slice none 0 0, .int .i64 0, .int .i64 0] := by rw [← ev]; exact hL.alloc _
  have kq : Blk v w.heap.size 134 #[.pointer (some ⟨L, 0, none⟩)] := by rw [← ev]; exact Blk.newAt rfl
  have ov : Only [L] w v := by rw [← ev]; exact (Only.refl _ _).alloc _
  have hne : w.heap.size ≠ L := by omega
  have HO := Lib.hid (once_c L w.heap.size v kv (kq.cell 0) hne)
  have cq := kq.cell
  have lq := kq.lt
  have KQ := Lib.hid kq
  have OV := Lib.hid ov
  have EV := Lib.hid ev
  have HLS := Lib.hid less_sq
  clear hL kv kq ov ev
  go_enter Tryz.func56, Tryz.ntmps56
  go_wp2_with fail
  rw [EV.out]
  go_wp2_with fail
  refine (HO.out).mono ?_
  rintro e z ⟨rfl, g, cap, gl, gp, cp, hk, ho, hon⟩
  have jq := hon.blk KQ.out (by simpa using hne)
  have z0 : z.cell? ⟨w.heap.size, 0, none⟩ = some (.pointer (some ⟨L, 0, none⟩)) := jq.cell 0
  have z6 : z.cell? ⟨L, 6, none⟩ = some (.slice (some ⟨g, 0, none⟩) 1 cap) := hk.cell 6
  have z7 : z.cell? ⟨L, 7, none⟩ = some (.int .i64 0) := hk.cell 7
  have z8 : z.cell? ⟨L, 8, none⟩ = some (.int .i64 0) := hk.cell 8
  have lz := jq.lt
  have lz2 := hk.lt
  have HZ := Lib.hid ho
  have OZ := Lib.hid (OV.out.trans hon)
  clear jq hk ho hon cq lq
  go_wp2_with fail
  go_region_held3 (fun w' => w'.cell? ⟨w.heap.size, 0, none⟩ = some (.pointer (some ⟨L, 0, none⟩)) ∧ w'.cell? ⟨L, 6, none⟩ = some (.slice (some ⟨g, 0, none⟩) 1 cap) ∧ w'.cell? ⟨L, 7, none⟩ = some (.int .i64 0) ∧ w'.cell? ⟨L, 8, none⟩ = some (.int .i64 0))
    (first | exact ⟨z0, z6, z7, z8⟩ | exact ⟨y0, y6, y7, y8⟩)
    (first | (go_at_call 57; (with_reducible refine (HLS.out _ gl 1 gp cp z.drew HZ.out.drew).mono ?_); rintro e y ⟨u1, gl2, gp2, cp2, rfl, ho2, hb⟩; have y0 := (hb.cell (p := ⟨w.heap.size, 0, none⟩) lz).trans z0; have y6 := (hb.cell (p := ⟨L, 6, none⟩) lz2).trans z6; have y7 := (hb.cell (p := ⟨L, 7, none⟩) lz2).trans z7; have y8 := (hb.cell (p := ⟨L, 8, none⟩) lz2).trans z8; have HY := Lib.hid ho2; have OY := Lib.hid (OZ.out.drew.below hb OZ.out.size); clear ho2 hb))
  all_goals
    go_wp2_with fail
    go_ret3
    exact ⟨u1, gl2, gp2, cp2, rfl, HY.out, OY.out⟩
end Go.Proofs.YtfajckkbinbpiaaGreatDoor
namespace Go.Proofs.YtfajckkbinbpiaaGreatDoor
open Go.RowKit
set_option linter.unusedVariables false
set_option linter.unusedSimpArgs false

set_option maxRecDepth 100000 in
set_option maxHeartbeats 4000000 in
theorem hasBar_x (p : Option Addr) (m c : Nat) (w : World) :
    Calls Tryz.prog 113 #[.agg #[.int .i64 2, .int .i64 0, .int .i64 0, .int .i64 0, .int .i64 0, .int .i64 0, .int .i64 0, .int .i64 0, .slice p m c, .slice none 0 0]] w fun e w' => e = .returned (.bool false) ∧ w' = w.alloc (.cells #[.int .i64 2, .int .i64 0, .int .i64 0, .int .i64 0, .int .i64 0, .int .i64 0, .int .i64 0, .int .i64 0, .slice p m c, .slice none 0 0] 62) := by
  go_enter Tryz.func113, Tryz.ntmps113
  go_wp2_with fail
  refine wp_loop_rounds 1 ?_
  rw [rounds_succ]
  go_wp2_with fail
  go_ret
  exact ⟨rfl, rfl⟩
set_option maxRecDepth 100000 in
set_option maxHeartbeats 8000000 in
theorem reach_sq (v1 : Value) (gl cl gp cp : Nat) (w : World) (hO : ObR w v1 gl cl gp cp) :
    Calls Tryz.prog 72 #[v1] w fun e w' => ∃ u1 u2, e = .returned (.agg #[u1, u2]) ∧ ObR w' u1 gl cl gp cp ∧ ExR w' u2 ∧ Below w.heap.size w w' := by
  have lgl := hO.2.lt1
  have lgp := hO.2.lt2
  obtain ⟨g1, cap1, rfl, lg1, a0_, a1_, a2_, a3_, a4_, a5_, a6_, a7_, a8_, a9_, a10_⟩ := hO.form
  have HO := Lib.hid hO
  clear hO
  obtain ⟨i48, hi48, hz0, hz1, hz2⟩ := info_parts info48
  have HI := Lib.hid (And.intro hi48 (And.intro hz0 (And.intro hz1 hz2)))
  have hZ : Hid ((Value.agg #[.bool false, .int .i64 0, .int .i64 0, .int .i64 0, .int .i64 0, .int .i64 0, .int .i64 0, .int .i64 0, .int .i64 0, .slice none 0 0, .slice none 0 0]).cells.size = 11) := Lib.hid (by kernel_rfl)
  obtain ⟨i251, hi251, he0, he1, he2⟩ := info_parts info251
  have HJ := Lib.hid (And.intro hi251 (And.intro he0 (And.intro he1 he2)))
  have hY : Hid ((Value.agg #[.int .i64 0, .int .i64 0, .int .i64 0, .int .i64 0, .bool false]).cells.size = 5) := Lib.hid (by kernel_rfl)
  clear hi48 hz0 hz1 hz2 hi251 he0 he1 he2
  have HB := Lib.hid hasBar_x
  go_enter Tryz.func72, Tryz.ntmps72
  go_wp2_with fail
  obtain ⟨u0, eu⟩ : ∃ u, (w.alloc (.cells #[.slice none 0 0, .slice none 0 0] 169)).alloc (.cells #[.slice none 0 0, .slice none 0 0] 169) = u := ⟨_, rfl⟩
  have B0 : Below w.heap.size w u0 := by rw [← eu]; (repeat' (first | (with_reducible exact Below.refl _ _) | (with_reducible assumption) | (with_reducible refine below_drewN ?_ _) | (with_reducible refine Below.drew ?_) | (with_reducible refine Below.alloc ?_ ?_ _) | (with_reducible refine Below.setCell ?_ ?_ _) | omega | (simp; done) | (simp; omega)))
  have kP : Blk u0 w.heap.size 169 #[.slice none 0 0, .slice none 0 0] := by rw [← eu]; (repeat' (first | (with_reducible assumption) | (with_reducible exact Blk.new _ _ _) | (exact Blk.newAt (by first | rfl | (simp; done) | omega)) | (with_reducible refine Blk.drewN ?_ _) | (with_reducible refine Blk.drew ?_) | (with_reducible refine Blk.alloc ?_ _) | (with_reducible apply Blk.set_) | (with_reducible refine Blk.far ?_ ?_ _) | rfl | omega | (simp; done) | (simp; omega)))
  have kr : Blk u0 (w.heap.size + 1) 169 #[.slice none 0 0, .slice none 0 0] := by rw [← eu]; (repeat' (first | (with_reducible assumption) | (with_reducible exact Blk.new _ _ _) | (exact Blk.newAt (by first | rfl | (simp; done) | omega)) | (with_reducible refine Blk.drewN ?_ _) | (with_reducible refine Blk.drew ?_) | (with_reducible refine Blk.alloc ?_ _) | (with_reducible apply Blk.set_) | (with_reducible refine Blk.far ?_ ?_ _) | rfl | omega | (simp; done) | (simp; omega)))
  have s0 := HO.out.below B0 (Nat.le_refl _)
  obtain ⟨_, _, hq1, lg1', e0_, e1_, e2_, e3_, e4_, e5_, e6_, e7_, e8_, e9_, e10_⟩ := s0.form
  injection hq1 with hq1 hq2 hq3
  injection hq1 with hq1
  injection hq1 with hq1
  subst hq1 hq3
  have b0s := B0.size
  have lP := kP.lt
  have lr := kr.lt
  rw [eu]
  clear eu a0_ a1_ a2_ a3_ a4_ a5_ a6_ a7_ a8_ a9_ a10_
  refine wp_loop_rounds 2 ?_
  rw [rounds_succ]
  go_wp2_with fail
  refine (Bounds_sq gl cl gp cp _ (s0.2.alloc (.cells #[.bool true, .int .i64 2, .int .i64 0, .int .i64 0, .int .i64 0, .int .i64 0, .int .i64 0, .int .i64 0, .int .i64 0, .slice (some ⟨gl, 0, none⟩) 1 cl, .slice none 0 0] 65))).mono ?_
  rintro e w1 ⟨rfl, hb⟩
  have s1 := (s0.alloc (.cells #[.bool true, .int .i64 2, .int .i64 0, .int .i64 0, .int .i64 0, .int .i64 0, .int .i64 0, .int .i64 0, .int .i64 0, .slice (some ⟨gl, 0, none⟩) 1 cl, .slice none 0 0] 65)).below hb (Nat.le_refl _)
  have jP := (kP.alloc (.cells #[.bool true, .int .i64 2, .int .i64 0, .int .i64 0, .int .i64 0, .int .i64 0, .int .i64 0, .int .i64 0, .int .i64 0, .slice (some ⟨gl, 0, none⟩) 1 cl, .slice none 0 0] 65)).below hb (by simp; omega)
  have jr := (kr.alloc (.cells #[.bool true, .int .i64 2, .int .i64 0, .int .i64 0, .int .i64 0, .int .i64 0, .int .i64 0, .int .i64 0, .int .i64 0, .slice (some ⟨gl, 0, none⟩) 1 cl, .slice none 0 0] 65)).below hb (by simp; omega)
  have jo : Blk w1 u0.heap.size 65 #[.bool true, .int .i64 2, .int .i64 0, .int .i64 0, .int .i64 0, .int .i64 0, .int .i64 0, .int .i64 0, .int .i64 0, .slice (some ⟨gl, 0, none⟩) 1 cl, .slice none 0 0] := (Blk.newAt (w := u0) rfl).below hb (by simp)
  have hB1 : Below w.heap.size w w1 := (B0.alloc b0s (.cells #[.bool true, .int .i64 2, .int .i64 0, .int .i64 0, .int .i64 0, .int .i64 0, .int .i64 0, .int .i64 0, .int .i64 0, .slice (some ⟨gl, 0, none⟩) 1 cl, .slice none 0 0] 65)).trans (hb.mono (by simp; omega))
  have n9 : ¬ u0.heap.size = w.heap.size + 1 := by omega
  have c2 := jr.cell
  have f2 := jr.frozen
  have l2 := jr.lt
  have c3 := jo.cell
  have l3 := jo.lt
  have lw1 := hB1.size
  have n10 : ¬ w1.heap.size = w.heap.size + 1 := by omega
  have hN : ∀ j v, ([.bool true, .int .i64 2, .int .i64 0, .int .i64 0, .int .i64 0, .int .i64 0, .int .i64 0, .int .i64 0, .int .i64 0, .slice (some ⟨gl, 0, none⟩) 1 cl, .slice none 0 0] : List Value)[j]? = some v → ((w1.alloc (.cells #[.int .i64 (-20000000), .int .i64 (-20000000), .int .i64 20000000, .int .i64 20000000] 70)).alloc (.cells #[.bool true, .int .i64 2, .int .i64 0, .int .i64 0, .int .i64 0, .int .i64 0, .int .i64 0, .int .i64 0, .int .i64 0, .slice (some ⟨gl, 0, none⟩) 1 cl, .slice none 0 0] 65)).cell? ((⟨w1.heap.size + 1, 0, none⟩ : Addr).add j) = some v :=
    World.news_of_block (cs := #[.bool true, .int .i64 2, .int .i64 0, .int .i64 0, .int .i64 0, .int .i64 0, .int .i64 0, .int .i64 0, .int .i64 0, .slice (some ⟨gl, 0, none⟩) 1 cl, .slice none 0 0]) (Blk.newAt (w := w1.alloc (.cells #[.int .i64 (-20000000), .int .i64 (-20000000), .int .i64 20000000, .int .i64 20000000] 70)) (by simp))
  have HN := Lib.hid hN
  have KP := Lib.hid jP
  have KR := Lib.hid jr
  have KO := Lib.hid jo
  have S1 := Lib.hid s1
  clear hN hb s0 s1 kP kr jP jr jo e0_ e1_ e2_ e3_ e4_ e5_ e6_ e7_ e8_ e9_ e10_
  go_wp2_with (at_builtin; refine wpList_append_lies _ rfl (.tmp 22) (.tmp 24) 47 rfl 0 65 i48 _ 11 120 Tryz.underlying47 HI.out.1 HI.out.2.1 HI.out.2.2.1 HI.out.2.2.2 hZ.out (by decide) (.slice none 0 0) 0 [] (by simp [Act.eval]) (World.ownsRow_nil _ _ _ _) ⟨w1.heap.size + 1, 0, none⟩ 1 1 [.bool true, .int .i64 2, .int .i64 0, .int .i64 0, .int .i64 0, .int .i64 0, .int .i64 0, .int .i64 0, .int .i64 0, .slice (some ⟨gl, 0, none⟩) 1 cl, .slice none 0 0] (by simp [Act.eval]) rfl HN.out ob1 (by decide) (by decide) (by decide) (Nat.zero_le _) _ rfl ?_)
  intro q cq w3 hown hgrow hat hlt
  have hS3 : SqAt w3 gl gp cp := ((S1.out.2.alloc (.cells #[.int .i64 (-20000000), .int .i64 (-20000000), .int .i64 20000000, .int .i64 20000000] 70)).alloc (.cells #[.bool true, .int .i64 2, .int .i64 0, .int .i64 0, .int .i64 0, .int .i64 0, .int .i64 0, .int .i64 0, .int .i64 0, .slice (some ⟨gl, 0, none⟩) 1 cl, .slice none 0 0] 65)).grown hgrow (by simp [Value.ownBlock]) (by simp [Value.ownBlock])
  have p3 := ((KP.out.alloc (.cells #[.int .i64 (-20000000), .int .i64 (-20000000), .int .i64 20000000, .int .i64 20000000] 70)).alloc (.cells #[.bool true, .int .i64 2, .int .i64 0, .int .i64 0, .int .i64 0, .int .i64 0, .int .i64 0, .int .i64 0, .int .i64 0, .slice (some ⟨gl, 0, none⟩) 1 cl, .slice none 0 0] 65)).grown hgrow (by simp [Value.ownBlock])
  have r3 := ((KR.out.alloc (.cells #[.int .i64 (-20000000), .int .i64 (-20000000), .int .i64 20000000, .int .i64 20000000] 70)).alloc (.cells #[.bool true, .int .i64 2, .int .i64 0, .int .i64 0, .int .i64 0, .int .i64 0, .int .i64 0, .int .i64 0, .int .i64 0, .slice (some ⟨gl, 0, none⟩) 1 cl, .slice none 0 0] 65)).grown hgrow (by simp [Value.ownBlock])
  have o3 := ((KO.out.alloc (.cells #[.int .i64 (-20000000), .int .i64 (-20000000), .int .i64 20000000, .int .i64 20000000] 70)).alloc (.cells #[.bool true, .int .i64 2, .int .i64 0, .int .i64 0, .int .i64 0, .int .i64 0, .int .i64 0, .int .i64 0, .int .i64 0, .slice (some ⟨gl, 0, none⟩) 1 cl, .slice none 0 0] 65)).grown hgrow (by simp [Value.ownBlock])
  have k3 : Blk w3 w1.heap.size 70 #[.int .i64 (-20000000), .int .i64 (-20000000), .int .i64 20000000, .int .i64 20000000] := ((Blk.newAt (w := w1) rfl).alloc (.cells #[.bool true, .int .i64 2, .int .i64 0, .int .i64 0, .int .i64 0, .int .i64 0, .int .i64 0, .int .i64 0, .int .i64 0, .slice (some ⟨gl, 0, none⟩) 1 cl, .slice none 0 0] 65)).grown hgrow (by simp [Value.ownBlock])
  have hb2x : Below w.heap.size w ((w1.alloc (.cells #[.int .i64 (-20000000), .int .i64 (-20000000), .int .i64 20000000, .int .i64 20000000] 70)).alloc (.cells #[.bool true, .int .i64 2, .int .i64 0, .int .i64 0, .int .i64 0, .int .i64 0, .int .i64 0, .int .i64 0, .int .i64 0, .slice (some ⟨gl, 0, none⟩) 1 cl, .slice none 0 0] 65)) := by (repeat' (first | (with_reducible exact Below.refl _ _) | (with_reducible assumption) | (with_reducible refine below_drewN ?_ _) | (with_reducible refine Below.drew ?_) | (with_reducible refine Below.alloc ?_ ?_ _) | (with_reducible refine Below.setCell ?_ ?_ _) | omega | (simp; done) | (simp; omega)))
  have hB3 : Below w.heap.size w w3 := Below.grown hb2x hgrow (by simp; omega) (by simp [Value.ownBlock])
  have c4 := r3.cell
  have f4 := r3.frozen
  have l4 := r3.lt
  have HOW := Lib.hid hown
  have HS3 := Lib.hid hS3
  have HP3 := Lib.hid p3
  have HR3 := Lib.hid r3
  have HO3 := Lib.hid o3
  have HK3 := Lib.hid k3
  have HQ3 := Lib.hid (And.intro r3 p3)
  have HB3 := Lib.hid hB3
  have HLT := Lib.hid hlt
  clear hown hS3 p3 r3 o3 k3 hb2x hB3 hgrow hat hlt c2 f2 l2 c3 l3
  go_upto_region 8 with (fail)
  obtain ⟨x, ex⟩ : ∃ x, w3.setCell ⟨w.heap.size + 1, 0, none⟩ (.slice (some ⟨q, 0, none⟩) 1 cq) = x := ⟨_, rfl⟩
  have kx : Blk x (w.heap.size + 1) 169 #[.slice (some ⟨q, 0, none⟩) 1 cq, .slice none 0 0] := by rw [← ex]; exact HR3.out.set_ 0 _ rfl
  have px : Blk x (w.heap.size) 169 #[.slice none 0 0, .slice none 0 0] := by rw [← ex]; exact HP3.out.far (by simp) _
  have ox : Blk x u0.heap.size 65 #[.bool true, .int .i64 2, .int .i64 0, .int .i64 0, .int .i64 0, .int .i64 0, .int .i64 0, .int .i64 0, .int .i64 0, .slice (some ⟨gl, 0, none⟩) 1 cl, .slice none 0 0] := by rw [← ex]; exact HO3.out.far (by simpa using n9) _
  have bx : Blk x w1.heap.size 70 #[.int .i64 (-20000000), .int .i64 (-20000000), .int .i64 20000000, .int .i64 20000000] := by rw [← ex]; exact HK3.out.far (by simpa using n10) _
  have Ox : Only [w.heap.size + 1, w.heap.size] w3 x := by rw [← ex]; exact (Only.refl _ _).setCell (by simp) _
  have c5 := kx.cell
  have f5 := kx.frozen
  have l5 := kx.lt
  have l5b : w.heap.size + 1 < x.heap.size + 1 := by omega
  have c6 := ox.cell
  have l6 := ox.lt
  have c7 := bx.cell
  have l7 := bx.lt
  have hN2 : ∀ j v, ([.int .i64 (-20000000), .int .i64 (-20000000), .int .i64 20000000, .int .i64 20000000, .bool false] : List Value)[j]? = some v → (((x.alloc (.cells #[.int .i64 2, .int .i64 0, .int .i64 0, .int .i64 0, .int .i64 0, .int .i64 0, .int .i64 0, .int .i64 0, .slice (some ⟨gl, 0, none⟩) 1 cl, .slice none 0 0] 62)).alloc (.cells #[.int .i64 (-20000000), .int .i64 (-20000000), .int .i64 20000000, .int .i64 20000000, .bool false] 224)).drew).cell? ((⟨x.heap.size + 1, 0, none⟩ : Addr).add j) = some v :=
    World.news_of_block (cs := #[.int .i64 (-20000000), .int .i64 (-20000000), .int .i64 20000000, .int .i64 20000000, .bool false]) (Blk.newAt (w := x.alloc (.cells #[.int .i64 2, .int .i64 0, .int .i64 0, .int .i64 0, .int .i64 0, .int .i64 0, .int .i64 0, .int .i64 0, .slice (some ⟨gl, 0, none⟩) 1 cl, .slice none 0 0] 62)) (by simp))
  have HN2 := Lib.hid hN2
  have HX := Lib.hid (And.intro kx (And.intro px (And.intro ox bx)))
  have HOX := Lib.hid Ox
  rw [ex]
  clear ex kx px ox bx Ox hN2 c4 f4 l4 HR3 HP3 HO3 HK3
  go_region_law (first | (refine step_append_lies _ rfl (.tmp 28) (.tmp 34) 167 rfl 0 224 i251 _ 5 40 Tryz.underlying167 HJ.out.1 HJ.out.2.1 HJ.out.2.2.1 HJ.out.2.2.2 hY.out (by decide) (.slice none 0 0) 0 [] (by simp [Act.eval, Act.put]) (World.ownsRow_nil _ _ _ _) ⟨x.heap.size + 1, 0, none⟩ 1 1 [.int .i64 (-20000000), .int .i64 (-20000000), .int .i64 20000000, .int .i64 20000000, .bool false] (by simp [Act.eval, Act.put]) rfl HN2.out ex1 (by decide) (by decide) (by decide) (Nat.zero_le _) _ rfl ?_; intro q2 cq2 w4 hown2 hgrow2 hat2 hlt2; have r4 := ((HX.out.1.alloc (.cells #[.int .i64 2, .int .i64 0, .int .i64 0, .int .i64 0, .int .i64 0, .int .i64 0, .int .i64 0, .int .i64 0, .slice (some ⟨gl, 0, none⟩) 1 cl, .slice none 0 0] 62)).alloc (.cells #[.int .i64 (-20000000), .int .i64 (-20000000), .int .i64 20000000, .int .i64 20000000, .bool false] 224)).drew.grown hgrow2 (by simp [Value.ownBlock]); have c8 := r4.cell; have f8 := r4.frozen; have l8 := r4.lt) | (go_simp; go_at_call 113; (with_reducible refine (HB.out _ _ _ _).mono ?_); rintro e w' ⟨rfl, rfl⟩))
  all_goals
    have p4 := ((HX.out.2.1.alloc (.cells #[.int .i64 2, .int .i64 0, .int .i64 0, .int .i64 0, .int .i64 0, .int .i64 0, .int .i64 0, .int .i64 0, .slice (some ⟨gl, 0, none⟩) 1 cl, .slice none 0 0] 62)).alloc (.cells #[.int .i64 (-20000000), .int .i64 (-20000000), .int .i64 20000000, .int .i64 20000000, .bool false] 224)).drew.grown hgrow2 (by simp [Value.ownBlock])
    have O4 : Only [w.heap.size + 1, w.heap.size] w3 w4 := (((HOX.out.alloc (.cells #[.int .i64 2, .int .i64 0, .int .i64 0, .int .i64 0, .int .i64 0, .int .i64 0, .int .i64 0, .int .i64 0, .slice (some ⟨gl, 0, none⟩) 1 cl, .slice none 0 0] 62)).alloc (.cells #[.int .i64 (-20000000), .int .i64 (-20000000), .int .i64 20000000, .int .i64 20000000, .bool false] 224)).drew).grown hgrow2 (by intro b hb; simp [Value.ownBlock] at hb)
    have c9 := p4.cell
    have f9 := p4.frozen
    have l9 := p4.lt
    have HOW2 := Lib.hid hown2
    have HP4 := Lib.hid p4
    have HR4 := Lib.hid r4
    clear hown2 hgrow2 hat2 hlt2 r4 p4 c5 f5 l5 l5b c6 l6 c7 l7
    go_wp2_with fail
    rw [rounds_succ]
    go_wp2_with fail
    have OF : Only [w.heap.size + 1, w.heap.size] w3 _ := ((O4.setCell (p := ⟨w.heap.size + 1, 1, none⟩) (by simp) (.slice (some ⟨q2, 0, none⟩) 1 cq2)).setCell (p := ⟨w.heap.size, 0, none⟩) (by simp) (.slice (some ⟨q, 0, none⟩) 1 cq)).setCell (p := ⟨w.heap.size, 1, none⟩) (by simp) (.slice (some ⟨q2, 0, none⟩) 1 cq2)
    have O5 : Only [w.heap.size + 1, w.heap.size] w4 _ := (((Only.refl _ w4).setCell (p := ⟨w.heap.size + 1, 1, none⟩) (by simp) (.slice (some ⟨q2, 0, none⟩) 1 cq2)).setCell (p := ⟨w.heap.size, 0, none⟩) (by simp) (.slice (some ⟨q, 0, none⟩) 1 cq)).setCell (p := ⟨w.heap.size, 1, none⟩) (by simp) (.slice (some ⟨q2, 0, none⟩) 1 cq2)
    refine bodyPost_ret (results_cell_row (t := 169) Tryz.results72 _ _ (w.heap.size) #[.slice (some ⟨q, 0, none⟩) 1 cq, .slice (some ⟨q2, 0, none⟩) 1 cq2] (0, 0) _ (by rfl) ?_ Tryz.underlying169 rfl (by kernel_rfl)) rfl ⟨_, _, rfl, ⟨OF.own HOW.out ?_, HS3.out.only OF (by simp; omega) (by simp; omega)⟩, O5.own HOW2.out ?_, HB3.out.trans (OF.toBelow HB3.out.size (by simp))⟩
    · exact (((HP4.out.far (p := ⟨w.heap.size + 1, 1, none⟩) (by simp) _).set_ 0 _ rfl).set_ 1 _ rfl)
    · intro b hb hm
      simp only [List.mem_cons, List.not_mem_nil, or_false] at hm
      rcases hm with rfl | rfl
      · exact own_blk_ne HOW.out HQ3.out.1 (by decide) hb
      · exact own_blk_ne HOW.out HQ3.out.2 (by decide) hb
    · intro b hb hm
      simp only [List.mem_cons, List.not_mem_nil, or_false] at hm
      rcases hm with rfl | rfl
      · exact own_blk_ne HOW2.out HR4.out (by decide) hb
      · exact own_blk_ne HOW2.out HP4.out (by decide) hb
end Go.Proofs.YtfajckkbinbpiaaGreatDoor
