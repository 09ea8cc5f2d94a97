/- Walks: the image of the one square. -/
import Derived.Test.YtfajckkbinbpiaaGreatDoorM41
import Derived.Test.YtfajckkbinbpiaaGreatDoorM24
import Derived.Test.YtfajckkbinbpiaaGreatDoorM42
import Derived.Deep.RegionHeld3
import Derived.Deep.Cut
import Derived.Deep.CutRange
namespace Go.Proofs.YtfajckkbinbpiaaGreatDoor
open Go.RowKit
set_option linter.unusedVariables false
set_option linter.unusedSimpArgs false

def ones (k : Nat) : List Value := List.replicate (2 * k) (.int .i64 1)
theorem ones_succ (k : Nat) : ones k ++ [.int .i64 1, .int .i64 1] = ones (k + 1) := by
  unfold ones
  rw [show 2 * (k + 1) = 2 * k + 2 by omega, ← List.replicate_append_replicate]
  rfl
theorem own_own_ne2 {w : World} {B e s n B' e' s' n' b : Nat} {v v' : Value} {xs xs' : List Value} (h : w.ownsRow B e s v n xs) (h' : w.ownsRow B' e' s' v' n' xs') (hne : e ≠ e') (hb : v.ownBlock = some b) : v'.ownBlock ≠ some b := by
  intro hb'
  rcases h.2 with ⟨h1, _⟩ | ⟨g, cap, cur, h1, _, h2, _⟩
  · rw [h1] at hb; cases hb
  · rw [h1] at hb
    simp [Value.ownBlock] at hb
    subst hb
    rcases h'.2 with ⟨h3, _⟩ | ⟨g', cap', cur', h3, _, h4, _⟩
    · rw [h3] at hb'; cases hb'
    · rw [h3] at hb'
      simp [Value.ownBlock] at hb'
      subst hb'
      rw [h2] at h4
      injection h4 with h4
      injection h4 with h4 h5
      exact hne h5
/-- What holds of the memory while the image is made. -/
structure RInv (w : World) (n0 bG M : Nat) (u1 u2 : Value) (gl cl gp cp : Nat) (vr : Value) (k : Nat) (j : Int) (W : World) : Prop where
  kv : Blk W n0 27 #[.int .i64 (-10000000), .int .i64 (-10000000), .int .i64 10000000, .int .i64 2, .int .i64 2, .int .i64 0]
  kg : Blk W bG 169 #[u1, u2]
  own : W.ownsRow w.heap.size 75 2 vr k (ones k)
  km : Blk W M 133 #[.int .i64 100, .int .i64 j]
  ob : ObR W u1 gl cl gp cp
  ex : ExR W u2
  om : Only [M] w W
  lgl : gl < w.heap.size
  lgp : gp < w.heap.size
  lM : M < w.heap.size
  n1 : gl ≠ M
  n2 : gp ≠ M
section
variable {w W W' : World} {n0 bG M : Nat} {u1 u2 vr : Value} {gl cl gp cp k : Nat} {j : Int}
theorem RInv.below (h : RInv w n0 bG M u1 u2 gl cl gp cp vr k j W) (hb : Below W.heap.size W W') : RInv w n0 bG M u1 u2 gl cl gp cp vr k j W' :=
  ⟨h.kv.below hb h.kv.lt, h.kg.below hb h.kg.lt, own_below h.own hb (Nat.le_refl _), h.km.below hb h.km.lt, h.ob.below hb (Nat.le_refl _), h.ex.below hb (Nat.le_refl _), h.om.below hb h.om.size, h.lgl, h.lgp, h.lM, h.n1, h.n2⟩
theorem RInv.alloc (h : RInv w n0 bG M u1 u2 gl cl gp cp vr k j W) (o : Obj) : RInv w n0 bG M u1 u2 gl cl gp cp vr k j (W.alloc o) := h.below ((Below.refl _ _).alloc (Nat.le_refl _) o)
theorem RInv.drew (h : RInv w n0 bG M u1 u2 gl cl gp cp vr k j W) : RInv w n0 bG M u1 u2 gl cl gp cp vr k j W.drew := h.below (Below.refl _ _).drew
theorem RInv.meter {j' : Int} (h : RInv w n0 bG M u1 u2 gl cl gp cp vr k j W) (ho : Only [M] W W') (hk : Blk W' M 133 #[.int .i64 100, .int .i64 j']) : RInv w n0 bG M u1 u2 gl cl gp cp vr k j' W' :=
  ⟨ho.blk h.kv (by simpa using h.kv.ne_ h.km (by decide)), ho.blk h.kg (by simpa using h.kg.ne_ h.km (by decide)), ho.own h.own (fun b hb hm => by simp at hm; subst hm; exact own_blk_ne h.own h.km (by decide) hb), hk,
   h.ob.only ho (by simpa using h.n1) (by simpa using h.n2) (fun b hb hm => by simp at hm; subst hm; exact own_blk_ne h.ob.1 h.km (by decide) hb),
   ho.own h.ex (fun b hb hm => by simp at hm; subst hm; exact own_blk_ne h.ex h.km (by decide) hb), h.om.trans ho, h.lgl, h.lgp, h.lM, h.n1, h.n2⟩
theorem RInv.put {v' : Value} (h : RInv w n0 bG M u1 u2 gl cl gp cp vr k j W) (hg : W.grownBy W' vr.ownBlock) (hw : W'.ownsRow w.heap.size 75 2 v' (k + 1) (ones (k + 1))) : RInv w n0 bG M u1 u2 gl cl gp cp v' (k + 1) j W' := by
  have hge : ∀ b, vr.ownBlock = some b → w.heap.size ≤ b := fun b hb => own_ge h.own hb
  have ne : ∀ {g : Nat} {t : TypeId} {cs : Array Value}, Blk W g t cs → t ≠ 75 → some g ≠ vr.ownBlock := fun hk ht e => own_blk_ne h.own hk (fun e => ht e.symm) e.symm
  refine ⟨h.kv.grown hg (ne h.kv (by decide)), h.kg.grown hg (ne h.kg (by decide)), hw, h.km.grown hg (ne h.km (by decide)), ⟨?_, h.ob.2.grown hg ?_ ?_⟩, ?_, h.om.grown hg (fun b hb => .inr (hge b hb)), h.lgl, h.lgp, h.lM, h.n1, h.n2⟩
  · exact own_same h.ob.1 fun b hb => hg.block b (own_lt h.ob.1 hb) (fun e => own_own_ne2 h.ob.1 h.own (by decide) hb e.symm)
  · intro e; have := hge _ e.symm; have := h.lgl; omega
  · intro e; have := hge _ e.symm; have := h.lgp; omega
  · exact own_same h.ex fun b hb => hg.block b (own_lt h.ex hb) (fun e => own_own_ne2 h.ex h.own (by decide) hb e.symm)
end
/-- The group of a row of pixels. -/
structure RRow (bR : Nat) (r1 r2 : Value) (gl cl gp cp : Nat) (W : World) : Prop where
  kr : Blk W bR 169 #[r1, r2]
  hr : ObR W r1 gl cl gp cp
  hx : ExR W r2
section
variable {w W W' : World} {n0 bG M bR : Nat} {u1 u2 r1 r2 vr : Value} {gl cl gp cp k : Nat} {j : Int}
theorem RRow.below (h : RRow bR r1 r2 gl cl gp cp W) (hb : Below W.heap.size W W') : RRow bR r1 r2 gl cl gp cp W' := ⟨h.kr.below hb h.kr.lt, h.hr.below hb (Nat.le_refl _), h.hx.below hb (Nat.le_refl _)⟩
theorem RRow.alloc (h : RRow bR r1 r2 gl cl gp cp W) (o : Obj) : RRow bR r1 r2 gl cl gp cp (W.alloc o) := h.below ((Below.refl _ _).alloc (Nat.le_refl _) o)
theorem RRow.drew (h : RRow bR r1 r2 gl cl gp cp W) : RRow bR r1 r2 gl cl gp cp W.drew := h.below (Below.refl _ _).drew
theorem RRow.meter (h : RRow bR r1 r2 gl cl gp cp W) (I : RInv w n0 bG M u1 u2 gl cl gp cp vr k j W) (ho : Only [M] W W') : RRow bR r1 r2 gl cl gp cp W' :=
  ⟨ho.blk h.kr (by simpa using h.kr.ne_ I.km (by decide)), h.hr.only ho (by simpa using I.n1) (by simpa using I.n2) (fun b hb hm => by simp at hm; subst hm; exact own_blk_ne h.hr.1 I.km (by decide) hb), ho.own h.hx (fun b hb hm => by simp at hm; subst hm; exact own_blk_ne h.hx I.km (by decide) hb)⟩
theorem RRow.put (h : RRow bR r1 r2 gl cl gp cp W) (I : RInv w n0 bG M u1 u2 gl cl gp cp vr k j W) (hg : W.grownBy W' vr.ownBlock) : RRow bR r1 r2 gl cl gp cp W' := by
  have hge : ∀ b, vr.ownBlock = some b → w.heap.size ≤ b := fun b hb => own_ge I.own hb
  refine ⟨h.kr.grown hg (fun e => own_blk_ne I.own h.kr (by decide) e.symm), ⟨?_, h.hr.2.grown hg ?_ ?_⟩, ?_⟩
  · exact own_same h.hr.1 fun b hb => hg.block b (own_lt h.hr.1 hb) (fun e => own_own_ne2 h.hr.1 I.own (by decide) hb e.symm)
  · intro e; have := hge _ e.symm; have := I.lgl; omega
  · intro e; have := hge _ e.symm; have := I.lgp; omega
  · exact own_same h.hx fun b hb => hg.block b (own_lt h.hx hb) (fun e => own_own_ne2 h.hx I.own (by decide) hb e.symm)
end
theorem RInv.one {w W W' : World} {n0 bG M A : Nat} {u1 u2 vr : Value} {gl cl gp cp k : Nat} {j : Int} {cs : Array Value} (h : RInv w n0 bG M u1 u2 gl cl gp cp vr k j W) (ho : Only [A] W W') (kA : Blk W A 75 cs) (hne : vr.ownBlock ≠ some A) (hge : w.heap.size ≤ A) : RInv w n0 bG M u1 u2 gl cl gp cp vr k j W' :=
  ⟨ho.blk h.kv (by simpa using h.kv.ne_ kA (by decide)), ho.blk h.kg (by simpa using h.kg.ne_ kA (by decide)), ho.own h.own (fun b hb hm => by simp at hm; subst hm; exact hne hb), ho.blk h.km (by simpa using h.km.ne_ kA (by decide)),
   h.ob.only ho (by have := h.lgl; simp; omega) (by have := h.lgp; simp; omega) (fun b hb hm => by simp at hm; subst hm; exact own_blk_ne h.ob.1 kA (by decide) hb),
   ho.own h.ex (fun b hb hm => by simp at hm; subst hm; exact own_blk_ne h.ex kA (by decide) hb), h.om.then_ ho (by intro b hb; simp at hb; subst hb; right; exact hge), h.lgl, h.lgp, h.lM, h.n1, h.n2⟩
theorem RRow.one {w W W' : World} {n0 bG M A bR : Nat} {u1 u2 r1 r2 vr : Value} {gl cl gp cp k : Nat} {j : Int} {cs : Array Value} (h : RRow bR r1 r2 gl cl gp cp W) (I : RInv w n0 bG M u1 u2 gl cl gp cp vr k j W) (ho : Only [A] W W') (kA : Blk W A 75 cs) (hge : w.heap.size ≤ A) : RRow bR r1 r2 gl cl gp cp W' :=
  ⟨ho.blk h.kr (by simpa using h.kr.ne_ kA (by decide)), h.hr.only ho (by have := I.lgl; simp; omega) (by have := I.lgp; simp; omega) (fun b hb hm => by simp at hm; subst hm; exact own_blk_ne h.hr.1 kA (by decide) hb), ho.own h.hx (fun b hb hm => by simp at hm; subst hm; exact own_blk_ne h.hx kA (by decide) hb)⟩
theorem ones1 : ∀ v ∈ ([.int .i64 1, .int .i64 1] : List Value), v.oneCell' = true := by
  intro v hv
  simp only [List.mem_cons, List.not_mem_nil, or_false] at hv
  rcases hv with rfl | rfl <;> rfl
theorem info104 : (Tryz.prog.info? 75).map (fun i => (i.zero, i.size, i.bytes)) = some (some (.agg #[.int .i64 0, .int .i64 0]), 2, 16) := by kernel_rfl
set_option maxRecDepth 100000 in
set_option maxHeartbeats 32000000 in
theorem rrender_sq (M : Nat) (v1 : Value) (gl cl gp cp : Nat) (w : World) (hO : ObR w v1 gl cl gp cp) (hM : Blk w M 133 #[.int .i64 100, .int .i64 0]) :
    Calls Tryz.prog 46 #[v1, .agg #[.int .i64 (-10000000), .int .i64 (-10000000), .int .i64 10000000, .int .i64 2, .int .i64 2, .int .i64 0], .pointer (some ⟨M, 0, none⟩)] w fun e w' => ∃ vr, e = .returned (.tuple #[vr, .int .i64 0]) ∧ w'.ownsRow w.heap.size 75 2 vr 4 (ones 4) ∧ Only [M] w w' := by
  obtain ⟨n1, n2⟩ := hO.2.ne_meter hM
  have n3 := own_blk_ne hO.1 hM (by decide)
  have lM := hM.lt
  have lgl := hO.2.lt1
  have lgp := hO.2.lt2
  obtain ⟨i104, hi104, hz0, hz1, hz2⟩ := info_parts info104
  have HI := Lib.hid (And.intro hi104 (And.intro hz0 (And.intro hz1 hz2)))
  have hZ : Hid ((Value.agg #[.int .i64 0, .int .i64 0]).cells.size = 2) := Lib.hid (by kernel_rfl)
  have hmk : ∀ w, (Instr.makeSlice 66 (.int .i64 0) (.int .i64 4)).run Tryz.prog w = .ok (.slice (some ⟨w.heap.size, 0, none⟩) 0 4) (w.alloc (.cells #[.int .i64 0, .int .i64 0, .int .i64 0, .int .i64 0, .int .i64 0, .int .i64 0, .int .i64 0, .int .i64 0] 75)) := fun _ => by kernel_rfl
  have HO := Lib.hid hO
  have HM := Lib.hid hM
  have HNN := Lib.hid (And.intro n1 n2)
  clear hO hM hi104 hz0 hz1 hz2 n1 n2
  go_enter Tryz.func46, Tryz.ntmps46
  go_wp2_with fail
  refine (viewok_a _).mono ?_
  rintro e w1 ⟨rfl, hb⟩
  have hB1 : Below w.heap.size w w1 := Below.trans (by (repeat' (first | (with_reducible exact Below.refl _ _) | (with_reducible assumption) | (with_reducible refine below_drewN ?_ _) | (with_reducible refine Below.drew ?_) | (with_reducible refine Below.alloc ?_ ?_ _) | (with_reducible refine Below.setCell ?_ ?_ _) | omega | (simp; done) | (simp; omega)))) (hb.mono (by first | omega | (simp; done) | (simp; omega)))
  have k1_0 : Blk w1 (w.heap.size) 27 #[.int .i64 (-10000000), .int .i64 (-10000000), .int .i64 10000000, .int .i64 2, .int .i64 2, .int .i64 0] := Blk.below (by (repeat' (first | (with_reducible assumption) | (with_reducible exact Blk.new _ _ _) | (exact Blk.newAt (by first | rfl | (simp; done) | omega)) | (with_reducible refine Blk.drewN ?_ _) | (with_reducible refine Blk.drew ?_) | (with_reducible refine Blk.alloc ?_ _) | (with_reducible apply Blk.set_) | (with_reducible refine Blk.far ?_ ?_ _) | rfl | omega | (simp; done) | (simp; omega)))) hb (by first | omega | (simp; done) | (simp; omega))
  have c1_0 := k1_0.cell
  have f1_0 := k1_0.frozen
  have l1_0 := k1_0.lt
  have l1 := hB1.size
  clear hb
  go_wp2_with fail
  refine (reach_sq v1 gl cl gp cp w1 (HO.out.below hB1 (Nat.le_refl _))).mono ?_
  rintro e w2 ⟨u1, u2, rfl, hO2, hE2, hb⟩
  obtain ⟨p1, m1, rfl, _, _⟩ := hO2.form
  obtain ⟨p2, m2, rfl, _, _⟩ := hE2.form
  have kv2 := k1_0.below hb k1_0.lt
  have hB2 : Below w.heap.size w w2 := hB1.trans (hb.mono l1)
  have cv := kv2.cell
  have lv := kv2.lt
  clear hb k1_0 c1_0 f1_0 l1_0
  go_wp2_with fail
  obtain ⟨x, ex⟩ : ∃ x, (w2.alloc (.cells #[.slice (some ⟨p1, 0, none⟩) 1 m1, .slice (some ⟨p2, 0, none⟩) 1 m2] 169)).alloc (.cells #[.int .i64 0, .int .i64 0, .int .i64 0, .int .i64 0, .int .i64 0, .int .i64 0, .int .i64 0, .int .i64 0] 75) = x := ⟨_, rfl⟩
  have I0 : RInv w w.heap.size w2.heap.size M (.slice (some ⟨p1, 0, none⟩) 1 m1) (.slice (some ⟨p2, 0, none⟩) 1 m2) gl cl gp cp (.slice (some ⟨w2.heap.size + 1, 0, none⟩) 0 4) 0 0 x := by
    have hk : Blk x (w2.heap.size + 1) 75 #[.int .i64 0, .int .i64 0, .int .i64 0, .int .i64 0, .int .i64 0, .int .i64 0, .int .i64 0, .int .i64 0] := by rw [← ex]; (repeat' (first | (with_reducible assumption) | (with_reducible exact Blk.new _ _ _) | (exact Blk.newAt (by first | rfl | (simp; done) | omega)) | (with_reducible refine Blk.drewN ?_ _) | (with_reducible refine Blk.drew ?_) | (with_reducible refine Blk.alloc ?_ _) | (with_reducible apply Blk.set_) | (with_reducible refine Blk.far ?_ ?_ _) | rfl | omega | (simp; done) | (simp; omega)))
    have hBx : Below w.heap.size w x := by rw [← ex]; exact (hB2.alloc hB2.size _).alloc (by have := hB2.size; simp; omega) _
    refine ⟨?_, ?_, ⟨rfl, .inr ⟨w2.heap.size + 1, 4, #[.int .i64 0, .int .i64 0, .int .i64 0, .int .i64 0, .int .i64 0, .int .i64 0, .int .i64 0, .int .i64 0], rfl, by have := hB2.size; omega, hk, by omega, by decide, rfl, rfl⟩⟩, HM.out.below hBx lM, ?_, ?_, Only.of_below hBx (Nat.le_refl _) _, lgl, lgp, lM, HNN.out.1, HNN.out.2⟩
    · rw [← ex]; exact (kv2.alloc _).alloc _
    · rw [← ex]; (repeat' (first | (with_reducible assumption) | (with_reducible exact Blk.new _ _ _) | (exact Blk.newAt (by first | rfl | (simp; done) | omega)) | (with_reducible refine Blk.drewN ?_ _) | (with_reducible refine Blk.drew ?_) | (with_reducible refine Blk.alloc ?_ _) | (with_reducible apply Blk.set_) | (with_reducible refine Blk.far ?_ ?_ _) | rfl | omega | (simp; done) | (simp; omega)))
    · rw [← ex]; exact (hO2.alloc _).alloc _
    · rw [← ex]; exact (hE2.alloc _).alloc _
  rw [ex]
  clear ex hmk kv2 cv lv hO2 hE2 hB1 hB2 n3
  obtain ⟨bG, ebG⟩ : ∃ q, w2.heap.size = q := ⟨_, rfl⟩
  rw [ebG] at I0
  simp only [ebG]
  clear ebG
  have cV := I0.kv.cell
  have lV := I0.kv.lt
  have cG := I0.kg.cell
  have lG := I0.kg.lt
  refine wp_loop_rounds 3 ?_
  rw [rounds_succ]
  go_wp2_with fail
  refine (pixel_00 _).mono ?_
  rintro e zA ⟨rfl, hb⟩
  have IA := I0.below hb
  clear hb I0 cV lV cG lG
  have cV := IA.kv.cell
  have lV := IA.kv.lt
  have cG := IA.kg.cell
  have lG := IA.kg.lt
  go_wp2_with fail
  refine (pixel_10 _).mono ?_
  rintro e zB ⟨rfl, hb⟩
  have kb : Blk zB zA.heap.size 70 #[.int .i64 (-10000000), .int .i64 0, .int .i64 0, .int .i64 10000000] := Blk.below (Blk.newAt (w := zA) rfl) hb (by simp)
  have IB := (IA.alloc (.cells #[.int .i64 (-10000000), .int .i64 0, .int .i64 0, .int .i64 10000000] 70)).below hb
  have cb := kb.cell
  have lb := kb.lt
  clear hb kb IA cV lV cG lG
  have cV := IB.kv.cell
  have lV := IB.kv.lt
  have cG := IB.kg.cell
  have lG := IB.kg.lt
  go_wp2_with fail
  refine (near_sq (-10000000) 0 10000000 10000000 _ _ gl cl gp cp _ (IB.alloc (.cells #[.int .i64 0, .int .i64 0, .int .i64 10000000, .int .i64 10000000] 70)).ob (IB.alloc (.cells #[.int .i64 0, .int .i64 0, .int .i64 10000000, .int .i64 10000000] 70)).ex (by omega) (by omega) (by omega) (by omega) (by omega) (by omega)).mono ?_
  rintro e zC ⟨r1, r2, rfl, hr1, hr2, hb⟩
  obtain ⟨s1, d1, rfl, _, _⟩ := hr1.form
  obtain ⟨s2, d2, rfl, _, _⟩ := hr2.form
  have IC := (IB.alloc (.cells #[.int .i64 0, .int .i64 0, .int .i64 10000000, .int .i64 10000000] 70)).below hb
  clear hb IB cb lb cV lV cG lG
  have cV := IC.kv.cell
  have lV := IC.kv.lt
  have cG := IC.kg.cell
  have lG := IC.kg.lt
  go_wp2_with fail
  obtain ⟨x, ex⟩ : ∃ x, zC.alloc (.cells #[.slice (some ⟨s1, 0, none⟩) 1 d1, .slice (some ⟨s2, 0, none⟩) 1 d2] 169) = x := ⟨_, rfl⟩
  have Ix := IC.alloc (.cells #[.slice (some ⟨s1, 0, none⟩) 1 d1, .slice (some ⟨s2, 0, none⟩) 1 d2] 169)
  have Rx : RRow zC.heap.size (.slice (some ⟨s1, 0, none⟩) 1 d1) (.slice (some ⟨s2, 0, none⟩) 1 d2) gl cl gp cp x := ⟨by rw [← ex]; exact Blk.newAt rfl, by rw [← ex]; exact hr1.alloc _, by rw [← ex]; exact hr2.alloc _⟩
  rw [ex] at Ix
  first | rw [ex] | skip
  obtain ⟨bR, ebR⟩ : ∃ b, zC.heap.size = b := ⟨_, rfl⟩
  rw [ebR] at Rx
  simp only [ebR]
  clear ex ebR IC hr1 hr2 cV lV cG lG
  have cV := Ix.kv.cell
  have lV := Ix.kv.lt
  have cG := Ix.kg.cell
  have lG := Ix.kg.lt
  have cR := Rx.kr.cell
  have lR := Rx.kr.lt
  refine wp_loop_rounds 3 ?_
  rw [rounds_succ]
  go_wp2_with fail
  refine (pixel_00 _).mono ?_
  rintro e zE ⟨rfl, hb⟩
  have IE := Ix.below hb
  have RE := Rx.below hb
  clear hb Ix Rx cV lV cG lG cR lR
  have cV := IE.kv.cell
  have lV := IE.kv.lt
  have cG := IE.kg.cell
  have lG := IE.kg.lt
  have cR := RE.kr.cell
  have lR := RE.kr.lt
  go_wp2_with fail
  obtain ⟨v, ev⟩ : ∃ v, zE.alloc (.cells #[.int .i64 (-10000000), .int .i64 0, .int .i64 0, .int .i64 10000000] 70) = v := ⟨_, rfl⟩
  have Iv := IE.alloc (.cells #[.int .i64 (-10000000), .int .i64 0, .int .i64 0, .int .i64 10000000] 70)
  have Rv := RE.alloc (.cells #[.int .i64 (-10000000), .int .i64 0, .int .i64 0, .int .i64 10000000] 70)
  have kb : Blk v zE.heap.size 70 #[.int .i64 (-10000000), .int .i64 0, .int .i64 0, .int .i64 10000000] := by rw [← ev]; exact Blk.newAt rfl
  rw [ev] at Iv Rv
  rw [ev]
  have hnM : zE.heap.size ≠ M := kb.ne_ Iv.km (by decide)
  have hKS : ∀ w', Only [M] v w' → (w'.cell? ⟨bR, 0, none⟩ = some (.slice (some ⟨s1, 0, none⟩) 1 d1) ∧ w'.cell? ⟨bR, 1, none⟩ = some (.slice (some ⟨s2, 0, none⟩) 1 d2) ∧ w'.cell? ⟨zE.heap.size, 0, none⟩ = some (.int .i64 (-10000000)) ∧ w'.cell? ⟨zE.heap.size, 1, none⟩ = some (.int .i64 0) ∧ w'.cell? ⟨zE.heap.size, 2, none⟩ = some (.int .i64 0) ∧ w'.cell? ⟨zE.heap.size, 3, none⟩ = some (.int .i64 10000000) ∧ w'.cell? ⟨w.heap.size, 5, none⟩ = some (.int .i64 0) ∧ Only [M] v w') := fun w' o => by
    have q1 := (Rv.meter Iv o).kr
    have q2 := o.blk kb (by simpa using hnM)
    have q3 := o.blk Iv.kv (by simpa using Iv.kv.ne_ Iv.km (by decide))
    exact ⟨q1.cell 0, q1.cell 1, q2.cell 0, q2.cell 1, q2.cell 2, q2.cell 3, q3.cell 5, o⟩
  have IV := Lib.hid Iv
  have RV := Lib.hid Rv
  clear ev IE RE cV lV cG lG cR lR kb Iv Rv hnM
  go_cut [19, 20] (fun a b wx => ∃ A, a = .pointer (some ⟨A, 0, none⟩) ∧ b = .int .i64 0 ∧ Blk wx A 75 #[.int .i64 1, .int .i64 1] ∧ RInv w w.heap.size bG M (.slice (some ⟨p1, 0, none⟩) 1 m1) (.slice (some ⟨p2, 0, none⟩) 1 m2) gl cl gp cp (.slice (some ⟨bG + 1, 0, none⟩) 0 4) 0 (0 + 1) wx ∧ RRow bR (.slice (some ⟨s1, 0, none⟩) 1 d1) (.slice (some ⟨s2, 0, none⟩) 1 d2) gl cl gp cp wx)
  case first =>
    go_region_held3 (fun w' => w'.cell? ⟨bR, 0, none⟩ = some (.slice (some ⟨s1, 0, none⟩) 1 d1) ∧ w'.cell? ⟨bR, 1, none⟩ = some (.slice (some ⟨s2, 0, none⟩) 1 d2) ∧ w'.cell? ⟨zE.heap.size, 0, none⟩ = some (.int .i64 (-10000000)) ∧ w'.cell? ⟨zE.heap.size, 1, none⟩ = some (.int .i64 0) ∧ w'.cell? ⟨zE.heap.size, 2, none⟩ = some (.int .i64 0) ∧ w'.cell? ⟨zE.heap.size, 3, none⟩ = some (.int .i64 10000000) ∧ w'.cell? ⟨w.heap.size, 5, none⟩ = some (.int .i64 0) ∧ Only [M] v w')
      (exact hKS _ (by (repeat' (first | (with_reducible exact Only.refl _ _) | (with_reducible assumption) | (with_reducible refine Only.drewN ?_ _) | (with_reducible refine Only.drew ?_) | (with_reducible refine Only.alloc ?_ _) | (with_reducible refine Only.setCell ?_ ?_ _) | (left; simp; done) | (right; omega) | (right; simp; done) | (right; simp; omega)))))
      (first | (go_at_call 74; (with_reducible refine (near_sq (-10000000) 0 0 10000000 _ _ gl cl gp cp _ (by first | exact RV.out.drew.hr | exact (RV.out.alloc _).drew.hr) (by first | exact RV.out.drew.hx | exact (RV.out.alloc _).drew.hx) (by omega) (by omega) (by omega) (by omega) (by omega) (by omega)).mono ?_); rintro e zN ⟨t1, t2, rfl, ht1, ht2, hb⟩; obtain ⟨a1, b1, rfl, _, _⟩ := ht1.form; obtain ⟨a2, b2, rfl, _, _⟩ := ht2.form; have iN : RInv w w.heap.size bG M (.slice (some ⟨p1, 0, none⟩) 1 m1) (.slice (some ⟨p2, 0, none⟩) 1 m2) gl cl gp cp (.slice (some ⟨bG + 1, 0, none⟩) 0 4) 0 0 zN := (by first | exact IV.out.drew.below hb | exact (IV.out.alloc _).drew.below hb); have rN : RRow bR (.slice (some ⟨s1, 0, none⟩) 1 d1) (.slice (some ⟨s2, 0, none⟩) 1 d2) gl cl gp cp zN := (by first | exact RV.out.drew.below hb | exact (RV.out.alloc _).drew.below hb); (try have kA := Lib.hid (Blk.below (show Blk (v.alloc (.cells #[.int .i64 0, .int .i64 0] 75)).drew v.heap.size 75 #[.int .i64 0, .int .i64 0] from (Blk.newAt rfl).drew) hb (by simp))); have IN := Lib.hid iN; have RN := Lib.hid rN; have TN := Lib.hid ht1; have onN : Only [M] v zN := (by first | exact (Only.refl _ _).drew.below hb (Nat.le_refl _) | exact (((Only.refl _ _).alloc _).drew).below hb (by simp)); have sN := onN.size; clear hb ht1 ht2 iN rN) | (go_at_call 75; (with_reducible refine (examine_sq (-10000000) 0 0 10000000 0 M _ _ gl cl gp cp _ (by first | exact TN.out | exact TN.out.alloc _) (by first | exact IN.out.km | exact IN.out.km.alloc _) (by omega) (by omega) (by omega) (by omega) (by omega) (by omega) (by omega) (by omega)).mono ?_); rintro e zX ⟨rfl, hk, ho⟩; have iX : RInv w w.heap.size bG M (.slice (some ⟨p1, 0, none⟩) 1 m1) (.slice (some ⟨p2, 0, none⟩) 1 m2) gl cl gp cp (.slice (some ⟨bG + 1, 0, none⟩) 0 4) 0 (0 + 1) zX := (by first | exact IN.out.meter ho hk | exact (IN.out.alloc _).meter ho hk); have rX : RRow bR (.slice (some ⟨s1, 0, none⟩) 1 d1) (.slice (some ⟨s2, 0, none⟩) 1 d2) gl cl gp cp zX := (by first | exact RN.out.meter IN.out ho | exact (RN.out.alloc _).meter (IN.out.alloc _) ho); (try have cA := ho.blk kA.out (by simpa using kA.out.ne_ IN.out.km (by decide))); (try have cA := ho.blk (show Blk (zN.alloc (.cells #[.int .i64 0, .int .i64 0] 75)) zN.heap.size 75 #[.int .i64 0, .int .i64 0] from Blk.newAt rfl) (by have := IN.out.km.lt; simp; omega)); (try have fA := cA.cell); (try have fB := cA.frozen); (try have fC := cA.lt); have IX := Lib.hid iX; have RX := Lib.hid rX; have onX : Only [M] v zX := (by first | exact onN.trans ho | exact (onN.alloc _).trans ho); have sX := onX.size; clear hk ho iX rX))
    all_goals
      go_wp2_with fail
      go_meet
      first
      | exact ⟨zX.heap.size, rfl, rfl, Blk.newAt rfl, IX.out.alloc _, RX.out.alloc _⟩
      | exact ⟨zN.heap.size, rfl, rfl, (cA.set_ 0 _ rfl).set_ 1 _ rfl, IX.out.one (((Only.refl _ zX).setCell (p := ⟨zN.heap.size, 0, none⟩) (by simp) (.int .i64 1)).setCell (p := ⟨zN.heap.size, 1, none⟩) (by simp) (.int .i64 1)) cA (fun e => by have := own_lt IN.out.own e; omega) IN.out.om.size, RX.out.one IX.out (((Only.refl _ zX).setCell (p := ⟨zN.heap.size, 0, none⟩) (by simp) (.int .i64 1)).setCell (p := ⟨zN.heap.size, 1, none⟩) (by simp) (.int .i64 1)) cA IN.out.om.size⟩
      | exact ⟨v.heap.size, rfl, rfl, (cA.set_ 0 _ rfl).set_ 1 _ rfl, IX.out.one (((Only.refl _ zX).setCell (p := ⟨v.heap.size, 0, none⟩) (by simp) (.int .i64 1)).setCell (p := ⟨v.heap.size, 1, none⟩) (by simp) (.int .i64 1)) cA (fun e => by have := own_lt IV.out.own e; omega) IV.out.om.size, RX.out.one IX.out (((Only.refl _ zX).setCell (p := ⟨v.heap.size, 0, none⟩) (by simp) (.int .i64 1)).setCell (p := ⟨v.heap.size, 1, none⟩) (by simp) (.int .i64 1)) cA IV.out.om.size⟩
  case rest =>
  obtain ⟨A, rfl, rfl, kA, Ic, Rc⟩ := hcut
  have cA := kA.cell
  have lA := kA.lt
  have hN9 : ∀ j v, ([.int .i64 1, .int .i64 1] : List Value)[j]? = some v → (wc.alloc (.cells #[.int .i64 1, .int .i64 1] 75)).cell? ((⟨wc.heap.size, 0, none⟩ : Addr).add j) = some v :=
    World.news_of_block (cs := #[.int .i64 1, .int .i64 1]) (Blk.newAt (w := wc) rfl)
  have HN9 := Lib.hid hN9
  have IZ := Lib.hid (Ic.alloc (.cells #[.int .i64 1, .int .i64 1] 75))
  have RZ := Lib.hid (Rc.alloc (.cells #[.int .i64 1, .int .i64 1] 75))
  clear hN9 kA Ic Rc IV RV hKS
  go_wp2_with (at_builtin; refine wpList_append_lies _ rfl (.tmp 89) (.tmp 91) 66 rfl w.heap.size 75 i104 _ 2 16 Tryz.underlying66 HI.out.1 HI.out.2.1 HI.out.2.2.1 HI.out.2.2.2 hZ.out (by decide) (.slice (some ⟨bG + 1, 0, none⟩) 0 4) 0 (ones 0) (by simp [Act.eval]) IZ.out.own ⟨wc.heap.size, 0, none⟩ 1 1 [.int .i64 1, .int .i64 1] (by simp [Act.eval]) rfl HN9.out ones1 (by decide) (by decide) (by decide) IZ.out.om.size _ rfl ?_)
  intro q1 cq1 zY1 hown hgrow hat hlt
  have IY1 : RInv w w.heap.size bG M (.slice (some ⟨p1, 0, none⟩) 1 m1) (.slice (some ⟨p2, 0, none⟩) 1 m2) gl cl gp cp (.slice (some ⟨q1, 0, none⟩) 1 cq1) 1 1 zY1 := IZ.out.put hgrow (by rw [← ones_succ]; exact hown)
  have RY1 : RRow bR (.slice (some ⟨s1, 0, none⟩) 1 d1) (.slice (some ⟨s2, 0, none⟩) 1 d2) gl cl gp cp zY1 := RZ.out.put IZ.out hgrow
  clear hown hgrow hat hlt IZ RZ HN9 cA lA
  have cV := IY1.kv.cell
  have lV := IY1.kv.lt
  have cG := IY1.kg.cell
  have lG := IY1.kg.lt
  have cR := RY1.kr.cell
  have lR := RY1.kr.lt
  go_wp2_with fail
  rw [rounds_succ]
  go_wp2_with fail
  refine (pixel_10 _).mono ?_
  rintro e zE ⟨rfl, hb⟩
  have IE := IY1.below hb
  have RE := RY1.below hb
  clear hb IY1 RY1 cV lV cG lG cR lR
  have cV := IE.kv.cell
  have lV := IE.kv.lt
  have cG := IE.kg.cell
  have lG := IE.kg.lt
  have cR := RE.kr.cell
  have lR := RE.kr.lt
  go_wp2_with fail
  obtain ⟨v, ev⟩ : ∃ v, zE.alloc (.cells #[.int .i64 0, .int .i64 0, .int .i64 10000000, .int .i64 10000000] 70) = v := ⟨_, rfl⟩
  have Iv := IE.alloc (.cells #[.int .i64 0, .int .i64 0, .int .i64 10000000, .int .i64 10000000] 70)
  have Rv := RE.alloc (.cells #[.int .i64 0, .int .i64 0, .int .i64 10000000, .int .i64 10000000] 70)
  have kb : Blk v zE.heap.size 70 #[.int .i64 0, .int .i64 0, .int .i64 10000000, .int .i64 10000000] := by rw [← ev]; exact Blk.newAt rfl
  rw [ev] at Iv Rv
  rw [ev]
  have hnM : zE.heap.size ≠ M := kb.ne_ Iv.km (by decide)
  have hKS : ∀ w', Only [M] v w' → (w'.cell? ⟨bR, 0, none⟩ = some (.slice (some ⟨s1, 0, none⟩) 1 d1) ∧ w'.cell? ⟨bR, 1, none⟩ = some (.slice (some ⟨s2, 0, none⟩) 1 d2) ∧ w'.cell? ⟨zE.heap.size, 0, none⟩ = some (.int .i64 0) ∧ w'.cell? ⟨zE.heap.size, 1, none⟩ = some (.int .i64 0) ∧ w'.cell? ⟨zE.heap.size, 2, none⟩ = some (.int .i64 10000000) ∧ w'.cell? ⟨zE.heap.size, 3, none⟩ = some (.int .i64 10000000) ∧ w'.cell? ⟨w.heap.size, 5, none⟩ = some (.int .i64 0) ∧ Only [M] v w') := fun w' o => by
    have q1 := (Rv.meter Iv o).kr
    have q2 := o.blk kb (by simpa using hnM)
    have q3 := o.blk Iv.kv (by simpa using Iv.kv.ne_ Iv.km (by decide))
    exact ⟨q1.cell 0, q1.cell 1, q2.cell 0, q2.cell 1, q2.cell 2, q2.cell 3, q3.cell 5, o⟩
  have IV := Lib.hid Iv
  have RV := Lib.hid Rv
  clear ev IE RE cV lV cG lG cR lR kb Iv Rv hnM
  go_cut [19, 20] (fun a b wx => ∃ A, a = .pointer (some ⟨A, 0, none⟩) ∧ b = .int .i64 0 ∧ Blk wx A 75 #[.int .i64 1, .int .i64 1] ∧ RInv w w.heap.size bG M (.slice (some ⟨p1, 0, none⟩) 1 m1) (.slice (some ⟨p2, 0, none⟩) 1 m2) gl cl gp cp (.slice (some ⟨q1, 0, none⟩) 1 cq1) 1 (1 + 1) wx ∧ RRow bR (.slice (some ⟨s1, 0, none⟩) 1 d1) (.slice (some ⟨s2, 0, none⟩) 1 d2) gl cl gp cp wx)
  case first =>
    go_region_held3 (fun w' => w'.cell? ⟨bR, 0, none⟩ = some (.slice (some ⟨s1, 0, none⟩) 1 d1) ∧ w'.cell? ⟨bR, 1, none⟩ = some (.slice (some ⟨s2, 0, none⟩) 1 d2) ∧ w'.cell? ⟨zE.heap.size, 0, none⟩ = some (.int .i64 0) ∧ w'.cell? ⟨zE.heap.size, 1, none⟩ = some (.int .i64 0) ∧ w'.cell? ⟨zE.heap.size, 2, none⟩ = some (.int .i64 10000000) ∧ w'.cell? ⟨zE.heap.size, 3, none⟩ = some (.int .i64 10000000) ∧ w'.cell? ⟨w.heap.size, 5, none⟩ = some (.int .i64 0) ∧ Only [M] v w')
      (exact hKS _ (by (repeat' (first | (with_reducible exact Only.refl _ _) | (with_reducible assumption) | (with_reducible refine Only.drewN ?_ _) | (with_reducible refine Only.drew ?_) | (with_reducible refine Only.alloc ?_ _) | (with_reducible refine Only.setCell ?_ ?_ _) | (left; simp; done) | (right; omega) | (right; simp; done) | (right; simp; omega)))))
      (first | (go_at_call 74; (with_reducible refine (near_sq 0 0 10000000 10000000 _ _ gl cl gp cp _ (by first | exact RV.out.drew.hr | exact (RV.out.alloc _).drew.hr) (by first | exact RV.out.drew.hx | exact (RV.out.alloc _).drew.hx) (by omega) (by omega) (by omega) (by omega) (by omega) (by omega)).mono ?_); rintro e zN ⟨t1, t2, rfl, ht1, ht2, hb⟩; obtain ⟨a1, b1, rfl, _, _⟩ := ht1.form; obtain ⟨a2, b2, rfl, _, _⟩ := ht2.form; have iN : RInv w w.heap.size bG M (.slice (some ⟨p1, 0, none⟩) 1 m1) (.slice (some ⟨p2, 0, none⟩) 1 m2) gl cl gp cp (.slice (some ⟨q1, 0, none⟩) 1 cq1) 1 1 zN := (by first | exact IV.out.drew.below hb | exact (IV.out.alloc _).drew.below hb); have rN : RRow bR (.slice (some ⟨s1, 0, none⟩) 1 d1) (.slice (some ⟨s2, 0, none⟩) 1 d2) gl cl gp cp zN := (by first | exact RV.out.drew.below hb | exact (RV.out.alloc _).drew.below hb); (try have kA := Lib.hid (Blk.below (show Blk (v.alloc (.cells #[.int .i64 0, .int .i64 0] 75)).drew v.heap.size 75 #[.int .i64 0, .int .i64 0] from (Blk.newAt rfl).drew) hb (by simp))); have IN := Lib.hid iN; have RN := Lib.hid rN; have TN := Lib.hid ht1; have onN : Only [M] v zN := (by first | exact (Only.refl _ _).drew.below hb (Nat.le_refl _) | exact (((Only.refl _ _).alloc _).drew).below hb (by simp)); have sN := onN.size; clear hb ht1 ht2 iN rN) | (go_at_call 75; (with_reducible refine (examine_sq 0 0 10000000 10000000 1 M _ _ gl cl gp cp _ (by first | exact TN.out | exact TN.out.alloc _) (by first | exact IN.out.km | exact IN.out.km.alloc _) (by omega) (by omega) (by omega) (by omega) (by omega) (by omega) (by omega) (by omega)).mono ?_); rintro e zX ⟨rfl, hk, ho⟩; have iX : RInv w w.heap.size bG M (.slice (some ⟨p1, 0, none⟩) 1 m1) (.slice (some ⟨p2, 0, none⟩) 1 m2) gl cl gp cp (.slice (some ⟨q1, 0, none⟩) 1 cq1) 1 (1 + 1) zX := (by first | exact IN.out.meter ho hk | exact (IN.out.alloc _).meter ho hk); have rX : RRow bR (.slice (some ⟨s1, 0, none⟩) 1 d1) (.slice (some ⟨s2, 0, none⟩) 1 d2) gl cl gp cp zX := (by first | exact RN.out.meter IN.out ho | exact (RN.out.alloc _).meter (IN.out.alloc _) ho); (try have cA := ho.blk kA.out (by simpa using kA.out.ne_ IN.out.km (by decide))); (try have cA := ho.blk (show Blk (zN.alloc (.cells #[.int .i64 0, .int .i64 0] 75)) zN.heap.size 75 #[.int .i64 0, .int .i64 0] from Blk.newAt rfl) (by have := IN.out.km.lt; simp; omega)); (try have fA := cA.cell); (try have fB := cA.frozen); (try have fC := cA.lt); have IX := Lib.hid iX; have RX := Lib.hid rX; have onX : Only [M] v zX := (by first | exact onN.trans ho | exact (onN.alloc _).trans ho); have sX := onX.size; clear hk ho iX rX))
    all_goals
      go_wp2_with fail
      go_meet
      first
      | exact ⟨zX.heap.size, rfl, rfl, Blk.newAt rfl, IX.out.alloc _, RX.out.alloc _⟩
      | exact ⟨zN.heap.size, rfl, rfl, (cA.set_ 0 _ rfl).set_ 1 _ rfl, IX.out.one (((Only.refl _ zX).setCell (p := ⟨zN.heap.size, 0, none⟩) (by simp) (.int .i64 1)).setCell (p := ⟨zN.heap.size, 1, none⟩) (by simp) (.int .i64 1)) cA (fun e => by have := own_lt IN.out.own e; omega) IN.out.om.size, RX.out.one IX.out (((Only.refl _ zX).setCell (p := ⟨zN.heap.size, 0, none⟩) (by simp) (.int .i64 1)).setCell (p := ⟨zN.heap.size, 1, none⟩) (by simp) (.int .i64 1)) cA IN.out.om.size⟩
      | exact ⟨v.heap.size, rfl, rfl, (cA.set_ 0 _ rfl).set_ 1 _ rfl, IX.out.one (((Only.refl _ zX).setCell (p := ⟨v.heap.size, 0, none⟩) (by simp) (.int .i64 1)).setCell (p := ⟨v.heap.size, 1, none⟩) (by simp) (.int .i64 1)) cA (fun e => by have := own_lt IV.out.own e; omega) IV.out.om.size, RX.out.one IX.out (((Only.refl _ zX).setCell (p := ⟨v.heap.size, 0, none⟩) (by simp) (.int .i64 1)).setCell (p := ⟨v.heap.size, 1, none⟩) (by simp) (.int .i64 1)) cA IV.out.om.size⟩
  case rest =>
  obtain ⟨A, rfl, rfl, kA, Ic, Rc⟩ := hcut
  have cA := kA.cell
  have lA := kA.lt
  have hN9 : ∀ j v, ([.int .i64 1, .int .i64 1] : List Value)[j]? = some v → (wc.alloc (.cells #[.int .i64 1, .int .i64 1] 75)).cell? ((⟨wc.heap.size, 0, none⟩ : Addr).add j) = some v :=
    World.news_of_block (cs := #[.int .i64 1, .int .i64 1]) (Blk.newAt (w := wc) rfl)
  have HN9 := Lib.hid hN9
  have IZ := Lib.hid (Ic.alloc (.cells #[.int .i64 1, .int .i64 1] 75))
  have RZ := Lib.hid (Rc.alloc (.cells #[.int .i64 1, .int .i64 1] 75))
  clear hN9 kA Ic Rc IV RV hKS
  go_wp2_with (at_builtin; refine wpList_append_lies _ rfl (.tmp 89) (.tmp 91) 66 rfl w.heap.size 75 i104 _ 2 16 Tryz.underlying66 HI.out.1 HI.out.2.1 HI.out.2.2.1 HI.out.2.2.2 hZ.out (by decide) (.slice (some ⟨q1, 0, none⟩) 1 cq1) 1 (ones 1) (by simp [Act.eval]) IZ.out.own ⟨wc.heap.size, 0, none⟩ 1 1 [.int .i64 1, .int .i64 1] (by simp [Act.eval]) rfl HN9.out ones1 (by decide) (by decide) (by decide) IZ.out.om.size _ rfl ?_)
  intro q2 cq2 zY2 hown hgrow hat hlt
  have IY2 : RInv w w.heap.size bG M (.slice (some ⟨p1, 0, none⟩) 1 m1) (.slice (some ⟨p2, 0, none⟩) 1 m2) gl cl gp cp (.slice (some ⟨q2, 0, none⟩) 2 cq2) 2 2 zY2 := IZ.out.put hgrow (by rw [← ones_succ]; exact hown)
  have RY2 : RRow bR (.slice (some ⟨s1, 0, none⟩) 1 d1) (.slice (some ⟨s2, 0, none⟩) 1 d2) gl cl gp cp zY2 := RZ.out.put IZ.out hgrow
  clear hown hgrow hat hlt IZ RZ HN9 cA lA
  have cV := IY2.kv.cell
  have lV := IY2.kv.lt
  have cG := IY2.kg.cell
  have lG := IY2.kg.lt
  have cR := RY2.kr.cell
  have lR := RY2.kr.lt
  go_wp2_with fail
  rw [rounds_succ]
  go_wp2_with fail
  clear RY2 cR lR
  rw [rounds_succ]
  go_wp2_with fail
  refine (pixel_01 _).mono ?_
  rintro e zA ⟨rfl, hb⟩
  have IA := IY2.below hb
  clear hb IY2 cV lV cG lG
  have cV := IA.kv.cell
  have lV := IA.kv.lt
  have cG := IA.kg.cell
  have lG := IA.kg.lt
  go_wp2_with fail
  refine (pixel_11 _).mono ?_
  rintro e zB ⟨rfl, hb⟩
  have kb : Blk zB zA.heap.size 70 #[.int .i64 (-10000000), .int .i64 (-10000000), .int .i64 0, .int .i64 0] := Blk.below (Blk.newAt (w := zA) rfl) hb (by simp)
  have IB := (IA.alloc (.cells #[.int .i64 (-10000000), .int .i64 (-10000000), .int .i64 0, .int .i64 0] 70)).below hb
  have cb := kb.cell
  have lb := kb.lt
  clear hb kb IA cV lV cG lG
  have cV := IB.kv.cell
  have lV := IB.kv.lt
  have cG := IB.kg.cell
  have lG := IB.kg.lt
  go_wp2_with fail
  refine (near_sq (-10000000) (-10000000) 10000000 0 _ _ gl cl gp cp _ (IB.alloc (.cells #[.int .i64 0, .int .i64 (-10000000), .int .i64 10000000, .int .i64 0] 70)).ob (IB.alloc (.cells #[.int .i64 0, .int .i64 (-10000000), .int .i64 10000000, .int .i64 0] 70)).ex (by omega) (by omega) (by omega) (by omega) (by omega) (by omega)).mono ?_
  rintro e zC ⟨r1, r2, rfl, hr1, hr2, hb⟩
  obtain ⟨s1, d1, rfl, _, _⟩ := hr1.form
  obtain ⟨s2, d2, rfl, _, _⟩ := hr2.form
  have IC := (IB.alloc (.cells #[.int .i64 0, .int .i64 (-10000000), .int .i64 10000000, .int .i64 0] 70)).below hb
  clear hb IB cb lb cV lV cG lG
  have cV := IC.kv.cell
  have lV := IC.kv.lt
  have cG := IC.kg.cell
  have lG := IC.kg.lt
  go_wp2_with fail
  obtain ⟨x, ex⟩ : ∃ x, zC.alloc (.cells #[.slice (some ⟨s1, 0, none⟩) 1 d1, .slice (some ⟨s2, 0, none⟩) 1 d2] 169) = x := ⟨_, rfl⟩
  have Ix := IC.alloc (.cells #[.slice (some ⟨s1, 0, none⟩) 1 d1, .slice (some ⟨s2, 0, none⟩) 1 d2] 169)
  have Rx : RRow zC.heap.size (.slice (some ⟨s1, 0, none⟩) 1 d1) (.slice (some ⟨s2, 0, none⟩) 1 d2) gl cl gp cp x := ⟨by rw [← ex]; exact Blk.newAt rfl, by rw [← ex]; exact hr1.alloc _, by rw [← ex]; exact hr2.alloc _⟩
  rw [ex] at Ix
  first | rw [ex] | skip
  obtain ⟨bR, ebR⟩ : ∃ b, zC.heap.size = b := ⟨_, rfl⟩
  rw [ebR] at Rx
  simp only [ebR]
  clear ex ebR IC hr1 hr2 cV lV cG lG
  have cV := Ix.kv.cell
  have lV := Ix.kv.lt
  have cG := Ix.kg.cell
  have lG := Ix.kg.lt
  have cR := Rx.kr.cell
  have lR := Rx.kr.lt
  refine wp_loop_rounds 3 ?_
  rw [rounds_succ]
  go_wp2_with fail
  refine (pixel_01 _).mono ?_
  rintro e zE ⟨rfl, hb⟩
  have IE := Ix.below hb
  have RE := Rx.below hb
  clear hb Ix Rx cV lV cG lG cR lR
  have cV := IE.kv.cell
  have lV := IE.kv.lt
  have cG := IE.kg.cell
  have lG := IE.kg.lt
  have cR := RE.kr.cell
  have lR := RE.kr.lt
  go_wp2_with fail
  obtain ⟨v, ev⟩ : ∃ v, zE.alloc (.cells #[.int .i64 (-10000000), .int .i64 (-10000000), .int .i64 0, .int .i64 0] 70) = v := ⟨_, rfl⟩
  have Iv := IE.alloc (.cells #[.int .i64 (-10000000), .int .i64 (-10000000), .int .i64 0, .int .i64 0] 70)
  have Rv := RE.alloc (.cells #[.int .i64 (-10000000), .int .i64 (-10000000), .int .i64 0, .int .i64 0] 70)
  have kb : Blk v zE.heap.size 70 #[.int .i64 (-10000000), .int .i64 (-10000000), .int .i64 0, .int .i64 0] := by rw [← ev]; exact Blk.newAt rfl
  rw [ev] at Iv Rv
  rw [ev]
  have hnM : zE.heap.size ≠ M := kb.ne_ Iv.km (by decide)
  have hKS : ∀ w', Only [M] v w' → (w'.cell? ⟨bR, 0, none⟩ = some (.slice (some ⟨s1, 0, none⟩) 1 d1) ∧ w'.cell? ⟨bR, 1, none⟩ = some (.slice (some ⟨s2, 0, none⟩) 1 d2) ∧ w'.cell? ⟨zE.heap.size, 0, none⟩ = some (.int .i64 (-10000000)) ∧ w'.cell? ⟨zE.heap.size, 1, none⟩ = some (.int .i64 (-10000000)) ∧ w'.cell? ⟨zE.heap.size, 2, none⟩ = some (.int .i64 0) ∧ w'.cell? ⟨zE.heap.size, 3, none⟩ = some (.int .i64 0) ∧ w'.cell? ⟨w.heap.size, 5, none⟩ = some (.int .i64 0) ∧ Only [M] v w') := fun w' o => by
    have q1 := (Rv.meter Iv o).kr
    have q2 := o.blk kb (by simpa using hnM)
    have q3 := o.blk Iv.kv (by simpa using Iv.kv.ne_ Iv.km (by decide))
    exact ⟨q1.cell 0, q1.cell 1, q2.cell 0, q2.cell 1, q2.cell 2, q2.cell 3, q3.cell 5, o⟩
  have IV := Lib.hid Iv
  have RV := Lib.hid Rv
  clear ev IE RE cV lV cG lG cR lR kb Iv Rv hnM
  go_cut [19, 20] (fun a b wx => ∃ A, a = .pointer (some ⟨A, 0, none⟩) ∧ b = .int .i64 0 ∧ Blk wx A 75 #[.int .i64 1, .int .i64 1] ∧ RInv w w.heap.size bG M (.slice (some ⟨p1, 0, none⟩) 1 m1) (.slice (some ⟨p2, 0, none⟩) 1 m2) gl cl gp cp (.slice (some ⟨q2, 0, none⟩) 2 cq2) 2 (2 + 1) wx ∧ RRow bR (.slice (some ⟨s1, 0, none⟩) 1 d1) (.slice (some ⟨s2, 0, none⟩) 1 d2) gl cl gp cp wx)
  case first =>
    go_region_held3 (fun w' => w'.cell? ⟨bR, 0, none⟩ = some (.slice (some ⟨s1, 0, none⟩) 1 d1) ∧ w'.cell? ⟨bR, 1, none⟩ = some (.slice (some ⟨s2, 0, none⟩) 1 d2) ∧ w'.cell? ⟨zE.heap.size, 0, none⟩ = some (.int .i64 (-10000000)) ∧ w'.cell? ⟨zE.heap.size, 1, none⟩ = some (.int .i64 (-10000000)) ∧ w'.cell? ⟨zE.heap.size, 2, none⟩ = some (.int .i64 0) ∧ w'.cell? ⟨zE.heap.size, 3, none⟩ = some (.int .i64 0) ∧ w'.cell? ⟨w.heap.size, 5, none⟩ = some (.int .i64 0) ∧ Only [M] v w')
      (exact hKS _ (by (repeat' (first | (with_reducible exact Only.refl _ _) | (with_reducible assumption) | (with_reducible refine Only.drewN ?_ _) | (with_reducible refine Only.drew ?_) | (with_reducible refine Only.alloc ?_ _) | (with_reducible refine Only.setCell ?_ ?_ _) | (left; simp; done) | (right; omega) | (right; simp; done) | (right; simp; omega)))))
      (first | (go_at_call 74; (with_reducible refine (near_sq (-10000000) (-10000000) 0 0 _ _ gl cl gp cp _ (by first | exact RV.out.drew.hr | exact (RV.out.alloc _).drew.hr) (by first | exact RV.out.drew.hx | exact (RV.out.alloc _).drew.hx) (by omega) (by omega) (by omega) (by omega) (by omega) (by omega)).mono ?_); rintro e zN ⟨t1, t2, rfl, ht1, ht2, hb⟩; obtain ⟨a1, b1, rfl, _, _⟩ := ht1.form; obtain ⟨a2, b2, rfl, _, _⟩ := ht2.form; have iN : RInv w w.heap.size bG M (.slice (some ⟨p1, 0, none⟩) 1 m1) (.slice (some ⟨p2, 0, none⟩) 1 m2) gl cl gp cp (.slice (some ⟨q2, 0, none⟩) 2 cq2) 2 2 zN := (by first | exact IV.out.drew.below hb | exact (IV.out.alloc _).drew.below hb); have rN : RRow bR (.slice (some ⟨s1, 0, none⟩) 1 d1) (.slice (some ⟨s2, 0, none⟩) 1 d2) gl cl gp cp zN := (by first | exact RV.out.drew.below hb | exact (RV.out.alloc _).drew.below hb); (try have kA := Lib.hid (Blk.below (show Blk (v.alloc (.cells #[.int .i64 0, .int .i64 0] 75)).drew v.heap.size 75 #[.int .i64 0, .int .i64 0] from (Blk.newAt rfl).drew) hb (by simp))); have IN := Lib.hid iN; have RN := Lib.hid rN; have TN := Lib.hid ht1; have onN : Only [M] v zN := (by first | exact (Only.refl _ _).drew.below hb (Nat.le_refl _) | exact (((Only.refl _ _).alloc _).drew).below hb (by simp)); have sN := onN.size; clear hb ht1 ht2 iN rN) | (go_at_call 75; (with_reducible refine (examine_sq (-10000000) (-10000000) 0 0 2 M _ _ gl cl gp cp _ (by first | exact TN.out | exact TN.out.alloc _) (by first | exact IN.out.km | exact IN.out.km.alloc _) (by omega) (by omega) (by omega) (by omega) (by omega) (by omega) (by omega) (by omega)).mono ?_); rintro e zX ⟨rfl, hk, ho⟩; have iX : RInv w w.heap.size bG M (.slice (some ⟨p1, 0, none⟩) 1 m1) (.slice (some ⟨p2, 0, none⟩) 1 m2) gl cl gp cp (.slice (some ⟨q2, 0, none⟩) 2 cq2) 2 (2 + 1) zX := (by first | exact IN.out.meter ho hk | exact (IN.out.alloc _).meter ho hk); have rX : RRow bR (.slice (some ⟨s1, 0, none⟩) 1 d1) (.slice (some ⟨s2, 0, none⟩) 1 d2) gl cl gp cp zX := (by first | exact RN.out.meter IN.out ho | exact (RN.out.alloc _).meter (IN.out.alloc _) ho); (try have cA := ho.blk kA.out (by simpa using kA.out.ne_ IN.out.km (by decide))); (try have cA := ho.blk (show Blk (zN.alloc (.cells #[.int .i64 0, .int .i64 0] 75)) zN.heap.size 75 #[.int .i64 0, .int .i64 0] from Blk.newAt rfl) (by have := IN.out.km.lt; simp; omega)); (try have fA := cA.cell); (try have fB := cA.frozen); (try have fC := cA.lt); have IX := Lib.hid iX; have RX := Lib.hid rX; have onX : Only [M] v zX := (by first | exact onN.trans ho | exact (onN.alloc _).trans ho); have sX := onX.size; clear hk ho iX rX))
    all_goals
      go_wp2_with fail
      go_meet
      first
      | exact ⟨zX.heap.size, rfl, rfl, Blk.newAt rfl, IX.out.alloc _, RX.out.alloc _⟩
      | exact ⟨zN.heap.size, rfl, rfl, (cA.set_ 0 _ rfl).set_ 1 _ rfl, IX.out.one (((Only.refl _ zX).setCell (p := ⟨zN.heap.size, 0, none⟩) (by simp) (.int .i64 1)).setCell (p := ⟨zN.heap.size, 1, none⟩) (by simp) (.int .i64 1)) cA (fun e => by have := own_lt IN.out.own e; omega) IN.out.om.size, RX.out.one IX.out (((Only.refl _ zX).setCell (p := ⟨zN.heap.size, 0, none⟩) (by simp) (.int .i64 1)).setCell (p := ⟨zN.heap.size, 1, none⟩) (by simp) (.int .i64 1)) cA IN.out.om.size⟩
      | exact ⟨v.heap.size, rfl, rfl, (cA.set_ 0 _ rfl).set_ 1 _ rfl, IX.out.one (((Only.refl _ zX).setCell (p := ⟨v.heap.size, 0, none⟩) (by simp) (.int .i64 1)).setCell (p := ⟨v.heap.size, 1, none⟩) (by simp) (.int .i64 1)) cA (fun e => by have := own_lt IV.out.own e; omega) IV.out.om.size, RX.out.one IX.out (((Only.refl _ zX).setCell (p := ⟨v.heap.size, 0, none⟩) (by simp) (.int .i64 1)).setCell (p := ⟨v.heap.size, 1, none⟩) (by simp) (.int .i64 1)) cA IV.out.om.size⟩
  case rest =>
  obtain ⟨A, rfl, rfl, kA, Ic, Rc⟩ := hcut
  have cA := kA.cell
  have lA := kA.lt
  have hN9 : ∀ j v, ([.int .i64 1, .int .i64 1] : List Value)[j]? = some v → (wc.alloc (.cells #[.int .i64 1, .int .i64 1] 75)).cell? ((⟨wc.heap.size, 0, none⟩ : Addr).add j) = some v :=
    World.news_of_block (cs := #[.int .i64 1, .int .i64 1]) (Blk.newAt (w := wc) rfl)
  have HN9 := Lib.hid hN9
  have IZ := Lib.hid (Ic.alloc (.cells #[.int .i64 1, .int .i64 1] 75))
  have RZ := Lib.hid (Rc.alloc (.cells #[.int .i64 1, .int .i64 1] 75))
  clear hN9 kA Ic Rc IV RV hKS
  go_wp2_with (at_builtin; refine wpList_append_lies _ rfl (.tmp 89) (.tmp 91) 66 rfl w.heap.size 75 i104 _ 2 16 Tryz.underlying66 HI.out.1 HI.out.2.1 HI.out.2.2.1 HI.out.2.2.2 hZ.out (by decide) (.slice (some ⟨q2, 0, none⟩) 2 cq2) 2 (ones 2) (by simp [Act.eval]) IZ.out.own ⟨wc.heap.size, 0, none⟩ 1 1 [.int .i64 1, .int .i64 1] (by simp [Act.eval]) rfl HN9.out ones1 (by decide) (by decide) (by decide) IZ.out.om.size _ rfl ?_)
  intro q3 cq3 zY3 hown hgrow hat hlt
  have IY3 : RInv w w.heap.size bG M (.slice (some ⟨p1, 0, none⟩) 1 m1) (.slice (some ⟨p2, 0, none⟩) 1 m2) gl cl gp cp (.slice (some ⟨q3, 0, none⟩) 3 cq3) 3 3 zY3 := IZ.out.put hgrow (by rw [← ones_succ]; exact hown)
  have RY3 : RRow bR (.slice (some ⟨s1, 0, none⟩) 1 d1) (.slice (some ⟨s2, 0, none⟩) 1 d2) gl cl gp cp zY3 := RZ.out.put IZ.out hgrow
  clear hown hgrow hat hlt IZ RZ HN9 cA lA
  have cV := IY3.kv.cell
  have lV := IY3.kv.lt
  have cG := IY3.kg.cell
  have lG := IY3.kg.lt
  have cR := RY3.kr.cell
  have lR := RY3.kr.lt
  go_wp2_with fail
  rw [rounds_succ]
  go_wp2_with fail
  refine (pixel_11 _).mono ?_
  rintro e zE ⟨rfl, hb⟩
  have IE := IY3.below hb
  have RE := RY3.below hb
  clear hb IY3 RY3 cV lV cG lG cR lR
  have cV := IE.kv.cell
  have lV := IE.kv.lt
  have cG := IE.kg.cell
  have lG := IE.kg.lt
  have cR := RE.kr.cell
  have lR := RE.kr.lt
  go_wp2_with fail
  obtain ⟨v, ev⟩ : ∃ v, zE.alloc (.cells #[.int .i64 0, .int .i64 (-10000000), .int .i64 10000000, .int .i64 0] 70) = v := ⟨_, rfl⟩
  have Iv := IE.alloc (.cells #[.int .i64 0, .int .i64 (-10000000), .int .i64 10000000, .int .i64 0] 70)
  have Rv := RE.alloc (.cells #[.int .i64 0, .int .i64 (-10000000), .int .i64 10000000, .int .i64 0] 70)
  have kb : Blk v zE.heap.size 70 #[.int .i64 0, .int .i64 (-10000000), .int .i64 10000000, .int .i64 0] := by rw [← ev]; exact Blk.newAt rfl
  rw [ev] at Iv Rv
  rw [ev]
  have hnM : zE.heap.size ≠ M := kb.ne_ Iv.km (by decide)
  have hKS : ∀ w', Only [M] v w' → (w'.cell? ⟨bR, 0, none⟩ = some (.slice (some ⟨s1, 0, none⟩) 1 d1) ∧ w'.cell? ⟨bR, 1, none⟩ = some (.slice (some ⟨s2, 0, none⟩) 1 d2) ∧ w'.cell? ⟨zE.heap.size, 0, none⟩ = some (.int .i64 0) ∧ w'.cell? ⟨zE.heap.size, 1, none⟩ = some (.int .i64 (-10000000)) ∧ w'.cell? ⟨zE.heap.size, 2, none⟩ = some (.int .i64 10000000) ∧ w'.cell? ⟨zE.heap.size, 3, none⟩ = some (.int .i64 0) ∧ w'.cell? ⟨w.heap.size, 5, none⟩ = some (.int .i64 0) ∧ Only [M] v w') := fun w' o => by
    have q1 := (Rv.meter Iv o).kr
    have q2 := o.blk kb (by simpa using hnM)
    have q3 := o.blk Iv.kv (by simpa using Iv.kv.ne_ Iv.km (by decide))
    exact ⟨q1.cell 0, q1.cell 1, q2.cell 0, q2.cell 1, q2.cell 2, q2.cell 3, q3.cell 5, o⟩
  have IV := Lib.hid Iv
  have RV := Lib.hid Rv
  clear ev IE RE cV lV cG lG cR lR kb Iv Rv hnM
  go_cut [19, 20] (fun a b wx => ∃ A, a = .pointer (some ⟨A, 0, none⟩) ∧ b = .int .i64 0 ∧ Blk wx A 75 #[.int .i64 1, .int .i64 1] ∧ RInv w w.heap.size bG M (.slice (some ⟨p1, 0, none⟩) 1 m1) (.slice (some ⟨p2, 0, none⟩) 1 m2) gl cl gp cp (.slice (some ⟨q3, 0, none⟩) 3 cq3) 3 (3 + 1) wx ∧ RRow bR (.slice (some ⟨s1, 0, none⟩) 1 d1) (.slice (some ⟨s2, 0, none⟩) 1 d2) gl cl gp cp wx)
  case first =>
    go_region_held3 (fun w' => w'.cell? ⟨bR, 0, none⟩ = some (.slice (some ⟨s1, 0, none⟩) 1 d1) ∧ w'.cell? ⟨bR, 1, none⟩ = some (.slice (some ⟨s2, 0, none⟩) 1 d2) ∧ w'.cell? ⟨zE.heap.size, 0, none⟩ = some (.int .i64 0) ∧ w'.cell? ⟨zE.heap.size, 1, none⟩ = some (.int .i64 (-10000000)) ∧ w'.cell? ⟨zE.heap.size, 2, none⟩ = some (.int .i64 10000000) ∧ w'.cell? ⟨zE.heap.size, 3, none⟩ = some (.int .i64 0) ∧ w'.cell? ⟨w.heap.size, 5, none⟩ = some (.int .i64 0) ∧ Only [M] v w')
      (exact hKS _ (by (repeat' (first | (with_reducible exact Only.refl _ _) | (with_reducible assumption) | (with_reducible refine Only.drewN ?_ _) | (with_reducible refine Only.drew ?_) | (with_reducible refine Only.alloc ?_ _) | (with_reducible refine Only.setCell ?_ ?_ _) | (left; simp; done) | (right; omega) | (right; simp; done) | (right; simp; omega)))))
      (first | (go_at_call 74; (with_reducible refine (near_sq 0 (-10000000) 10000000 0 _ _ gl cl gp cp _ (by first | exact RV.out.drew.hr | exact (RV.out.alloc _).drew.hr) (by first | exact RV.out.drew.hx | exact (RV.out.alloc _).drew.hx) (by omega) (by omega) (by omega) (by omega) (by omega) (by omega)).mono ?_); rintro e zN ⟨t1, t2, rfl, ht1, ht2, hb⟩; obtain ⟨a1, b1, rfl, _, _⟩ := ht1.form; obtain ⟨a2, b2, rfl, _, _⟩ := ht2.form; have iN : RInv w w.heap.size bG M (.slice (some ⟨p1, 0, none⟩) 1 m1) (.slice (some ⟨p2, 0, none⟩) 1 m2) gl cl gp cp (.slice (some ⟨q3, 0, none⟩) 3 cq3) 3 3 zN := (by first | exact IV.out.drew.below hb | exact (IV.out.alloc _).drew.below hb); have rN : RRow bR (.slice (some ⟨s1, 0, none⟩) 1 d1) (.slice (some ⟨s2, 0, none⟩) 1 d2) gl cl gp cp zN := (by first | exact RV.out.drew.below hb | exact (RV.out.alloc _).drew.below hb); (try have kA := Lib.hid (Blk.below (show Blk (v.alloc (.cells #[.int .i64 0, .int .i64 0] 75)).drew v.heap.size 75 #[.int .i64 0, .int .i64 0] from (Blk.newAt rfl).drew) hb (by simp))); have IN := Lib.hid iN; have RN := Lib.hid rN; have TN := Lib.hid ht1; have onN : Only [M] v zN := (by first | exact (Only.refl _ _).drew.below hb (Nat.le_refl _) | exact (((Only.refl _ _).alloc _).drew).below hb (by simp)); have sN := onN.size; clear hb ht1 ht2 iN rN) | (go_at_call 75; (with_reducible refine (examine_sq 0 (-10000000) 10000000 0 3 M _ _ gl cl gp cp _ (by first | exact TN.out | exact TN.out.alloc _) (by first | exact IN.out.km | exact IN.out.km.alloc _) (by omega) (by omega) (by omega) (by omega) (by omega) (by omega) (by omega) (by omega)).mono ?_); rintro e zX ⟨rfl, hk, ho⟩; have iX : RInv w w.heap.size bG M (.slice (some ⟨p1, 0, none⟩) 1 m1) (.slice (some ⟨p2, 0, none⟩) 1 m2) gl cl gp cp (.slice (some ⟨q3, 0, none⟩) 3 cq3) 3 (3 + 1) zX := (by first | exact IN.out.meter ho hk | exact (IN.out.alloc _).meter ho hk); have rX : RRow bR (.slice (some ⟨s1, 0, none⟩) 1 d1) (.slice (some ⟨s2, 0, none⟩) 1 d2) gl cl gp cp zX := (by first | exact RN.out.meter IN.out ho | exact (RN.out.alloc _).meter (IN.out.alloc _) ho); (try have cA := ho.blk kA.out (by simpa using kA.out.ne_ IN.out.km (by decide))); (try have cA := ho.blk (show Blk (zN.alloc (.cells #[.int .i64 0, .int .i64 0] 75)) zN.heap.size 75 #[.int .i64 0, .int .i64 0] from Blk.newAt rfl) (by have := IN.out.km.lt; simp; omega)); (try have fA := cA.cell); (try have fB := cA.frozen); (try have fC := cA.lt); have IX := Lib.hid iX; have RX := Lib.hid rX; have onX : Only [M] v zX := (by first | exact onN.trans ho | exact (onN.alloc _).trans ho); have sX := onX.size; clear hk ho iX rX))
    all_goals
      go_wp2_with fail
      go_meet
      first
      | exact ⟨zX.heap.size, rfl, rfl, Blk.newAt rfl, IX.out.alloc _, RX.out.alloc _⟩
      | exact ⟨zN.heap.size, rfl, rfl, (cA.set_ 0 _ rfl).set_ 1 _ rfl, IX.out.one (((Only.refl _ zX).setCell (p := ⟨zN.heap.size, 0, none⟩) (by simp) (.int .i64 1)).setCell (p := ⟨zN.heap.size, 1, none⟩) (by simp) (.int .i64 1)) cA (fun e => by have := own_lt IN.out.own e; omega) IN.out.om.size, RX.out.one IX.out (((Only.refl _ zX).setCell (p := ⟨zN.heap.size, 0, none⟩) (by simp) (.int .i64 1)).setCell (p := ⟨zN.heap.size, 1, none⟩) (by simp) (.int .i64 1)) cA IN.out.om.size⟩
      | exact ⟨v.heap.size, rfl, rfl, (cA.set_ 0 _ rfl).set_ 1 _ rfl, IX.out.one (((Only.refl _ zX).setCell (p := ⟨v.heap.size, 0, none⟩) (by simp) (.int .i64 1)).setCell (p := ⟨v.heap.size, 1, none⟩) (by simp) (.int .i64 1)) cA (fun e => by have := own_lt IV.out.own e; omega) IV.out.om.size, RX.out.one IX.out (((Only.refl _ zX).setCell (p := ⟨v.heap.size, 0, none⟩) (by simp) (.int .i64 1)).setCell (p := ⟨v.heap.size, 1, none⟩) (by simp) (.int .i64 1)) cA IV.out.om.size⟩
  case rest =>
  obtain ⟨A, rfl, rfl, kA, Ic, Rc⟩ := hcut
  have cA := kA.cell
  have lA := kA.lt
  have hN9 : ∀ j v, ([.int .i64 1, .int .i64 1] : List Value)[j]? = some v → (wc.alloc (.cells #[.int .i64 1, .int .i64 1] 75)).cell? ((⟨wc.heap.size, 0, none⟩ : Addr).add j) = some v :=
    World.news_of_block (cs := #[.int .i64 1, .int .i64 1]) (Blk.newAt (w := wc) rfl)
  have HN9 := Lib.hid hN9
  have IZ := Lib.hid (Ic.alloc (.cells #[.int .i64 1, .int .i64 1] 75))
  have RZ := Lib.hid (Rc.alloc (.cells #[.int .i64 1, .int .i64 1] 75))
  clear hN9 kA Ic Rc IV RV hKS
  go_wp2_with (at_builtin; refine wpList_append_lies _ rfl (.tmp 89) (.tmp 91) 66 rfl w.heap.size 75 i104 _ 2 16 Tryz.underlying66 HI.out.1 HI.out.2.1 HI.out.2.2.1 HI.out.2.2.2 hZ.out (by decide) (.slice (some ⟨q3, 0, none⟩) 3 cq3) 3 (ones 3) (by simp [Act.eval]) IZ.out.own ⟨wc.heap.size, 0, none⟩ 1 1 [.int .i64 1, .int .i64 1] (by simp [Act.eval]) rfl HN9.out ones1 (by decide) (by decide) (by decide) IZ.out.om.size _ rfl ?_)
  intro q4 cq4 zY4 hown hgrow hat hlt
  have IY4 : RInv w w.heap.size bG M (.slice (some ⟨p1, 0, none⟩) 1 m1) (.slice (some ⟨p2, 0, none⟩) 1 m2) gl cl gp cp (.slice (some ⟨q4, 0, none⟩) 4 cq4) 4 4 zY4 := IZ.out.put hgrow (by rw [← ones_succ]; exact hown)
  have RY4 : RRow bR (.slice (some ⟨s1, 0, none⟩) 1 d1) (.slice (some ⟨s2, 0, none⟩) 1 d2) gl cl gp cp zY4 := RZ.out.put IZ.out hgrow
  clear hown hgrow hat hlt IZ RZ HN9 cA lA
  have cV := IY4.kv.cell
  have lV := IY4.kv.lt
  have cG := IY4.kg.cell
  have lG := IY4.kg.lt
  have cR := RY4.kr.cell
  have lR := RY4.kr.lt
  go_wp2_with fail
  rw [rounds_succ]
  go_wp2_with fail
  clear RY4 cR lR
  rw [rounds_succ]
  go_wp2_with fail
  go_ret2
  exact ⟨_, rfl, IY4.own, IY4.om⟩
end Go.Proofs.YtfajckkbinbpiaaGreatDoor
