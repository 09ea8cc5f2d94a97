/- Walks: tones; what of the job is looked at first. Walks: the one square: that it may be, and how a box lies to it. Walks: a pile of the one square; its bounds. Walks: the group of what may cover a box. Walks: a box is examined. Walks: the image of the one square. -/
import Derived.Deep.AppendLies
import Derived.Deep.Cut
import Derived.Deep.CutRange
import Derived.Deep.RegionHeld3
import Derived.Deep.RegionLaw
import Derived.IntWalk
import Derived.Laws.LoneSync
import Derived.Laws.OwnMore
import Derived.Laws.Pointers
import Derived.Lib.QuietBelow
import Derived.LoopTactic
import Derived.Test.YtfajckkbinbpiaaGreatDoorJ02
import Derived.Test.YtfajckkbinbpiaaGreatDoorJ05
import Derived.Test.YtfajckkbinbpiaaGreatDoorJ07
import Derived.Test.YtfajckkbinbpiaaGreatDoorJ09
import Derived.Test.YtfajckkbinbpiaaGreatDoorJ16
namespace Go.Proofs.YtfajckkbinbpiaaGreatDoor
set_option maxRecDepth 100000
set_option maxHeartbeats 32000000
set_option linter.unusedVariables false
set_option linter.unusedSimpArgs false
open Go.RowKit
theorem isByte_c (c : Int) (w : World) (h0 : 0 ≤ c) (h1 : c ≤ 255) : Calls Tryz.prog 52 #[.int .i64 c] w fun e w' => e = .returned (.bool true) ∧ w' = w := by
  have d1 : decide (0 ≤ c) = true := by simp; omega
  have d3 : decide (c ≤ 255) = true := by simp; omega
  go_enter Tryz.func52, Tryz.ntmps52
  go_wp2
  go_ret
  exact ⟨rfl, rfl⟩
theorem contours_sq (gl cl gp cp : Nat) (w : World) (hS : SqAt w gl gp cp) :
    Calls Tryz.prog 245 #[.slice (some ⟨gl, 0, none⟩) 1 cl] w fun e w' => e = .returned (.bool true) ∧ Below w.heap.size w w' := by
  have HS := Lib.hid hS
  have lgl := hS.lt1
  have lgp := hS.lt2
  obtain ⟨qa0, qb0_0, qb0_1, qb0_2, qb0_3, qb0_4, qb0_5, qb0_6, qb0_7⟩ := hS.cells
  clear hS
  go_enter Tryz.func245, Tryz.ntmps245
  go_wp2_with fail
  refine wp_loop_rounds 2 ?_
  rw [rounds_succ]
  go_wp2_with fail
  refine wp_loop_rounds 5 ?_
  rw [rounds_succ]
  go_wp2_with fail
  refine (near_c _ _ _ (by omega) (by omega) (by omega) (by omega)).mono ?_
  rintro e w1 ⟨rfl, hb⟩
  have hB1 : Below w.heap.size w w1 := Below.trans (by exact blw) (hb.mono (by first | omega | (simp; done) | (simp; omega)))
  have l1 := hB1.size
  clear hb
  obtain ⟨qa1, qb1_0, qb1_1, qb1_2, qb1_3, qb1_4, qb1_5, qb1_6, qb1_7⟩ := (HS.out.below hB1 (Nat.le_refl _)).cells
  clear qa0 qb0_0 qb0_1 qb0_2 qb0_3 qb0_4 qb0_5 qb0_6 qb0_7
  go_wp2_with fail
  rw [rounds_succ]
  go_wp2_with fail
  refine (near_c _ _ _ (by omega) (by omega) (by omega) (by omega)).mono ?_
  rintro e w2 ⟨rfl, hb⟩
  have hB2 : Below w.heap.size w w2 := Below.trans (by exact blw) (hb.mono (by first | omega | (simp; done) | (simp; omega)))
  have l2 := hB2.size
  clear hb
  obtain ⟨qa2, qb2_0, qb2_1, qb2_2, qb2_3, qb2_4, qb2_5, qb2_6, qb2_7⟩ := (HS.out.below hB2 (Nat.le_refl _)).cells
  clear qa1 qb1_0 qb1_1 qb1_2 qb1_3 qb1_4 qb1_5 qb1_6 qb1_7
  go_wp2_with fail
  rw [rounds_succ]
  go_wp2_with fail
  refine (near_c _ _ _ (by omega) (by omega) (by omega) (by omega)).mono ?_
  rintro e w3 ⟨rfl, hb⟩
  have hB3 : Below w.heap.size w w3 := Below.trans (by exact blw) (hb.mono (by first | omega | (simp; done) | (simp; omega)))
  have l3 := hB3.size
  clear hb
  obtain ⟨qa3, qb3_0, qb3_1, qb3_2, qb3_3, qb3_4, qb3_5, qb3_6, qb3_7⟩ := (HS.out.below hB3 (Nat.le_refl _)).cells
  clear qa2 qb2_0 qb2_1 qb2_2 qb2_3 qb2_4 qb2_5 qb2_6 qb2_7
  go_wp2_with fail
  rw [rounds_succ]
  go_wp2_with fail
  refine (near_c _ _ _ (by omega) (by omega) (by omega) (by omega)).mono ?_
  rintro e w4 ⟨rfl, hb⟩
  have hB4 : Below w.heap.size w w4 := Below.trans (by exact blw) (hb.mono (by first | omega | (simp; done) | (simp; omega)))
  have l4 := hB4.size
  clear hb
  obtain ⟨qa4, qb4_0, qb4_1, qb4_2, qb4_3, qb4_4, qb4_5, qb4_6, qb4_7⟩ := (HS.out.below hB4 (Nat.le_refl _)).cells
  clear qa3 qb3_0 qb3_1 qb3_2 qb3_3 qb3_4 qb3_5 qb3_6 qb3_7
  go_wp2_with fail
  rw [rounds_succ]
  go_wp2_with fail
  rw [rounds_succ]
  go_wp2_with fail
  go_ret
  exact ⟨rfl, by exact blw⟩
theorem bare_sq (lv : Value) (p : Option Addr) (n c : Nat) (w : World) (hn : 0 < n) :
    Calls Tryz.prog 242 #[.agg #[.int .i64 2, .int .i64 0, .int .i64 0, .int .i64 0, .int .i64 0, .int .i64 0, .int .i64 0, .int .i64 0, .slice p n c, .slice none 0 0]] w fun e w' => e = .returned (.bool true) ∧ Below w.heap.size w w' := by
  go_enter Tryz.func242, Tryz.ntmps242
  go_wp2
  go_ret
  exact ⟨rfl, by go_grown⟩
theorem valid_sq (gl cl gp cp p B : Nat) (w : World) (hS : SqAt w gl gp cp) (hc : w.cell? ⟨p, 0, none⟩ = some (.int .i64 1000)) (hf : w.frozen? ⟨p, 0, none⟩ = false) (hB : B ≤ w.heap.size) (hp : B ≤ p) (h1 : gl ≠ p) (h2 : gp ≠ p) :
    Calls Tryz.prog 210 #[.agg #[.int .i64 2, .int .i64 0, .int .i64 0, .int .i64 0, .int .i64 0, .int .i64 0, .int .i64 0, .int .i64 0, .slice (some ⟨gl, 0, none⟩) 1 cl, .slice none 0 0], .int .i64 0, .pointer (some ⟨p, 0, none⟩)] w fun e w' => e = .returned (.bool true) ∧ Below B w w' := by
  have hpl := blk_of_cell hc
  have HS := Lib.hid hS
  clear hS
  go_enter Tryz.func210, Tryz.ntmps210
  go_wp2_with fail
  refine (bare_sq (.int .i64 0) _ _ _ _ (by omega)).mono ?_
  rintro e w1 ⟨rfl, hb⟩
  have hB1 : Below B w w1 := Below.trans (by exact blw) (hb.mono (by first | omega | (simp; done) | (simp; omega)))
  have k1_0 : Blk w1 (w.heap.size) 62 #[.int .i64 2, .int .i64 0, .int .i64 0, .int .i64 0, .int .i64 0, .int .i64 0, .int .i64 0, .int .i64 0, .slice (some ⟨gl, 0, none⟩) 1 cl, .slice none 0 0] := Blk.below (by exact bkw) hb (by first | omega | (simp; done) | (simp; omega))
  have c1_0 := k1_0.cell
  have f1_0 := k1_0.frozen
  have l1_0 := k1_0.lt
  have l1 := hB1.size
  have s1 : SqAt w1 gl gp cp := by
    first
    | exact SqAt.below ((HS.out.alloc _).far (by simpa using h1) (by simpa using h2) _) hb (by first | (simp; done) | (simp; omega))
    | exact SqAt.below ((HS.out.far (by simpa using h1) (by simpa using h2) _).alloc _) hb (by first | (simp; done) | (simp; omega))
  clear hb
  clear hc hf
  go_wp2_with fail
  refine (contours_sq _ _ _ _ _ s1).mono ?_
  rintro e w2 ⟨rfl, hb⟩
  have hB2 : Below B w w2 := Below.trans (by exact blw) (hb.mono (by first | omega | (simp; done) | (simp; omega)))
  have k2_0 : Blk w2 (w.heap.size) 62 #[.int .i64 2, .int .i64 0, .int .i64 0, .int .i64 0, .int .i64 0, .int .i64 0, .int .i64 0, .int .i64 0, .slice (some ⟨gl, 0, none⟩) 1 cl, .slice none 0 0] := Blk.below (by exact bkw) hb (by first | omega | (simp; done) | (simp; omega))
  have c2_0 := k2_0.cell
  have f2_0 := k2_0.frozen
  have l2_0 := k2_0.lt
  have l2 := hB2.size
  clear hb
  go_wp2_with fail
  go_ret
  exact ⟨rfl, hB2⟩
theorem ok_sq (gl cl gp cp : Nat) (w : World) (hS : SqAt w gl gp cp) : Calls Tryz.prog 171 #[.agg #[.int .i64 2, .int .i64 0, .int .i64 0, .int .i64 0, .int .i64 0, .int .i64 0, .int .i64 0, .int .i64 0, .slice (some ⟨gl, 0, none⟩) 1 cl, .slice none 0 0]] w fun e w' => e = .returned (.bool true) ∧ Below w.heap.size w w' := by
  have HS := Lib.hid hS
  have lgl := hS.lt1
  have lgp := hS.lt2
  clear hS
  go_enter Tryz.func171, Tryz.ntmps171
  go_wp2_with fail
  refine (valid_sq _ _ _ _ _ w.heap.size _ ((HS.out.alloc _).alloc _) (by simp) (by simp) (by simp; omega) (by omega) (by omega) (by omega)).mono ?_
  rintro e w1 ⟨rfl, hb⟩
  have hB : Below w.heap.size w w1 := Below.trans (by exact blw) hb
  go_wp2_with fail
  go_ret
  exact ⟨rfl, hB⟩
def obv (gl cl : Nat) : List Value := [.bool true, .int .i64 2, .int .i64 0, .int .i64 0, .int .i64 0, .int .i64 0, .int .i64 0, .int .i64 0, .int .i64 0, .slice (some ⟨gl, 0, none⟩) 1 cl, .slice none 0 0]
def exv : List Value := [.int .i64 (-20000000), .int .i64 (-20000000), .int .i64 20000000, .int .i64 20000000, .bool false]
def ObR (w : World) (v : Value) (gl cl gp cp : Nat) : Prop := w.ownsRow 0 65 11 v 1 (obv gl cl) ∧ SqAt w gl gp cp
def ExR (w : World) (v : Value) : Prop := w.ownsRow 0 224 5 v 1 exv
section
variable {w w' : World} {v : Value} {gl cl gp cp B : Nat}
theorem ObR.below (h : ObR w v gl cl gp cp) (hb : Below B w w') (hB : w.heap.size ≤ B) : ObR w' v gl cl gp cp := ⟨own_below h.1 hb hB, h.2.below hb hB⟩
theorem ObR.alloc (h : ObR w v gl cl gp cp) (o : Obj) : ObR (w.alloc o) v gl cl gp cp := ⟨h.1.alloc o, h.2.alloc o⟩
theorem ObR.drew (h : ObR w v gl cl gp cp) : ObR w.drew v gl cl gp cp := ⟨h.1.drew, h.2.drew⟩
theorem ExR.below (h : ExR w v) (hb : Below B w w') (hB : w.heap.size ≤ B) : ExR w' v := own_below h hb hB
theorem ExR.alloc (h : ExR w v) (o : Obj) : ExR (w.alloc o) v := World.ownsRow.alloc h o
theorem ObR.form (h : ObR w v gl cl gp cp) : ∃ g cap, v = .slice (some ⟨g, 0, none⟩) 1 cap ∧ g < w.heap.size ∧ w.cell? ⟨g, 0, none⟩ = some (.bool true) ∧ w.cell? ⟨g, 1, none⟩ = some (.int .i64 2) ∧ w.cell? ⟨g, 2, none⟩ = some (.int .i64 0) ∧ w.cell? ⟨g, 3, none⟩ = some (.int .i64 0) ∧ w.cell? ⟨g, 4, none⟩ = some (.int .i64 0) ∧ w.cell? ⟨g, 5, none⟩ = some (.int .i64 0) ∧ w.cell? ⟨g, 6, none⟩ = some (.int .i64 0) ∧ w.cell? ⟨g, 7, none⟩ = some (.int .i64 0) ∧ w.cell? ⟨g, 8, none⟩ = some (.int .i64 0) ∧ w.cell? ⟨g, 9, none⟩ = some (.slice (some ⟨gl, 0, none⟩) 1 cl) ∧ w.cell? ⟨g, 10, none⟩ = some (.slice none 0 0) := by
  obtain ⟨g, cap, he, _, hg⟩ := h.1.form (by omega)
  subst he
  have q : ∀ j u, j < 11 → (obv gl cl)[j]? = some u → w.cell? ⟨g, j, none⟩ = some u := fun j u hj hv => by rw [h.1.cellAt j (by omega)]; exact hv
  exact ⟨g, cap, rfl, hg, q 0 _ (by omega) rfl, q 1 _ (by omega) rfl, q 2 _ (by omega) rfl, q 3 _ (by omega) rfl, q 4 _ (by omega) rfl, q 5 _ (by omega) rfl, q 6 _ (by omega) rfl, q 7 _ (by omega) rfl, q 8 _ (by omega) rfl, q 9 _ (by omega) rfl, q 10 _ (by omega) rfl⟩
theorem ExR.form (h : ExR w v) : ∃ g cap, v = .slice (some ⟨g, 0, none⟩) 1 cap ∧ g < w.heap.size ∧ w.cell? ⟨g, 0, none⟩ = some (.int .i64 (-20000000)) ∧ w.cell? ⟨g, 1, none⟩ = some (.int .i64 (-20000000)) ∧ w.cell? ⟨g, 2, none⟩ = some (.int .i64 20000000) ∧ w.cell? ⟨g, 3, none⟩ = some (.int .i64 20000000) ∧ w.cell? ⟨g, 4, none⟩ = some (.bool false) := by
  obtain ⟨g, cap, he, _, hg⟩ := World.ownsRow.form h (by omega)
  subst he
  have q : ∀ j u, j < 5 → exv[j]? = some u → w.cell? ⟨g, j, none⟩ = some u := fun j u hj hv => by rw [World.ownsRow.cellAt h j (by omega)]; exact hv
  exact ⟨g, cap, rfl, hg, q 0 _ (by omega) rfl, q 1 _ (by omega) rfl, q 2 _ (by omega) rfl, q 3 _ (by omega) rfl, q 4 _ (by omega) rfl⟩
end
theorem ob1 {gl cl : Nat} : ∀ v ∈ ([.bool true, .int .i64 2, .int .i64 0, .int .i64 0, .int .i64 0, .int .i64 0, .int .i64 0, .int .i64 0, .int .i64 0, .slice (some ⟨gl, 0, none⟩) 1 cl, .slice none 0 0] : List Value), v.oneCell' = true := by
  intro v hv
  simp only [List.mem_cons, List.not_mem_nil, or_false] at hv
  rcases hv with rfl | rfl | rfl | rfl | rfl | rfl | rfl | rfl | rfl | rfl | rfl <;> rfl
theorem SqAt.grown {w w' : World} {gl gp cp : Nat} {row : Option Nat} (h : SqAt w gl gp cp) (hg : w.grownBy w' row) (h1 : some gl ≠ row) (h2 : some gp ≠ row) : SqAt w' gl gp cp := h.same (hg.block _ h.lt1 h1) (hg.block _ h.lt2 h2)
theorem info251 : (Tryz.prog.info? 224).map (fun i => (i.zero, i.size, i.bytes)) = some (some (.agg #[.int .i64 0, .int .i64 0, .int .i64 0, .int .i64 0, .bool false]), 5, 40) := by kernel_rfl
theorem SqAt.ne_meter {w : World} {gl gp cp M : Nat} {x : Value} (h : SqAt w gl gp cp) (hM : Blk w M 133 #[.int .i64 100, x]) : gl ≠ M ∧ gp ≠ M := by
  have h0 : w.cell? ⟨M, 0, none⟩ = some (.int .i64 100) := hM.cell 0
  constructor
  · rintro rfl
    have h1 := h.1
    rw [h0] at h1
    cases h1
  · rintro rfl
    have h1 := h.2 0 _ rfl
    rw [h0] at h1
    cases h1
theorem ObR.only {S : List Nat} {w w' : World} {v : Value} {gl cl gp cp : Nat} (h : ObR w v gl cl gp cp) (ho : Only S w w') (h1 : gl ∉ S) (h2 : gp ∉ S) (h3 : ∀ b, v.ownBlock = some b → b ∉ S) : ObR w' v gl cl gp cp := ⟨ho.own h.1 h3, h.2.only ho h1 h2⟩
def ones (k : Nat) : List Value := List.replicate (2 * k) (.int .i64 1)
theorem own_own_ne2 {w : World} {B e s n B' e' s' n' b : Nat} {v v' : Value} {xs xs' : List Value} (h : w.ownsRow B e s v n xs) (h' : w.ownsRow B' e' s' v' n' xs') (hne : e ≠ e') (hb : v.ownBlock = some b) : v'.ownBlock ≠ some b := by
  intro hb'
  rcases h.2 with ⟨h1, _⟩ | ⟨g, cap, cur, h1, _, h2, _⟩
  · rw [h1] at hb; cases hb
  · rw [h1] at hb
    simp [Value.ownBlock] at hb
    subst hb
    rcases h'.2 with ⟨h3, _⟩ | ⟨g', cap', cur', h3, _, h4, _⟩
    · rw [h3] at hb'; cases hb'
    · rw [h3] at hb'
      simp [Value.ownBlock] at hb'
      subst hb'
      rw [h2] at h4
      injection h4 with h4
      injection h4 with h4 h5
      exact hne h5
structure RInv (w : World) (n0 bG M : Nat) (u1 u2 : Value) (gl cl gp cp : Nat) (vr : Value) (k : Nat) (j : Int) (W : World) : Prop where
  kv : Blk W n0 27 #[.int .i64 (-10000000), .int .i64 (-10000000), .int .i64 10000000, .int .i64 2, .int .i64 2, .int .i64 0]
  kg : Blk W bG 169 #[u1, u2]
  own : W.ownsRow w.heap.size 75 2 vr k (ones k)
  km : Blk W M 133 #[.int .i64 100, .int .i64 j]
  ob : ObR W u1 gl cl gp cp
  ex : ExR W u2
  om : Only [M] w W
  lgl : gl < w.heap.size
  lgp : gp < w.heap.size
  lM : M < w.heap.size
  n1 : gl ≠ M
  n2 : gp ≠ M
section
variable {w W W' : World} {n0 bG M : Nat} {u1 u2 vr : Value} {gl cl gp cp k : Nat} {j : Int}
theorem RInv.below (h : RInv w n0 bG M u1 u2 gl cl gp cp vr k j W) (hb : Below W.heap.size W W') : RInv w n0 bG M u1 u2 gl cl gp cp vr k j W' :=
  ⟨h.kv.below hb h.kv.lt, h.kg.below hb h.kg.lt, own_below h.own hb (Nat.le_refl _), h.km.below hb h.km.lt, h.ob.below hb (Nat.le_refl _), h.ex.below hb (Nat.le_refl _), h.om.below hb h.om.size, h.lgl, h.lgp, h.lM, h.n1, h.n2⟩
theorem RInv.alloc (h : RInv w n0 bG M u1 u2 gl cl gp cp vr k j W) (o : Obj) : RInv w n0 bG M u1 u2 gl cl gp cp vr k j (W.alloc o) := h.below ((Below.refl _ _).alloc (Nat.le_refl _) o)
theorem RInv.drew (h : RInv w n0 bG M u1 u2 gl cl gp cp vr k j W) : RInv w n0 bG M u1 u2 gl cl gp cp vr k j W.drew := h.below (Below.refl _ _).drew
theorem RInv.meter {j' : Int} (h : RInv w n0 bG M u1 u2 gl cl gp cp vr k j W) (ho : Only [M] W W') (hk : Blk W' M 133 #[.int .i64 100, .int .i64 j']) : RInv w n0 bG M u1 u2 gl cl gp cp vr k j' W' :=
  ⟨ho.blk h.kv (by simpa using h.kv.ne_ h.km (by decide)), ho.blk h.kg (by simpa using h.kg.ne_ h.km (by decide)), ho.own h.own (fun b hb hm => by simp at hm; subst hm; exact own_blk_ne h.own h.km (by decide) hb), hk,
   h.ob.only ho (by simpa using h.n1) (by simpa using h.n2) (fun b hb hm => by simp at hm; subst hm; exact own_blk_ne h.ob.1 h.km (by decide) hb),
   ho.own h.ex (fun b hb hm => by simp at hm; subst hm; exact own_blk_ne h.ex h.km (by decide) hb), h.om.trans ho, h.lgl, h.lgp, h.lM, h.n1, h.n2⟩
theorem RInv.put {v' : Value} (h : RInv w n0 bG M u1 u2 gl cl gp cp vr k j W) (hg : W.grownBy W' vr.ownBlock) (hw : W'.ownsRow w.heap.size 75 2 v' (k + 1) (ones (k + 1))) : RInv w n0 bG M u1 u2 gl cl gp cp v' (k + 1) j W' := by
  have hge : ∀ b, vr.ownBlock = some b → w.heap.size ≤ b := fun b hb => own_ge h.own hb
  have ne : ∀ {g : Nat} {t : TypeId} {cs : Array Value}, Blk W g t cs → t ≠ 75 → some g ≠ vr.ownBlock := fun hk ht e => own_blk_ne h.own hk (fun e => ht e.symm) e.symm
  refine ⟨h.kv.grown hg (ne h.kv (by decide)), h.kg.grown hg (ne h.kg (by decide)), hw, h.km.grown hg (ne h.km (by decide)), ⟨?_, h.ob.2.grown hg ?_ ?_⟩, ?_, h.om.grown hg (fun b hb => .inr (hge b hb)), h.lgl, h.lgp, h.lM, h.n1, h.n2⟩
  · exact own_same h.ob.1 fun b hb => hg.block b (own_lt h.ob.1 hb) (fun e => own_own_ne2 h.ob.1 h.own (by decide) hb e.symm)
  · intro e; have := hge _ e.symm; have := h.lgl; omega
  · intro e; have := hge _ e.symm; have := h.lgp; omega
  · exact own_same h.ex fun b hb => hg.block b (own_lt h.ex hb) (fun e => own_own_ne2 h.ex h.own (by decide) hb e.symm)
end
structure RRow (bR : Nat) (r1 r2 : Value) (gl cl gp cp : Nat) (W : World) : Prop where
  kr : Blk W bR 169 #[r1, r2]
  hr : ObR W r1 gl cl gp cp
  hx : ExR W r2
section
variable {w W W' : World} {n0 bG M bR : Nat} {u1 u2 r1 r2 vr : Value} {gl cl gp cp k : Nat} {j : Int}
theorem RRow.below (h : RRow bR r1 r2 gl cl gp cp W) (hb : Below W.heap.size W W') : RRow bR r1 r2 gl cl gp cp W' := ⟨h.kr.below hb h.kr.lt, h.hr.below hb (Nat.le_refl _), h.hx.below hb (Nat.le_refl _)⟩
theorem RRow.alloc (h : RRow bR r1 r2 gl cl gp cp W) (o : Obj) : RRow bR r1 r2 gl cl gp cp (W.alloc o) := h.below ((Below.refl _ _).alloc (Nat.le_refl _) o)
theorem RRow.drew (h : RRow bR r1 r2 gl cl gp cp W) : RRow bR r1 r2 gl cl gp cp W.drew := h.below (Below.refl _ _).drew
theorem RRow.meter (h : RRow bR r1 r2 gl cl gp cp W) (I : RInv w n0 bG M u1 u2 gl cl gp cp vr k j W) (ho : Only [M] W W') : RRow bR r1 r2 gl cl gp cp W' :=
  ⟨ho.blk h.kr (by simpa using h.kr.ne_ I.km (by decide)), h.hr.only ho (by simpa using I.n1) (by simpa using I.n2) (fun b hb hm => by simp at hm; subst hm; exact own_blk_ne h.hr.1 I.km (by decide) hb), ho.own h.hx (fun b hb hm => by simp at hm; subst hm; exact own_blk_ne h.hx I.km (by decide) hb)⟩
theorem RRow.put (h : RRow bR r1 r2 gl cl gp cp W) (I : RInv w n0 bG M u1 u2 gl cl gp cp vr k j W) (hg : W.grownBy W' vr.ownBlock) : RRow bR r1 r2 gl cl gp cp W' := by
  have hge : ∀ b, vr.ownBlock = some b → w.heap.size ≤ b := fun b hb => own_ge I.own hb
  refine ⟨h.kr.grown hg (fun e => own_blk_ne I.own h.kr (by decide) e.symm), ⟨?_, h.hr.2.grown hg ?_ ?_⟩, ?_⟩
  · exact own_same h.hr.1 fun b hb => hg.block b (own_lt h.hr.1 hb) (fun e => own_own_ne2 h.hr.1 I.own (by decide) hb e.symm)
  · intro e; have := hge _ e.symm; have := I.lgl; omega
  · intro e; have := hge _ e.symm; have := I.lgp; omega
  · exact own_same h.hx fun b hb => hg.block b (own_lt h.hx hb) (fun e => own_own_ne2 h.hx I.own (by decide) hb e.symm)
end
theorem RInv.one {w W W' : World} {n0 bG M A : Nat} {u1 u2 vr : Value} {gl cl gp cp k : Nat} {j : Int} {cs : Array Value} (h : RInv w n0 bG M u1 u2 gl cl gp cp vr k j W) (ho : Only [A] W W') (kA : Blk W A 75 cs) (hne : vr.ownBlock ≠ some A) (hge : w.heap.size ≤ A) : RInv w n0 bG M u1 u2 gl cl gp cp vr k j W' :=
  ⟨ho.blk h.kv (by simpa using h.kv.ne_ kA (by decide)), ho.blk h.kg (by simpa using h.kg.ne_ kA (by decide)), ho.own h.own (fun b hb hm => by simp at hm; subst hm; exact hne hb), ho.blk h.km (by simpa using h.km.ne_ kA (by decide)),
   h.ob.only ho (by have := h.lgl; simp; omega) (by have := h.lgp; simp; omega) (fun b hb hm => by simp at hm; subst hm; exact own_blk_ne h.ob.1 kA (by decide) hb),
   ho.own h.ex (fun b hb hm => by simp at hm; subst hm; exact own_blk_ne h.ex kA (by decide) hb), h.om.then_ ho (by intro b hb; simp at hb; subst hb; right; exact hge), h.lgl, h.lgp, h.lM, h.n1, h.n2⟩
theorem RRow.one {w W W' : World} {n0 bG M A bR : Nat} {u1 u2 r1 r2 vr : Value} {gl cl gp cp k : Nat} {j : Int} {cs : Array Value} (h : RRow bR r1 r2 gl cl gp cp W) (I : RInv w n0 bG M u1 u2 gl cl gp cp vr k j W) (ho : Only [A] W W') (kA : Blk W A 75 cs) (hge : w.heap.size ≤ A) : RRow bR r1 r2 gl cl gp cp W' :=
  ⟨ho.blk h.kr (by simpa using h.kr.ne_ kA (by decide)), h.hr.only ho (by have := I.lgl; simp; omega) (by have := I.lgp; simp; omega) (fun b hb hm => by simp at hm; subst hm; exact own_blk_ne h.hr.1 kA (by decide) hb), ho.own h.hx (fun b hb hm => by simp at hm; subst hm; exact own_blk_ne h.hx kA (by decide) hb)⟩
end Go.Proofs.YtfajckkbinbpiaaGreatDoor
