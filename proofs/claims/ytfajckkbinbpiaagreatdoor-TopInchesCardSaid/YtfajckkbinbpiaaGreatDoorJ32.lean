/- Walks: views, pixels, quarters. How cells are counted: ranges; what holds while quarters are examined. Walk: a box is examined, to no depth. -/
import Derived.Test.YtfajckkbinbpiaaGreatDoorJ26
import Derived.Test.YtfajckkbinbpiaaGreatDoorJ31
namespace Go.Proofs.YtfajckkbinbpiaaGreatDoor
set_option maxRecDepth 100000
set_option maxHeartbeats 32000000
set_option linter.unusedVariables false
set_option linter.unusedSimpArgs false
open Go.RowKit
def pxB (X Y P H x y : Int) : Geo.Bx := ⟨X + x * P, Y + (H - 1 - y) * P, X + x * P + P, Y + (H - 1 - y) * P + P⟩
theorem pxB_ok {X Y P W H D k x y : Int} (hv : VOk X Y P W H D k) (i0 : 0 ≤ x) (i1 : x < W) (j0 : 0 ≤ y) (j1 : y < H) :
    (-536870912 ≤ (pxB X Y P H x y).x0 ∧ (pxB X Y P H x y).x1 ≤ 536870912) ∧ (-536870912 ≤ (pxB X Y P H x y).y0 ∧ (pxB X Y P H x y).y1 ≤ 536870912) ∧ (pxB X Y P H x y).x1 = (pxB X Y P H x y).x0 + P ∧ (pxB X Y P H x y).y1 = (pxB X Y P H x y).y0 + P := by
  have h1 := Int.mul_nonneg i0 (show 0 ≤ P by have := hv.p0; omega)
  have h2 := Int.mul_nonneg (show 0 ≤ H - 1 - y by omega) (show 0 ≤ P by have := hv.p0; omega)
  have h3 := Int.mul_le_mul_of_nonneg_right (show x + 1 ≤ W by omega) (show 0 ≤ P by have := hv.p0; omega)
  have h4 := Int.mul_le_mul_of_nonneg_right (show H - 1 - y + 1 ≤ H by omega) (show 0 ≤ P by have := hv.p0; omega)
  rw [Int.add_mul, Int.one_mul] at h3 h4
  have := hv.x0
  have := hv.xw
  have := hv.y0
  have := hv.yh
  refine ⟨⟨?_, ?_⟩, ⟨?_, ?_⟩, rfl, rfl⟩ <;> simp only [pxB] <;> omega
theorem pixel_g (X Y P W H D k x y : Int) (w : World) (hv : VOk X Y P W H D k) (i0 : 0 ≤ x) (i1 : x < W) (j0 : 0 ≤ y) (j1 : y < H) :
    Calls Tryz.prog 73 #[.agg #[.int .i64 X, .int .i64 Y, .int .i64 P, .int .i64 W, .int .i64 H, .int .i64 D], .int .i64 x, .int .i64 y] w fun e w' => e = .returned (.tuple #[.agg (bxC (pxB X Y P H x y)), .bool true]) ∧ Below w.heap.size w w' := by
  have hb := pxB_ok hv i0 i1 j0 j1
  have hq := viewok_g X Y P W H D k
  have bx_ := mul_bounds (show 0 ≤ x from i0) (show x ≤ 256 by have := hv.w1; omega) (show 0 ≤ P by have := hv.p0; omega) hv.p1
  have by_ := mul_bounds (show 0 ≤ H - 1 - y by omega) (show H - 1 - y ≤ 256 by have := hv.h1; omega) (show 0 ≤ P by have := hv.p0; omega) hv.p1
  obtain ⟨x0, xw, y0, yh, p0, p1, w0, w1, h0, h1, d, m⟩ := hv
  have hQ := Lib.hid (fun w => hq w ⟨x0, xw, y0, yh, p0, p1, w0, w1, h0, h1, d, m⟩)
  unfold pxB bxC at *
  simp only [] at hb ⊢
  obtain ⟨A, eA⟩ : ∃ A, x * P = A := ⟨_, rfl⟩
  obtain ⟨B, eB⟩ : ∃ A, (H - 1 - y) * P = A := ⟨_, rfl⟩
  rw [eA] at hb bx_ ⊢
  rw [eB] at hb by_ ⊢
  have sA : IntKind.i64.wrap (x * P) = A := by rw [eA]; exact IntWalk.i64_in _ (by omega)
  have sB : IntKind.i64.wrap ((H - 1 - y) * P) = B := by rw [eB]; exact IntWalk.i64_in _ (by omega)
  obtain ⟨⟨b0, b1⟩, ⟨b2, b3⟩, _, _⟩ := hb
  obtain ⟨a0, a1⟩ := bx_
  obtain ⟨a2, a3⟩ := by_
  clear hq eA eB d m xw yh
  go_enter Tryz.func73, Tryz.ntmps73
  go_wp2_with (go_at_call 51; refine (hQ.out _).mono ?_; rintro e w1 ⟨rfl, hb⟩; obtain ⟨hc, hf⟩ := bcell hb)
  have hB : Below w.heap.size w w1 := (((Below.refl _ _).alloc (Nat.le_refl _) _).alloc (by simp) _).trans (hb.mono (by simp; omega))
  exact bodyPost_ret (v := .tuple #[.agg #[.int .i64 (X + A), .int .i64 (Y + B), .int .i64 (X + A + P), .int .i64 (Y + B + P)], .bool true]) (by simp [results, Tryz.results73, go_sem, hc]) rfl ⟨rfl, by go_grown⟩
theorem split_c (a b c d X Y : Int) (w : World) (a_0 : -536870912 ≤ a) (a_1 : a ≤ 536870912) (b_0 : -536870912 ≤ b) (b_1 : b ≤ 536870912) (c_0 : -536870912 ≤ c) (c_1 : c ≤ 536870912) (d_0 : -536870912 ≤ d) (d_1 : d ≤ 536870912) (hx : a < c) (hy : b < d) (ex : (c - a) % 2 = 0) (ey : (d - b) % 2 = 0) (eX : a + (c - a) / 2 = X) (eY : b + (d - b) / 2 = Y) :
    Calls Tryz.prog 117 #[.agg #[.int .i64 a, .int .i64 b, .int .i64 c, .int .i64 d]] w fun e w' => e = .returned (.tuple #[.agg #[.int .i64 a, .int .i64 b, .int .i64 X, .int .i64 Y, .int .i64 X, .int .i64 b, .int .i64 c, .int .i64 Y, .int .i64 a, .int .i64 Y, .int .i64 X, .int .i64 d, .int .i64 X, .int .i64 Y, .int .i64 c, .int .i64 d], .bool true]) ∧ Below w.heap.size w w' := by
  have n1 := fun w => boxok_yes a b c d w (by omega) (by omega) (by omega) (by omega) (by omega) (by omega)
  have C1 := Lib.hid n1
  have d1 : ((c - a) == 0) = false := by simp; omega
  have d2 : ((d - b) == 0) = false := by simp; omega
  have d3 : ((c - a) % 2 != 0) = false := by simp; omega
  have d4 : ((d - b) % 2 != 0) = false := by simp; omega
  have HX := Lib.hid eX
  have HY := Lib.hid eY
  clear n1 ex ey eX eY
  go_enter Tryz.func117, Tryz.ntmps117
  go_wp2_with fail
  refine (C1.out _).mono ?_
  rintro e w1 ⟨rfl, hb⟩
  have hB1 : Below w.heap.size w w1 := Below.trans (by exact blw) (hb.mono (by first | omega | (simp; done) | (simp; omega)))
  have k1_0 : Blk w1 (w.heap.size) 70 #[.int .i64 a, .int .i64 b, .int .i64 c, .int .i64 d] := Blk.below (by exact bkw) hb (by first | omega | (simp; done) | (simp; omega))
  have k1_1 : Blk w1 (w.heap.size + 1) 227 #[.int .i64 0, .int .i64 0, .int .i64 0, .int .i64 0, .int .i64 0, .int .i64 0, .int .i64 0, .int .i64 0, .int .i64 0, .int .i64 0, .int .i64 0, .int .i64 0, .int .i64 0, .int .i64 0, .int .i64 0, .int .i64 0] := Blk.below (by exact bkw) hb (by first | omega | (simp; done) | (simp; omega))
  have c1_0 := k1_0.cell
  have f1_0 := k1_0.frozen
  have l1_0 := k1_0.lt
  have c1_1 := k1_1.cell
  have f1_1 := k1_1.frozen
  have l1_1 := k1_1.lt
  have l1 := hB1.size
  clear hb
  go_wp2_with fail
  go_quiet (fail)
  go_wp2_with fail
  go_quiet (fail)
  simp only [HX.out, HY.out]
  go_wp2_with (refine wpList_storeBlk rfl 227 (.tmp 2) (.tmp 77) rfl rfl (w.heap.size + 1) #[.int .i64 a, .int .i64 b, .int .i64 X, .int .i64 Y, .int .i64 X, .int .i64 b, .int .i64 c, .int .i64 Y, .int .i64 a, .int .i64 Y, .int .i64 X, .int .i64 d, .int .i64 X, .int .i64 Y, .int .i64 c, .int .i64 d] (by simp [Act.eval]) (by simp [Act.eval]) 227 #[.int .i64 0, .int .i64 0, .int .i64 0, .int .i64 0, .int .i64 0, .int .i64 0, .int .i64 0, .int .i64 0, .int .i64 0, .int .i64 0, .int .i64 0, .int .i64 0, .int .i64 0, .int .i64 0, .int .i64 0, .int .i64 0] (by exact bkw) (by kernel_rfl) (by kernel_rfl) (by kernel_rfl) ?_)
  intro w5 kw hg
  have hB5 : Below w.heap.size w w5 := Below.grown (by exact blw) hg (by first | (simp; done) | (simp; omega)) (by intro b' hb'; injection hb' with hb'; omega)
  go_wp2_with fail
  refine bodyPost_ret (results_row_tmp Tryz.results117 _ _ (w.heap.size + 1) #[.int .i64 a, .int .i64 b, .int .i64 X, .int .i64 Y, .int .i64 X, .int .i64 b, .int .i64 c, .int .i64 Y, .int .i64 a, .int .i64 Y, .int .i64 X, .int .i64 d, .int .i64 X, .int .i64 Y, .int .i64 c, .int .i64 d] (by rfl) (run_loadVar_row _ _ 227 227 _ (0, 0) _ kw Tryz.underlying227 rfl (by kernel_rfl))) rfl ⟨rfl, hB5⟩
theorem sums_range {K k : Int} {f : Geo.Bx → Int → Geo.Res} (hf : ∀ q a r a', f q a = (r, a') → a ≤ a' ∧ a' ≤ a + k ∧ ∀ c, r = some c → 0 ≤ c.1 ∧ c.1 ≤ c.2 ∧ c.2 ≤ K) (hk : 0 ≤ k) :
    ∀ (qs : List Geo.Bx) (s : Int × Int) (a : Int) (r : Option (Int × Int)) (a' : Int), Geo.sums f qs s a = (r, a') → a ≤ a' ∧ a' ≤ a + k * qs.length ∧ ∀ c, r = some c → s.1 ≤ c.1 ∧ c.1 - s.1 ≤ c.2 - s.2 ∧ c.2 ≤ s.2 + K * qs.length := by
  intro qs
  induction qs with
  | nil =>
    intro s a r a' h
    simp only [Geo.sums, Prod.mk.injEq] at h
    obtain ⟨rfl, rfl⟩ := h
    refine ⟨Int.le_refl _, by simp, fun c hc => ?_⟩
    obtain rfl := Option.some.inj hc
    simp
  | cons q qs ih =>
    intro s a r a' h
    rw [List.length_cons, show ((qs.length + 1 : Nat) : Int) = (qs.length : Int) + 1 by omega, Int.mul_add, Int.mul_one, Int.mul_add, Int.mul_one]
    have h0 : 0 ≤ k * (qs.length : Int) := Int.mul_nonneg hk (by omega)
    obtain ⟨r1, a1, e1⟩ : ∃ r1 a1, f q a = (r1, a1) := ⟨_, _, rfl⟩
    obtain ⟨g1, g2, g3⟩ := hf q a r1 a1 e1
    rw [Geo.sums, e1] at h
    cases r1 with
    | none =>
      simp only [Prod.mk.injEq] at h
      obtain ⟨rfl, rfl⟩ := h
      exact ⟨g1, by omega, fun c hc => by cases hc⟩
    | some c1 =>
      obtain ⟨u1, u2, u3⟩ := g3 c1 rfl
      obtain ⟨v1, v2, v3⟩ := ih _ _ _ _ h
      refine ⟨by omega, by omega, fun c hc => ?_⟩
      obtain ⟨x1, x2, x3⟩ := v3 c hc
      simp only [] at x1 x2 x3
      omega
theorem exam_range (most : Int) : ∀ (d : Nat) (l : List Geo.Ent) (b : Geo.Bx) (a : Int) (r : Option (Int × Int)) (a' : Int), Geo.exam most d l b a = (r, a') → a + 1 ≤ a' ∧ a' ≤ a + Geo.stepsOf d ∧ ∀ c, r = some c → 0 ≤ c.1 ∧ c.1 ≤ c.2 ∧ c.2 ≤ 4 ^ d := by
  intro d
  induction d with
  | zero =>
    intro l b a r a' h
    simp only [Geo.stepsOf]
    unfold Geo.exam at h
    split at h
    · cases h; exact ⟨by omega, by omega, fun c hc => by cases hc⟩
    · split at h
      · cases h; exact ⟨by omega, by omega, fun c hc => by cases hc; simp⟩
      · split at h <;> (cases h; exact ⟨by omega, by omega, fun c hc => by cases hc; simp⟩)
  | succ d ih =>
    intro l b a r a' h
    have hp := Geo.stepsOf_pos d
    simp only [Geo.stepsOf]
    have h4 : (4 : Int) ^ (d + 1) = 4 ^ d * 4 := Int.pow_succ _ _
    have h5 : (0 : Int) < 4 ^ d := Int.pow_pos (by decide)
    unfold Geo.exam at h
    split at h
    · cases h; exact ⟨by omega, by omega, fun c hc => by cases hc⟩
    · split at h
      · cases h; exact ⟨by omega, by omega, fun c hc => by cases hc; simp only []; omega⟩
      · split at h
        · cases h; exact ⟨by omega, by omega, fun c hc => by cases hc; simp only []; omega⟩
        · have := sums_range (K := 4 ^ d) (k := Geo.stepsOf d) (fun q a r a' h => by have := ih _ _ _ _ _ h; exact ⟨by omega, this.2.1, this.2.2⟩) (by omega) _ _ _ _ _ h
          simp only [Geo.quarters, List.length_cons, List.length_nil] at this
          obtain ⟨g1, g2, g3⟩ := this
          refine ⟨by omega, by omega, fun c hc => ?_⟩
          have := g3 c hc
          omega
theorem steps_le : ∀ d, d ≤ 6 → Geo.stepsOf d ≤ 5461 := by
  intro d hd
  rcases (show d = 0 ∨ d = 1 ∨ d = 2 ∨ d = 3 ∨ d = 4 ∨ d = 5 ∨ d = 6 by omega) with rfl | rfl | rfl | rfl | rfl | rfl | rfl <;> decide
theorem four_le : ∀ d, d ≤ 6 → (4 : Int) ^ d ≤ 4096 := by
  intro d hd
  rcases (show d = 0 ∨ d = 1 ∨ d = 2 ∨ d = 3 ∨ d = 4 ∨ d = 5 ∨ d = 6 by omega) with rfl | rfl | rfl | rfl | rfl | rfl | rfl <;> decide
def covA (r : Option (Int × Int)) : Array Value := match r with
  | none => #[.int .i64 0, .int .i64 0]
  | some c => #[.int .i64 c.1, .int .i64 c.2]
def covE (r : Option (Int × Int)) : Int := match r with
  | none => 6
  | some _ => 0
structure EInv (w : World) (H M B : Nat) (v1 v2 : Value) (xs : List Ent2) (most a lo hi : Int) (W : World) : Prop where
  kG : Blk W H 169 #[v1, v2]
  kZ : Blk W (H + 1 + 1) 75 #[.int .i64 0, .int .i64 0]
  kS : Blk W B 75 #[.int .i64 lo, .int .i64 hi]
  kM : Blk W M 133 #[.int .i64 most, .int .i64 a]
  gr : GroupAt [M] W v1 v2 xs
  om : Only [M] w W
section
variable {w W W' : World} {H M B : Nat} {v1 v2 : Value} {xs : List Ent2} {most a lo hi : Int}
theorem EInv.below (h : EInv w H M B v1 v2 xs most a lo hi W) (hb : Below W.heap.size W W') : EInv w H M B v1 v2 xs most a lo hi W' :=
  ⟨h.kG.below hb h.kG.lt, h.kZ.below hb h.kZ.lt, h.kS.below hb h.kS.lt, h.kM.below hb h.kM.lt, h.gr.below hb (Nat.le_refl _), h.om.below hb h.om.size⟩
theorem EInv.alloc (h : EInv w H M B v1 v2 xs most a lo hi W) (x : Obj) : EInv w H M B v1 v2 xs most a lo hi (W.alloc x) := h.below ((Below.refl _ _).alloc (Nat.le_refl _) x)
theorem EInv.drew (h : EInv w H M B v1 v2 xs most a lo hi W) : EInv w H M B v1 v2 xs most a lo hi W.drew := h.below (Below.refl _ _).drew
theorem EInv.meter {a' : Int} (h : EInv w H M B v1 v2 xs most a lo hi W) (ho : Only [M] W W') (hk : Blk W' M 133 #[.int .i64 most, .int .i64 a']) : EInv w H M B v1 v2 xs most a' lo hi W' :=
  ⟨ho.blk h.kG (by simpa using h.kG.ne_ h.kM (by decide)), ho.blk h.kZ (by simpa using h.kZ.ne_ h.kM (by decide)), ho.blk h.kS (by simpa using h.kS.ne_ h.kM (by decide)), hk, h.gr.only ho, h.om.trans ho⟩
end
def GOk (xs : List Ent2) : Prop := xs.length ≤ 100000 ∧ (∀ e ∈ xs, e.1.2.Ok) ∧ ∀ e ∈ xs, ShOk e.1.1.2
theorem GOk.near {xs : List Ent2} (h : GOk xs) (b : Geo.Bx) : GOk (near2 xs b) := ⟨Nat.le_trans (near2_len xs b) h.1, fun e he => h.2.1 e (near2_mem he), fun e he => h.2.2 e (near2_mem he)⟩
theorem pc_obj (xs : List Ent2) (b : Geo.Bx) : Geo.pcls ((xs.map Ent2.obj).map (·.1)) b = Geo.pc (xs.map (·.1)) b := by
  unfold Geo.pc
  rw [List.map_map, List.map_map]
  rfl
def ExamIs (most : Int) (M : Nat) (n : Nat) : Prop := ∀ (xs : List Ent2) (v1 v2 : Value) (a b c d P Q k0 : Int) (w : World), GroupAt [M] w v1 v2 xs → GOk xs → Blk w M 133 #[.int .i64 most, .int .i64 k0] → 0 ≤ k0 → k0 + 30000 * (n : Int) ≤ 100000000000 →
    -536870912 ≤ a → c ≤ 536870912 → -536870912 ≤ b → d ≤ 536870912 → c - a = P * 2 ^ n → d - b = Q * 2 ^ n → 1 ≤ P → 1 ≤ Q →
    Calls Tryz.prog 75 #[.agg #[v1, v2], .agg #[.int .i64 a, .int .i64 b, .int .i64 c, .int .i64 d], .int .i64 (n : Int), .pointer (some ⟨M, 0, none⟩)] w fun en w' => ∃ r k1, Geo.exam most n (xs.map (·.1)) ⟨a, b, c, d⟩ k0 = (r, k1) ∧ en = .returned (.tuple #[.agg (covA r), .int .i64 (covE r)]) ∧ Blk w' M 133 #[.int .i64 most, .int .i64 k1] ∧ Only [M] w w'
theorem exam_zero (most : Int) (M : Nat) : ExamIs most M 0 := by
  intro xs v1 v2 a b c d P Q k0 w hG hx hM h0 h1 a_0 c_1 b_0 d_1 hP hQ P1 Q1
  obtain ⟨p1, cap1, rfl⟩ := hG.1.1.len
  obtain ⟨p2, cap2, rfl⟩ := hG.2.len
  rw [List.length_map] at hG ⊢
  have lM := hM.lt
  have hp2 : (0 : Int) < 2 ^ 0 := Int.pow_pos (by decide)
  have ac : a < c := by
    have := Int.mul_pos (show 0 < P by omega) hp2
    omega
  have bd : b < d := by
    have := Int.mul_pos (show 0 < Q by omega) hp2
    omega
  have n1 := fun v w h => pileClass_c [M] v (xs.map Ent2.obj) a b c d w a_0 (by omega) b_0 (by omega) (by omega) c_1 (by omega) d_1 (by omega) (by omega) h (fun o ho => by
    obtain ⟨e, he, rfl⟩ := List.mem_map.1 ho
    exact hx.2.2 e he) (by rw [List.length_map]; exact hx.1)
  rw [pc_obj] at n1
  obtain ⟨K, eK⟩ : ∃ K, Geo.pc (xs.map (·.1)) ⟨a, b, c, d⟩ = K := ⟨_, rfl⟩
  have hK : K = 0 ∨ K = 1 ∨ K = 2 := by rw [← eK]; exact Geo.pcls_range _ _
  rw [eK] at n1
  have C1 := Lib.hid n1
  have C2 := Lib.hid (meterTake_g M most k0)
  have HG := Lib.hid hG
  have HM := Lib.hid hM
  have HX := Lib.hid hx
  have EK := Lib.hid eK
  have HPQ := Lib.hid (And.intro hP hQ)
  have hna := hG.1.1
  clear n1 hG hM hx eK hP hQ hp2 hna
  go_enter Tryz.func75, Tryz.ntmps75
  go_wp2_with fail
  obtain ⟨u0, eu⟩ : ∃ u, ((w.alloc (.cells #[.slice p1 xs.length cap1, .slice p2 xs.length cap2] 169)).alloc (.cells #[.int .i64 a, .int .i64 b, .int .i64 c, .int .i64 d] 70)).alloc (.cells #[.int .i64 0, .int .i64 0] 75) = u := ⟨_, rfl⟩
  have B0 : Below w.heap.size w u0 := by rw [← eu]; exact blw
  have kG : Blk u0 w.heap.size 169 #[.slice p1 xs.length cap1, .slice p2 xs.length cap2] := by rw [← eu]; exact bkw
  have kB : Blk u0 (w.heap.size + 1) 70 #[.int .i64 a, .int .i64 b, .int .i64 c, .int .i64 d] := by rw [← eu]; exact bkw
  have kC : Blk u0 (w.heap.size + 1 + 1) 75 #[.int .i64 0, .int .i64 0] := by rw [← eu]; exact bkw
  have kM := HM.out.below B0 lM
  have b0s := B0.size
  rw [eu]
  clear eu
  refine (C2.out u0 h0 (by omega) kM).mono ?_
  rintro e w1 ⟨rfl, kM1, O1⟩
  have jG := O1.blk kG (by simp; omega)
  have jB := O1.blk kB (by simp; omega)
  have jC := O1.blk kC (by simp; omega)
  have jO := (HG.out.below B0 (Nat.le_refl _)).only O1
  have OO := (Only.of_below B0 (Nat.le_refl _) [M]).trans O1
  have l1 := OO.size
  have cG := jG.cell
  have lG := jG.lt
  have cB := jB.cell
  have lB := jB.lt
  have cC := jC.cell
  have fC := jC.frozen
  have lC := jC.lt
  have JM := Lib.hid kM1
  have JG := Lib.hid jG
  have JB := Lib.hid jB
  have JC := Lib.hid jC
  have JO := Lib.hid jO
  have OW := Lib.hid OO
  have hMC : M ≠ w.heap.size + 1 + 1 := by omega
  clear kG kB kC kM kM1 O1 jG jB jC jO B0 OO
  rcases Int.lt_or_le most (k0 + 1) with ht | ht
  · have dt : decide (k0 + 1 ≤ most) = false := by simp; omega
    go_wp2_with fail
    refine bodyPost_ret (results_row_tmp Tryz.results75 _ _ (w.heap.size + 1 + 1) #[.int .i64 0, .int .i64 0] (by rfl) (run_loadVar_row _ _ 75 75 _ (0, 0) _ ?_ Tryz.underlying75 rfl (by kernel_rfl))) rfl ⟨none, k0 + 1, ?_, rfl, ?_, ?_⟩
    · exact (JC.out.set_ 0 _ rfl).set_ 1 _ rfl
    · unfold Geo.exam; rw [if_pos ht]
    · exact (JM.out.far (by simpa using hMC) _).far (by simpa using hMC) _
    · exact (OW.out.setCell (p := ⟨w.heap.size + 1 + 1, 0, none⟩) (.inr (by simp; omega)) _).setCell (p := ⟨w.heap.size + 1 + 1, 1, none⟩) (.inr (by simp; omega)) _
  · have dt : decide (k0 + 1 ≤ most) = true := by simp; omega
    clear cC fC lC
    go_wp2_with fail
    refine (C1.out _ w1 JO.out.1).mono ?_
    rintro e w2 ⟨rfl, hb⟩
    have iC := JC.out.below hb JC.out.lt
    have iM := JM.out.below hb JM.out.lt
    have iG := JG.out.below hb JG.out.lt
    have iB := JB.out.below hb JB.out.lt
    have iO := JO.out.below hb (Nat.le_refl _)
    have OP := OW.out.below hb l1
    have l2 := OP.size
    have cC := iC.cell
    have fC := iC.frozen
    have lC := iC.lt
    have cG2 := iG.cell
    have lG2 := iG.lt
    have cB2 := iB.cell
    have lB2 := iB.lt
    have IC := Lib.hid iC
    have IM := Lib.hid iM
    have IG := Lib.hid iG
    have IB := Lib.hid iB
    have IO := Lib.hid iO
    have OQ := Lib.hid OP
    clear hb iC iM iG iB iO OP cG lG cB lB
    rcases hK with rfl | rfl | rfl
    · go_wp2_with fail
      refine bodyPost_ret (results_row_tmp Tryz.results75 _ _ (w.heap.size + 1 + 1) #[.int .i64 0, .int .i64 0] (by rfl) (run_loadVar_row _ _ 75 75 _ (0, 0) _ ?_ Tryz.underlying75 rfl (by kernel_rfl))) rfl ⟨some (0, 0), k0 + 1, ?_, rfl, ?_, ?_⟩
      · exact (IC.out.set_ 0 _ rfl).set_ 1 _ rfl
      · unfold Geo.exam; rw [if_neg (by omega), if_pos EK.out]
      · exact (IM.out.far (by simpa using hMC) _).far (by simpa using hMC) _
      · exact (OQ.out.setCell (p := ⟨w.heap.size + 1 + 1, 0, none⟩) (.inr (by simp; omega)) _).setCell (p := ⟨w.heap.size + 1 + 1, 1, none⟩) (.inr (by simp; omega)) _
    · go_wp2_with fail
      refine bodyPost_ret (results_row_tmp Tryz.results75 _ _ (w.heap.size + 1 + 1) #[.int .i64 0, .int .i64 1] (by rfl) (run_loadVar_row _ _ 75 75 _ (0, 0) _ ?_ Tryz.underlying75 rfl (by kernel_rfl))) rfl ⟨some (0, 1), k0 + 1, ?_, rfl, ?_, ?_⟩
      · exact (IC.out.set_ 0 _ rfl).set_ 1 _ rfl
      · unfold Geo.exam; rw [if_neg (by omega), if_neg (by rw [EK.out]; decide), if_neg (by rw [EK.out]; decide)]
      · exact (IM.out.far (by simpa using hMC) _).far (by simpa using hMC) _
      · exact (OQ.out.setCell (p := ⟨w.heap.size + 1 + 1, 0, none⟩) (.inr (by simp; omega)) _).setCell (p := ⟨w.heap.size + 1 + 1, 1, none⟩) (.inr (by simp; omega)) _
    · go_wp2_with fail
      refine bodyPost_ret (results_row_tmp Tryz.results75 _ _ (w.heap.size + 1 + 1) #[.int .i64 1, .int .i64 1] (by rfl) (run_loadVar_row _ _ 75 75 _ (0, 0) _ ?_ Tryz.underlying75 rfl (by kernel_rfl))) rfl ⟨some (1, 1), k0 + 1, ?_, rfl, ?_, ?_⟩
      · exact (IC.out.set_ 0 _ rfl).set_ 1 _ rfl
      · unfold Geo.exam; rw [if_neg (by omega), if_neg (by rw [EK.out]; decide), if_pos EK.out]
      · exact (IM.out.far (by simpa using hMC) _).far (by simpa using hMC) _
      · exact (OQ.out.setCell (p := ⟨w.heap.size + 1 + 1, 0, none⟩) (.inr (by simp; omega)) _).setCell (p := ⟨w.heap.size + 1 + 1, 1, none⟩) (.inr (by simp; omega)) _
end Go.Proofs.YtfajckkbinbpiaaGreatDoor
