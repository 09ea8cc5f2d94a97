/- The plain law of the statement: a pixel near which no edge comes is covered wholly or not at all. Walks: the views and pixels of the reference. -/
import Derived.Test.YtfajckkbinbpiaaGreatDoorN42
import Derived.Test.YtfajckkbinbpiaaGreatDoorN44
namespace Go.Proofs.YtfajckkbinbpiaaGreatDoor
set_option maxRecDepth 100000
set_option maxHeartbeats 32000000
set_option linter.unusedVariables false
set_option linter.unusedSimpArgs false
open Go.RowKit
theorem reachL_phas (p : Geo.Pt) : ∀ (ol : List Obj2) (v : Bool), (((reachL ol).map (·.1)).map (·.1)).foldl (fun w o => if o.2.has p then o.1 else w) v = (ol.map (·.1)).foldl (fun w o => if o.2.has p then o.1 else w) v
  | [], v => rfl
  | o :: ol, v => by
    have ih := reachL_phas p ol
    cases hb : bnd o.1.2 with
    | none =>
      have e : reachL (o :: ol) = reachL ol := by unfold reachL; rw [List.filterMap_cons]; simp [hb]
      obtain ⟨l, el, hl⟩ := bnd_none hb
      have h0 : o.1.2.has p = false := by
        have hE : Geo.edges l = [] := by
          unfold Geo.edges
          rw [List.flatten_eq_nil_iff]
          intro r hr
          obtain ⟨c, hc, rfl⟩ := List.mem_map.1 hr
          rw [hl c hc]; rfl
        rw [el]
        simp [Geo.Sh.has, Geo.odd, hE, Geo.par]
      rw [e, ih, List.map_cons, List.foldl_cons, h0]
      simp
    | some b =>
      have e : reachL (o :: ol) = ((o.1, b), o.2) :: reachL ol := by unfold reachL; rw [List.filterMap_cons]; simp [hb]
      rw [e, List.map_cons, List.map_cons, List.foldl_cons, List.map_cons, List.foldl_cons]
      exact ih _
theorem reachL_fits {ol : List Obj2} (hs : ∀ o ∈ ol, ShOk o.1.2) : Geo.Fits 536870912 ((reachL ol).map (·.1)) := by
  intro e he
  obtain ⟨e2, he2, rfl⟩ := List.mem_map.1 he
  obtain ⟨o, ho, hb, h1, h2⟩ := reachL_mem he2
  rw [h1]
  exact (bnd_is (hs o ho) hb).1
theorem flat_cov {n : Nat} {ol : List Obj2} {row px : Geo.Bx} {ai ai' : Int} {c : Int × Int} {p : Geo.Pt} (hs : ∀ o ∈ ol, ShOk o.1.2)
    (hp : px.In p) (hr : row.In p) (ok1 : px.Ok) (ok2 : row.Ok) (f1 : -536870912 ≤ px.x0 ∧ -536870912 ≤ px.y0 ∧ px.x1 ≤ 536870912 ∧ px.y1 ≤ 536870912) (f2 : -536870912 ≤ row.x0 ∧ -536870912 ≤ row.y0 ∧ row.x1 ≤ 536870912 ∧ row.y1 ≤ 536870912)
    (ha : ai + Geo.stepsOf n ≤ 1000000) (he : Geo.exam 1000000 n (Geo.nearTo (Geo.nearTo ((reachL ol).map (·.1)) row) px) px ai = (some c, ai')) (hf : ∀ o ∈ ol, o.1.2.cls px ≠ 1) :
    c = if Geo.phas (ol.map (·.1)) p then (4 ^ n, 4 ^ n) else (0, 0) := by
  have hp0 := Geo.stepsOf_pos n
  have hfit := reachL_fits hs
  have e1 := Geo.exam_flat (most := 1000000) (d := n) (l := Geo.nearTo (Geo.nearTo ((reachL ol).map (·.1)) row) px) (b := px) (a := ai) (p := p) (by omega) (fun e hm => by
    have h2 := Geo.near_mem (Geo.near_mem hm)
    obtain ⟨e2, he2, rfl⟩ := List.mem_map.1 h2
    obtain ⟨o, ho, _, h3, _⟩ := reachL_mem he2
    rw [h3]
    exact hf o ho) hp
  rw [he] at e1
  have e2 := (Prod.mk.inj e1).1
  have e3 := Option.some.inj e2
  rw [e3, Geo.near_phas (b := px) (hfit.near) ok1 f1 hp, Geo.near_phas (b := px) hfit ok2 f2 hr]
  have e4 : Geo.phas (((reachL ol).map (·.1)).map (·.1)) p = Geo.phas (ol.map (·.1)) p := reachL_phas p ol false
  rw [e4]
theorem px_at (X Y P : Int) (W H i : Nat) (h : i < (pxsOf X Y P W H).length) : (pxsOf X Y P W H)[i] = (rowB X Y P W H ((i / W : Nat) : Int), pxB X Y P H ((i % W : Nat) : Int) ((i / W : Nat) : Int)) := by
  simp only [pxsOf, List.getElem_map, List.getElem_range]
theorem px_in {X Y P D k x y : Int} {W H : Nat} (hv : VOk X Y P W H D k) (i0 : 0 ≤ x) (i1 : x < W) (j0 : 0 ≤ y) (j1 : y < H) :
    (pxB X Y P H x y).In ((pxB X Y P H x y).x0 + 1, (pxB X Y P H x y).y0 + 1) ∧ (rowB X Y P W H y).In ((pxB X Y P H x y).x0 + 1, (pxB X Y P H x y).y0 + 1) ∧ (pxB X Y P H x y).Ok := by
  have p0 := hv.p0
  have g1 := Int.mul_nonneg i0 (show 0 ≤ P by omega)
  have g3 := Int.mul_le_mul_of_nonneg_right (show x ≤ (W : Int) - 1 by omega) (show 0 ≤ P by omega)
  refine ⟨⟨?_, ?_, ?_, ?_⟩, ⟨?_, ?_, ?_, ?_⟩, ?_, ?_⟩ <;> simp only [pxB, rowB, Int.zero_mul] <;> omega
theorem refview_g (X Y P W H D k : Int) (w : World) (hv : VOk X Y P W H D k) :
    Calls Tryz.prog 47 #[.agg #[.int .i64 X, .int .i64 Y, .int .i64 P, .int .i64 W, .int .i64 H, .int .i64 D]] w fun e w' => e = .returned (.bool true) ∧ Below w.heap.size w w' := by
  obtain ⟨x0, xw, y0, yh, p0, p1, w0, w1, h0, h1, d, m⟩ := hv
  rw [Int.mul_comm W P] at xw
  rw [Int.mul_comm H P] at yh
  have bW := mul_bounds (by omega) p1 (by omega) w1 (a := P) (b := W)
  have bH := mul_bounds (by omega) p1 (by omega) h1 (a := P) (b := H)
  obtain ⟨A, eA⟩ : ∃ A, P * W = A := ⟨_, rfl⟩
  obtain ⟨B, eB⟩ : ∃ A, P * H = A := ⟨_, rfl⟩
  rw [eA] at bW xw
  rw [eB] at bH yh
  obtain ⟨a0, a1⟩ := bW
  obtain ⟨b0, b1⟩ := bH
  have sA : IntKind.i64.wrap (P * W) = A := by rw [eA]; exact IntWalk.i64_in _ (by omega)
  have sB : IntKind.i64.wrap (P * H) = B := by rw [eB]; exact IntWalk.i64_in _ (by omega)
  have d1 : decide (P < 1) = false := by simp; omega
  have d2 : decide (536870912 < P) = false := by simp; omega
  have d4 : decide (W < 1) = false := by simp; omega
  have d5 : decide (H < 1) = false := by simp; omega
  have d6 : decide (256 < W) = false := by simp; omega
  have d7 : decide (256 < H) = false := by simp; omega
  have d8 : decide (-536870912 ≤ X) = true := by simp; omega
  have d9 : decide (-536870912 ≤ Y) = true := by simp; omega
  have d10 : decide (X ≤ 536870912 - A) = true := by simp; omega
  have d11 : decide (Y ≤ 536870912 - B) = true := by simp; omega
  clear eA eB
  rcases d with ⟨rfl, rfl⟩ | ⟨rfl, rfl⟩ | ⟨rfl, rfl⟩ | ⟨rfl, rfl⟩
  all_goals
    first | (have d3 : (P % 8 != 0) = false := by simp; omega) | (have d3 : (P % 4 != 0) = false := by simp; omega) | (have d3 : (P % 2 != 0) = false := by simp; omega) | (have d3 : (P % 1 != 0) = false := by simp)
    have M := Lib.hid m
    clear m
    go_enter Tryz.func47, Tryz.ntmps47
    go_wp2_with fail
    go_ret
    exact ⟨rfl, by exact blw⟩
theorem refpixel_g (X Y P W H D k x y : Int) (w : World) (hv : VOk X Y P W H D k) (i0 : 0 ≤ x) (i1 : x < W) (j0 : 0 ≤ y) (j1 : y < H) :
    Calls Tryz.prog 21 #[.agg #[.int .i64 X, .int .i64 Y, .int .i64 P, .int .i64 W, .int .i64 H, .int .i64 D], .int .i64 x, .int .i64 y] w fun e w' => e = .returned (.tuple #[.agg #[.int .i64 (X + x * P), .int .i64 (Y + (H - 1 - y) * P), .int .i64 (X + x * P + P), .int .i64 (Y + (H - 1 - y) * P + P)], .bool true]) ∧ Below w.heap.size w w' := by
  have n1 := fun w => refview_g X Y P W H D k w hv
  have C1 := Lib.hid n1
  obtain ⟨x0, xw, y0, yh, p0, p1, w0, w1, h0, h1, d, m⟩ := hv
  have g1 := Int.mul_nonneg i0 (show 0 ≤ P by omega)
  have g2 := Int.mul_nonneg (show 0 ≤ H - 1 - y by omega) (show 0 ≤ P by omega)
  have g3 := Int.mul_le_mul_of_nonneg_right (show x + 1 ≤ W by omega) (show 0 ≤ P by omega)
  have g4 := Int.mul_le_mul_of_nonneg_right (show H - 1 - y + 1 ≤ H by omega) (show 0 ≤ P by omega)
  rw [Int.add_mul, Int.one_mul] at g3 g4
  rw [Int.mul_comm x P] at g1 g3 ⊢
  rw [Int.mul_comm (H - 1 - y) P] at g2 g4 ⊢
  obtain ⟨A, eA⟩ : ∃ A, P * x = A := ⟨_, rfl⟩
  obtain ⟨B, eB⟩ : ∃ A, P * (H - 1 - y) = A := ⟨_, rfl⟩
  rw [eA] at g1 g3 ⊢
  rw [eB] at g2 g4 ⊢
  obtain ⟨wP, ewP⟩ : ∃ A, W * P = A := ⟨_, rfl⟩
  obtain ⟨hP, ehP⟩ : ∃ A, H * P = A := ⟨_, rfl⟩
  rw [ewP] at xw g3
  rw [ehP] at yh g4
  have sA : IntKind.i64.wrap (P * x) = A := by rw [eA]; exact IntWalk.i64_in _ (by omega)
  have sB : IntKind.i64.wrap (P * (H - 1 - y)) = B := by rw [eB]; exact IntWalk.i64_in _ (by omega)
  have s1 : IntKind.i64.wrap (H - 1) = H - 1 := IntWalk.i64_in _ (by omega)
  have s2 : IntKind.i64.wrap (H - 1 - y) = H - 1 - y := IntWalk.i64_in _ (by omega)
  have q1 : decide (x < 0) = false := by simp; omega
  have q2 : decide (y < 0) = false := by simp; omega
  have q3 : decide (W ≤ x) = false := by simp; omega
  have q4 : decide (H ≤ y) = false := by simp; omega
  clear n1 eA eB ewP ehP d m
  go_enter Tryz.func21, Tryz.ntmps21
  go_wp2_with fail
  refine (C1.out _).mono ?_
  rintro e w1 ⟨rfl, hb⟩
  have hB1 : Below w.heap.size w w1 := Below.trans (by exact blw) (hb.mono (by first | omega | (simp; done) | (simp; omega)))
  have k1_0 : Blk w1 (w.heap.size) 27 #[.int .i64 X, .int .i64 Y, .int .i64 P, .int .i64 W, .int .i64 H, .int .i64 D] := Blk.below (by exact bkw) hb (by first | omega | (simp; done) | (simp; omega))
  have k1_1 : Blk w1 (w.heap.size + 1) 70 #[.int .i64 0, .int .i64 0, .int .i64 0, .int .i64 0] := Blk.below (by exact bkw) hb (by first | omega | (simp; done) | (simp; omega))
  have c1_0 := k1_0.cell
  have f1_0 := k1_0.frozen
  have l1_0 := k1_0.lt
  have c1_1 := k1_1.cell
  have f1_1 := k1_1.frozen
  have l1_1 := k1_1.lt
  have l1 := hB1.size
  clear hb
  go_wp2_with fail
  go_quiet (fail)
  go_wp2_with fail
  refine bodyPost_ret (results_row_tmp Tryz.results21 _ _ (w.heap.size + 1) #[.int .i64 (X + A), .int .i64 (Y + B), .int .i64 (X + A + P), .int .i64 (Y + B + P)] (by rfl) (run_loadVar_row _ _ 70 70 _ (0, 0) _ ?_ Tryz.underlying70 rfl (by kernel_rfl))) rfl ⟨rfl, ?_⟩
  · exact ((((k1_1.drewN _).set_ 0 _ rfl).set_ 1 _ rfl).set_ 2 _ rfl).set_ 3 _ rfl
  · exact blw
end Go.Proofs.YtfajckkbinbpiaaGreatDoor
