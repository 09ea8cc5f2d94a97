/- Plain geometry: discs, strokes and contours, how boxes lie to them, piles of them, and how their cells are counted. -/
namespace Go.Proofs.YtfajckkbinbpiaaGreatDoor
set_option maxRecDepth 100000
set_option maxHeartbeats 32000000
set_option linter.unusedVariables false
set_option linter.unusedSimpArgs false
namespace Geo
def cross (ax ay ex ey px py : Int) : Int := (ex-ax)*(py-ay) - (ey-ay)*(px-ax)
def NoMeet (X0 Y0 X1 Y1 ax ay ex ey : Int) : Prop :=
  (ax < X0 ∧ ex < X0) ∨ (X1 < ax ∧ X1 < ex) ∨ (ay < Y0 ∧ ey < Y0) ∨ (Y1 < ay ∧ Y1 < ey) ∨
  (0 < cross ax ay ex ey X0 Y0 ∧ 0 < cross ax ay ex ey X1 Y0 ∧ 0 < cross ax ay ex ey X0 Y1 ∧ 0 < cross ax ay ex ey X1 Y1) ∨
  (cross ax ay ex ey X0 Y0 < 0 ∧ cross ax ay ex ey X1 Y0 < 0 ∧ cross ax ay ex ey X0 Y1 < 0 ∧ cross ax ay ex ey X1 Y1 < 0)
theorem seg_pos (m c u v t : Int) (hu : u ≤ t) (hv : t ≤ v) (h1 : 0 < m * u + c) (h2 : 0 < m * v + c) : 0 < m * t + c := by
  rcases Int.le_total 0 m with hm | hm
  · have := Int.mul_le_mul_of_nonneg_left hu hm; omega
  · have := Int.mul_le_mul_of_nonpos_left hm hv; omega
theorem cross_pos {X0 Y0 X1 Y1 ax ay ex ey x y : Int} (hx : X0 ≤ x) (hx1 : x ≤ X1) (hy : Y0 ≤ y) (hy1 : y ≤ Y1)
    (h : 0 < cross ax ay ex ey X0 Y0 ∧ 0 < cross ax ay ex ey X1 Y0 ∧ 0 < cross ax ay ex ey X0 Y1 ∧ 0 < cross ax ay ex ey X1 Y1) : 0 < cross ax ay ex ey x y := by
  obtain ⟨h1, h2, h3, h4⟩ := h
  unfold cross at *
  have a1 : 0 < (ey - ay) * -x + ((ex - ax) * (Y0 - ay) + (ey - ay) * ax) := seg_pos _ _ (-X1) (-X0) (-x) (by omega) (by omega) (by grind) (by grind)
  have a2 : 0 < (ey - ay) * -x + ((ex - ax) * (Y1 - ay) + (ey - ay) * ax) := seg_pos _ _ (-X1) (-X0) (-x) (by omega) (by omega) (by grind) (by grind)
  have a3 : 0 < (ex - ax) * y + ((ey - ay) * -x + (ey - ay) * ax - (ex - ax) * ay) := seg_pos _ _ Y0 Y1 y hy hy1 (by grind) (by grind)
  grind
theorem cross_neg {X0 Y0 X1 Y1 ax ay ex ey x y : Int} (hx : X0 ≤ x) (hx1 : x ≤ X1) (hy : Y0 ≤ y) (hy1 : y ≤ Y1)
    (h : cross ax ay ex ey X0 Y0 < 0 ∧ cross ax ay ex ey X1 Y0 < 0 ∧ cross ax ay ex ey X0 Y1 < 0 ∧ cross ax ay ex ey X1 Y1 < 0) : cross ax ay ex ey x y < 0 := by
  have e : ∀ x y, cross ex ey ax ay x y = - cross ax ay ex ey x y := by intro x y; unfold cross; grind
  have := @cross_pos X0 Y0 X1 Y1 ex ey ax ay x y hx hx1 hy hy1 (by rw [e, e, e, e]; omega)
  rw [e] at this; omega
def crs (px py ax ay ex ey : Int) : Bool :=
  (decide (py < ay) != decide (py < ey)) && (if ay < ey then decide (0 < cross ax ay ex ey px py) else decide (cross ax ay ex ey px py < 0))
def fv (X1 py qy vx vy : Int) : Bool := decide (py < vy) && decide (vy ≤ qy) && decide (X1 < vx)
theorem side_a {ax ay ex ey x : Int} : cross ax ay ex ey x ay = - ((ey - ay) * (x - ax)) := by unfold cross; grind
theorem side_e {ax ay ex ey x : Int} : cross ax ay ex ey x ey = - ((ey - ay) * (x - ex)) := by unfold cross; grind
theorem pos_side {d u : Int} (hd : 0 < d) (h : 0 < - (d * u)) : u < 0 := by
  rcases (show u < 0 ∨ 0 ≤ u by omega) with h1 | h1
  · exact h1
  · have := Int.mul_nonneg (Int.le_of_lt hd) h1; omega
theorem crs_left {px py ax ay ex ey : Int} (h1 : ax < px) (h2 : ex < px) : crs px py ax ay ex ey = false := by
  unfold crs
  by_cases ha : py < ay <;> by_cases he : py < ey
  · simp [ha, he]
  · have hn : ¬ ay < ey := by omega
    have hc : ¬ cross ax ay ex ey px py < 0 := by
      have e : cross ax ay ex ey px py = (ay - py) * (px - ex) + (py - ey) * (px - ax) := by unfold cross; grind
      have := Int.mul_nonneg (show 0 ≤ ay - py by omega) (show 0 ≤ px - ex by omega)
      have := Int.mul_nonneg (show 0 ≤ py - ey by omega) (show 0 ≤ px - ax by omega)
      omega
    simp [ha, he, hn, hc]
  · have hn : ay < ey := by omega
    have hc : ¬ 0 < cross ax ay ex ey px py := by
      have e : cross ax ay ex ey px py = - ((py - ay) * (px - ex) + (ey - py) * (px - ax)) := by unfold cross; grind
      have := Int.mul_nonneg (show 0 ≤ py - ay by omega) (show 0 ≤ px - ex by omega)
      have := Int.mul_nonneg (show 0 ≤ ey - py by omega) (show 0 ≤ px - ax by omega)
      omega
    simp [ha, he, hn, hc]
  · simp [ha, he]
theorem crs_right {px py ax ay ex ey : Int} (h1 : px < ax) (h2 : px < ex) : crs px py ax ay ex ey = (decide (py < ay) != decide (py < ey)) := by
  unfold crs
  by_cases ha : py < ay <;> by_cases he : py < ey
  · simp [ha, he]
  · have hn : ¬ ay < ey := by omega
    have hc : cross ax ay ex ey px py < 0 := by
      have e : cross ax ay ex ey px py = - ((ay - py) * (ex - px) + (py - ey) * (ax - px)) := by unfold cross; grind
      have := Int.mul_pos (show 0 < ay - py by omega) (show 0 < ex - px by omega)
      have := Int.mul_nonneg (show 0 ≤ py - ey by omega) (show 0 ≤ ax - px by omega)
      omega
    simp [ha, he, hn, hc]
  · have hn : ay < ey := by omega
    have hc : 0 < cross ax ay ex ey px py := by
      have e : cross ax ay ex ey px py = (py - ay) * (ex - px) + (ey - py) * (ax - px) := by unfold cross; grind
      have := Int.mul_nonneg (show 0 ≤ py - ay by omega) (show 0 ≤ ex - px by omega)
      have := Int.mul_pos (show 0 < ey - py by omega) (show 0 < ax - px by omega)
      omega
    simp [ha, he, hn, hc]
  · simp [ha, he]
theorem xor4 (py qy ay ey : Int) (h : py ≤ qy) : ((decide (py < ay) != decide (py < ey)) != (decide (qy < ay) != decide (qy < ey))) = ((decide (py < ay) && decide (ay ≤ qy)) != (decide (py < ey) && decide (ey ≤ qy))) := by
  by_cases h1 : py < ay <;> by_cases h2 : py < ey <;> by_cases h3 : qy < ay <;> by_cases h4 : qy < ey <;> simp [h1, h2, h3, h4] <;> omega
theorem pos_pos {d u : Int} (hd : 0 < d) (h : 0 < d * u) : 0 < u := by
  rcases (show 0 < u ∨ u ≤ 0 by omega) with h1 | h1
  · exact h1
  · have := Int.mul_nonneg (Int.le_of_lt hd) (Int.neg_nonneg_of_nonpos h1); rw [Int.mul_neg] at this; omega
theorem crs_swap (px py ax ay ex ey : Int) : crs px py ex ey ax ay = crs px py ax ay ex ey := by
  have e : cross ex ey ax ay px py = - cross ax ay ex ey px py := by unfold cross; grind
  unfold crs
  rw [e]
  by_cases ha : py < ay <;> by_cases he : py < ey
  · simp [ha, he]
  · simp [ha, he, show ¬ ay < ey by omega, show ey < ay by omega]
  · simp [ha, he, show ¬ ey < ay by omega, show ay < ey by omega]
  · simp [ha, he]
theorem fv_off {X1 py qy vx vy : Int} (h : py < vy → vy ≤ qy → vx ≤ X1) : fv X1 py qy vx vy = false := by
  unfold fv
  by_cases h1 : py < vy
  · by_cases h2 : vy ≤ qy
    · simp [h1, h2, show ¬ X1 < vx by have := h h1 h2; omega]
    · simp [h2]
  · simp [h1]
theorem fv_on {X1 py qy vx vy : Int} (h : py < vy → vy ≤ qy → X1 < vx) : fv X1 py qy vx vy = (decide (py < vy) && decide (vy ≤ qy)) := by
  unfold fv
  by_cases h1 : py < vy
  · by_cases h2 : vy ≤ qy
    · simp [h1, h2, h h1 h2]
    · simp [h2]
  · simp [h1]
theorem edge_pos {X0 Y0 X1 Y1 px py qx qy ax ay ex ey : Int} (h : 0 < cross ax ay ex ey X0 Y0 ∧ 0 < cross ax ay ex ey X1 Y0 ∧ 0 < cross ax ay ex ey X0 Y1 ∧ 0 < cross ax ay ex ey X1 Y1)
    (p1 : X0 ≤ px) (p2 : px ≤ X1) (p3 : Y0 ≤ py) (p4 : py ≤ Y1) (q1 : X0 ≤ qx) (q2 : qx ≤ X1) (q3 : Y0 ≤ qy) (q4 : qy ≤ Y1) (hpq : py ≤ qy) :
    (crs px py ax ay ex ey != crs qx qy ax ay ex ey) = (fv X1 py qy ax ay != fv X1 py qy ex ey) := by
  have cp := cross_pos p1 p2 p3 p4 h
  have cq := cross_pos q1 q2 q3 q4 h
  rcases Int.lt_trichotomy ay ey with hd | hd | hd
  · rw [fv_on (vx := ax) fun h1 h2 => ?_, fv_on (vx := ex) fun h1 h2 => ?_, ← xor4 _ _ _ _ hpq]
    · simp [crs, hd, cp, cq]
    · have := cross_pos (show X0 ≤ X1 by omega) (Int.le_refl X1) (show Y0 ≤ ey by omega) (show ey ≤ Y1 by omega) h
      rw [side_e] at this
      have := pos_side (by omega) this
      omega
    · have := cross_pos (show X0 ≤ X1 by omega) (Int.le_refl X1) (show Y0 ≤ ay by omega) (show ay ≤ Y1 by omega) h
      rw [side_a] at this
      have := pos_side (by omega) this
      omega
  · subst hd
    have fa : py < ay → ay ≤ qy → False := by
      intro h1 h2
      have := cross_pos (show X0 ≤ X1 by omega) (Int.le_refl X1) (show Y0 ≤ ay by omega) (show ay ≤ Y1 by omega) h
      rw [side_a] at this; simp at this
    rw [fv_off fun h1 h2 => (fa h1 h2).elim, fv_off fun h1 h2 => (fa h1 h2).elim]
    simp [crs]
  · rw [fv_off (vx := ax) fun h1 h2 => ?_, fv_off (vx := ex) fun h1 h2 => ?_]
    · simp [crs, show ¬ ay < ey by omega, show ¬ cross ax ay ex ey px py < 0 by omega, show ¬ cross ax ay ex ey qx qy < 0 by omega]
    · have := cross_pos (Int.le_refl X0) (show X0 ≤ X1 by omega) (show Y0 ≤ ey by omega) (show ey ≤ Y1 by omega) h
      rw [side_e] at this
      have := pos_pos (d := ay - ey) (u := X0 - ex) (by omega) (by grind)
      omega
    · have := cross_pos (Int.le_refl X0) (show X0 ≤ X1 by omega) (show Y0 ≤ ay by omega) (show ay ≤ Y1 by omega) h
      rw [side_a] at this
      have := pos_pos (d := ay - ey) (u := X0 - ax) (by omega) (by grind)
      omega
theorem edge {X0 Y0 X1 Y1 px py qx qy ax ay ex ey : Int} (h : NoMeet X0 Y0 X1 Y1 ax ay ex ey)
    (p1 : X0 ≤ px) (p2 : px ≤ X1) (p3 : Y0 ≤ py) (p4 : py ≤ Y1) (q1 : X0 ≤ qx) (q2 : qx ≤ X1) (q3 : Y0 ≤ qy) (q4 : qy ≤ Y1) (hpq : py ≤ qy) :
    (crs px py ax ay ex ey != crs qx qy ax ay ex ey) = (fv X1 py qy ax ay != fv X1 py qy ex ey) := by
  rcases h with ⟨h1, h2⟩ | ⟨h1, h2⟩ | ⟨h1, h2⟩ | ⟨h1, h2⟩ | h | h
  · rw [crs_left (by omega) (by omega), crs_left (by omega) (by omega)]
    have e1 : ¬ X1 < ax := by omega
    have e2 : ¬ X1 < ex := by omega
    simp [fv, e1, e2]
  · rw [crs_right (by omega) (by omega), crs_right (by omega) (by omega), xor4 _ _ _ _ hpq]
    simp [fv, h1, h2]
  · have e1 : ¬ py < ay := by omega
    have e2 : ¬ py < ey := by omega
    have e3 : ¬ qy < ay := by omega
    have e4 : ¬ qy < ey := by omega
    simp [crs, fv, e1, e2, e3, e4]
  · have e1 : py < ay := by omega
    have e2 : py < ey := by omega
    have e3 : qy < ay := by omega
    have e4 : qy < ey := by omega
    have e5 : ¬ ay ≤ qy := by omega
    have e6 : ¬ ey ≤ qy := by omega
    simp [crs, fv, e1, e2, e3, e4, e5, e6]
  · exact edge_pos h p1 p2 p3 p4 q1 q2 q3 q4 hpq
  · have e : ∀ x y, cross ex ey ax ay x y = - cross ax ay ex ey x y := by intro x y; unfold cross; grind
    have := @edge_pos X0 Y0 X1 Y1 px py qx qy ex ey ax ay (by rw [e, e, e, e]; omega) p1 p2 p3 p4 q1 q2 q3 q4 hpq
    rw [crs_swap px py ax ay, crs_swap qx qy ax ay] at this
    rw [this]
    cases fv X1 py qy ax ay <;> cases fv X1 py qy ex ey <;> rfl
abbrev Pt := Int × Int
def ring : List Pt → List (Pt × Pt)
  | [] => []
  | v :: vs => (v :: vs).zip (vs ++ [v])
def par (f : Pt × Pt → Bool) (l : List (Pt × Pt)) : Bool := l.foldr (fun e b => f e != b) false
theorem par_xor (f g : Pt × Pt → Bool) (l : List (Pt × Pt)) : par (fun e => f e != g e) l = (par f l != par g l) := by
  induction l with
  | nil => rfl
  | cons e l ih =>
    simp only [par, List.foldr_cons] at ih ⊢
    rw [ih]
    cases f e <;> cases g e <;> cases (List.foldr (fun e b => f e != b) false l) <;> cases (List.foldr (fun e b => g e != b) false l) <;> rfl
theorem par_congr {f g : Pt × Pt → Bool} {l : List (Pt × Pt)} (h : ∀ e ∈ l, f e = g e) : par f l = par g l := by
  induction l with
  | nil => rfl
  | cons e l ih =>
    simp only [par, List.foldr_cons] at ih ⊢
    rw [ih fun e he => h e (List.mem_cons_of_mem _ he), h e (List.mem_cons_self ..)]
theorem par_append (f : Pt × Pt → Bool) (l m : List (Pt × Pt)) : par f (l ++ m) = (par f l != par f m) := by
  induction l with
  | nil => simp [par]
  | cons e l ih =>
    simp only [par, List.foldr_cons, List.cons_append] at ih ⊢
    rw [ih]
    cases f e <;> cases (List.foldr (fun e b => f e != b) false l) <;> cases (List.foldr (fun e b => f e != b) false m) <;> rfl
theorem tele (g : Pt → Bool) (z : Pt) : ∀ (v : Pt) (vs : List Pt), par (fun e => g e.1 != g e.2) ((v :: vs).zip (vs ++ [z])) = (g v != g z)
  | v, [] => by simp [par]
  | v, u :: vs => by
    have ih := tele g z u vs
    simp only [par, List.cons_append, List.zip_cons_cons, List.foldr_cons] at ih ⊢
    rw [ih]
    cases g v <;> cases g u <;> cases g z <;> rfl
theorem ring_tele (g : Pt → Bool) (c : List Pt) : par (fun e => g e.1 != g e.2) (ring c) = false := by
  cases c with
  | nil => rfl
  | cons v vs => rw [ring, tele]; simp
def edges (l : List (List Pt)) : List (Pt × Pt) := (l.map ring).flatten
theorem edges_tele (g : Pt → Bool) (l : List (List Pt)) : par (fun e => g e.1 != g e.2) (edges l) = false := by
  induction l with
  | nil => rfl
  | cons c l ih => rw [edges, List.map_cons, List.flatten_cons, par_append, ring_tele]; rw [edges] at ih; rw [ih]; rfl
def odd (p : Pt) (l : List (List Pt)) : Bool := par (fun e => crs p.1 p.2 e.1.1 e.1.2 e.2.1 e.2.2) (edges l)
theorem odd_same {X0 Y0 X1 Y1 : Int} {l : List (List Pt)} (h : ∀ e ∈ edges l, NoMeet X0 Y0 X1 Y1 e.1.1 e.1.2 e.2.1 e.2.2) {p q : Pt}
    (p1 : X0 ≤ p.1) (p2 : p.1 ≤ X1) (p3 : Y0 ≤ p.2) (p4 : p.2 ≤ Y1) (q1 : X0 ≤ q.1) (q2 : q.1 ≤ X1) (q3 : Y0 ≤ q.2) (q4 : q.2 ≤ Y1) (hpq : p.2 ≤ q.2) : odd p l = odd q l := by
  have e : (odd p l != odd q l) = false := by
    unfold odd
    rw [← par_xor, par_congr (g := fun e => fv X1 p.2 q.2 e.1.1 e.1.2 != fv X1 p.2 q.2 e.2.1 e.2.2) fun e he => edge (h e he) p1 p2 p3 p4 q1 q2 q3 q4 hpq]
    exact edges_tele (fun v => fv X1 p.2 q.2 v.1 v.2) l
  revert e
  cases odd p l <;> cases odd q l <;> simp
theorem no_touch {X0 Y0 X1 Y1 px py ax ay ex ey : Int} (h : NoMeet X0 Y0 X1 Y1 ax ay ex ey) (p1 : X0 ≤ px) (p2 : px ≤ X1) (p3 : Y0 ≤ py) (p4 : py ≤ Y1) :
    ¬ (cross ax ay ex ey px py = 0 ∧ min ax ex ≤ px ∧ px ≤ max ax ex ∧ min ay ey ≤ py ∧ py ≤ max ay ey) := by
  rintro ⟨h0, h1, h2, h3, h4⟩
  rcases h with h | h | h | h | h | h
  · omega
  · omega
  · omega
  · omega
  · have := cross_pos p1 p2 p3 p4 h; omega
  · have := cross_neg p1 p2 p3 p4 h; omega
theorem odd_apart {X0 Y0 X1 Y1 A0 B0 A1 B1 : Int} {l : List (List Pt)} (hv : ∀ e ∈ edges l, (A0 ≤ e.1.1 ∧ e.1.1 ≤ A1 ∧ B0 ≤ e.1.2 ∧ e.1.2 ≤ B1) ∧ (A0 ≤ e.2.1 ∧ e.2.1 ≤ A1 ∧ B0 ≤ e.2.2 ∧ e.2.2 ≤ B1))
    (h : A1 < X0 ∨ X1 < A0 ∨ B1 < Y0 ∨ Y1 < B0) (hx : X0 ≤ X1) (hy : Y0 ≤ Y1) : odd (X0, Y0) l = false := by
  unfold odd
  have hr := edges_tele (fun v => decide (Y0 < v.2) && decide (X1 < A0)) l
  rw [← hr]
  refine par_congr fun e he => ?_
  obtain ⟨⟨a1, a2, a3, a4⟩, e1, e2, e3, e4⟩ := hv e he
  rcases (show A1 < X0 ∨ X1 < A0 ∨ (¬ X1 < A0 ∧ B1 < Y0) ∨ (¬ X1 < A0 ∧ Y1 < B0) by omega) with h | h | ⟨h', h⟩ | ⟨h', h⟩
  · rw [crs_left (by simp; omega) (by simp; omega)]
    simp [show ¬ X1 < A0 by omega]
  · rw [crs_right (by simp; omega) (by simp; omega)]
    simp [h]
  · simp [crs, h', show ¬ Y0 < e.1.2 by omega, show ¬ Y0 < e.2.2 by omega]
  · simp [crs, h', show Y0 < e.1.2 by omega, show Y0 < e.2.2 by omega]
theorem apart_noMeet {X0 Y0 X1 Y1 A0 B0 A1 B1 ax ay ex ey : Int} (a : (A0 ≤ ax ∧ ax ≤ A1 ∧ B0 ≤ ay ∧ ay ≤ B1) ∧ (A0 ≤ ex ∧ ex ≤ A1 ∧ B0 ≤ ey ∧ ey ≤ B1))
    (h : A1 < X0 ∨ X1 < A0 ∨ B1 < Y0 ∨ Y1 < B0) : NoMeet X0 Y0 X1 Y1 ax ay ex ey := by
  unfold NoMeet; omega
def dist (px py qx qy : Int) : Int := (px-qx)*(px-qx) + (py-qy)*(py-qy)
theorem sq_nonneg (u : Int) : 0 ≤ u * u := by
  rcases Int.le_total 0 u with h | h
  · exact Int.mul_nonneg h h
  · exact Int.mul_nonneg_of_nonpos_of_nonpos h h
theorem sq_le {u v : Int} (h : u ≤ v) (h' : -u ≤ v) : u * u ≤ v * v := by
  have h0 : 0 ≤ v := by omega
  have : v * v - u * u = (v - u) * (v + u) := by grind
  have := Int.mul_nonneg (show 0 ≤ v - u by omega) (show 0 ≤ v + u by omega)
  omega
theorem sq_le' {u v : Int} (h : (-v ≤ u ∧ u ≤ v) ∨ (v ≤ u ∧ u ≤ -v)) : u * u ≤ v * v := by
  rcases h with h | h
  · exact sq_le (by omega) (by omega)
  · have := sq_le (u := u) (v := -v) (by omega) (by omega); rw [Int.neg_mul_neg] at this; exact this
def dt (ax ay cx cy px py : Int) : Int := (cx-ax)*(px-ax) + (cy-ay)*(py-ay)
def HasL (ax ay cx cy r px py : Int) : Prop :=
  if dt ax ay cx cy px py ≤ 0 then dist px py ax ay ≤ r*r
  else if dist ax ay cx cy ≤ dt ax ay cx cy px py then dist px py cx cy ≤ r*r
  else cross ax ay cx cy px py * cross ax ay cx cy px py ≤ r*r * dist ax ay cx cy
theorem lagrange (ax ay cx cy px py : Int) : dist ax ay cx cy * dist px py ax ay = dt ax ay cx cy px py * dt ax ay cx cy px py + cross ax ay cx cy px py * cross ax ay cx cy px py := by
  unfold dist dt cross; grind
def off (ax ay cx cy n S px py : Int) : Int :=
  (n * dist ax ay cx cy * (px-ax) - S*(cx-ax)) * (n * dist ax ay cx cy * (px-ax) - S*(cx-ax)) + (n * dist ax ay cx cy * (py-ay) - S*(cy-ay)) * (n * dist ax ay cx cy * (py-ay) - S*(cy-ay))
theorem off_eq (ax ay cx cy n S px py : Int) : off ax ay cx cy n S px py = n*n*dist ax ay cx cy*dist ax ay cx cy*dist px py ax ay - 2*n*dist ax ay cx cy*S*dt ax ay cx cy px py + S*S*dist ax ay cx cy := by
  unfold off
  generalize hL : dist ax ay cx cy = L
  have hL' : L = (ax-cx)*(ax-cx) + (ay-cy)*(ay-cy) := by rw [← hL]; rfl
  unfold dt dist
  grind
theorem dist_c (ax ay cx cy px py : Int) : dist px py cx cy = dist px py ax ay - 2 * dt ax ay cx cy px py + dist ax ay cx cy := by unfold dist dt; grind
theorem le_of_mul {a b c : Int} (hc : 0 < c) (h : c * a ≤ c * b) : a ≤ b := Int.le_of_mul_le_mul_left h hc
theorem of_has {ax ay cx cy r px py : Int} (hL : 0 < dist ax ay cx cy) (h : HasL ax ay cx cy r px py) :
    ∃ S, 0 ≤ S ∧ S ≤ dist ax ay cx cy ∧ off ax ay cx cy 1 S px py ≤ r*r*(dist ax ay cx cy*dist ax ay cx cy) := by
  unfold HasL at h
  have e := fun S => off_eq ax ay cx cy 1 S px py
  have hg := lagrange ax ay cx cy px py
  have hc := dist_c ax ay cx cy px py
  generalize dist ax ay cx cy = L at *
  generalize dt ax ay cx cy px py = t at *
  generalize cross ax ay cx cy px py = k at *
  generalize dist px py ax ay = D at *
  generalize dist px py cx cy = E at *
  have hLL : 0 < L * L := Int.mul_pos hL hL
  split at h
  · refine ⟨0, by omega, by omega, ?_⟩
    rw [e]
    have := Int.mul_le_mul_of_nonneg_left h (Int.le_of_lt hLL)
    grind
  · split at h
    · refine ⟨L, by omega, by omega, ?_⟩
      rw [e, show 1*1*L*L*D - 2*1*L*L*t + L*L*L = L*L*E by rw [hc]; grind, show r*r*(L*L) = L*L*(r*r) by grind]
      exact Int.mul_le_mul_of_nonneg_left h (Int.le_of_lt hLL)
    · refine ⟨t, by omega, by omega, ?_⟩
      rw [e, show 1*1*L*L*D - 2*1*L*t*t + t*t*L = L*(k*k) by rw [show 1*1*L*L*D = L*(L*D) by grind, hg]; grind, show r*r*(L*L) = L*(r*r*L) by grind]
      exact Int.mul_le_mul_of_nonneg_left h (Int.le_of_lt hL)
theorem has_of {ax ay cx cy r px py n S : Int} (hL : 0 < dist ax ay cx cy) (hn : 0 < n) (h0 : 0 ≤ S) (h1 : S ≤ n * dist ax ay cx cy)
    (h : off ax ay cx cy n S px py ≤ r*r*(n*dist ax ay cx cy*(n*dist ax ay cx cy))) : HasL ax ay cx cy r px py := by
  unfold HasL
  rw [off_eq] at h
  have hg := lagrange ax ay cx cy px py
  have hc := dist_c ax ay cx cy px py
  generalize dist ax ay cx cy = L at *
  generalize dt ax ay cx cy px py = t at *
  generalize cross ax ay cx cy px py = k at *
  generalize dist px py ax ay = D at *
  generalize dist px py cx cy = E at *
  have hN : 0 < n * L := Int.mul_pos hn hL
  have hNN : 0 < n * L * (n * L) := Int.mul_pos hN hN
  split
  · rename_i ht
    refine le_of_mul hNN ?_
    have a1 := Int.mul_nonneg (Int.mul_nonneg (Int.le_of_lt hN) h0) (show 0 ≤ -t by omega)
    have a2 := Int.mul_nonneg (sq_nonneg S) (Int.le_of_lt hL)
    grind
  · split
    · rename_i ht ht2
      refine le_of_mul hNN ?_
      -- (nL - S) * (2 n t - nL - S) >= 0
      have b1 : n * L ≤ n * t := Int.mul_le_mul_of_nonneg_left ht2 (Int.le_of_lt hn)
      have a1 := Int.mul_nonneg (Int.mul_nonneg (show 0 ≤ n * L - S by omega) (show 0 ≤ 2 * (n * t) - n * L - S by omega)) (Int.le_of_lt hL)
      have e1 : n * L * (n * L) * E = (n*n*L*L*D - 2*n*L*S*t + S*S*L) - (n*L - S) * (2*(n*t) - n*L - S) * L := by rw [hc]; grind
      rw [e1, show n*L*(n*L)*(r*r) = r*r*(n*L*(n*L)) by grind]
      omega
    · have hnn : 0 < n * (n * L) := Int.mul_pos hn hN
      refine le_of_mul hnn ?_
      have a1 := Int.mul_nonneg (sq_nonneg (n * t - S)) (Int.le_of_lt hL)
      have e1 : n * (n * L) * (k * k) = (n*n*L*L*D - 2*n*L*S*t + S*S*L) - (n*t - S) * (n*t - S) * L := by
        rw [show n*n*L*L*D = n*n*L*(L*D) by grind, hg]; grind
      rw [e1, show n*(n*L)*(r*r*L) = r*r*(n*L*(n*L)) by grind]
      omega
theorem sqconv {n m a b : Int} (h0 : 0 ≤ m) (h1 : m ≤ n) : ((n-m)*a+m*b)*((n-m)*a+m*b) ≤ n*((n-m)*(a*a)+m*(b*b)) := by
  have e : n*((n-m)*(a*a)+m*(b*b)) = ((n-m)*a+m*b)*((n-m)*a+m*b) + (n-m)*m*((a-b)*(a-b)) := by grind
  have := Int.mul_nonneg (Int.mul_nonneg (show 0 ≤ n - m by omega) h0) (sq_nonneg (a - b))
  omega
theorem conv {ax ay cx cy r ux uy vx vy px py n m : Int} (hL : 0 < dist ax ay cx cy) (hn : 0 < n) (h0 : 0 ≤ m) (h1 : m ≤ n)
    (ex : n * px = (n-m)*ux + m*vx) (ey : n * py = (n-m)*uy + m*vy) (hu : HasL ax ay cx cy r ux uy) (hv : HasL ax ay cx cy r vx vy) : HasL ax ay cx cy r px py := by
  obtain ⟨S, s0, s1, hs⟩ := of_has hL hu
  obtain ⟨T, t0, t1, ht⟩ := of_has hL hv
  have b1 : 0 ≤ n - m := by omega
  refine has_of (n := n) (S := (n-m)*S + m*T) hL hn (Int.add_nonneg (Int.mul_nonneg b1 s0) (Int.mul_nonneg h0 t0)) ?_ ?_
  · have c1 := Int.mul_le_mul_of_nonneg_left s1 b1
    have c2 := Int.mul_le_mul_of_nonneg_left t1 h0
    rw [show n * dist ax ay cx cy = (n-m) * dist ax ay cx cy + m * dist ax ay cx cy by grind]
    omega
  · unfold off at *
    generalize dist ax ay cx cy = L at *
    have q1 : n*L*(px-ax) - ((n-m)*S+m*T)*(cx-ax) = (n-m)*(1*L*(ux-ax) - S*(cx-ax)) + m*(1*L*(vx-ax) - T*(cx-ax)) := by
      rw [show n*L*(px-ax) = L*(n*px) - n*L*ax by grind, ex]; grind
    have q2 : n*L*(py-ay) - ((n-m)*S+m*T)*(cy-ay) = (n-m)*(1*L*(uy-ay) - S*(cy-ay)) + m*(1*L*(vy-ay) - T*(cy-ay)) := by
      rw [show n*L*(py-ay) = L*(n*py) - n*L*ay by grind, ey]; grind
    rw [q1, q2]
    generalize 1*L*(ux-ax) - S*(cx-ax) = a1 at *
    generalize 1*L*(vx-ax) - T*(cx-ax) = a2 at *
    generalize 1*L*(uy-ay) - S*(cy-ay) = a3 at *
    generalize 1*L*(vy-ay) - T*(cy-ay) = a4 at *
    have f1 := sqconv (a := a1) (b := a2) h0 h1
    have f2 := sqconv (a := a3) (b := a4) h0 h1
    have g1 := Int.mul_le_mul_of_nonneg_left hs b1
    have g2 := Int.mul_le_mul_of_nonneg_left ht h0
    have g3 : n*((n-m)*(a1*a1)+m*(a2*a2)) + n*((n-m)*(a3*a3)+m*(a4*a4)) = n*((n-m)*(a1*a1+a3*a3) + m*(a2*a2+a4*a4)) := by grind
    have g4 := Int.mul_le_mul_of_nonneg_left (Int.add_le_add g1 g2) (Int.le_of_lt hn)
    have g5 : n*((n-m)*(r*r*(L*L)) + m*(r*r*(L*L))) = r*r*(n*L*(n*L)) := by grind
    omega
def gap (v lo hi : Int) : Int := if v < lo then lo - v else if hi < v then v - hi else 0
def far (v lo hi : Int) : Int := max (max (v - lo) (lo - v)) (max (v - hi) (hi - v))
def near2 (X0 Y0 X1 Y1 px py : Int) : Int := gap px X0 X1 * gap px X0 X1 + gap py Y0 Y1 * gap py Y0 Y1
def most2 (X0 Y0 X1 Y1 px py : Int) : Int := far px X0 X1 * far px X0 X1 + far py Y0 Y1 * far py Y0 Y1
theorem gap_le {v lo hi x : Int} (h : lo ≤ x) (h' : x ≤ hi) : gap v lo hi * gap v lo hi ≤ (x - v) * (x - v) := by
  refine sq_le' ?_; unfold gap; split
  · omega
  · split <;> omega
theorem far_ge {v lo hi x : Int} (h : lo ≤ x) (h' : x ≤ hi) : (x - v) * (x - v) ≤ far v lo hi * far v lo hi := by
  refine sq_le' ?_; unfold far; omega
theorem near_le {X0 Y0 X1 Y1 cx cy px py : Int} (p1 : X0 ≤ px) (p2 : px ≤ X1) (p3 : Y0 ≤ py) (p4 : py ≤ Y1) : near2 X0 Y0 X1 Y1 cx cy ≤ dist px py cx cy := by
  unfold near2 dist; have := gap_le (v := cx) p1 p2; have := gap_le (v := cy) p3 p4; omega
theorem most_ge {X0 Y0 X1 Y1 cx cy px py : Int} (p1 : X0 ≤ px) (p2 : px ≤ X1) (p3 : Y0 ≤ py) (p4 : py ≤ Y1) : dist px py cx cy ≤ most2 X0 Y0 X1 Y1 cx cy := by
  unfold most2 dist; have := far_ge (v := cx) p1 p2; have := far_ge (v := cy) p3 p4; omega
theorem far_is (v lo hi : Int) (h : lo ≤ hi) : far v lo hi * far v lo hi = (lo - v) * (lo - v) ∨ far v lo hi * far v lo hi = (hi - v) * (hi - v) := by
  unfold far
  rcases (show max (max (v - lo) (lo - v)) (max (v - hi) (hi - v)) = v - lo ∨ max (max (v - lo) (lo - v)) (max (v - hi) (hi - v)) = lo - v ∨ max (max (v - lo) (lo - v)) (max (v - hi) (hi - v)) = v - hi ∨ max (max (v - lo) (lo - v)) (max (v - hi) (hi - v)) = hi - v by omega) with e | e | e | e <;> rw [e]
  · left; grind
  · left; rfl
  · right; grind
  · right; rfl
theorem most_is (X0 Y0 X1 Y1 cx cy : Int) (hx : X0 ≤ X1) (hy : Y0 ≤ Y1) :
    most2 X0 Y0 X1 Y1 cx cy = dist X0 Y0 cx cy ∨ most2 X0 Y0 X1 Y1 cx cy = dist X1 Y0 cx cy ∨ most2 X0 Y0 X1 Y1 cx cy = dist X0 Y1 cx cy ∨ most2 X0 Y0 X1 Y1 cx cy = dist X1 Y1 cx cy := by
  unfold most2 dist
  rcases far_is cx X0 X1 hx with e | e <;> rcases far_is cy Y0 Y1 hy with f | f <;> rw [e, f] <;> simp
theorem line_in {X0 Y0 X1 Y1 ax ay cx cy r px py : Int} (p1 : X0 ≤ px) (p2 : px ≤ X1) (p3 : Y0 ≤ py) (p4 : py ≤ Y1)
    (h1 : HasL ax ay cx cy r X0 Y0) (h2 : HasL ax ay cx cy r X1 Y0) (h3 : HasL ax ay cx cy r X0 Y1) (h4 : HasL ax ay cx cy r X1 Y1) : HasL ax ay cx cy r px py := by
  rcases (show 0 < dist ax ay cx cy ∨ dist ax ay cx cy = 0 by
    have : 0 ≤ dist ax ay cx cy := Int.add_nonneg (sq_nonneg _) (sq_nonneg _)
    omega) with hL | hL
  · have g1 : HasL ax ay cx cy r px Y0 := by
      rcases (show X0 = X1 ∨ X0 < X1 by omega) with h | h
      · obtain rfl : px = X0 := by omega
        exact h1
      · exact conv (n := X1 - X0) (m := px - X0) hL (by omega) (by omega) (by omega) (by grind) (by grind) h1 h2
    have g2 : HasL ax ay cx cy r px Y1 := by
      rcases (show X0 = X1 ∨ X0 < X1 by omega) with h | h
      · obtain rfl : px = X0 := by omega
        exact h3
      · exact conv (n := X1 - X0) (m := px - X0) hL (by omega) (by omega) (by omega) (by grind) (by grind) h3 h4
    rcases (show Y0 = Y1 ∨ Y0 < Y1 by omega) with h | h
    · obtain rfl : py = Y0 := by omega
      exact g1
    · exact conv (n := Y1 - Y0) (m := py - Y0) hL (by omega) (by omega) (by omega) (by grind) (by grind) g1 g2
  · have hx : cx = ax ∧ cy = ay := by
      have a1 := sq_nonneg (ax - cx)
      have a2 := sq_nonneg (ay - cy)
      unfold dist at hL
      have b1 : (ax - cx) * (ax - cx) = 0 := by omega
      have b2 : (ay - cy) * (ay - cy) = 0 := by omega
      have := Int.mul_eq_zero.1 b1
      have := Int.mul_eq_zero.1 b2
      omega
    obtain ⟨rfl, rfl⟩ := hx
    have z : ∀ x y, dt cx cy cx cy x y = 0 := by intro x y; unfold dt; grind
    have e : ∀ x y, HasL cx cy cx cy r x y ↔ dist x y cx cy ≤ r * r := by
      intro x y
      unfold HasL
      rw [z, if_pos (by omega)]
    rw [e] at *
    have := most_ge (cx := cx) (cy := cy) p1 p2 p3 p4
    rcases most_is X0 Y0 X1 Y1 cx cy (by omega) (by omega) with q | q | q | q <;> omega
theorem hasL_swap {ax ay cx cy r px py : Int} (hL : 0 < dist ax ay cx cy) : HasL cx cy ax ay r px py ↔ HasL ax ay cx cy r px py := by
  have e1 : dist cx cy ax ay = dist ax ay cx cy := by unfold dist; grind
  have e2 : dt cx cy ax ay px py = dist ax ay cx cy - dt ax ay cx cy px py := by unfold dt dist; grind
  have e3 : cross cx cy ax ay px py = - cross ax ay cx cy px py := by unfold cross; grind
  unfold HasL
  rw [e1, e2, e3, Int.neg_mul_neg]
  by_cases h1 : dt ax ay cx cy px py ≤ 0
  · rw [if_neg (show ¬ dist ax ay cx cy - dt ax ay cx cy px py ≤ 0 by omega), if_pos (show dist ax ay cx cy ≤ dist ax ay cx cy - dt ax ay cx cy px py by omega), if_pos h1]
  · by_cases h2 : dist ax ay cx cy ≤ dt ax ay cx cy px py
    · rw [if_pos (show dist ax ay cx cy - dt ax ay cx cy px py ≤ 0 by omega), if_neg h1, if_pos h2]
    · rw [if_neg (show ¬ dist ax ay cx cy - dt ax ay cx cy px py ≤ 0 by omega), if_neg (show ¬ dist ax ay cx cy ≤ dist ax ay cx cy - dt ax ay cx cy px py by omega), if_neg h1, if_neg h2]
theorem hasL_ry (ax ay cx cy r px py : Int) : HasL ax (-ay) cx (-cy) r px (-py) ↔ HasL ax ay cx cy r px py := by
  have e1 : ∀ px py qx qy, dist px (-py) qx (-qy) = dist px py qx qy := by intro px py qx qy; unfold dist; grind
  have e2 : dt ax (-ay) cx (-cy) px (-py) = dt ax ay cx cy px py := by unfold dt; grind
  have e3 : cross ax (-ay) cx (-cy) px (-py) = - cross ax ay cx cy px py := by unfold cross; grind
  unfold HasL
  rw [e1, e1, e1, e2, e3, Int.neg_mul_neg]
theorem hasL_tr (ax ay cx cy r px py : Int) : HasL ay ax cy cx r py px ↔ HasL ax ay cx cy r px py := by
  have e1 : ∀ px py qx qy, dist py px qy qx = dist px py qx qy := by intro px py qx qy; unfold dist; grind
  have e2 : dt ay ax cy cx py px = dt ax ay cx cy px py := by unfold dt; grind
  have e3 : cross ay ax cy cx py px = - cross ax ay cx cy px py := by unfold cross; grind
  unfold HasL
  rw [e1 px py ax ay, e1 ax ay cx cy, e1 px py cx cy, e2, e3, Int.neg_mul_neg]
theorem gap_neg (v lo hi : Int) (h : lo ≤ hi) : gap (-v) (-hi) (-lo) = gap v lo hi := by unfold gap; split <;> split <;> (try split) <;> omega
structure Bad (X0 Y0 X1 Y1 ax ay cx cy r px py : Int) : Prop where
  x0 : X0 ≤ px
  x1 : px ≤ X1
  y0 : Y0 ≤ py
  y1 : py ≤ Y1
  long : 0 < dist ax ay cx cy
  has : HasL ax ay cx cy r px py
  na : r*r < near2 X0 Y0 X1 Y1 ax ay
  nc : r*r < near2 X0 Y0 X1 Y1 cx cy
  k1 : ¬ HasL ax ay cx cy r X0 Y0
  k2 : ¬ HasL ax ay cx cy r X1 Y0
  k3 : ¬ HasL ax ay cx cy r X0 Y1
  k4 : ¬ HasL ax ay cx cy r X1 Y1
theorem Bad.swap {X0 Y0 X1 Y1 ax ay cx cy r px py : Int} (h : Bad X0 Y0 X1 Y1 ax ay cx cy r px py) : Bad X0 Y0 X1 Y1 cx cy ax ay r px py := by
  have e := fun x y => hasL_swap (r := r) (px := x) (py := y) h.long
  exact ⟨h.x0, h.x1, h.y0, h.y1, by have := h.long; rw [show dist cx cy ax ay = dist ax ay cx cy by unfold dist; grind]; exact this, (e _ _).2 h.has, h.nc, h.na, mt (e _ _).1 h.k1, mt (e _ _).1 h.k2, mt (e _ _).1 h.k3, mt (e _ _).1 h.k4⟩
theorem Bad.ry {X0 Y0 X1 Y1 ax ay cx cy r px py : Int} (h : Bad X0 Y0 X1 Y1 ax ay cx cy r px py) : Bad X0 (-Y1) X1 (-Y0) ax (-ay) cx (-cy) r px (-py) := by
  have e := fun x y => hasL_ry ax ay cx cy r x y
  have hy : Y0 ≤ Y1 := by have := h.y0; have := h.y1; omega
  refine ⟨h.x0, h.x1, by have := h.y1; omega, by have := h.y0; omega, ?_, (e _ _).2 h.has, ?_, ?_, mt (e _ _).1 h.k3, mt (e _ _).1 h.k4, mt (e _ _).1 h.k1, mt (e _ _).1 h.k2⟩
  · rw [show dist ax (-ay) cx (-cy) = dist ax ay cx cy by unfold dist; grind]; exact h.long
  · have := h.na; unfold near2 at *; rw [gap_neg _ _ _ hy]; exact this
  · have := h.nc; unfold near2 at *; rw [gap_neg _ _ _ hy]; exact this
theorem Bad.tr {X0 Y0 X1 Y1 ax ay cx cy r px py : Int} (h : Bad X0 Y0 X1 Y1 ax ay cx cy r px py) : Bad Y0 X0 Y1 X1 ay ax cy cx r py px := by
  have e := fun x y => hasL_tr ax ay cx cy r x y
  refine ⟨h.y0, h.y1, h.x0, h.x1, ?_, (e _ _).2 h.has, ?_, ?_, mt (e _ _).1 h.k1, mt (e _ _).1 h.k3, mt (e _ _).1 h.k2, mt (e _ _).1 h.k4⟩
  · rw [show dist ay ax cy cx = dist ax ay cx cy by unfold dist; grind]; exact h.long
  · have := h.na; unfold near2 at *; omega
  · have := h.nc; unfold near2 at *; omega
theorem Bad.mid {X0 Y0 X1 Y1 ax ay cx cy r px py : Int} (h : Bad X0 Y0 X1 Y1 ax ay cx cy r px py) :
    0 < dt ax ay cx cy px py ∧ dt ax ay cx cy px py < dist ax ay cx cy ∧ cross ax ay cx cy px py * cross ax ay cx cy px py ≤ r*r * dist ax ay cx cy := by
  have hh := h.has
  have n1 := near_le (cx := ax) (cy := ay) h.x0 h.x1 h.y0 h.y1
  have n2 := near_le (cx := cx) (cy := cy) h.x0 h.x1 h.y0 h.y1
  have := h.na
  have := h.nc
  unfold HasL at hh
  split at hh
  · exfalso; omega
  · split at hh
    · exfalso; omega
    · exact ⟨by omega, by omega, hh⟩
theorem gap_scaled {N v lo hi u : Int} (hN : 0 < N) (h : N * lo ≤ u) (h' : u ≤ N * hi) : N * N * (gap v lo hi * gap v lo hi) ≤ (u - N * v) * (u - N * v) := by
  rw [show N * N * (gap v lo hi * gap v lo hi) = (N * gap v lo hi) * (N * gap v lo hi) by grind]
  refine sq_le' ?_
  unfold gap
  split
  · rename_i h1
    have := Int.mul_le_mul_of_nonneg_left (Int.le_of_lt h1) (Int.le_of_lt hN)
    rw [Int.mul_sub]; omega
  · split
    · rename_i h1 h2
      have := Int.mul_le_mul_of_nonneg_left (Int.le_of_lt h2) (Int.le_of_lt hN)
      rw [Int.mul_sub]; omega
    · simp; omega
theorem at_end {X0 Y0 X1 Y1 dx dy ex ey px py kx ky R L T K C D : Int} (hL : L = dx*dx+dy*dy) (hL0 : 0 < L)
    (p1 : X0 ≤ px) (p2 : px ≤ X1) (p3 : Y0 ≤ py) (p4 : py ≤ Y1) (k1 : X0 ≤ kx) (k2 : kx ≤ X1) (k3 : Y0 ≤ ky) (k4 : ky ≤ Y1)
    (hT : dx*(px-ex)+dy*(py-ey) = T) (hK : dx*(kx-ex)+dy*(ky-ey) = K) (hC : dx*(py-ey)-dy*(px-ex) = C) (hD : dx*(ky-ey)-dy*(kx-ex) = D)
    (hs : (0 < T ∧ K ≤ 0) ∨ (T < 0 ∧ 0 ≤ K)) (h0 : 0 ≤ D) (h1 : D ≤ C) (hR : C*C ≤ R*L) : near2 X0 Y0 X1 Y1 ex ey ≤ R := by
  obtain ⟨α, β, ha, hb, hz⟩ : ∃ α β : Int, 0 ≤ α ∧ 0 < β ∧ α*T + β*K = 0 := by
    rcases hs with ⟨a, b⟩ | ⟨a, b⟩
    · exact ⟨-K, T, by omega, a, by grind⟩
    · exact ⟨K, -T, b, by omega, by grind⟩
  have hN : 0 < α + β := by omega
  have hb' : 0 ≤ β := by omega
  have gx := gap_scaled (N := α+β) (v := ex) (lo := X0) (hi := X1) (u := α*px+β*kx) hN
    (by have := Int.mul_le_mul_of_nonneg_left p1 ha; have := Int.mul_le_mul_of_nonneg_left k1 hb'; rw [Int.add_mul]; omega)
    (by have := Int.mul_le_mul_of_nonneg_left p2 ha; have := Int.mul_le_mul_of_nonneg_left k2 hb'; rw [Int.add_mul]; omega)
  have gy := gap_scaled (N := α+β) (v := ey) (lo := Y0) (hi := Y1) (u := α*py+β*ky) hN
    (by have := Int.mul_le_mul_of_nonneg_left p3 ha; have := Int.mul_le_mul_of_nonneg_left k3 hb'; rw [Int.add_mul]; omega)
    (by have := Int.mul_le_mul_of_nonneg_left p4 ha; have := Int.mul_le_mul_of_nonneg_left k4 hb'; rw [Int.add_mul]; omega)
  have z1 : dx*(α*px+β*kx - (α+β)*ex) + dy*(α*py+β*ky - (α+β)*ey) = 0 := by rw [← hz, ← hT, ← hK]; grind
  have z2 : dx*(α*py+β*ky - (α+β)*ey) - dy*(α*px+β*kx - (α+β)*ex) = α*C+β*D := by rw [← hC, ← hD]; grind
  generalize α*px+β*kx - (α+β)*ex = U at *
  generalize α*py+β*ky - (α+β)*ey = V at *
  have hW : L*(U*U+V*V) = (α*C+β*D)*(α*C+β*D) := by
    have e : (dx*dx+dy*dy)*(U*U+V*V) = (dx*U+dy*V)*(dx*U+dy*V)+(dx*V-dy*U)*(dx*V-dy*U) := by grind
    rw [hL, e, z1, z2]; simp
  have hm : α*C+β*D ≤ (α+β)*C := by have := Int.mul_le_mul_of_nonneg_left h1 hb'; rw [Int.add_mul]; omega
  have hm0 : 0 ≤ α*C+β*D := Int.add_nonneg (Int.mul_nonneg ha (by omega)) (Int.mul_nonneg hb' h0)
  have hsq := sq_le (u := α*C+β*D) (v := (α+β)*C) hm (by omega)
  generalize hNN : α+β = N at *
  have hN2 : 0 < N*N := Int.mul_pos hN hN
  have h2 := Int.mul_le_mul_of_nonneg_left hR (Int.le_of_lt hN2)
  have h3 : U*U+V*V ≤ N*N*R := le_of_mul hL0 (by rw [hW]; rw [show L*(N*N*R) = N*N*(R*L) by grind]; rw [show N*C*(N*C) = N*N*(C*C) by grind] at hsq; omega)
  refine le_of_mul hN2 ?_
  unfold near2
  rw [Int.mul_add]
  omega
theorem wedge {dx dy u v R : Int} (hx : 0 ≤ dx) (hL : 0 < dx*dx+dy*dy) (hu : 0 ≤ u) (ht : dx*u ≤ dy*v)
    (hC : (dx*v+dy*u)*(dx*v+dy*u) ≤ R*(dx*dx+dy*dy)) : u*u ≤ R := by
  have h1 : u*(dx*dx+dy*dy) ≤ (dx*v+dy*u)*dy := by
    have := Int.mul_le_mul_of_nonneg_left ht hx
    grind
  have h0 := Int.mul_nonneg hu (Int.le_of_lt hL)
  have h2 := sq_le h1 (by omega)
  have h3 : dy*dy ≤ dx*dx+dy*dy := by have := sq_nonneg dx; omega
  generalize dx*dx+dy*dy = L at *
  generalize dx*v+dy*u = C at *
  have h4 := Int.mul_le_mul_of_nonneg_left h3 (sq_nonneg C)
  have h5 := Int.mul_le_mul_of_nonneg_right hC (Int.le_of_lt hL)
  refine le_of_mul (Int.mul_pos hL hL) ?_
  rw [show L*L*(u*u) = u*L*(u*L) by grind, show L*L*R = R*L*L by grind]
  rw [show C*dy*(C*dy) = C*C*(dy*dy) by grind] at h2
  omega
theorem pos_of {d u : Int} (hd : 0 ≤ d) (h : 0 < d*u) : 0 < d ∧ 0 < u := by
  rcases Int.lt_or_le 0 u with a | a
  · rcases Int.lt_or_le 0 d with b | b
    · exact ⟨b, a⟩
    · obtain rfl : d = 0 := by omega
      simp at h
  · have := Int.mul_nonneg hd (show 0 ≤ -u by omega)
    rw [Int.mul_neg] at this; omega
theorem Bad.no {X0 Y0 X1 Y1 ax ay cx cy r px py : Int} (h : Bad X0 Y0 X1 Y1 ax ay cx cy r px py) (hm : NoMeet X0 Y0 X1 Y1 ax ay cx cy)
    (hx : ax ≤ cx) (hy : ay ≤ cy) (hc : 0 ≤ cross ax ay cx cy px py) : False := by
  obtain ⟨m1, m2, m3⟩ := h.mid
  have hL := h.long
  have p1 := h.x0
  have p2 := h.x1
  have p3 := h.y0
  have p4 := h.y1
  have hna := h.na
  have hnc := h.nc
  have hk := h.k2
  obtain ⟨dx, rfl⟩ : ∃ d, cx = ax + d := ⟨cx - ax, by omega⟩
  obtain ⟨dy, rfl⟩ : ∃ d, cy = ay + d := ⟨cy - ay, by omega⟩
  have hx0 : 0 ≤ dx := by omega
  have hy0 : 0 ≤ dy := by omega
  have eL : dist ax ay (ax+dx) (ay+dy) = dx*dx+dy*dy := by unfold dist; grind
  have et : ∀ x y, dt ax ay (ax+dx) (ay+dy) x y = dx*(x-ax)+dy*(y-ay) := by intro x y; unfold dt; grind
  have ec : ∀ x y, cross ax ay (ax+dx) (ay+dy) x y = dx*(y-ay)-dy*(x-ax) := by intro x y; unfold cross; grind
  have hle : dx*(Y0-ay)-dy*(X1-ax) ≤ dx*(py-ay)-dy*(px-ax) := by
    have := Int.mul_le_mul_of_nonneg_left (show Y0 - ay ≤ py - ay by omega) hx0
    have := Int.mul_le_mul_of_nonneg_left (show px - ax ≤ X1 - ax by omega) hy0
    omega
  unfold HasL at hk
  rw [eL] at hL m2 m3 hk
  rw [et] at m1 m2 hk
  rw [ec] at m3 hc hk
  rcases Int.lt_or_le (dx*(Y0-ay)-dy*(X1-ax)) 0 with hneg | hpos
  · rcases hm with q | q | q | q | q | q
    · have a1 := Int.mul_nonneg hx0 (show 0 ≤ px - (ax+dx) by omega)
      have a2 : 0 < dy * (ay + dy - py) := by grind
      obtain ⟨b1, b2⟩ := pos_of hy0 a2
      have a3 := Int.mul_pos b1 (show 0 < px - (ax+dx) by omega)
      have a4 := Int.mul_nonneg hx0 (show 0 ≤ ay+dy-py by omega)
      grind
    · have a1 := Int.mul_nonneg hx0 (show 0 ≤ ax - px by omega)
      have a2 : 0 < dy * (py - ay) := by grind
      obtain ⟨b1, b2⟩ := pos_of hy0 a2
      have b3 : Y0 ≤ ay := by
        rcases Int.lt_or_le ay Y0 with g | g
        · have a3 := Int.mul_nonneg hx0 (show 0 ≤ Y0 - ay by omega)
          have a4 := Int.mul_nonneg hy0 (show 0 ≤ ax - X1 by omega)
          grind
        · exact g
      have w := wedge (dx := dx) (dy := dy) (u := ax - px) (v := py - ay) (R := r*r) hx0 hL (by omega) (by grind) (by rw [show dx*(py-ay)+dy*(ax-px) = dx*(py-ay)-dy*(px-ax) by grind]; exact m3)
      have w2 := sq_le (u := ax - X1) (v := ax - px) (by omega) (by omega)
      unfold near2 gap at hna
      rw [if_neg (by omega), if_pos (by omega), if_neg (by omega), if_neg (by omega)] at hna
      simp at hna
      omega
    · have a1 := Int.mul_nonneg hy0 (show 0 ≤ py - (ay+dy) by omega)
      have a2 : 0 < dx * (ax + dx - px) := by grind
      obtain ⟨b1, b2⟩ := pos_of hx0 a2
      have b3 : ax + dx ≤ X1 := by
        rcases Int.lt_or_le X1 (ax+dx) with g | g
        · have a3 := Int.mul_nonneg hx0 (show 0 ≤ Y0 - (ay+dy) by omega)
          have a4 := Int.mul_nonneg hy0 (show 0 ≤ ax+dx - X1 by omega)
          grind
        · exact g
      have w := wedge (dx := dy) (dy := dx) (u := py - (ay+dy)) (v := ax+dx-px) (R := r*r) hy0 (by omega) (by omega) (by grind) (by rw [show dy*(ax+dx-px)+dx*(py-(ay+dy)) = dx*(py-ay)-dy*(px-ax) by grind, show dy*dy+dx*dx = dx*dx+dy*dy by omega]; exact m3)
      have w2 := sq_le (u := Y0 - (ay+dy)) (v := py - (ay+dy)) (by omega) (by omega)
      unfold near2 gap at hnc
      rw [if_neg (by omega), if_neg (by omega), if_pos (by omega)] at hnc
      simp at hnc
      omega
    · have a1 := Int.mul_nonneg hy0 (show 0 ≤ ay - py by omega)
      have a2 : 0 < dx * (px - ax) := by grind
      obtain ⟨b1, b2⟩ := pos_of hx0 a2
      have a3 := Int.mul_pos b1 (show 0 < ay - py by omega)
      have a4 := Int.mul_nonneg hy0 (show 0 ≤ px - ax by omega)
      grind
    · have := q.2.1
      rw [ec] at this
      omega
    · have := cross_neg p1 p2 p3 p4 q
      rw [ec] at this
      omega
  · split at hk
    · rename_i ht
      have := at_end (X0 := X0) (Y0 := Y0) (X1 := X1) (Y1 := Y1) (R := r*r) rfl hL p1 p2 p3 p4 (show X0 ≤ X1 by omega) (Int.le_refl _) (Int.le_refl _) (show Y0 ≤ Y1 by omega) rfl rfl rfl rfl (.inl ⟨m1, ht⟩) hpos hle m3
      omega
    · split at hk
      · rename_i ht
        have := at_end (X0 := X0) (Y0 := Y0) (X1 := X1) (Y1 := Y1) (ex := ax+dx) (ey := ay+dy) (px := px) (py := py) (kx := X1) (ky := Y0) (R := r*r) (T := dx*(px-ax)+dy*(py-ay)-(dx*dx+dy*dy)) (K := dx*(X1-ax)+dy*(Y0-ay)-(dx*dx+dy*dy)) (C := dx*(py-ay)-dy*(px-ax)) (D := dx*(Y0-ay)-dy*(X1-ax)) rfl hL p1 p2 p3 p4 (by omega) (Int.le_refl _) (Int.le_refl _) (by omega) (by grind) (by grind) (by grind) (by grind) (.inr ⟨by omega, by omega⟩) hpos hle m3
        omega
      · have := sq_le hle (by omega)
        omega
theorem noMeet_swap {X0 Y0 X1 Y1 ax ay cx cy : Int} (h : NoMeet X0 Y0 X1 Y1 ax ay cx cy) : NoMeet X0 Y0 X1 Y1 cx cy ax ay := by
  have e : ∀ x y, cross cx cy ax ay x y = - cross ax ay cx cy x y := by intro x y; unfold cross; grind
  unfold NoMeet at *
  simp only [e]
  omega
theorem noMeet_ry {X0 Y0 X1 Y1 ax ay cx cy : Int} (h : NoMeet X0 Y0 X1 Y1 ax ay cx cy) : NoMeet X0 (-Y1) X1 (-Y0) ax (-ay) cx (-cy) := by
  have e : ∀ x y, cross ax (-ay) cx (-cy) x (-y) = - cross ax ay cx cy x y := by intro x y; unfold cross; grind
  unfold NoMeet at *
  simp only [e]
  omega
theorem noMeet_tr {X0 Y0 X1 Y1 ax ay cx cy : Int} (h : NoMeet X0 Y0 X1 Y1 ax ay cx cy) : NoMeet Y0 X0 Y1 X1 ay ax cy cx := by
  have e : ∀ x y, cross ay ax cy cx y x = - cross ax ay cx cy x y := by intro x y; unfold cross; grind
  unfold NoMeet at *
  simp only [e]
  omega
theorem Bad.no3 {X0 Y0 X1 Y1 ax ay cx cy r px py : Int} (h : Bad X0 Y0 X1 Y1 ax ay cx cy r px py) (hm : NoMeet X0 Y0 X1 Y1 ax ay cx cy)
    (hx : ax ≤ cx) (hy : ay ≤ cy) : False := by
  rcases Int.le_total 0 (cross ax ay cx cy px py) with hc | hc
  · exact h.no hm hx hy hc
  · have e : cross ay ax cy cx py px = - cross ax ay cx cy px py := by unfold cross; grind
    exact h.tr.no (noMeet_tr hm) hy hx (by rw [e]; omega)
theorem Bad.no2 {X0 Y0 X1 Y1 ax ay cx cy r px py : Int} (h : Bad X0 Y0 X1 Y1 ax ay cx cy r px py) (hm : NoMeet X0 Y0 X1 Y1 ax ay cx cy)
    (hx : ax ≤ cx) : False := by
  rcases Int.le_total ay cy with hc | hc
  · exact h.no3 hm hx hc
  · exact h.ry.no3 (noMeet_ry hm) hx (by omega)
theorem Bad.no1 {X0 Y0 X1 Y1 ax ay cx cy r px py : Int} (h : Bad X0 Y0 X1 Y1 ax ay cx cy r px py) (hm : NoMeet X0 Y0 X1 Y1 ax ay cx cy) : False := by
  rcases Int.le_total ax cx with hc | hc
  · exact h.no2 hm hc
  · exact h.swap.no2 (noMeet_swap hm) hc
theorem line_out {X0 Y0 X1 Y1 ax ay cx cy r px py : Int} (p1 : X0 ≤ px) (p2 : px ≤ X1) (p3 : Y0 ≤ py) (p4 : py ≤ Y1)
    (h1 : ¬ HasL ax ay cx cy r X0 Y0) (h2 : ¬ HasL ax ay cx cy r X1 Y0) (h3 : ¬ HasL ax ay cx cy r X0 Y1) (h4 : ¬ HasL ax ay cx cy r X1 Y1)
    (na : r*r < near2 X0 Y0 X1 Y1 ax ay) (nc : r*r < near2 X0 Y0 X1 Y1 cx cy) (hm : NoMeet X0 Y0 X1 Y1 ax ay cx cy) : ¬ HasL ax ay cx cy r px py := by
  intro hh
  rcases (show 0 < dist ax ay cx cy ∨ dist ax ay cx cy = 0 by
    have : 0 ≤ dist ax ay cx cy := Int.add_nonneg (sq_nonneg _) (sq_nonneg _)
    omega) with hL | hL
  · exact Bad.no1 ⟨p1, p2, p3, p4, hL, hh, na, nc, h1, h2, h3, h4⟩ hm
  · have n1 := near_le (cx := ax) (cy := ay) p1 p2 p3 p4
    have n2 := near_le (cx := cx) (cy := cy) p1 p2 p3 p4
    unfold HasL at hh
    split at hh
    · omega
    · rw [hL, if_pos (by omega)] at hh
      omega
structure Bx where
  x0 : Int
  y0 : Int
  x1 : Int
  y1 : Int
def Bx.Ok (b : Bx) : Prop := b.x0 ≤ b.x1 ∧ b.y0 ≤ b.y1
def Bx.In (b : Bx) (p : Pt) : Prop := b.x0 ≤ p.1 ∧ p.1 ≤ b.x1 ∧ b.y0 ≤ p.2 ∧ p.2 ≤ b.y1
inductive Sh where
  | disc (ax ay r : Int)
  | line (ax ay cx cy r : Int)
  | poly (l : List (List Pt))
instance (ax ay cx cy r px py : Int) : Decidable (HasL ax ay cx cy r px py) := by unfold HasL; infer_instance
instance (X0 Y0 X1 Y1 ax ay ex ey : Int) : Decidable (NoMeet X0 Y0 X1 Y1 ax ay ex ey) := by unfold NoMeet; infer_instance
def Touch (e : Pt × Pt) (p : Pt) : Prop :=
  cross e.1.1 e.1.2 e.2.1 e.2.2 p.1 p.2 = 0 ∧ min e.1.1 e.2.1 ≤ p.1 ∧ p.1 ≤ max e.1.1 e.2.1 ∧ min e.1.2 e.2.2 ≤ p.2 ∧ p.2 ≤ max e.1.2 e.2.2
instance (e : Pt × Pt) (p : Pt) : Decidable (Touch e p) := by unfold Touch; infer_instance
def meets (b : Bx) (e : Pt × Pt) : Bool := !decide (NoMeet b.x0 b.y0 b.x1 b.y1 e.1.1 e.1.2 e.2.1 e.2.2)
def Sh.has : Sh → Pt → Bool
  | .disc ax ay r, p => decide (dist p.1 p.2 ax ay ≤ r*r)
  | .line ax ay cx cy r, p => decide (HasL ax ay cx cy r p.1 p.2)
  | .poly l, p => (edges l).any (fun e => decide (Touch e p)) || odd p l
def discC (b : Bx) (ax ay r : Int) : Int :=
  if r*r < near2 b.x0 b.y0 b.x1 b.y1 ax ay then 0 else if most2 b.x0 b.y0 b.x1 b.y1 ax ay ≤ r*r then 2 else 1
def cornersIn (b : Bx) (ax ay cx cy r : Int) : Nat :=
  (if HasL ax ay cx cy r b.x0 b.y0 then 1 else 0) + (if HasL ax ay cx cy r b.x1 b.y0 then 1 else 0) + (if HasL ax ay cx cy r b.x0 b.y1 then 1 else 0) + (if HasL ax ay cx cy r b.x1 b.y1 then 1 else 0)
def lineC (b : Bx) (ax ay cx cy r : Int) : Int :=
  if cornersIn b ax ay cx cy r = 4 then 2
  else if 0 < cornersIn b ax ay cx cy r ∨ near2 b.x0 b.y0 b.x1 b.y1 ax ay ≤ r*r ∨ near2 b.x0 b.y0 b.x1 b.y1 cx cy ≤ r*r ∨ meets b ((ax, ay), (cx, cy)) = true then 1 else 0
def polyC (b : Bx) (l : List (List Pt)) : Int :=
  if (edges l).any (meets b) then 1 else if odd (b.x0, b.y0) l then 2 else 0
def Sh.cls (s : Sh) (b : Bx) : Int := match s with
  | .disc ax ay r => discC b ax ay r
  | .line ax ay cx cy r => lineC b ax ay cx cy r
  | .poly l => polyC b l
theorem Sh.cls_range (s : Sh) (b : Bx) : s.cls b = 0 ∨ s.cls b = 1 ∨ s.cls b = 2 := by
  cases s with
  | disc ax ay r =>
    simp only [Sh.cls, discC]
    by_cases h1 : r*r < near2 b.x0 b.y0 b.x1 b.y1 ax ay
    · simp [h1]
    · by_cases h2 : most2 b.x0 b.y0 b.x1 b.y1 ax ay ≤ r*r <;> simp [h1, h2]
  | line => simp only [Sh.cls, lineC]; repeat' split <;> simp
  | poly => simp only [Sh.cls, polyC]; repeat' split <;> simp
theorem not_meets {b : Bx} {e : Pt × Pt} (h : ¬ meets b e = true) : NoMeet b.x0 b.y0 b.x1 b.y1 e.1.1 e.1.2 e.2.1 e.2.2 := by
  unfold meets at h; simpa using h
theorem noneMeets {b : Bx} {l : List (List Pt)} (h : ¬ (edges l).any (meets b) = true) : ∀ e ∈ edges l, NoMeet b.x0 b.y0 b.x1 b.y1 e.1.1 e.1.2 e.2.1 e.2.2 := fun e he =>
  not_meets fun hm => h (List.any_eq_true.2 ⟨e, he, hm⟩)
theorem Sh.cls_in {s : Sh} {b : Bx} {p : Pt} (h : s.cls b = 2) (hp : b.In p) : s.has p = true := by
  obtain ⟨p1, p2, p3, p4⟩ := hp
  cases s with
  | disc ax ay r =>
    simp only [Sh.cls, discC] at h
    split at h
    · cases h
    · split at h
      · have := most_ge (cx := ax) (cy := ay) p1 p2 p3 p4
        simp only [Sh.has, decide_eq_true_eq]; omega
      · cases h
  | line ax ay cx cy r =>
    simp only [Sh.cls, lineC] at h
    split at h
    · rename_i hn
      unfold cornersIn at hn
      have q1 : HasL ax ay cx cy r b.x0 b.y0 := by apply Decidable.byContradiction; intro hh; rw [if_neg hh] at hn; split at hn <;> split at hn <;> split at hn <;> omega
      have q2 : HasL ax ay cx cy r b.x1 b.y0 := by apply Decidable.byContradiction; intro hh; rw [if_pos q1, if_neg hh] at hn; split at hn <;> split at hn <;> omega
      have q3 : HasL ax ay cx cy r b.x0 b.y1 := by apply Decidable.byContradiction; intro hh; rw [if_pos q1, if_pos q2, if_neg hh] at hn; split at hn <;> omega
      have q4 : HasL ax ay cx cy r b.x1 b.y1 := by apply Decidable.byContradiction; intro hh; rw [if_pos q1, if_pos q2, if_pos q3, if_neg hh] at hn; omega
      simp only [Sh.has, decide_eq_true_eq]
      exact line_in p1 p2 p3 p4 q1 q2 q3 q4
    · split at h <;> cases h
  | poly l =>
    simp only [Sh.cls, polyC] at h
    split at h
    · cases h
    · rename_i hm
      split at h
      · rename_i ho
        simp only [Sh.has]
        rw [← odd_same (noneMeets hm) (p := (b.x0, b.y0)) (q := p) (Int.le_refl _) (by simp; omega) (Int.le_refl _) (by simp; omega) p1 p2 p3 p4 p3, ho]
        simp
      · cases h
theorem Sh.cls_out {s : Sh} {b : Bx} {p : Pt} (h : s.cls b = 0) (hp : b.In p) : s.has p = false := by
  obtain ⟨p1, p2, p3, p4⟩ := hp
  cases s with
  | disc ax ay r =>
    simp only [Sh.cls, discC] at h
    split at h
    · have := near_le (cx := ax) (cy := ay) p1 p2 p3 p4
      simp only [Sh.has, decide_eq_false_iff_not]; omega
    · split at h <;> cases h
  | line ax ay cx cy r =>
    simp only [Sh.cls, lineC] at h
    split at h
    · cases h
    · split at h
      · cases h
      · rename_i hn hh
        have hz : cornersIn b ax ay cx cy r = 0 := by omega
        have hm : ¬ meets b ((ax, ay), (cx, cy)) = true := fun e => hh (.inr (.inr (.inr e)))
        unfold cornersIn at hz
        have q1 : ¬ HasL ax ay cx cy r b.x0 b.y0 := fun hh => by rw [if_pos hh] at hz; omega
        have q2 : ¬ HasL ax ay cx cy r b.x1 b.y0 := fun hh => by rw [if_pos hh] at hz; omega
        have q3 : ¬ HasL ax ay cx cy r b.x0 b.y1 := fun hh => by rw [if_pos hh] at hz; omega
        have q4 : ¬ HasL ax ay cx cy r b.x1 b.y1 := fun hh => by rw [if_pos hh] at hz; omega
        simp only [Sh.has, decide_eq_false_iff_not]
        exact line_out p1 p2 p3 p4 q1 q2 q3 q4 (by omega) (by omega) (not_meets hm)
  | poly l =>
    simp only [Sh.cls, polyC] at h
    split at h
    · cases h
    · rename_i hm
      split at h
      · cases h
      · rename_i ho
        simp only [Sh.has, Bool.or_eq_false_iff]
        refine ⟨?_, ?_⟩
        · rw [← Bool.not_eq_true, List.any_eq_true]
          rintro ⟨e, he, ht⟩
          simp only [decide_eq_true_eq] at ht
          exact no_touch (noneMeets hm e he) p1 p2 p3 p4 ht
        · rw [← odd_same (noneMeets hm) (p := (b.x0, b.y0)) (q := p) (Int.le_refl _) (by simp; omega) (Int.le_refl _) (by simp; omega) p1 p2 p3 p4 p3]
          simpa using ho
theorem sq_lt {u v : Int} (h0 : 0 ≤ u) (h : u < v) : u * u < v * v := by
  have := Int.mul_pos (show 0 < v - u by omega) (show 0 < v + u by omega)
  rw [show (v - u) * (v + u) = v * v - u * u by grind] at this
  omega
theorem hasL_x {ax ay cx cy r px py : Int} (hr : 0 ≤ r) (h : HasL ax ay cx cy r px py) : min ax cx - r ≤ px ∧ px ≤ max ax cx + r := by
  have key : ∀ u v : Int, u*u + v*v ≤ r*r → -r ≤ u ∧ u ≤ r := by
    intro u v h
    have := sq_nonneg v
    constructor
    · rcases Int.lt_or_le u (-r) with g | g
      · have := sq_lt (u := r) (v := -u) hr (by omega)
        rw [Int.neg_mul_neg] at this; omega
      · exact g
    · rcases Int.lt_or_le r u with g | g
      · have := sq_lt hr g
        omega
      · exact g
  unfold HasL at h
  split at h
  · have := key _ _ h; omega
  · split at h
    · have := key _ _ h; omega
    · rename_i h1 h2
      have e : dist ax ay cx cy * (px - ax) = dt ax ay cx cy px py * (cx-ax) - cross ax ay cx cy px py * (cy-ay) := by unfold dist dt cross; grind
      have eL : dist ax ay cx cy = (cx-ax)*(cx-ax) + (cy-ay)*(cy-ay) := by unfold dist; grind
      have hy := sq_nonneg (cy-ay)
      have hxx := sq_nonneg (cx-ax)
      generalize dt ax ay cx cy px py = t at *
      generalize cross ax ay cx cy px py = k at *
      generalize dist ax ay cx cy = L at *
      have hL : 0 < L := by omega
      have hk : k*(cy-ay)*(k*(cy-ay)) ≤ (r*L)*(r*L) := by
        have a1 := Int.mul_le_mul_of_nonneg_left (show (cy-ay)*(cy-ay) ≤ L by omega) (sq_nonneg k)
        have a2 := Int.mul_le_mul_of_nonneg_right h (Int.le_of_lt hL)
        rw [show k*(cy-ay)*(k*(cy-ay)) = k*k*((cy-ay)*(cy-ay)) by grind, show r*L*(r*L) = r*r*L*L by grind]
        omega
      have hrL : 0 ≤ r*L := Int.mul_nonneg hr (Int.le_of_lt hL)
      have hk2 : -(r*L) ≤ k*(cy-ay) ∧ k*(cy-ay) ≤ r*L := by
        generalize k*(cy-ay) = z at *
        generalize r*L = R at *
        constructor
        · rcases Int.lt_or_le z (-R) with g | g
          · have := sq_lt (u := R) (v := -z) hrL (by omega)
            rw [Int.neg_mul_neg] at this; omega
          · exact g
        · rcases Int.lt_or_le R z with g | g
          · have := sq_lt hrL g
            omega
          · exact g
      have hx : L * min 0 (cx-ax) ≤ t*(cx-ax) ∧ t*(cx-ax) ≤ L * max 0 (cx-ax) := by
        rcases Int.le_total 0 (cx-ax) with g | g
        · rw [Int.min_eq_left g, Int.max_eq_right g]
          have b1 := Int.mul_nonneg (show 0 ≤ t by omega) g
          have b2 := Int.mul_le_mul_of_nonneg_right (show t ≤ L by omega) g
          omega
        · rw [Int.min_eq_right g, Int.max_eq_left g]
          have b1 := Int.mul_nonneg (show 0 ≤ t by omega) (show 0 ≤ -(cx-ax) by omega)
          rw [Int.mul_neg] at b1
          have b2 := Int.mul_le_mul_of_nonpos_right (show t ≤ L by omega) g
          omega
      have c1 : L * (min 0 (cx-ax) - r) ≤ L * (px - ax) := by rw [Int.mul_sub, Int.mul_comm L r]; omega
      have c2 : L * (px - ax) ≤ L * (max 0 (cx-ax) + r) := by rw [Int.mul_add, Int.mul_comm L r]; omega
      have d1 := le_of_mul hL c1
      have d2 := le_of_mul hL c2
      omega
theorem hasL_y {ax ay cx cy r px py : Int} (hr : 0 ≤ r) (h : HasL ax ay cx cy r px py) : min ay cy - r ≤ py ∧ py ≤ max ay cy + r :=
  hasL_x hr ((hasL_tr ax ay cx cy r px py).2 h)
theorem gap_gt {v lo hi r : Int} (hr : 0 ≤ r) (h : v + r < lo ∨ hi < v - r) (hlh : lo ≤ hi) : r*r < gap v lo hi * gap v lo hi := by
  have : r < gap v lo hi := by unfold gap; split <;> (try split) <;> omega
  exact sq_lt hr this
def around (F px py qx qy r : Int) : Bx := ⟨max (min px qx - r) (-F), max (min py qy - r) (-F), min (max px qx + r) F, min (max py qy + r) F⟩
def apart (a b : Bx) : Bool := decide (a.x1 < b.x0) || decide (b.x1 < a.x0) || decide (a.y1 < b.y0) || decide (b.y1 < a.y0)
def Inside (l : List (List Pt)) (a : Bx) : Prop := ∀ c ∈ l, ∀ v ∈ c, a.In v
theorem zip_mem {a b : Pt} : ∀ {l m : List Pt}, (a, b) ∈ l.zip m → a ∈ l ∧ b ∈ m := fun h => ⟨(List.of_mem_zip h).1, (List.of_mem_zip h).2⟩
theorem ring_mem {c : List Pt} {e : Pt × Pt} (h : e ∈ ring c) : e.1 ∈ c ∧ e.2 ∈ c := by
  cases c with
  | nil => simp [ring] at h
  | cons v vs =>
    obtain ⟨a, b⟩ := e
    have := zip_mem h
    refine ⟨this.1, ?_⟩
    have := this.2
    simp at this ⊢
    exact this.symm
theorem edges_mem {l : List (List Pt)} {e : Pt × Pt} (h : e ∈ edges l) : ∃ c ∈ l, e.1 ∈ c ∧ e.2 ∈ c := by
  unfold edges at h
  simp only [List.mem_flatten, List.mem_map] at h
  obtain ⟨r, ⟨c, hc, rfl⟩, he⟩ := h
  exact ⟨c, hc, ring_mem he⟩
def Sh.Bnd (F : Int) (s : Sh) (a : Bx) : Prop := match s with
  | .disc ax ay r => 1 ≤ r ∧ a = around F ax ay ax ay r
  | .line ax ay cx cy r => 1 ≤ r ∧ a = around F ax ay cx cy r
  | .poly l => Inside l a
theorem apart_or {a b : Bx} (h : apart a b = true) : a.x1 < b.x0 ∨ b.x1 < a.x0 ∨ a.y1 < b.y0 ∨ b.y1 < a.y0 := by
  unfold apart at h; simp at h; omega
theorem Sh.cls_apart {F : Int} {s : Sh} {a b : Bx} (ha : s.Bnd F a) (hb : b.Ok) (hx0 : -F ≤ b.x0) (hy0 : -F ≤ b.y0) (hx1 : b.x1 ≤ F) (hy1 : b.y1 ≤ F) (h : apart a b = true) : s.cls b = 0 := by
  have h := apart_or h
  obtain ⟨o1, o2⟩ := hb
  cases s with
  | disc ax ay r =>
    obtain ⟨hr, rfl⟩ := ha
    simp only [around] at h
    simp only [Sh.cls, discC]
    rw [if_pos]
    unfold near2
    have n1 := sq_nonneg (gap ax b.x0 b.x1)
    have n2 := sq_nonneg (gap ay b.y0 b.y1)
    rcases (show (ax + r < b.x0 ∨ b.x1 < ax - r) ∨ (ay + r < b.y0 ∨ b.y1 < ay - r) by omega) with g | g
    · have := gap_gt (by omega) g o1; omega
    · have := gap_gt (by omega) g o2; omega
  | line ax ay cx cy r =>
    obtain ⟨hr, rfl⟩ := ha
    simp only [around] at h
    have g : (max ax cx + r < b.x0 ∨ b.x1 < min ax cx - r) ∨ (max ay cy + r < b.y0 ∨ b.y1 < min ay cy - r) := by omega
    have nh : ∀ px py, b.In (px, py) → ¬ HasL ax ay cx cy r px py := by
      rintro px py ⟨p1, p2, p3, p4⟩ hh
      have := hasL_x (by omega) hh
      have := hasL_y (by omega) hh
      simp at p1 p2 p3 p4
      omega
    have hz : cornersIn b ax ay cx cy r = 0 := by
      unfold cornersIn
      rw [if_neg (nh _ _ ⟨by simp, by simpa using o1, by simp, by simpa using o2⟩), if_neg (nh _ _ ⟨by simpa using o1, by simp, by simp, by simpa using o2⟩), if_neg (nh _ _ ⟨by simp, by simpa using o1, by simpa using o2, by simp⟩), if_neg (nh _ _ ⟨by simpa using o1, by simp, by simpa using o2, by simp⟩)]
    have nm : ¬ meets b ((ax, ay), (cx, cy)) = true := by
      unfold meets
      have : NoMeet b.x0 b.y0 b.x1 b.y1 ax ay cx cy := by unfold NoMeet; omega
      simp [this]
    have na : r*r < near2 b.x0 b.y0 b.x1 b.y1 ax ay := by
      unfold near2
      have n1 := sq_nonneg (gap ax b.x0 b.x1)
      have n2 := sq_nonneg (gap ay b.y0 b.y1)
      rcases g with g | g
      · have := gap_gt (v := ax) (r := r) (lo := b.x0) (hi := b.x1) (by omega) (by omega) o1; omega
      · have := gap_gt (v := ay) (r := r) (lo := b.y0) (hi := b.y1) (by omega) (by omega) o2; omega
    have nc : r*r < near2 b.x0 b.y0 b.x1 b.y1 cx cy := by
      unfold near2
      have n1 := sq_nonneg (gap cx b.x0 b.x1)
      have n2 := sq_nonneg (gap cy b.y0 b.y1)
      rcases g with g | g
      · have := gap_gt (v := cx) (r := r) (lo := b.x0) (hi := b.x1) (by omega) (by omega) o1; omega
      · have := gap_gt (v := cy) (r := r) (lo := b.y0) (hi := b.y1) (by omega) (by omega) o2; omega
    simp only [Sh.cls, lineC]
    rw [hz, if_neg (by omega), if_neg]
    rintro (q | q | q | q)
    · omega
    · omega
    · omega
    · exact nm q
  | poly l =>
    have hin : ∀ e ∈ edges l, (a.x0 ≤ e.1.1 ∧ e.1.1 ≤ a.x1 ∧ a.y0 ≤ e.1.2 ∧ e.1.2 ≤ a.y1) ∧ (a.x0 ≤ e.2.1 ∧ e.2.1 ≤ a.x1 ∧ a.y0 ≤ e.2.2 ∧ e.2.2 ≤ a.y1) := fun e he => by
      obtain ⟨c, hc, h1, h2⟩ := edges_mem he
      exact ⟨ha c hc _ h1, ha c hc _ h2⟩
    simp only [Sh.cls, polyC]
    rw [if_neg, if_neg]
    · rw [odd_apart hin h o1 o2]; simp
    · rw [List.any_eq_true]
      rintro ⟨e, he, hm⟩
      have := apart_noMeet (hin e he) h
      unfold meets at hm
      simp [this] at hm
def fold (was k : Int) (add : Bool) : Int :=
  if k = 0 then was else if k = 2 then (if add then 2 else 0) else if add = true ∧ was = 2 then 2 else if add = false ∧ was = 0 then 0 else 1
theorem fold_out (was : Int) (add : Bool) : fold was 0 add = was := by simp [fold]
abbrev Ob := Bool × Sh
def pcls (os : List Ob) (b : Bx) : Int := os.foldl (fun w o => fold w (o.2.cls b) o.1) 0
def phas (os : List Ob) (p : Pt) : Bool := os.foldl (fun w o => if o.2.has p then o.1 else w) false
theorem pcls_from {os : List Ob} {b : Bx} {p : Pt} (h : ∀ o ∈ os, o.2.cls b ≠ 1) (hp : b.In p) : ∀ (k : Int) (v : Bool), (k = 2 ∧ v = true ∨ k = 0 ∧ v = false) →
    (os.foldl (fun w o => fold w (o.2.cls b) o.1) k = 2 ∧ os.foldl (fun w o => if o.2.has p then o.1 else w) v = true ∨ os.foldl (fun w o => fold w (o.2.cls b) o.1) k = 0 ∧ os.foldl (fun w o => if o.2.has p then o.1 else w) v = false) := by
  induction os with
  | nil => intro k v hk; simpa using hk
  | cons o os ih =>
    intro k v hk
    simp only [List.foldl_cons]
    refine ih (fun o ho => h o (List.mem_cons_of_mem _ ho)) _ _ ?_
    have h1 := h o (List.mem_cons_self ..)
    rcases o.2.cls_range b with e | e | e
    · rw [e, fold_out, Sh.cls_out e hp]; simpa using hk
    · exact absurd e h1
    · rw [e, Sh.cls_in e hp]
      cases o.1 <;> simp [fold]
theorem pcls_flat {os : List Ob} {b : Bx} {p : Pt} (h : ∀ o ∈ os, o.2.cls b ≠ 1) (hp : b.In p) : (pcls os b = 2 ∧ phas os p = true) ∨ (pcls os b = 0 ∧ phas os p = false) :=
  pcls_from h hp 0 false (.inr ⟨rfl, rfl⟩)
theorem pcls_range (os : List Ob) (b : Bx) : pcls os b = 0 ∨ pcls os b = 1 ∨ pcls os b = 2 := by
  have : ∀ (os : List Ob) (k : Int), (k = 0 ∨ k = 1 ∨ k = 2) → (os.foldl (fun w o => fold w (o.2.cls b) o.1) k = 0 ∨ os.foldl (fun w o => fold w (o.2.cls b) o.1) k = 1 ∨ os.foldl (fun w o => fold w (o.2.cls b) o.1) k = 2) := by
    intro os
    induction os with
    | nil => intro k hk; exact hk
    | cons o os ih =>
      intro k hk
      simp only [List.foldl_cons]
      refine ih _ ?_
      unfold fold
      repeat' split <;> simp_all
  exact this os 0 (.inl rfl)
def quarters (b : Bx) : List Bx :=
  [⟨b.x0, b.y0, b.x0 + (b.x1 - b.x0) / 2, b.y0 + (b.y1 - b.y0) / 2⟩, ⟨b.x0 + (b.x1 - b.x0) / 2, b.y0, b.x1, b.y0 + (b.y1 - b.y0) / 2⟩,
   ⟨b.x0, b.y0 + (b.y1 - b.y0) / 2, b.x0 + (b.x1 - b.x0) / 2, b.y1⟩, ⟨b.x0 + (b.x1 - b.x0) / 2, b.y0 + (b.y1 - b.y0) / 2, b.x1, b.y1⟩]
abbrev Ent := Ob × Bx
def nearTo (l : List Ent) (b : Bx) : List Ent := l.filter fun e => !apart e.2 b
def pc (l : List Ent) (b : Bx) : Int := pcls (l.map (·.1)) b
abbrev Res := Option (Int × Int) × Int
def sums (f : Bx → Int → Res) : List Bx → Int × Int → Int → Res
  | [], s, a => (some s, a)
  | q :: qs, s, a => match f q a with
    | (none, a') => (none, a')
    | (some c, a') => sums f qs (s.1 + c.1, s.2 + c.2) a'
def exam (most : Int) : Nat → List Ent → Bx → Int → Res
  | 0, l, b, a => if most < a + 1 then (none, a + 1) else if pc l b = 0 then (some (0, 0), a + 1) else if pc l b = 2 then (some (1, 1), a + 1) else (some (0, 1), a + 1)
  | d + 1, l, b, a => if most < a + 1 then (none, a + 1) else if pc l b = 0 then (some (0, 0), a + 1) else if pc l b = 2 then (some (4 ^ (d + 1), 4 ^ (d + 1)), a + 1)
    else sums (fun q a => exam most d (nearTo l q) q a) (quarters b) (0, 0) (a + 1)
def stepsOf : Nat → Int
  | 0 => 1
  | d + 1 => 1 + 4 * stepsOf d
theorem stepsOf_pos (d : Nat) : 1 ≤ stepsOf d := by
  induction d with
  | zero => simp [stepsOf]
  | succ d ih => simp only [stepsOf]; omega
theorem sums_ok {most k : Int} {f : Bx → Int → Res} (hf : ∀ q a, a + k ≤ most → ∃ c a', f q a = (some c, a') ∧ a ≤ a' ∧ a' ≤ a + k) (hk : 0 ≤ k) :
    ∀ (qs : List Bx) (s : Int × Int) (a : Int), a + k * qs.length ≤ most → ∃ c a', sums f qs s a = (some c, a') ∧ a ≤ a' ∧ a' ≤ a + k * qs.length := by
  intro qs
  induction qs with
  | nil => intro s a _; exact ⟨s, a, rfl, by omega, by simp⟩
  | cons q qs ih =>
    intro s a ha
    rw [List.length_cons, show ((qs.length + 1 : Nat) : Int) = (qs.length : Int) + 1 by omega, Int.mul_add, Int.mul_one] at ha ⊢
    have h0 : 0 ≤ k * (qs.length : Int) := Int.mul_nonneg hk (by omega)
    obtain ⟨c, a', e, h1, h2⟩ := hf q a (by omega)
    obtain ⟨c2, a2, e2, h3, h4⟩ := ih (s.1 + c.1, s.2 + c.2) a' (by omega)
    exact ⟨c2, a2, by rw [sums, e]; exact e2, by omega, by omega⟩
theorem exam_ok (most : Int) : ∀ (d : Nat) (l : List Ent) (b : Bx) (a : Int), a + stepsOf d ≤ most → ∃ c a', exam most d l b a = (some c, a') ∧ a ≤ a' ∧ a' ≤ a + stepsOf d := by
  intro d
  induction d with
  | zero =>
    intro l b a h
    simp only [stepsOf] at h ⊢
    unfold exam
    rw [if_neg (by omega)]
    split
    · exact ⟨_, _, rfl, by omega, by omega⟩
    · split
      · exact ⟨_, _, rfl, by omega, by omega⟩
      · exact ⟨_, _, rfl, by omega, by omega⟩
  | succ d ih =>
    intro l b a h
    have hp := stepsOf_pos d
    simp only [stepsOf] at h ⊢
    unfold exam
    rw [if_neg (by omega)]
    split
    · exact ⟨_, _, rfl, by omega, by omega⟩
    · split
      · exact ⟨_, _, rfl, by omega, by omega⟩
      · obtain ⟨c, a', e, h1, h2⟩ := sums_ok (most := most) (f := fun q a => exam most d (nearTo l q) q a) (fun q a h => ih _ q a h) (by omega) (quarters b) (0, 0) (a + 1) (by simp [quarters]; omega)
        simp [quarters] at h2
        exact ⟨c, a', e, by omega, by omega⟩
theorem exam_flat {most : Int} {d : Nat} {l : List Ent} {b : Bx} {a : Int} {p : Pt} (ha : a + 1 ≤ most) (h : ∀ e ∈ l, e.1.2.cls b ≠ 1) (hp : b.In p) :
    exam most d l b a = (some (if phas (l.map (·.1)) p then (4 ^ d, 4 ^ d) else (0, 0)), a + 1) := by
  have hf : ∀ o ∈ l.map (·.1), o.2.cls b ≠ 1 := by
    intro o ho
    obtain ⟨e, he, rfl⟩ := List.mem_map.1 ho
    exact h e he
  cases d with
  | zero =>
    unfold exam
    rw [if_neg (by omega)]
    rcases pcls_flat hf hp with ⟨h1, h2⟩ | ⟨h1, h2⟩
    · rw [h2, if_neg (by rw [pc, h1]; decide), if_pos (by rw [pc, h1])]; rfl
    · rw [h2, if_pos (by rw [pc, h1])]; rfl
  | succ d =>
    unfold exam
    rw [if_neg (by omega)]
    rcases pcls_flat hf hp with ⟨h1, h2⟩ | ⟨h1, h2⟩
    · rw [h2, if_neg (by rw [pc, h1]; decide), if_pos (by rw [pc, h1])]; rfl
    · rw [h2, if_pos (by rw [pc, h1])]; rfl
def Fits (F : Int) (l : List Ent) : Prop := ∀ e ∈ l, e.1.2.Bnd F e.2
theorem near_phas {F : Int} {l : List Ent} {b c : Bx} {p : Pt} (hl : Fits F l) (hb : c.Ok) (h : -F ≤ c.x0 ∧ -F ≤ c.y0 ∧ c.x1 ≤ F ∧ c.y1 ≤ F) (hp : c.In p) :
    phas ((nearTo l c).map (·.1)) p = phas (l.map (·.1)) p := by
  have key : ∀ (l : List Ent) (v : Bool), Fits F l → ((nearTo l c).map (·.1)).foldl (fun w o => if o.2.has p then o.1 else w) v = (l.map (·.1)).foldl (fun w o => if o.2.has p then o.1 else w) v := by
    intro l
    induction l with
    | nil => intro v _; rfl
    | cons e l ih =>
      intro v hl
      have hl' : Fits F l := fun e he => hl e (List.mem_cons_of_mem _ he)
      unfold nearTo at *
      by_cases ha : apart e.2 c = true
      · rw [List.filter_cons_of_neg (by simpa using ha)]
        have h0 := Sh.cls_apart (hl e (List.mem_cons_self ..)) hb h.1 h.2.1 h.2.2.1 h.2.2.2 ha
        have h1 := Sh.cls_out h0 hp
        rw [List.map_cons, List.foldl_cons, if_neg (by rw [h1]; decide)]
        exact ih _ hl'
      · rw [List.filter_cons_of_pos (by simpa using ha), List.map_cons, List.map_cons, List.foldl_cons, List.foldl_cons]
        exact ih _ hl'
  exact key l false hl
theorem near_mem {l : List Ent} {b : Bx} {e : Ent} (h : e ∈ nearTo l b) : e ∈ l := (List.mem_filter.1 h).1
theorem Fits.near {F : Int} {l : List Ent} {b : Bx} (h : Fits F l) : Fits F (nearTo l b) := fun e he => h e (near_mem he)
end Geo
end Go.Proofs.YtfajckkbinbpiaaGreatDoor
