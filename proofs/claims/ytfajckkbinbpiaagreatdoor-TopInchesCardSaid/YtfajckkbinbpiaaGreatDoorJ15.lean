/- The numbers of a command; none: the slice is nil. Contracts: the words of the statement, each by its kind. Plain geometry: discs, strokes and contours, how boxes lie to them, piles of them, and how their cells are counted. -/
import Derived.Test.YtfajckkbinbpiaaGreatDoorJ05
import Derived.Test.YtfajckkbinbpiaaGreatDoorJ07
import Derived.Test.YtfajckkbinbpiaaGreatDoorJ08
import Derived.Test.YtfajckkbinbpiaaGreatDoorJ14
namespace Go.Proofs.YtfajckkbinbpiaaGreatDoor
set_option maxRecDepth 100000
set_option maxHeartbeats 32000000
set_option linter.unusedVariables false
set_option linter.unusedSimpArgs false
open Go.RowKit
def Numz (w : World) (B : Nat) (v : Value) (l : List Int) : Prop := Nums w B v l ∧ (l = [] → v = .slice none 0 0)
theorem numz_form {w : World} {B : Nat} {v : Value} {l : List Int} (h : Numz w B v l) : ∃ p n c, v = .slice p n c := nums_form h.1
theorem numz_mono {w : World} {B B' : Nat} {v : Value} {l : List Int} (h : Numz w B v l) (hb : B' ≤ B) : Numz w B' v l := ⟨nums_mono h.1 hb, h.2⟩
theorem numz_alloc {w : World} {B : Nat} {v : Value} {l : List Int} (h : Numz w B v l) (o : Obj) : Numz (w.alloc o) B v l := ⟨nums_alloc h.1 o, h.2⟩
theorem numz_below {w w' : World} {B B' : Nat} {v : Value} {l : List Int} (h : Numz w B v l) (hb : Below B' w w') (hB : w.heap.size ≤ B') : Numz w' B v l := ⟨nums_below h.1 hb hB, h.2⟩
theorem numz_nil (w : World) (B : Nat) : Numz w B (.slice none 0 0) [] := ⟨World.ownsRow_nil _ _ _ _, fun _ => rfl⟩
theorem extended_c (g : Gr) (he : g.ext = true) (ho : g.Ok) (w : World) : Calls Tryz.prog 94 #[.string (bs g.word)] w fun e w' => ∃ nv, e = .returned (.tuple #[.agg (g.cells 0 nv).toArray, .int .i64 0]) ∧ Numz w' w.heap.size nv g.nums ∧ Below w.heap.size w w' := by
  cases g
  case fs => exact (extended_FSLAX24Y24 w).mono fun e w' ⟨h, hb⟩ => ⟨_, h, numz_nil _ _, hb⟩
  case mo => exact (extended_MOMM w).mono fun e w' ⟨h, hb⟩ => ⟨_, h, numz_nil _ _, hb⟩
  case fs6 => exact (extended_FSLAX26Y26 w).mono fun e w' ⟨h, hb⟩ => ⟨_, h, numz_nil _ _, hb⟩
  case inch => exact (extended_MOIN w).mono fun e w' ⟨h, hb⟩ => ⟨_, h, numz_nil _ _, hb⟩
  case adi => exact (extended_ADD10C_0_05 w).mono fun e w' ⟨v, h, hn, hb⟩ => ⟨v, h, ⟨hn, fun h => by cases h⟩, hb⟩
  case adm => exact (extended_ADD10C_1_27 w).mono fun e w' ⟨v, h, hn, hb⟩ => ⟨v, h, ⟨hn, fun h => by cases h⟩, hb⟩
  case adr => exact (extended_ADD10R_4X4 w).mono fun e w' ⟨v, h, hn, hb⟩ => ⟨v, h, ⟨hn, fun h => by cases h⟩, hb⟩
  all_goals cases he
theorem plain_c (g : Gr) (he : g.ext = false) (ho : g.Ok) (w : World) : Calls Tryz.prog 62 #[.string (bs g.word)] w fun e w' => ∃ v nv, e = .returned (.tuple #[v, .int .i64 0]) ∧ Numz w' w.heap.size nv g.nums ∧ Cmds w' w.heap.size v [g.cells 0 nv] ∧ Below w.heap.size w w' := by
  cases g
  case m02 => exact (plain_M02 w).mono fun e w' ⟨v, h, hn, hb⟩ => ⟨v, _, h, numz_nil _ _, hn, hb⟩
  case d10 => exact (plain_D10 w).mono fun e w' ⟨v, h, hn, hb⟩ => ⟨v, _, h, numz_nil _ _, hn, hb⟩
  case op1 a b => exact (plain_op1 a b w ho.1.1 ho.2.1 ho.1.2.1 (by have := ho.1.2.2.1; omega) ho.2.2.1 (by have := ho.2.2.2.1; omega)).mono fun e w' ⟨v, h, hn, hb⟩ => ⟨v, _, h, numz_nil _ _, hn, hb⟩
  case op2 a b => exact (plain_op2 a b w ho.1.1 ho.2.1 ho.1.2.1 (by have := ho.1.2.2.1; omega) ho.2.2.1 (by have := ho.2.2.2.1; omega)).mono fun e w' ⟨v, h, hn, hb⟩ => ⟨v, _, h, numz_nil _ _, hn, hb⟩
  case op3 a b => exact (plain_op3 a b w ho.1.1 ho.2.1 ho.1.2.1 (by have := ho.1.2.2.1; omega) ho.2.2.1 (by have := ho.2.2.2.1; omega)).mono fun e w' ⟨v, h, hn, hb⟩ => ⟨v, _, h, numz_nil _ _, hn, hb⟩
  all_goals cases he
end Go.Proofs.YtfajckkbinbpiaaGreatDoor
namespace Go.Proofs.YtfajckkbinbpiaaGreatDoor
set_option maxRecDepth 100000
set_option maxHeartbeats 32000000
set_option linter.unusedVariables false
set_option linter.unusedSimpArgs false
namespace Geo
def cross (ax ay ex ey px py : Int) : Int := (ex-ax)*(py-ay) - (ey-ay)*(px-ax)
def NoMeet (X0 Y0 X1 Y1 ax ay ex ey : Int) : Prop :=
  (ax < X0 ∧ ex < X0) ∨ (X1 < ax ∧ X1 < ex) ∨ (ay < Y0 ∧ ey < Y0) ∨ (Y1 < ay ∧ Y1 < ey) ∨
  (0 < cross ax ay ex ey X0 Y0 ∧ 0 < cross ax ay ex ey X1 Y0 ∧ 0 < cross ax ay ex ey X0 Y1 ∧ 0 < cross ax ay ex ey X1 Y1) ∨
  (cross ax ay ex ey X0 Y0 < 0 ∧ cross ax ay ex ey X1 Y0 < 0 ∧ cross ax ay ex ey X0 Y1 < 0 ∧ cross ax ay ex ey X1 Y1 < 0)
theorem seg_pos (m c u v t : Int) (hu : u ≤ t) (hv : t ≤ v) (h1 : 0 < m * u + c) (h2 : 0 < m * v + c) : 0 < m * t + c := by
  rcases Int.le_total 0 m with hm | hm
  · have := Int.mul_le_mul_of_nonneg_left hu hm; omega
  · have := Int.mul_le_mul_of_nonpos_left hm hv; omega
theorem cross_pos {X0 Y0 X1 Y1 ax ay ex ey x y : Int} (hx : X0 ≤ x) (hx1 : x ≤ X1) (hy : Y0 ≤ y) (hy1 : y ≤ Y1)
    (h : 0 < cross ax ay ex ey X0 Y0 ∧ 0 < cross ax ay ex ey X1 Y0 ∧ 0 < cross ax ay ex ey X0 Y1 ∧ 0 < cross ax ay ex ey X1 Y1) : 0 < cross ax ay ex ey x y := by
  obtain ⟨h1, h2, h3, h4⟩ := h
  unfold cross at *
  have a1 : 0 < (ey - ay) * -x + ((ex - ax) * (Y0 - ay) + (ey - ay) * ax) := seg_pos _ _ (-X1) (-X0) (-x) (by omega) (by omega) (by grind) (by grind)
  have a2 : 0 < (ey - ay) * -x + ((ex - ax) * (Y1 - ay) + (ey - ay) * ax) := seg_pos _ _ (-X1) (-X0) (-x) (by omega) (by omega) (by grind) (by grind)
  have a3 : 0 < (ex - ax) * y + ((ey - ay) * -x + (ey - ay) * ax - (ex - ax) * ay) := seg_pos _ _ Y0 Y1 y hy hy1 (by grind) (by grind)
  grind
theorem cross_neg {X0 Y0 X1 Y1 ax ay ex ey x y : Int} (hx : X0 ≤ x) (hx1 : x ≤ X1) (hy : Y0 ≤ y) (hy1 : y ≤ Y1)
    (h : cross ax ay ex ey X0 Y0 < 0 ∧ cross ax ay ex ey X1 Y0 < 0 ∧ cross ax ay ex ey X0 Y1 < 0 ∧ cross ax ay ex ey X1 Y1 < 0) : cross ax ay ex ey x y < 0 := by
  have e : ∀ x y, cross ex ey ax ay x y = - cross ax ay ex ey x y := by intro x y; unfold cross; grind
  have := @cross_pos X0 Y0 X1 Y1 ex ey ax ay x y hx hx1 hy hy1 (by rw [e, e, e, e]; omega)
  rw [e] at this; omega
def crs (px py ax ay ex ey : Int) : Bool :=
  (decide (py < ay) != decide (py < ey)) && (if ay < ey then decide (0 < cross ax ay ex ey px py) else decide (cross ax ay ex ey px py < 0))
abbrev Pt := Int × Int
def ring : List Pt → List (Pt × Pt)
  | [] => []
  | v :: vs => (v :: vs).zip (vs ++ [v])
def par (f : Pt × Pt → Bool) (l : List (Pt × Pt)) : Bool := l.foldr (fun e b => f e != b) false
theorem par_append (f : Pt × Pt → Bool) (l m : List (Pt × Pt)) : par f (l ++ m) = (par f l != par f m) := by
  induction l with
  | nil => simp [par]
  | cons e l ih =>
    simp only [par, List.foldr_cons, List.cons_append] at ih ⊢
    rw [ih]
    cases f e <;> cases (List.foldr (fun e b => f e != b) false l) <;> cases (List.foldr (fun e b => f e != b) false m) <;> rfl
def edges (l : List (List Pt)) : List (Pt × Pt) := (l.map ring).flatten
def odd (p : Pt) (l : List (List Pt)) : Bool := par (fun e => crs p.1 p.2 e.1.1 e.1.2 e.2.1 e.2.2) (edges l)
def dist (px py qx qy : Int) : Int := (px-qx)*(px-qx) + (py-qy)*(py-qy)
theorem sq_nonneg (u : Int) : 0 ≤ u * u := by
  rcases Int.le_total 0 u with h | h
  · exact Int.mul_nonneg h h
  · exact Int.mul_nonneg_of_nonpos_of_nonpos h h
theorem sq_le {u v : Int} (h : u ≤ v) (h' : -u ≤ v) : u * u ≤ v * v := by
  have h0 : 0 ≤ v := by omega
  have : v * v - u * u = (v - u) * (v + u) := by grind
  have := Int.mul_nonneg (show 0 ≤ v - u by omega) (show 0 ≤ v + u by omega)
  omega
theorem sq_le' {u v : Int} (h : (-v ≤ u ∧ u ≤ v) ∨ (v ≤ u ∧ u ≤ -v)) : u * u ≤ v * v := by
  rcases h with h | h
  · exact sq_le (by omega) (by omega)
  · have := sq_le (u := u) (v := -v) (by omega) (by omega); rw [Int.neg_mul_neg] at this; exact this
def dt (ax ay cx cy px py : Int) : Int := (cx-ax)*(px-ax) + (cy-ay)*(py-ay)
def HasL (ax ay cx cy r px py : Int) : Prop :=
  if dt ax ay cx cy px py ≤ 0 then dist px py ax ay ≤ r*r
  else if dist ax ay cx cy ≤ dt ax ay cx cy px py then dist px py cx cy ≤ r*r
  else cross ax ay cx cy px py * cross ax ay cx cy px py ≤ r*r * dist ax ay cx cy
theorem lagrange (ax ay cx cy px py : Int) : dist ax ay cx cy * dist px py ax ay = dt ax ay cx cy px py * dt ax ay cx cy px py + cross ax ay cx cy px py * cross ax ay cx cy px py := by
  unfold dist dt cross; grind
def off (ax ay cx cy n S px py : Int) : Int :=
  (n * dist ax ay cx cy * (px-ax) - S*(cx-ax)) * (n * dist ax ay cx cy * (px-ax) - S*(cx-ax)) + (n * dist ax ay cx cy * (py-ay) - S*(cy-ay)) * (n * dist ax ay cx cy * (py-ay) - S*(cy-ay))
theorem off_eq (ax ay cx cy n S px py : Int) : off ax ay cx cy n S px py = n*n*dist ax ay cx cy*dist ax ay cx cy*dist px py ax ay - 2*n*dist ax ay cx cy*S*dt ax ay cx cy px py + S*S*dist ax ay cx cy := by
  unfold off
  generalize hL : dist ax ay cx cy = L
  have hL' : L = (ax-cx)*(ax-cx) + (ay-cy)*(ay-cy) := by rw [← hL]; rfl
  unfold dt dist
  grind
theorem dist_c (ax ay cx cy px py : Int) : dist px py cx cy = dist px py ax ay - 2 * dt ax ay cx cy px py + dist ax ay cx cy := by unfold dist dt; grind
theorem le_of_mul {a b c : Int} (hc : 0 < c) (h : c * a ≤ c * b) : a ≤ b := Int.le_of_mul_le_mul_left h hc
theorem of_has {ax ay cx cy r px py : Int} (hL : 0 < dist ax ay cx cy) (h : HasL ax ay cx cy r px py) :
    ∃ S, 0 ≤ S ∧ S ≤ dist ax ay cx cy ∧ off ax ay cx cy 1 S px py ≤ r*r*(dist ax ay cx cy*dist ax ay cx cy) := by
  unfold HasL at h
  have e := fun S => off_eq ax ay cx cy 1 S px py
  have hg := lagrange ax ay cx cy px py
  have hc := dist_c ax ay cx cy px py
  generalize dist ax ay cx cy = L at *
  generalize dt ax ay cx cy px py = t at *
  generalize cross ax ay cx cy px py = k at *
  generalize dist px py ax ay = D at *
  generalize dist px py cx cy = E at *
  have hLL : 0 < L * L := Int.mul_pos hL hL
  split at h
  · refine ⟨0, by omega, by omega, ?_⟩
    rw [e]
    have := Int.mul_le_mul_of_nonneg_left h (Int.le_of_lt hLL)
    grind
  · split at h
    · refine ⟨L, by omega, by omega, ?_⟩
      rw [e, show 1*1*L*L*D - 2*1*L*L*t + L*L*L = L*L*E by rw [hc]; grind, show r*r*(L*L) = L*L*(r*r) by grind]
      exact Int.mul_le_mul_of_nonneg_left h (Int.le_of_lt hLL)
    · refine ⟨t, by omega, by omega, ?_⟩
      rw [e, show 1*1*L*L*D - 2*1*L*t*t + t*t*L = L*(k*k) by rw [show 1*1*L*L*D = L*(L*D) by grind, hg]; grind, show r*r*(L*L) = L*(r*r*L) by grind]
      exact Int.mul_le_mul_of_nonneg_left h (Int.le_of_lt hL)
theorem has_of {ax ay cx cy r px py n S : Int} (hL : 0 < dist ax ay cx cy) (hn : 0 < n) (h0 : 0 ≤ S) (h1 : S ≤ n * dist ax ay cx cy)
    (h : off ax ay cx cy n S px py ≤ r*r*(n*dist ax ay cx cy*(n*dist ax ay cx cy))) : HasL ax ay cx cy r px py := by
  unfold HasL
  rw [off_eq] at h
  have hg := lagrange ax ay cx cy px py
  have hc := dist_c ax ay cx cy px py
  generalize dist ax ay cx cy = L at *
  generalize dt ax ay cx cy px py = t at *
  generalize cross ax ay cx cy px py = k at *
  generalize dist px py ax ay = D at *
  generalize dist px py cx cy = E at *
  have hN : 0 < n * L := Int.mul_pos hn hL
  have hNN : 0 < n * L * (n * L) := Int.mul_pos hN hN
  split
  · rename_i ht
    refine le_of_mul hNN ?_
    have a1 := Int.mul_nonneg (Int.mul_nonneg (Int.le_of_lt hN) h0) (show 0 ≤ -t by omega)
    have a2 := Int.mul_nonneg (sq_nonneg S) (Int.le_of_lt hL)
    grind
  · split
    · rename_i ht ht2
      refine le_of_mul hNN ?_
      -- (nL - S) * (2 n t - nL - S) >= 0
      have b1 : n * L ≤ n * t := Int.mul_le_mul_of_nonneg_left ht2 (Int.le_of_lt hn)
      have a1 := Int.mul_nonneg (Int.mul_nonneg (show 0 ≤ n * L - S by omega) (show 0 ≤ 2 * (n * t) - n * L - S by omega)) (Int.le_of_lt hL)
      have e1 : n * L * (n * L) * E = (n*n*L*L*D - 2*n*L*S*t + S*S*L) - (n*L - S) * (2*(n*t) - n*L - S) * L := by rw [hc]; grind
      rw [e1, show n*L*(n*L)*(r*r) = r*r*(n*L*(n*L)) by grind]
      omega
    · have hnn : 0 < n * (n * L) := Int.mul_pos hn hN
      refine le_of_mul hnn ?_
      have a1 := Int.mul_nonneg (sq_nonneg (n * t - S)) (Int.le_of_lt hL)
      have e1 : n * (n * L) * (k * k) = (n*n*L*L*D - 2*n*L*S*t + S*S*L) - (n*t - S) * (n*t - S) * L := by
        rw [show n*n*L*L*D = n*n*L*(L*D) by grind, hg]; grind
      rw [e1, show n*(n*L)*(r*r*L) = r*r*(n*L*(n*L)) by grind]
      omega
theorem sqconv {n m a b : Int} (h0 : 0 ≤ m) (h1 : m ≤ n) : ((n-m)*a+m*b)*((n-m)*a+m*b) ≤ n*((n-m)*(a*a)+m*(b*b)) := by
  have e : n*((n-m)*(a*a)+m*(b*b)) = ((n-m)*a+m*b)*((n-m)*a+m*b) + (n-m)*m*((a-b)*(a-b)) := by grind
  have := Int.mul_nonneg (Int.mul_nonneg (show 0 ≤ n - m by omega) h0) (sq_nonneg (a - b))
  omega
theorem conv {ax ay cx cy r ux uy vx vy px py n m : Int} (hL : 0 < dist ax ay cx cy) (hn : 0 < n) (h0 : 0 ≤ m) (h1 : m ≤ n)
    (ex : n * px = (n-m)*ux + m*vx) (ey : n * py = (n-m)*uy + m*vy) (hu : HasL ax ay cx cy r ux uy) (hv : HasL ax ay cx cy r vx vy) : HasL ax ay cx cy r px py := by
  obtain ⟨S, s0, s1, hs⟩ := of_has hL hu
  obtain ⟨T, t0, t1, ht⟩ := of_has hL hv
  have b1 : 0 ≤ n - m := by omega
  refine has_of (n := n) (S := (n-m)*S + m*T) hL hn (Int.add_nonneg (Int.mul_nonneg b1 s0) (Int.mul_nonneg h0 t0)) ?_ ?_
  · have c1 := Int.mul_le_mul_of_nonneg_left s1 b1
    have c2 := Int.mul_le_mul_of_nonneg_left t1 h0
    rw [show n * dist ax ay cx cy = (n-m) * dist ax ay cx cy + m * dist ax ay cx cy by grind]
    omega
  · unfold off at *
    generalize dist ax ay cx cy = L at *
    have q1 : n*L*(px-ax) - ((n-m)*S+m*T)*(cx-ax) = (n-m)*(1*L*(ux-ax) - S*(cx-ax)) + m*(1*L*(vx-ax) - T*(cx-ax)) := by
      rw [show n*L*(px-ax) = L*(n*px) - n*L*ax by grind, ex]; grind
    have q2 : n*L*(py-ay) - ((n-m)*S+m*T)*(cy-ay) = (n-m)*(1*L*(uy-ay) - S*(cy-ay)) + m*(1*L*(vy-ay) - T*(cy-ay)) := by
      rw [show n*L*(py-ay) = L*(n*py) - n*L*ay by grind, ey]; grind
    rw [q1, q2]
    generalize 1*L*(ux-ax) - S*(cx-ax) = a1 at *
    generalize 1*L*(vx-ax) - T*(cx-ax) = a2 at *
    generalize 1*L*(uy-ay) - S*(cy-ay) = a3 at *
    generalize 1*L*(vy-ay) - T*(cy-ay) = a4 at *
    have f1 := sqconv (a := a1) (b := a2) h0 h1
    have f2 := sqconv (a := a3) (b := a4) h0 h1
    have g1 := Int.mul_le_mul_of_nonneg_left hs b1
    have g2 := Int.mul_le_mul_of_nonneg_left ht h0
    have g3 : n*((n-m)*(a1*a1)+m*(a2*a2)) + n*((n-m)*(a3*a3)+m*(a4*a4)) = n*((n-m)*(a1*a1+a3*a3) + m*(a2*a2+a4*a4)) := by grind
    have g4 := Int.mul_le_mul_of_nonneg_left (Int.add_le_add g1 g2) (Int.le_of_lt hn)
    have g5 : n*((n-m)*(r*r*(L*L)) + m*(r*r*(L*L))) = r*r*(n*L*(n*L)) := by grind
    omega
def gap (v lo hi : Int) : Int := if v < lo then lo - v else if hi < v then v - hi else 0
def far (v lo hi : Int) : Int := max (max (v - lo) (lo - v)) (max (v - hi) (hi - v))
def near2 (X0 Y0 X1 Y1 px py : Int) : Int := gap px X0 X1 * gap px X0 X1 + gap py Y0 Y1 * gap py Y0 Y1
def most2 (X0 Y0 X1 Y1 px py : Int) : Int := far px X0 X1 * far px X0 X1 + far py Y0 Y1 * far py Y0 Y1
theorem gap_le {v lo hi x : Int} (h : lo ≤ x) (h' : x ≤ hi) : gap v lo hi * gap v lo hi ≤ (x - v) * (x - v) := by
  refine sq_le' ?_; unfold gap; split
  · omega
  · split <;> omega
theorem near_le {X0 Y0 X1 Y1 cx cy px py : Int} (p1 : X0 ≤ px) (p2 : px ≤ X1) (p3 : Y0 ≤ py) (p4 : py ≤ Y1) : near2 X0 Y0 X1 Y1 cx cy ≤ dist px py cx cy := by
  unfold near2 dist; have := gap_le (v := cx) p1 p2; have := gap_le (v := cy) p3 p4; omega
theorem hasL_ry (ax ay cx cy r px py : Int) : HasL ax (-ay) cx (-cy) r px (-py) ↔ HasL ax ay cx cy r px py := by
  have e1 : ∀ px py qx qy, dist px (-py) qx (-qy) = dist px py qx qy := by intro px py qx qy; unfold dist; grind
  have e2 : dt ax (-ay) cx (-cy) px (-py) = dt ax ay cx cy px py := by unfold dt; grind
  have e3 : cross ax (-ay) cx (-cy) px (-py) = - cross ax ay cx cy px py := by unfold cross; grind
  unfold HasL
  rw [e1, e1, e1, e2, e3, Int.neg_mul_neg]
theorem gap_neg (v lo hi : Int) (h : lo ≤ hi) : gap (-v) (-hi) (-lo) = gap v lo hi := by unfold gap; split <;> split <;> (try split) <;> omega
structure Bad (X0 Y0 X1 Y1 ax ay cx cy r px py : Int) : Prop where
  x0 : X0 ≤ px
  x1 : px ≤ X1
  y0 : Y0 ≤ py
  y1 : py ≤ Y1
  long : 0 < dist ax ay cx cy
  has : HasL ax ay cx cy r px py
  na : r*r < near2 X0 Y0 X1 Y1 ax ay
  nc : r*r < near2 X0 Y0 X1 Y1 cx cy
  k1 : ¬ HasL ax ay cx cy r X0 Y0
  k2 : ¬ HasL ax ay cx cy r X1 Y0
  k3 : ¬ HasL ax ay cx cy r X0 Y1
  k4 : ¬ HasL ax ay cx cy r X1 Y1
theorem Bad.ry {X0 Y0 X1 Y1 ax ay cx cy r px py : Int} (h : Bad X0 Y0 X1 Y1 ax ay cx cy r px py) : Bad X0 (-Y1) X1 (-Y0) ax (-ay) cx (-cy) r px (-py) := by
  have e := fun x y => hasL_ry ax ay cx cy r x y
  have hy : Y0 ≤ Y1 := by have := h.y0; have := h.y1; omega
  refine ⟨h.x0, h.x1, by have := h.y1; omega, by have := h.y0; omega, ?_, (e _ _).2 h.has, ?_, ?_, mt (e _ _).1 h.k3, mt (e _ _).1 h.k4, mt (e _ _).1 h.k1, mt (e _ _).1 h.k2⟩
  · rw [show dist ax (-ay) cx (-cy) = dist ax ay cx cy by unfold dist; grind]; exact h.long
  · have := h.na; unfold near2 at *; rw [gap_neg _ _ _ hy]; exact this
  · have := h.nc; unfold near2 at *; rw [gap_neg _ _ _ hy]; exact this
theorem Bad.mid {X0 Y0 X1 Y1 ax ay cx cy r px py : Int} (h : Bad X0 Y0 X1 Y1 ax ay cx cy r px py) :
    0 < dt ax ay cx cy px py ∧ dt ax ay cx cy px py < dist ax ay cx cy ∧ cross ax ay cx cy px py * cross ax ay cx cy px py ≤ r*r * dist ax ay cx cy := by
  have hh := h.has
  have n1 := near_le (cx := ax) (cy := ay) h.x0 h.x1 h.y0 h.y1
  have n2 := near_le (cx := cx) (cy := cy) h.x0 h.x1 h.y0 h.y1
  have := h.na
  have := h.nc
  unfold HasL at hh
  split at hh
  · exfalso; omega
  · split at hh
    · exfalso; omega
    · exact ⟨by omega, by omega, hh⟩
theorem gap_scaled {N v lo hi u : Int} (hN : 0 < N) (h : N * lo ≤ u) (h' : u ≤ N * hi) : N * N * (gap v lo hi * gap v lo hi) ≤ (u - N * v) * (u - N * v) := by
  rw [show N * N * (gap v lo hi * gap v lo hi) = (N * gap v lo hi) * (N * gap v lo hi) by grind]
  refine sq_le' ?_
  unfold gap
  split
  · rename_i h1
    have := Int.mul_le_mul_of_nonneg_left (Int.le_of_lt h1) (Int.le_of_lt hN)
    rw [Int.mul_sub]; omega
  · split
    · rename_i h1 h2
      have := Int.mul_le_mul_of_nonneg_left (Int.le_of_lt h2) (Int.le_of_lt hN)
      rw [Int.mul_sub]; omega
    · simp; omega
theorem at_end {X0 Y0 X1 Y1 dx dy ex ey px py kx ky R L T K C D : Int} (hL : L = dx*dx+dy*dy) (hL0 : 0 < L)
    (p1 : X0 ≤ px) (p2 : px ≤ X1) (p3 : Y0 ≤ py) (p4 : py ≤ Y1) (k1 : X0 ≤ kx) (k2 : kx ≤ X1) (k3 : Y0 ≤ ky) (k4 : ky ≤ Y1)
    (hT : dx*(px-ex)+dy*(py-ey) = T) (hK : dx*(kx-ex)+dy*(ky-ey) = K) (hC : dx*(py-ey)-dy*(px-ex) = C) (hD : dx*(ky-ey)-dy*(kx-ex) = D)
    (hs : (0 < T ∧ K ≤ 0) ∨ (T < 0 ∧ 0 ≤ K)) (h0 : 0 ≤ D) (h1 : D ≤ C) (hR : C*C ≤ R*L) : near2 X0 Y0 X1 Y1 ex ey ≤ R := by
  obtain ⟨α, β, ha, hb, hz⟩ : ∃ α β : Int, 0 ≤ α ∧ 0 < β ∧ α*T + β*K = 0 := by
    rcases hs with ⟨a, b⟩ | ⟨a, b⟩
    · exact ⟨-K, T, by omega, a, by grind⟩
    · exact ⟨K, -T, b, by omega, by grind⟩
  have hN : 0 < α + β := by omega
  have hb' : 0 ≤ β := by omega
  have gx := gap_scaled (N := α+β) (v := ex) (lo := X0) (hi := X1) (u := α*px+β*kx) hN
    (by have := Int.mul_le_mul_of_nonneg_left p1 ha; have := Int.mul_le_mul_of_nonneg_left k1 hb'; rw [Int.add_mul]; omega)
    (by have := Int.mul_le_mul_of_nonneg_left p2 ha; have := Int.mul_le_mul_of_nonneg_left k2 hb'; rw [Int.add_mul]; omega)
  have gy := gap_scaled (N := α+β) (v := ey) (lo := Y0) (hi := Y1) (u := α*py+β*ky) hN
    (by have := Int.mul_le_mul_of_nonneg_left p3 ha; have := Int.mul_le_mul_of_nonneg_left k3 hb'; rw [Int.add_mul]; omega)
    (by have := Int.mul_le_mul_of_nonneg_left p4 ha; have := Int.mul_le_mul_of_nonneg_left k4 hb'; rw [Int.add_mul]; omega)
  have z1 : dx*(α*px+β*kx - (α+β)*ex) + dy*(α*py+β*ky - (α+β)*ey) = 0 := by rw [← hz, ← hT, ← hK]; grind
  have z2 : dx*(α*py+β*ky - (α+β)*ey) - dy*(α*px+β*kx - (α+β)*ex) = α*C+β*D := by rw [← hC, ← hD]; grind
  generalize α*px+β*kx - (α+β)*ex = U at *
  generalize α*py+β*ky - (α+β)*ey = V at *
  have hW : L*(U*U+V*V) = (α*C+β*D)*(α*C+β*D) := by
    have e : (dx*dx+dy*dy)*(U*U+V*V) = (dx*U+dy*V)*(dx*U+dy*V)+(dx*V-dy*U)*(dx*V-dy*U) := by grind
    rw [hL, e, z1, z2]; simp
  have hm : α*C+β*D ≤ (α+β)*C := by have := Int.mul_le_mul_of_nonneg_left h1 hb'; rw [Int.add_mul]; omega
  have hm0 : 0 ≤ α*C+β*D := Int.add_nonneg (Int.mul_nonneg ha (by omega)) (Int.mul_nonneg hb' h0)
  have hsq := sq_le (u := α*C+β*D) (v := (α+β)*C) hm (by omega)
  generalize hNN : α+β = N at *
  have hN2 : 0 < N*N := Int.mul_pos hN hN
  have h2 := Int.mul_le_mul_of_nonneg_left hR (Int.le_of_lt hN2)
  have h3 : U*U+V*V ≤ N*N*R := le_of_mul hL0 (by rw [hW]; rw [show L*(N*N*R) = N*N*(R*L) by grind]; rw [show N*C*(N*C) = N*N*(C*C) by grind] at hsq; omega)
  refine le_of_mul hN2 ?_
  unfold near2
  rw [Int.mul_add]
  omega
theorem wedge {dx dy u v R : Int} (hx : 0 ≤ dx) (hL : 0 < dx*dx+dy*dy) (hu : 0 ≤ u) (ht : dx*u ≤ dy*v)
    (hC : (dx*v+dy*u)*(dx*v+dy*u) ≤ R*(dx*dx+dy*dy)) : u*u ≤ R := by
  have h1 : u*(dx*dx+dy*dy) ≤ (dx*v+dy*u)*dy := by
    have := Int.mul_le_mul_of_nonneg_left ht hx
    grind
  have h0 := Int.mul_nonneg hu (Int.le_of_lt hL)
  have h2 := sq_le h1 (by omega)
  have h3 : dy*dy ≤ dx*dx+dy*dy := by have := sq_nonneg dx; omega
  generalize dx*dx+dy*dy = L at *
  generalize dx*v+dy*u = C at *
  have h4 := Int.mul_le_mul_of_nonneg_left h3 (sq_nonneg C)
  have h5 := Int.mul_le_mul_of_nonneg_right hC (Int.le_of_lt hL)
  refine le_of_mul (Int.mul_pos hL hL) ?_
  rw [show L*L*(u*u) = u*L*(u*L) by grind, show L*L*R = R*L*L by grind]
  rw [show C*dy*(C*dy) = C*C*(dy*dy) by grind] at h2
  omega
theorem pos_of {d u : Int} (hd : 0 ≤ d) (h : 0 < d*u) : 0 < d ∧ 0 < u := by
  rcases Int.lt_or_le 0 u with a | a
  · rcases Int.lt_or_le 0 d with b | b
    · exact ⟨b, a⟩
    · obtain rfl : d = 0 := by omega
      simp at h
  · have := Int.mul_nonneg hd (show 0 ≤ -u by omega)
    rw [Int.mul_neg] at this; omega
theorem Bad.no {X0 Y0 X1 Y1 ax ay cx cy r px py : Int} (h : Bad X0 Y0 X1 Y1 ax ay cx cy r px py) (hm : NoMeet X0 Y0 X1 Y1 ax ay cx cy)
    (hx : ax ≤ cx) (hy : ay ≤ cy) (hc : 0 ≤ cross ax ay cx cy px py) : False := by
  obtain ⟨m1, m2, m3⟩ := h.mid
  have hL := h.long
  have p1 := h.x0
  have p2 := h.x1
  have p3 := h.y0
  have p4 := h.y1
  have hna := h.na
  have hnc := h.nc
  have hk := h.k2
  obtain ⟨dx, rfl⟩ : ∃ d, cx = ax + d := ⟨cx - ax, by omega⟩
  obtain ⟨dy, rfl⟩ : ∃ d, cy = ay + d := ⟨cy - ay, by omega⟩
  have hx0 : 0 ≤ dx := by omega
  have hy0 : 0 ≤ dy := by omega
  have eL : dist ax ay (ax+dx) (ay+dy) = dx*dx+dy*dy := by unfold dist; grind
  have et : ∀ x y, dt ax ay (ax+dx) (ay+dy) x y = dx*(x-ax)+dy*(y-ay) := by intro x y; unfold dt; grind
  have ec : ∀ x y, cross ax ay (ax+dx) (ay+dy) x y = dx*(y-ay)-dy*(x-ax) := by intro x y; unfold cross; grind
  have hle : dx*(Y0-ay)-dy*(X1-ax) ≤ dx*(py-ay)-dy*(px-ax) := by
    have := Int.mul_le_mul_of_nonneg_left (show Y0 - ay ≤ py - ay by omega) hx0
    have := Int.mul_le_mul_of_nonneg_left (show px - ax ≤ X1 - ax by omega) hy0
    omega
  unfold HasL at hk
  rw [eL] at hL m2 m3 hk
  rw [et] at m1 m2 hk
  rw [ec] at m3 hc hk
  rcases Int.lt_or_le (dx*(Y0-ay)-dy*(X1-ax)) 0 with hneg | hpos
  · rcases hm with q | q | q | q | q | q
    · have a1 := Int.mul_nonneg hx0 (show 0 ≤ px - (ax+dx) by omega)
      have a2 : 0 < dy * (ay + dy - py) := by grind
      obtain ⟨b1, b2⟩ := pos_of hy0 a2
      have a3 := Int.mul_pos b1 (show 0 < px - (ax+dx) by omega)
      have a4 := Int.mul_nonneg hx0 (show 0 ≤ ay+dy-py by omega)
      grind
    · have a1 := Int.mul_nonneg hx0 (show 0 ≤ ax - px by omega)
      have a2 : 0 < dy * (py - ay) := by grind
      obtain ⟨b1, b2⟩ := pos_of hy0 a2
      have b3 : Y0 ≤ ay := by
        rcases Int.lt_or_le ay Y0 with g | g
        · have a3 := Int.mul_nonneg hx0 (show 0 ≤ Y0 - ay by omega)
          have a4 := Int.mul_nonneg hy0 (show 0 ≤ ax - X1 by omega)
          grind
        · exact g
      have w := wedge (dx := dx) (dy := dy) (u := ax - px) (v := py - ay) (R := r*r) hx0 hL (by omega) (by grind) (by rw [show dx*(py-ay)+dy*(ax-px) = dx*(py-ay)-dy*(px-ax) by grind]; exact m3)
      have w2 := sq_le (u := ax - X1) (v := ax - px) (by omega) (by omega)
      unfold near2 gap at hna
      rw [if_neg (by omega), if_pos (by omega), if_neg (by omega), if_neg (by omega)] at hna
      simp at hna
      omega
    · have a1 := Int.mul_nonneg hy0 (show 0 ≤ py - (ay+dy) by omega)
      have a2 : 0 < dx * (ax + dx - px) := by grind
      obtain ⟨b1, b2⟩ := pos_of hx0 a2
      have b3 : ax + dx ≤ X1 := by
        rcases Int.lt_or_le X1 (ax+dx) with g | g
        · have a3 := Int.mul_nonneg hx0 (show 0 ≤ Y0 - (ay+dy) by omega)
          have a4 := Int.mul_nonneg hy0 (show 0 ≤ ax+dx - X1 by omega)
          grind
        · exact g
      have w := wedge (dx := dy) (dy := dx) (u := py - (ay+dy)) (v := ax+dx-px) (R := r*r) hy0 (by omega) (by omega) (by grind) (by rw [show dy*(ax+dx-px)+dx*(py-(ay+dy)) = dx*(py-ay)-dy*(px-ax) by grind, show dy*dy+dx*dx = dx*dx+dy*dy by omega]; exact m3)
      have w2 := sq_le (u := Y0 - (ay+dy)) (v := py - (ay+dy)) (by omega) (by omega)
      unfold near2 gap at hnc
      rw [if_neg (by omega), if_neg (by omega), if_pos (by omega)] at hnc
      simp at hnc
      omega
    · have a1 := Int.mul_nonneg hy0 (show 0 ≤ ay - py by omega)
      have a2 : 0 < dx * (px - ax) := by grind
      obtain ⟨b1, b2⟩ := pos_of hx0 a2
      have a3 := Int.mul_pos b1 (show 0 < ay - py by omega)
      have a4 := Int.mul_nonneg hy0 (show 0 ≤ px - ax by omega)
      grind
    · have := q.2.1
      rw [ec] at this
      omega
    · have := cross_neg p1 p2 p3 p4 q
      rw [ec] at this
      omega
  · split at hk
    · rename_i ht
      have := at_end (X0 := X0) (Y0 := Y0) (X1 := X1) (Y1 := Y1) (R := r*r) rfl hL p1 p2 p3 p4 (show X0 ≤ X1 by omega) (Int.le_refl _) (Int.le_refl _) (show Y0 ≤ Y1 by omega) rfl rfl rfl rfl (.inl ⟨m1, ht⟩) hpos hle m3
      omega
    · split at hk
      · rename_i ht
        have := at_end (X0 := X0) (Y0 := Y0) (X1 := X1) (Y1 := Y1) (ex := ax+dx) (ey := ay+dy) (px := px) (py := py) (kx := X1) (ky := Y0) (R := r*r) (T := dx*(px-ax)+dy*(py-ay)-(dx*dx+dy*dy)) (K := dx*(X1-ax)+dy*(Y0-ay)-(dx*dx+dy*dy)) (C := dx*(py-ay)-dy*(px-ax)) (D := dx*(Y0-ay)-dy*(X1-ax)) rfl hL p1 p2 p3 p4 (by omega) (Int.le_refl _) (Int.le_refl _) (by omega) (by grind) (by grind) (by grind) (by grind) (.inr ⟨by omega, by omega⟩) hpos hle m3
        omega
      · have := sq_le hle (by omega)
        omega
structure Bx where
  x0 : Int
  y0 : Int
  x1 : Int
  y1 : Int
def Bx.Ok (b : Bx) : Prop := b.x0 ≤ b.x1 ∧ b.y0 ≤ b.y1
def Bx.In (b : Bx) (p : Pt) : Prop := b.x0 ≤ p.1 ∧ p.1 ≤ b.x1 ∧ b.y0 ≤ p.2 ∧ p.2 ≤ b.y1
inductive Sh where
  | disc (ax ay r : Int)
  | line (ax ay cx cy r : Int)
  | poly (l : List (List Pt))
instance (ax ay cx cy r px py : Int) : Decidable (HasL ax ay cx cy r px py) := by unfold HasL; infer_instance
instance (X0 Y0 X1 Y1 ax ay ex ey : Int) : Decidable (NoMeet X0 Y0 X1 Y1 ax ay ex ey) := by unfold NoMeet; infer_instance
def Touch (e : Pt × Pt) (p : Pt) : Prop :=
  cross e.1.1 e.1.2 e.2.1 e.2.2 p.1 p.2 = 0 ∧ min e.1.1 e.2.1 ≤ p.1 ∧ p.1 ≤ max e.1.1 e.2.1 ∧ min e.1.2 e.2.2 ≤ p.2 ∧ p.2 ≤ max e.1.2 e.2.2
instance (e : Pt × Pt) (p : Pt) : Decidable (Touch e p) := by unfold Touch; infer_instance
def meets (b : Bx) (e : Pt × Pt) : Bool := !decide (NoMeet b.x0 b.y0 b.x1 b.y1 e.1.1 e.1.2 e.2.1 e.2.2)
def Sh.has : Sh → Pt → Bool
  | .disc ax ay r, p => decide (dist p.1 p.2 ax ay ≤ r*r)
  | .line ax ay cx cy r, p => decide (HasL ax ay cx cy r p.1 p.2)
  | .poly l, p => (edges l).any (fun e => decide (Touch e p)) || odd p l
def discC (b : Bx) (ax ay r : Int) : Int :=
  if r*r < near2 b.x0 b.y0 b.x1 b.y1 ax ay then 0 else if most2 b.x0 b.y0 b.x1 b.y1 ax ay ≤ r*r then 2 else 1
def cornersIn (b : Bx) (ax ay cx cy r : Int) : Nat :=
  (if HasL ax ay cx cy r b.x0 b.y0 then 1 else 0) + (if HasL ax ay cx cy r b.x1 b.y0 then 1 else 0) + (if HasL ax ay cx cy r b.x0 b.y1 then 1 else 0) + (if HasL ax ay cx cy r b.x1 b.y1 then 1 else 0)
def lineC (b : Bx) (ax ay cx cy r : Int) : Int :=
  if cornersIn b ax ay cx cy r = 4 then 2
  else if 0 < cornersIn b ax ay cx cy r ∨ near2 b.x0 b.y0 b.x1 b.y1 ax ay ≤ r*r ∨ near2 b.x0 b.y0 b.x1 b.y1 cx cy ≤ r*r ∨ meets b ((ax, ay), (cx, cy)) = true then 1 else 0
def polyC (b : Bx) (l : List (List Pt)) : Int :=
  if (edges l).any (meets b) then 1 else if odd (b.x0, b.y0) l then 2 else 0
def Sh.cls (s : Sh) (b : Bx) : Int := match s with
  | .disc ax ay r => discC b ax ay r
  | .line ax ay cx cy r => lineC b ax ay cx cy r
  | .poly l => polyC b l
theorem Sh.cls_range (s : Sh) (b : Bx) : s.cls b = 0 ∨ s.cls b = 1 ∨ s.cls b = 2 := by
  cases s with
  | disc ax ay r =>
    simp only [Sh.cls, discC]
    by_cases h1 : r*r < near2 b.x0 b.y0 b.x1 b.y1 ax ay
    · simp [h1]
    · by_cases h2 : most2 b.x0 b.y0 b.x1 b.y1 ax ay ≤ r*r <;> simp [h1, h2]
  | line => simp only [Sh.cls, lineC]; repeat' split <;> simp
  | poly => simp only [Sh.cls, polyC]; repeat' split <;> simp
def around (F px py qx qy r : Int) : Bx := ⟨max (min px qx - r) (-F), max (min py qy - r) (-F), min (max px qx + r) F, min (max py qy + r) F⟩
def apart (a b : Bx) : Bool := decide (a.x1 < b.x0) || decide (b.x1 < a.x0) || decide (a.y1 < b.y0) || decide (b.y1 < a.y0)
def Inside (l : List (List Pt)) (a : Bx) : Prop := ∀ c ∈ l, ∀ v ∈ c, a.In v
def Sh.Bnd (F : Int) (s : Sh) (a : Bx) : Prop := match s with
  | .disc ax ay r => 1 ≤ r ∧ a = around F ax ay ax ay r
  | .line ax ay cx cy r => 1 ≤ r ∧ a = around F ax ay cx cy r
  | .poly l => Inside l a
def fold (was k : Int) (add : Bool) : Int :=
  if k = 0 then was else if k = 2 then (if add then 2 else 0) else if add = true ∧ was = 2 then 2 else if add = false ∧ was = 0 then 0 else 1
abbrev Ob := Bool × Sh
def pcls (os : List Ob) (b : Bx) : Int := os.foldl (fun w o => fold w (o.2.cls b) o.1) 0
theorem pcls_range (os : List Ob) (b : Bx) : pcls os b = 0 ∨ pcls os b = 1 ∨ pcls os b = 2 := by
  have : ∀ (os : List Ob) (k : Int), (k = 0 ∨ k = 1 ∨ k = 2) → (os.foldl (fun w o => fold w (o.2.cls b) o.1) k = 0 ∨ os.foldl (fun w o => fold w (o.2.cls b) o.1) k = 1 ∨ os.foldl (fun w o => fold w (o.2.cls b) o.1) k = 2) := by
    intro os
    induction os with
    | nil => intro k hk; exact hk
    | cons o os ih =>
      intro k hk
      simp only [List.foldl_cons]
      refine ih _ ?_
      unfold fold
      repeat' split <;> simp_all
  exact this os 0 (.inl rfl)
def quarters (b : Bx) : List Bx :=
  [⟨b.x0, b.y0, b.x0 + (b.x1 - b.x0) / 2, b.y0 + (b.y1 - b.y0) / 2⟩, ⟨b.x0 + (b.x1 - b.x0) / 2, b.y0, b.x1, b.y0 + (b.y1 - b.y0) / 2⟩,
   ⟨b.x0, b.y0 + (b.y1 - b.y0) / 2, b.x0 + (b.x1 - b.x0) / 2, b.y1⟩, ⟨b.x0 + (b.x1 - b.x0) / 2, b.y0 + (b.y1 - b.y0) / 2, b.x1, b.y1⟩]
abbrev Ent := Ob × Bx
def nearTo (l : List Ent) (b : Bx) : List Ent := l.filter fun e => !apart e.2 b
def pc (l : List Ent) (b : Bx) : Int := pcls (l.map (·.1)) b
abbrev Res := Option (Int × Int) × Int
def sums (f : Bx → Int → Res) : List Bx → Int × Int → Int → Res
  | [], s, a => (some s, a)
  | q :: qs, s, a => match f q a with
    | (none, a') => (none, a')
    | (some c, a') => sums f qs (s.1 + c.1, s.2 + c.2) a'
def exam (most : Int) : Nat → List Ent → Bx → Int → Res
  | 0, l, b, a => if most < a + 1 then (none, a + 1) else if pc l b = 0 then (some (0, 0), a + 1) else if pc l b = 2 then (some (1, 1), a + 1) else (some (0, 1), a + 1)
  | d + 1, l, b, a => if most < a + 1 then (none, a + 1) else if pc l b = 0 then (some (0, 0), a + 1) else if pc l b = 2 then (some (4 ^ (d + 1), 4 ^ (d + 1)), a + 1)
    else sums (fun q a => exam most d (nearTo l q) q a) (quarters b) (0, 0) (a + 1)
def stepsOf : Nat → Int
  | 0 => 1
  | d + 1 => 1 + 4 * stepsOf d
theorem stepsOf_pos (d : Nat) : 1 ≤ stepsOf d := by
  induction d with
  | zero => simp [stepsOf]
  | succ d ih => simp only [stepsOf]; omega
def Fits (F : Int) (l : List Ent) : Prop := ∀ e ∈ l, e.1.2.Bnd F e.2
theorem near_mem {l : List Ent} {b : Bx} {e : Ent} (h : e ∈ nearTo l b) : e ∈ l := (List.mem_filter.1 h).1
theorem Fits.near {F : Int} {l : List Ent} {b : Bx} (h : Fits F l) : Fits F (nearTo l b) := fun e he => h e (near_mem he)
end Geo
end Go.Proofs.YtfajckkbinbpiaaGreatDoor
