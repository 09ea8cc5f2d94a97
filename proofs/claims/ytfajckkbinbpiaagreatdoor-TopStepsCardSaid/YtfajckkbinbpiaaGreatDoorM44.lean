/- Walks: a layer of the board. The plain law of the statement: what the four texts draw. The plain law of the statement: what the four texts draw. -/
import Derived.Test.YtfajckkbinbpiaaGreatDoorM41
import Derived.Test.YtfajckkbinbpiaaGreatDoorM43
import Derived.Test.YtfajckkbinbpiaaGreatDoorM42
import Derived.Test.YtfajckkbinbpiaaGreatDoorM36
import Derived.Test.YtfajckkbinbpiaaGreatDoorM28
namespace Go.Proofs.YtfajckkbinbpiaaGreatDoor
open Go.RowKit
set_option linter.unusedVariables false
set_option linter.unusedSimpArgs false

set_option maxRecDepth 100000 in
set_option maxHeartbeats 4000000 in
theorem cover_c (g M : Nat) (w : World) (hG : Blk w g 34 #[.string { data := #[37, 70, 83, 76, 65, 88, 50, 52, 89, 50, 52, 42, 37, 37, 77, 79, 77, 77, 42, 37, 37, 65, 68, 68, 49, 48, 82, 44, 52, 88, 52, 42, 37, 68, 49, 48, 42, 88, 48, 89, 48, 68, 48, 51, 42, 77, 48, 50, 42] }, .int .i64 9, .int .i64 0, .int .i64 0, .int .i64 255, .bool false]) (hM : Blk w M 133 #[.int .i64 100, .int .i64 0]) :
    Calls Tryz.prog 31 #[.agg #[.int .i64 (-10000000), .int .i64 (-10000000), .int .i64 10000000, .int .i64 2, .int .i64 2, .int .i64 0, .slice (some ⟨g, 0, none⟩) 1 1, .slice none 0 0, .int .i64 0, .int .i64 0, .int .i64 0, .int .i64 10, .int .i64 100], .int .i64 0, .slice none 0 0, .pointer (some ⟨M, 0, none⟩)] w fun e w' => ∃ vr, e = .returned (.tuple #[vr, .agg #[.int .i64 0, .int .i64 0, .int .i64 0, .int .i64 0]]) ∧ w'.ownsRow w.heap.size 75 2 vr 4 (ones 4) ∧ Only [M] w w' := by
  have cG := hG.cell
  have lG := hG.lt
  have lM := hM.lt
  have HM := Lib.hid hM
  have HN := Lib.hid newLayer_c
  have HO := Lib.hid objects_c
  have HR := Lib.hid rrender_sq
  obtain ⟨u, eu⟩ : ∃ u, ((w.alloc (.cells #[.int .i64 (-10000000), .int .i64 (-10000000), .int .i64 10000000, .int .i64 2, .int .i64 2, .int .i64 0, .slice (some ⟨g, 0, none⟩) 1 1, .slice none 0 0, .int .i64 0, .int .i64 0, .int .i64 0, .int .i64 10, .int .i64 100] 31)).alloc (.cells #[.int .i64 0, .int .i64 0, .int .i64 0, .int .i64 0] 40)).alloc (.cells #[.string { data := #[37, 70, 83, 76, 65, 88, 50, 52, 89, 50, 52, 42, 37, 37, 77, 79, 77, 77, 42, 37, 37, 65, 68, 68, 49, 48, 82, 44, 52, 88, 52, 42, 37, 68, 49, 48, 42, 88, 48, 89, 48, 68, 48, 51, 42, 77, 48, 50, 42] }, .int .i64 9, .int .i64 0, .int .i64 0, .int .i64 255, .bool false] 34) = u := ⟨_, rfl⟩
  have B0 : Below w.heap.size w u := by rw [← eu]; (repeat' (first | (with_reducible exact Below.refl _ _) | (with_reducible assumption) | (with_reducible refine below_drewN ?_ _) | (with_reducible refine Below.drew ?_) | (with_reducible refine Below.alloc ?_ ?_ _) | (with_reducible refine Below.setCell ?_ ?_ _) | omega | (simp; done) | (simp; omega)))
  have kj : Blk u w.heap.size 31 #[.int .i64 (-10000000), .int .i64 (-10000000), .int .i64 10000000, .int .i64 2, .int .i64 2, .int .i64 0, .slice (some ⟨g, 0, none⟩) 1 1, .slice none 0 0, .int .i64 0, .int .i64 0, .int .i64 0, .int .i64 10, .int .i64 100] := by rw [← eu]; (repeat' (first | (with_reducible assumption) | (with_reducible exact Blk.new _ _ _) | (exact Blk.newAt (by first | rfl | (simp; done) | omega)) | (with_reducible refine Blk.drewN ?_ _) | (with_reducible refine Blk.drew ?_) | (with_reducible refine Blk.alloc ?_ _) | (with_reducible apply Blk.set_) | (with_reducible refine Blk.far ?_ ?_ _) | rfl | omega | (simp; done) | (simp; omega)))
  have kf : Blk u (w.heap.size + 1) 40 #[.int .i64 0, .int .i64 0, .int .i64 0, .int .i64 0] := by rw [← eu]; (repeat' (first | (with_reducible assumption) | (with_reducible exact Blk.new _ _ _) | (exact Blk.newAt (by first | rfl | (simp; done) | omega)) | (with_reducible refine Blk.drewN ?_ _) | (with_reducible refine Blk.drew ?_) | (with_reducible refine Blk.alloc ?_ _) | (with_reducible apply Blk.set_) | (with_reducible refine Blk.far ?_ ?_ _) | rfl | omega | (simp; done) | (simp; omega)))
  have kl : Blk u (w.heap.size + 1 + 1) 34 #[.string { data := #[37, 70, 83, 76, 65, 88, 50, 52, 89, 50, 52, 42, 37, 37, 77, 79, 77, 77, 42, 37, 37, 65, 68, 68, 49, 48, 82, 44, 52, 88, 52, 42, 37, 68, 49, 48, 42, 88, 48, 89, 48, 68, 48, 51, 42, 77, 48, 50, 42] }, .int .i64 9, .int .i64 0, .int .i64 0, .int .i64 255, .bool false] := by rw [← eu]; (repeat' (first | (with_reducible assumption) | (with_reducible exact Blk.new _ _ _) | (exact Blk.newAt (by first | rfl | (simp; done) | omega)) | (with_reducible refine Blk.drewN ?_ _) | (with_reducible refine Blk.drew ?_) | (with_reducible refine Blk.alloc ?_ _) | (with_reducible apply Blk.set_) | (with_reducible refine Blk.far ?_ ?_ _) | rfl | omega | (simp; done) | (simp; omega)))
  have km : Blk u M 133 #[.int .i64 100, .int .i64 0] := HM.out.below B0 lM
  have HJ := Lib.hid kj
  have HF := Lib.hid kf
  have HL := Lib.hid kl
  have HKM := Lib.hid km
  have HB0 := Lib.hid B0
  have EU := Lib.hid eu
  clear hG hM eu B0 kj kf kl km
  go_enter Tryz.func31, Tryz.ntmps31
  go_wp2_with fail
  rw [EU.out]
  refine (HN.out u).mono ?_
  rintro e w1 ⟨rfl, rfl⟩
  obtain ⟨v, ev⟩ : ∃ v, u.alloc (.cells #[.string { data := #[37, 70, 83, 76, 65, 88, 50, 52, 89, 50, 52, 42, 37, 37, 77, 79, 77, 77, 42, 37, 37, 65, 68, 68, 49, 48, 82, 44, 52, 88, 52, 42, 37, 68, 49, 48, 42, 88, 48, 89, 48, 68, 48, 51, 42, 77, 48, 50, 42] }, .int .i64 10, .int .u32 0, .int .i32 0, .int .u32 0, .int .i32 0, .slice none 0 0, .int .i64 0, .int .i64 0] 199) = v := ⟨_, rfl⟩
  have kL : Blk v u.heap.size 199 #[.string { data := #[37, 70, 83, 76, 65, 88, 50, 52, 89, 50, 52, 42, 37, 37, 77, 79, 77, 77, 42, 37, 37, 65, 68, 68, 49, 48, 82, 44, 52, 88, 52, 42, 37, 68, 49, 48, 42, 88, 48, 89, 48, 68, 48, 51, 42, 77, 48, 50, 42] }, .int .i64 10, .int .u32 0, .int .i32 0, .int .u32 0, .int .i32 0, .slice none 0 0, .int .i64 0, .int .i64 0] := by rw [← ev]; exact Blk.newAt rfl
  have oV : Only [] u v := by rw [← ev]; exact (Only.refl _ _).alloc _
  rw [ev]
  have OV := Lib.hid oV
  have KL := Lib.hid kL
  clear ev oV kL cG lG
  go_wp2_with fail
  refine (HO.out u.heap.size v KL.out).mono ?_
  rintro e z ⟨u1, gl, gp, cp, rfl, ho, hon⟩
  have oz : Only [u.heap.size] u z := (OV.out.mono (by simp)).trans hon
  have jj := oz.blk HJ.out (by have := HJ.out.lt; simp; omega)
  have jf := oz.blk HF.out (by have := HF.out.lt; simp; omega)
  have jl := oz.blk HL.out (by have := HL.out.lt; simp; omega)
  have jm := oz.blk HKM.out (by have := HKM.out.lt; simp; omega)
  have hBz : Below w.heap.size w z := HB0.out.trans (oz.toBelow HB0.out.size (by have := HB0.out.size; simp; omega))
  have cj := jj.cell
  have lj := jj.lt
  have cl := jl.cell
  have ll := jl.lt
  have JF := Lib.hid jf
  have JM := Lib.hid jm
  have HZ := Lib.hid ho
  have HBZ := Lib.hid hBz
  clear hon oz jj jf jl jm ho hBz
  go_wp2_with fail
  refine (HR.out M u1 gl 1 gp cp z HZ.out JM.out).mono ?_
  rintro e y ⟨vr, rfl, hv, hon⟩
  obtain ⟨rp, rc, rfl⟩ := own_form hv
  have yf := hon.blk JF.out (by simpa using JF.out.ne_ JM.out (by decide))
  have cf := yf.cell
  have ff := yf.frozen
  have lf := yf.lt
  have YF := Lib.hid yf
  have HV := Lib.hid hv
  have ON := Lib.hid hon
  clear yf hv hon cj lj cl ll
  go_wp2_with fail
  obtain ⟨x, ex⟩ : ∃ x, (((y.setCell ⟨w.heap.size + 1, 0, none⟩ (.int .i64 0)).setCell ⟨w.heap.size + 1, 1, none⟩ (.int .i64 0)).setCell ⟨w.heap.size + 1, 2, none⟩ (.int .i64 0)).setCell ⟨w.heap.size + 1, 3, none⟩ (.int .i64 0) = x := ⟨_, rfl⟩
  have kx : Blk x (w.heap.size + 1) 40 #[.int .i64 0, .int .i64 0, .int .i64 0, .int .i64 0] := by rw [← ex]; exact (((YF.out.set_ 0 _ rfl).set_ 1 _ rfl).set_ 2 _ rfl).set_ 3 _ rfl
  have ox : Only [w.heap.size + 1] y x := by rw [← ex]; exact ((((Only.refl _ _).setCell (by simp) _).setCell (by simp) _).setCell (by simp) _).setCell (by simp) _
  have hvx := own_mono (ox.own HV.out (fun b hb hm => by simp at hm; subst hm; exact own_blk_ne HV.out YF.out (by decide) hb)) HBZ.out.size
  have onx : Only [M] w x := ((Only.of_below HBZ.out (Nat.le_refl _) [M]).trans ON.out).then_ ox (by intro b hb; simp at hb; subst hb; right; omega)
  have cx := kx.cell
  rw [ex]
  clear cf ff lf ex
  exact bodyPost_ret (v := .tuple #[.slice rp 4 rc, .agg #[.int .i64 0, .int .i64 0, .int .i64 0, .int .i64 0]]) (by simp [results, Tryz.results31, go_sem, cx]) rfl ⟨.slice rp 4 rc, rfl, hvx, onx⟩
end Go.Proofs.YtfajckkbinbpiaaGreatDoor
namespace Go.Proofs.YtfajckkbinbpiaaGreatDoor
open Go.RowKit
set_option linter.unusedVariables false
set_option linter.unusedSimpArgs false

/-- One element of the row: a draw or a flash, where, and what polarity follows. -/
structure It where
  fl : Bool
  x : Nat
  y : Nat
  pol : Option Bool
def It.Ok (i : It) : Prop := i.x ≤ 4095 ∧ i.y ≤ 4095
def polG : Option Bool → List Gr
  | none => []
  | some true => [.lpd]
  | some false => [.lpc]
/-- The words that are written for a row, moved. -/
inductive GsOf (X Y : Nat) : List It → List Gr → Prop
  | nil : GsOf X Y [] []
  | cons {i : It} {its : List It} {gs : List Gr} {a b : List UInt8} (ha : Digits a ∧ 0 < a.length ∧ a.length ≤ 6) (hb : Digits b ∧ 0 < b.length ∧ b.length ≤ 6) (ea : numV a = i.x + 10000 * X) (eb : numV b = i.y + 10000 * Y) (h : GsOf X Y its gs) :
      GsOf X Y (i :: its) ((if i.fl then .op3 a b else .op2 a b) :: (polG i.pol ++ gs))
def draw (d : Bool) (bx by_ : Int) : List It → List Ob
  | [] => []
  | i :: r => (if i.fl then [⟨d, ((1000 * i.x : Nat) : Int) + bx, ((1000 * i.y : Nat) : Int) + by_⟩] else []) ++ draw (i.pol.getD d) bx by_ r
def dend (d : Bool) : List It → Bool
  | [] => d
  | i :: r => dend (i.pol.getD d) r
theorem draw_len (d : Bool) (bx by_ : Int) (its : List It) : (draw d bx by_ its).length ≤ its.length := by
  induction its generalizing d with
  | nil => simp [draw]
  | cons i r ih =>
    have := ih (i.pol.getD d)
    simp only [draw, List.length_append, List.length_cons]
    split <;> simp <;> omega
theorem draw_moved (d : Bool) (bx by_ : Int) (its : List It) : draw d bx by_ its = (draw d 0 0 its).map fun o => o.moved bx by_ := by
  induction its generalizing d with
  | nil => rfl
  | cons i r ih =>
    simp only [draw, List.map_append, ih (i.pol.getD d)]
    congr 1
    split <;> simp [Ob.moved]
theorem draw_near (d : Bool) (its : List It) (h : ∀ i ∈ its, i.Ok) : ∀ o ∈ draw d 0 0 its, (0 ≤ o.x ∧ o.x ≤ 4095000) ∧ (0 ≤ o.y ∧ o.y ≤ 4095000) := by
  induction its generalizing d with
  | nil => intro o ho; simp [draw] at ho
  | cons i r ih =>
    intro o ho
    simp only [draw, List.mem_append] at ho
    rcases ho with ho | ho
    · have hi := h i (by simp)
      unfold It.Ok at hi
      split at ho
      · simp at ho; subst ho; simp; omega
      · simp at ho
    · exact ih (i.pol.getD d) (fun j hj => h j (by simp [hj])) o ho
theorem St.puts_puts (s : St) (a b : List Ob) : (s.puts a).puts b = s.puts (a ++ b) := by
  unfold St.puts
  cases h : s.lev <;> simp [Nat.add_assoc]
theorem St.puts_nil (s : St) : s.puts [] = s := by
  unfold St.puts
  obtain ⟨u, fm, a1, pick, x, y, dk, bk, lv, base, md, en⟩ := s
  cases lv <;> simp
theorem GsOf.ok {X Y : Nat} {its : List It} {gs : List Gr} (h : GsOf X Y its gs) (hi : ∀ i ∈ its, i.Ok) (hX : X ≤ 21) (hY : Y ≤ 21) : ∀ g ∈ gs, g.Ok := by
  induction h with
  | nil => intro g hg; simp at hg
  | @cons i its gs a b ha hb ea eb h ih =>
    intro g hg
    have h1 := hi i (by simp)
    unfold It.Ok at h1
    simp only [List.mem_cons, List.mem_append] at hg
    rcases hg with rfl | hg | hg
    · have h2 : (Digits a ∧ 0 < a.length ∧ a.length ≤ 6 ∧ numV a ≤ 536870) ∧ (Digits b ∧ 0 < b.length ∧ b.length ≤ 6 ∧ numV b ≤ 536870) := ⟨⟨ha.1, ha.2.1, ha.2.2, by omega⟩, ⟨hb.1, hb.2.1, hb.2.2, by omega⟩⟩
      cases i.fl <;> exact h2
    · cases hp : i.pol with
      | none => rw [hp] at hg; simp [polG] at hg
      | some v => rw [hp] at hg; cases v <;> (simp [polG] at hg; subst hg; trivial)
    · exact ih (fun j hj => hi j (by simp [hj])) g hg
theorem GsOf.len {X Y : Nat} {its : List It} {gs : List Gr} (h : GsOf X Y its gs) : gs.length ≤ 2 * its.length := by
  induction h with
  | nil => simp
  | @cons i its gs a b ha hb ea eb h ih =>
    have : (polG i.pol).length ≤ 1 := by
      cases i.pol with
      | none => simp [polG]
      | some v => cases v <;> simp [polG]
    simp only [List.length_cons, List.length_append]
    omega
theorem coord_of {a : List UInt8} {x X : Nat} (h : numV a = x + 10000 * X) : coordOf a = ((1000 * x : Nat) : Int) + ((10000000 * X : Nat) : Int) := by
  unfold coordOf; rw [h]; omega
/-- A state in which n objects more may be drawn. -/
structure St.Fit (s : St) (n : Nat) : Prop where
  unit : s.unit = 1
  fmt : s.fmt = true
  a10 : s.a10 = true
  ended : s.ended = false
  pick : s.pick = 10
  made : s.made + n ≤ 1000
  base : s.base.length + n ≤ 5000
  lev : ∀ v, s.lev = some v → v.objs.length + n ≤ 5000
  bl : s.lev.isSome = true → s.base = [] ∧ s.blk = none
/-- The state behind objects that are laid, at another point, under another polarity. -/
def St.on (s : St) (l : List Ob) (x y : Int) (d : Bool) : St := { s.puts l with x := x, y := y, dark := d }
theorem St.on_on (s : St) (l m : List Ob) (x y x' y' : Int) (d d' : Bool) : (s.on l x y d).on m x' y' d' = s.on (l ++ m) x' y' d' := by
  obtain ⟨u, fm, a1, pick, x0, y0, dk, bk, lv, base, md, en⟩ := s
  cases lv <;> simp [St.on, St.puts, Nat.add_assoc]
theorem St.on_dark (s : St) (l : List Ob) (x y : Int) (d d' : Bool) : { s.on l x y d with dark := d' } = s.on l x y d' := rfl
theorem St.on_nil (s : St) : s.on [] s.x s.y s.dark = s := by
  unfold St.on; rw [St.puts_nil]
theorem St.Fit.on {s : St} {n k : Nat} (h : s.Fit (n + k)) (l : List Ob) (hl : l.length ≤ k) (x y : Int) (d : Bool) : (s.on l x y d).Fit n := by
  obtain ⟨u, fm, a1, pick, x0, y0, dk, bk, lv, base, md, en⟩ := s
  obtain ⟨h1, h2, h3, h4, h5, h6, h7, h8, h9⟩ := h
  simp only at h1 h2 h3 h4 h5 h6 h7 h8 h9
  cases lv with
  | none =>
    refine ⟨h1, h2, h3, h4, h5, ?_, ?_, ?_, ?_⟩
    · simp [St.on, St.puts]; omega
    · simp [St.on, St.puts]; omega
    · intro v hv; simp [St.on, St.puts] at hv
    · intro hv; simp [St.on, St.puts] at hv
  | some v0 =>
    have h80 := h8 v0 rfl
    refine ⟨h1, h2, h3, h4, h5, ?_, ?_, ?_, ?_⟩
    · simp [St.on, St.puts]; omega
    · simp [St.on, St.puts]; omega
    · intro v hv
      simp [St.on, St.puts] at hv
      subst hv
      simp; omega
    · intro _; exact h9 rfl
/-- The commands can be run, and what holds behind them. -/
def St.Goes (s : St) (gs : List Gr) (Q : St → Prop) : Prop := ∃ t, s.Runs gs t ∧ Q t
theorem St.Goes.cons {s : St} {g : Gr} {gs : List Gr} {Q : St → Prop} (h : s.may g) (k : (s.act g).Goes gs Q) : s.Goes (g :: gs) Q := by
  obtain ⟨t, h1, h2⟩ := k
  exact ⟨t, .cons h h1, h2⟩
theorem St.Goes.nil {s : St} {Q : St → Prop} (h : Q s) : s.Goes [] Q := ⟨s, .nil, h⟩
/-- A row of words is run. -/
theorem runs_gs {X Y : Nat} {its : List It} {gs : List Gr} (hG : GsOf X Y its gs) (hX : X ≤ 21) (hY : Y ≤ 21) : ∀ (s : St) (rest : List Gr) (Q : St → Prop), (∀ i ∈ its, i.Ok) → s.Fit its.length →
    (∀ x y, St.Goes (s.on (draw s.dark ((10000000 * X : Nat) : Int) ((10000000 * Y : Nat) : Int) its) x y (dend s.dark its)) rest Q) → s.Goes (gs ++ rest) Q := by
  induction hG with
  | nil =>
    intro s rest Q _ _ h
    have := h s.x s.y
    simpa [draw, dend, St.on_nil] using this
  | @cons i its gs a b ha hb ea eb hg ih =>
    intro s rest Q hi hs h
    have hio := hi i (by simp)
    unfold It.Ok at hio
    have hna : numV a ≤ 230000 ∧ numV b ≤ 230000 := by omega
    obtain ⟨one, eone⟩ : ∃ l, (if i.fl then [(⟨s.dark, ((1000 * i.x : Nat) : Int) + ((10000000 * X : Nat) : Int), ((1000 * i.y : Nat) : Int) + ((10000000 * Y : Nat) : Int)⟩ : Ob)] else []) = l := ⟨_, rfl⟩
    have hone : one.length ≤ 1 := by rw [← eone]; split <;> simp
    have tail : ∀ x y, (s.on one x y (i.pol.getD s.dark)).Goes (gs ++ rest) Q := by
      intro x y
      refine ih _ _ _ (fun j hj => hi j (by simp [hj])) (St.Fit.on (by simpa using hs) one hone x y _) ?_
      intro x' y'
      rw [St.on_on]
      have := h x' y'
      rw [draw, dend, eone] at this
      exact this
    have hFo : ∀ x y d, (s.on one x y d).Fit its.length := fun x y d => St.Fit.on (by simpa using hs) one hone x y d
    have key : ∀ x y, (s.on one x y s.dark).Goes (polG i.pol ++ (gs ++ rest)) Q := by
      intro x y
      have hf := hFo x y s.dark
      have ht := tail x y
      cases hp : i.pol with
      | none => rw [hp] at ht; exact ht
      | some v =>
        rw [hp] at ht
        cases v
        · exact St.Goes.cons ⟨⟨hf.unit, hf.fmt, hf.a10, hf.ended⟩, trivial⟩ ht
        · exact St.Goes.cons ⟨⟨hf.unit, hf.fmt, hf.a10, hf.ended⟩, trivial⟩ ht
    simp only [List.cons_append, List.append_assoc]
    have hk := key (coordOf a) (coordOf b)
    have hs' := hs.made
    have hsb := hs.base
    simp only [List.length_cons] at hs' hsb
    cases hf : i.fl with
    | false =>
      simp only [Bool.false_eq_true, if_false]
      rw [hf] at eone
      simp only [Bool.false_eq_true, if_false] at eone
      subst eone
      refine St.Goes.cons ⟨⟨hs.unit, hs.fmt, hs.a10, hs.ended⟩, trivial⟩ ?_
      have e : s.act (.op2 a b) = s.on [] (coordOf a) (coordOf b) s.dark := by unfold St.on; rw [St.puts_nil]; rfl
      rw [e]; exact hk
    | true =>
      simp only [if_true]
      rw [hf] at eone
      simp only [if_true] at eone
      refine St.Goes.cons ⟨⟨hs.unit, hs.fmt, hs.a10, hs.ended⟩, hna, ⟨by omega, fun v hv => by have := hs.lev v hv; simp at this; omega⟩, hs.bl, .inl ⟨hs.pick, by omega⟩⟩ ?_
      have e : s.act (.op3 a b) = s.on one (coordOf a) (coordOf b) s.dark := by
        rw [← eone, ← coord_of ea, ← coord_of eb]
        have hpk := hs.pick
        obtain ⟨u, fm, a1, pick, x0, y0, dk, bk, lv, base, md, en⟩ := s
        simp only at hpk
        subst hpk
        cases lv <;> rfl
      rw [e]; exact hk
end Go.Proofs.YtfajckkbinbpiaaGreatDoor
namespace Go.Proofs.YtfajckkbinbpiaaGreatDoor
open Go.RowKit
set_option linter.unusedVariables false
set_option linter.unusedSimpArgs false

def beginG : List Gr := [.fs, .mo, .adc, .d10]
def S4 : St := ⟨1, true, true, 10, 0, 0, true, none, none, [], 0, false⟩
theorem goes_begin {rest : List Gr} {Q : St → Prop} (h : S4.Goes rest Q) : St.start.Goes (beginG ++ rest) Q :=
  .cons rfl (.cons rfl (.cons rfl (.cons rfl h)))
theorem S4_fit (n : Nat) (h : n ≤ 1000) : S4.Fit n := ⟨rfl, rfl, rfl, rfl, rfl, by simp [S4]; omega, by simp [S4]; omega, by intro v hv; simp [S4] at hv, by intro hv; simp [S4] at hv⟩
theorem begin_ok : ∀ g ∈ beginG, g.Ok := by intro g hg; simp [beginG] at hg; rcases hg with rfl | rfl | rfl | rfl <;> trivial
theorem stepOf_bd {p : UInt8} (h : p.toNat - 48 ≤ 7) : 0 ≤ stepOf p ∧ stepOf p ≤ 70000000 := by unfold stepOf; omega
/-- What a text draws, whole. -/
def Ends (O : List Ob) (t : St) : Prop := t.ended = true ∧ t.base = O
/-- The first text: a step and what it holds. -/
theorem goes_a {its : List It} {gs : List Gr} (hG : GsOf 0 0 its gs) (hi : ∀ i ∈ its, i.Ok) (hl : its.length ≤ 12) (n m p q : UInt8) (n1 : 1 ≤ n.toNat - 48) (n4 : n.toNat - 48 ≤ 4) (m1 : 1 ≤ m.toNat - 48) (m4 : m.toNat - 48 ≤ 4) (p7 : p.toNat - 48 ≤ 7) (q7 : q.toNat - 48 ≤ 7) :
    St.start.Goes (beginG ++ (Gr.sr n m p q :: (gs ++ [.sre, .m02]))) (Ends (copies (draw true 0 0 its) (stepOf p) (stepOf q) (m.toNat - 48) (n.toNat - 48))) := by
  have hdl := draw_len true 0 0 its
  have bp := stepOf_bd p7
  have bq := stepOf_bd q7
  refine goes_begin (.cons ⟨⟨rfl, rfl, rfl, rfl⟩, ⟨rfl, rfl, rfl⟩, ⟨n1, n4⟩, ⟨m1, m4⟩, p7, q7⟩ (runs_gs hG (by omega) (by omega) _ _ _ hi ?_ ?_))
  · exact ⟨rfl, rfl, rfl, rfl, rfl, by simp [S4, St.act]; omega, by simp [S4, St.act]; omega, by intro v hv; simp [S4, St.act] at hv; subst hv; simp; omega, fun _ => ⟨rfl, rfl⟩⟩
  · intro x y
    have e0 : ((10000000 * 0 : Nat) : Int) = 0 := rfl
    rw [e0]
    show St.Goes (St.on (S4.act (Gr.sr n m p q)) (draw true 0 0 its) x y (dend true its)) [.sre, .m02] _
    have hnear := draw_near true its hi
    generalize draw true 0 0 its = O at hdl hnear ⊢
    generalize dend true its = d
    refine .cons ⟨⟨rfl, rfl, rfl, rfl⟩, rfl, ⟨true, 0, ((n.toNat - 48 : Nat) : Int), ((m.toNat - 48 : Nat) : Int), stepOf p, stepOf q, [] ++ O⟩, rfl, rfl, rfl, ⟨by simp only; omega, by simp only; omega⟩, ⟨by simp only; omega, by simp only; omega⟩, bp, bq, by simp; omega, ?_, by simpa using hnear⟩ (.cons ⟨⟨rfl, rfl, rfl, rfl⟩, rfl⟩ (.nil ⟨rfl, ?_⟩))
    · simp [St.on, St.puts, St.act, S4]; omega
    · simp [St.on, St.puts, St.act, S4]
/-- The third text: a block, flashed at a place. -/
theorem goes_c {its : List It} {gs : List Gr} (hG : GsOf 0 0 its gs) (hi : ∀ i ∈ its, i.Ok) (hl : its.length ≤ 12) (X Y : Nat) (hX : X ≤ 21) (hY : Y ≤ 21) (a b : List UInt8) (ea : numV a = 10000 * X) (eb : numV b = 10000 * Y) :
    St.start.Goes (beginG ++ (Gr.ab :: (gs ++ [.abe, .lpd, .d20, .op3 a b, .m02]))) (Ends (draw true ((10000000 * X : Nat) : Int) ((10000000 * Y : Nat) : Int) its)) := by
  have hdl := draw_len true 0 0 its
  refine goes_begin (.cons ⟨⟨rfl, rfl, rfl, rfl⟩, rfl, rfl, rfl, rfl⟩ (runs_gs hG (by omega) (by omega) _ _ _ hi ?_ ?_))
  · exact ⟨rfl, rfl, rfl, rfl, rfl, by simp [S4, St.act]; omega, by simp [S4, St.act]; omega, by intro v hv; simp [S4, St.act] at hv; subst hv; simp; omega, fun _ => ⟨rfl, rfl⟩⟩
  · intro x y
    have e0 : ((10000000 * 0 : Nat) : Int) = 0 := rfl
    rw [e0, draw_moved true ((10000000 * X : Nat) : Int)]
    show St.Goes (St.on (S4.act Gr.ab) (draw true 0 0 its) x y (dend true its)) [.abe, .lpd, .d20, .op3 a b, .m02] _
    have hnear := draw_near true its hi
    generalize draw true 0 0 its = O at hdl hnear ⊢
    generalize dend true its = d
    have ca : coordOf a = ((10000000 * X : Nat) : Int) := by unfold coordOf; rw [ea]; omega
    have cb : coordOf b = ((10000000 * Y : Nat) : Int) := by unfold coordOf; rw [eb]; omega
    refine .cons ⟨⟨rfl, rfl, rfl, rfl⟩, rfl, rfl, ⟨false, 20, 0, 0, 0, 0, [] ++ O⟩, rfl, rfl, rfl⟩ (.cons ⟨⟨rfl, rfl, rfl, rfl⟩, trivial⟩ (.cons ⟨⟨rfl, rfl, rfl, rfl⟩, rfl⟩ (.cons ⟨⟨rfl, rfl, rfl, rfl⟩, ⟨by omega, by omega⟩, ⟨by simp [St.on, St.puts, St.act, S4], by intro v hv; simp [St.on, St.puts, St.act, S4] at hv⟩, by intro hv; simp [St.on, St.puts, St.act, S4] at hv, .inr ⟨rfl, rfl, [] ++ O, rfl, ?_, by simpa using hnear⟩⟩ (.cons ⟨⟨rfl, rfl, rfl, rfl⟩, rfl⟩ (.nil ⟨rfl, ?_⟩)))))
    · simp [St.on, St.puts, St.act, S4]; omega
    · simp [St.on, St.puts, St.act, S4, ca, cb, Ob.moved]
/-- Objects that have been drawn, one row behind the other. -/
def Drawn (gs : List Gr) (O : List Ob) : Prop := (∀ g ∈ gs, g.Ok) ∧ ∀ rest Q, (∀ x y d, (S4.on O x y d).Goes rest Q) → St.start.Goes (gs ++ rest) Q
theorem drawn_begin : Drawn beginG [] := ⟨begin_ok, fun rest Q h => goes_begin (by have := h 0 0 true; exact this)⟩
theorem Drawn.step {gs hs : List Gr} {O : List Ob} {its : List It} {X Y : Nat} (h : Drawn gs O) (hG : GsOf X Y its hs) (hi : ∀ i ∈ its, i.Ok) (hX : X ≤ 21) (hY : Y ≤ 21) (hO : O.length + its.length ≤ 1000) : Drawn (gs ++ (.lpd :: hs)) (O ++ draw true ((10000000 * X : Nat) : Int) ((10000000 * Y : Nat) : Int) its) := by
  refine ⟨?_, ?_⟩
  · intro g hg
    simp only [List.mem_append, List.mem_cons] at hg
    rcases hg with hg | rfl | hg
    · exact h.1 g hg
    · trivial
    · exact hG.ok hi hX hY g hg
  · intro rest Q hk
    rw [List.append_assoc]
    refine h.2 _ _ fun x y d => ?_
    rw [List.cons_append]
    have hf := St.Fit.on (n := its.length) (k := O.length) (S4_fit (its.length + O.length) (by omega)) O (Nat.le_refl _) x y true
    refine .cons ⟨⟨rfl, rfl, rfl, rfl⟩, trivial⟩ ?_
    show St.Goes (S4.on O x y true) _ _
    refine runs_gs hG hX hY _ _ _ hi hf fun x' y' => ?_
    rw [St.on_on]
    exact hk x' y' _
theorem Drawn.end {gs : List Gr} {O : List Ob} (h : Drawn gs O) : St.start.Goes (gs ++ [.m02]) (Ends O) :=
  h.2 _ _ fun x y d => .cons ⟨⟨rfl, rfl, rfl, rfl⟩, rfl⟩ (.nil ⟨rfl, by simp [St.on, St.puts, St.act, S4]⟩)
theorem copiesY_draw (its : List It) (bx by_ : Int) (k : Nat) : copiesY (draw true 0 0 its) bx by_ (k + 1) = copiesY (draw true 0 0 its) bx by_ k ++ draw true bx ((k : Int) * by_) its := by
  rw [copiesY, draw_moved true bx]
end Go.Proofs.YtfajckkbinbpiaaGreatDoor
