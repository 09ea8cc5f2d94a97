/- The contracts of package wide at the arguments that the laws give them, and what the laws' 'awake' returns. -/
import Derived.Test.YtgbkanbahclnhaaWide
import Derived.Lib.QuietBelow
namespace Go.Proofs.Ytgbkanbahclnhaa
open Go.RowKit Go.Sort

theorem mulc (x y : Nat) (hx : x < lim) (hy : y < lim) {X Y H L : Int} (eX : (x : Int) = X) (eY : (y : Int) = Y) (eH : ((hiN (x * y) : Nat) : Int) = H) (eL : ((loN (x * y) : Nat) : Int) = L) (w : World) :
    Calls Try.prog 17 #[.int .u64 X, .int .u64 Y] w fun e w' => e = .returned (.agg #[.int .u64 H, .int .u64 L]) ∧ Below w.heap.size w w' := by
  subst eX eY eH eL; exact wmul x y hx hy w
theorem mulr (x y : Nat) (hx : x < lim) (hy : y < lim) {X Y H L : Int} (eX : (x : Int) = X) (eY : (y : Int) = Y) (eH : ((hiN (x * y) : Nat) : Int) = H) (eL : ((loN (x * y) : Nat) : Int) = L) (w : World) (d : Nat) (os : Array Obj) :
    Calls Try.prog 17 #[.int .u64 X, .int .u64 Y] (grow (redrawn w d) os) fun e w'' => e = .returned (.agg #[.int .u64 H, .int .u64 L]) ∧ ∃ p : Regrown, w'' = grow (redrawn w p.d) p.os := Calls.regrown_of (mulc x y hx hy eX eY eH eL _)
theorem addc (n m : Nat) (hn : n < lim * lim) (hm : m < lim * lim) (h : n + m < lim * lim) {A B C D H L : Int} (eA : ((hiN n : Nat) : Int) = A) (eB : ((loN n : Nat) : Int) = B) (eC : ((hiN m : Nat) : Int) = C) (eD : ((loN m : Nat) : Int) = D)
    (eH : ((hiN (n + m) : Nat) : Int) = H) (eL : ((loN (n + m) : Nat) : Int) = L) (w : World) :
    Calls Try.prog 18 #[.agg #[.int .u64 A, .int .u64 B], .agg #[.int .u64 C, .int .u64 D]] w fun e w' => e = .returned (.tuple #[.agg #[.int .u64 H, .int .u64 L], .bool true]) ∧ Below w.heap.size w w' := by
  subst eA eB eC eD eH eL
  have := wadd_yes (hiN n) (loN n) (hiN m) (loN m) (hi_lt _ hn) (lo_lt _) (hi_lt _ hm) (lo_lt _) (by rw [val_hl, val_hl]; exact h) w
  rw [val_hl, val_hl] at this
  exact this
theorem addn (n m : Nat) (hn : n < lim * lim) (hm : m < lim * lim) (h : ¬ n + m < lim * lim) {A B C D : Int} (eA : ((hiN n : Nat) : Int) = A) (eB : ((loN n : Nat) : Int) = B) (eC : ((hiN m : Nat) : Int) = C) (eD : ((loN m : Nat) : Int) = D) (w : World) :
    Calls Try.prog 18 #[.agg #[.int .u64 A, .int .u64 B], .agg #[.int .u64 C, .int .u64 D]] w fun e w' => e = .returned (.tuple #[.agg #[.int .u64 0, .int .u64 0], .bool false]) ∧ Below w.heap.size w w' := by
  subst eA eB eC eD
  exact wadd_no (hiN n) (loN n) (hiN m) (loN m) (hi_lt _ hn) (lo_lt _) (hi_lt _ hm) (lo_lt _) (by rw [val_hl, val_hl]; exact h) w
theorem cmpc (n m : Nat) {A B C D H : Int} (eA : ((hiN n : Nat) : Int) = A) (eB : ((loN n : Nat) : Int) = B) (eC : ((hiN m : Nat) : Int) = C) (eD : ((loN m : Nat) : Int) = D) (eH : cmpN n m = H) (w : World) :
    Calls Try.prog 26 #[.agg #[.int .u64 A, .int .u64 B], .agg #[.int .u64 C, .int .u64 D]] w fun e w' => e = .returned (.int .i64 H) ∧ Below w.heap.size w w' := by
  subst eA eB eC eD eH
  have := wcmp (hiN n) (loN n) (hiN m) (loN m) (lo_lt _) (lo_lt _) w
  rw [val_hl, val_hl] at this
  exact this
theorem cmpr (n m : Nat) {A B C D H : Int} (eA : ((hiN n : Nat) : Int) = A) (eB : ((loN n : Nat) : Int) = B) (eC : ((hiN m : Nat) : Int) = C) (eD : ((loN m : Nat) : Int) = D) (eH : cmpN n m = H) (w : World) (d : Nat) (os : Array Obj) :
    Calls Try.prog 26 #[.agg #[.int .u64 A, .int .u64 B], .agg #[.int .u64 C, .int .u64 D]] (grow (redrawn w d) os) fun e w'' => e = .returned (.int .i64 H) ∧ ∃ p : Regrown, w'' = grow (redrawn w p.d) p.os := Calls.regrown_of (cmpc n m eA eB eC eD eH _)
theorem sqc (v : Int) (h0 : -9223372036854775808 ≤ v) (h1 : v ≤ 9223372036854775807) {H L : Int} (eH : ((hiN (v.natAbs * v.natAbs) : Nat) : Int) = H) (eL : ((loN (v.natAbs * v.natAbs) : Nat) : Int) = L) (w : World) :
    Calls Try.prog 24 #[.int .i64 v] w fun e w' => e = .returned (.agg #[.int .u64 H, .int .u64 L]) ∧ Below w.heap.size w w' := by
  subst eH eL; exact wsq v h0 h1 w

def big : Nat := 18446744073709551615 * 18446744073709551616 + 1

set_option maxHeartbeats 1000000 in
theorem awake1 (w : World) : Calls Try.prog 19 #[] w fun e w' => e = .returned (.bool true) ∧ Below w.heap.size w w' := by
  go_enter Try.func19, Try.ntmps19
  go_wp2_with fail
  refine (addn big 18446744073709551615 (by decide) (by decide) (by decide) (by rfl) (by rfl) (by rfl) (by rfl) _).mono ?_
  rintro e w1 ⟨rfl, hb⟩
  have hB1 : Below w.heap.size w w1 := hb
  have l1 := hb.size
  clear hb
  go_wp2_with fail
  refine (wabs (-9223372036854775808) (by decide) (by decide) _).mono ?_
  rintro e w2 ⟨rfl, rfl⟩
  go_wp2_with fail
  refine (mulc 9223372036854775808 2 (by decide) (by decide) (by rfl) (by rfl) (H := 1) (L := 0) (by decide) (by decide) _).mono ?_
  rintro e w3 ⟨rfl, hb⟩
  have hB3 : Below w.heap.size w w3 := Below.trans (by (repeat' (first | (with_reducible exact Below.refl _ _) | (with_reducible assumption) | (with_reducible refine below_drewN ?_ _) | (with_reducible refine Below.drew ?_) | (with_reducible refine Below.alloc ?_ ?_ _) | (with_reducible refine Below.setCell ?_ ?_ _) | omega | (simp; done) | (simp; omega)))) (hb.mono (by first | omega | (simp; done) | (simp; omega)))
  have l3 := hB3.size
  clear hb hB1
  go_wp2_with fail
  refine (sqc (-3) (by decide) (by decide) (H := 0) (L := 9) (by decide) (by decide) _).mono ?_
  rintro e w4 ⟨rfl, hb⟩
  have hB4 : Below w.heap.size w w4 := Below.trans (by (repeat' (first | (with_reducible exact Below.refl _ _) | (with_reducible assumption) | (with_reducible refine below_drewN ?_ _) | (with_reducible refine Below.drew ?_) | (with_reducible refine Below.alloc ?_ ?_ _) | (with_reducible refine Below.setCell ?_ ?_ _) | omega | (simp; done) | (simp; omega)))) (hb.mono (by first | omega | (simp; done) | (simp; omega)))
  have l4 := hB4.size
  clear hb hB3
  go_wp2_with fail
  refine (cmpc 18446744073709551616 5 (by rfl) (by rfl) (by rfl) (by rfl) (H := 1) (by decide) _).mono ?_
  rintro e w5 ⟨rfl, hb⟩
  have hB5 : Below w.heap.size w w5 := Below.trans (by (repeat' (first | (with_reducible exact Below.refl _ _) | (with_reducible assumption) | (with_reducible refine below_drewN ?_ _) | (with_reducible refine Below.drew ?_) | (with_reducible refine Below.alloc ?_ ?_ _) | (with_reducible refine Below.setCell ?_ ?_ _) | omega | (simp; done) | (simp; omega)))) (hb.mono (by first | omega | (simp; done) | (simp; omega)))
  clear hb
  go_wp2_with fail
  go_ret
  exact ⟨rfl, hB5⟩
end Go.Proofs.Ytgbkanbahclnhaa
