/- Small facts on numbers, masks and worlds that the proofs of this seat share. -/
import Derived.Test.YtgbkanbahclnhaaRows
import Derived.Handy
import Derived.WalkSpells
import Derived.WalkLawsBesides
import Derived.Deep.QuietTactic
import Derived.BigQuiet
import Derived.Lib.Hide
import Derived.Lib.Mul64
import Derived.Laws.Bits64b
import Derived.Laws.Externs
import Derived.Deep.Draws
import Derived.Laws.Rows
import Derived.Laws.BitsAllLaws
namespace Go.Proofs.Ytgbkanbahclnhaa
open Go.RowKit

/-- Block g is just the cells cs of element type t, none frozen. -/
def Blk (w : World) (g : Nat) (t : TypeId) (cs : Array Value) : Prop := w.heap[g]? = some (.cells cs t (0, 0))
section
variable {w w' : World} {g : Nat} {t : TypeId} {cs : Array Value}
theorem Blk.lt (h : Blk w g t cs) : g < w.heap.size := by
  rcases Nat.lt_or_ge g w.heap.size with hlt | hge
  · exact hlt
  · unfold Blk at h; rw [Array.getElem?_eq_none hge] at h; cases h
theorem Blk.cell (h : Blk w g t cs) (i : Nat) : w.cell? ⟨g, i, none⟩ = cs[i]? := cell_of_row w g i cs t (0, 0) h
theorem Blk.frozen (h : Blk w g t cs) (i : Nat) : w.frozen? ⟨g, i, none⟩ = false := by
  unfold Blk at h
  simp [World.frozen?, h]
theorem Blk.new (w : World) (t : TypeId) (cs : Array Value) : Blk (w.alloc (.cells cs t)) w.heap.size t cs := heap_alloc_new w _
theorem Blk.newAt {w : World} {t : TypeId} {cs : Array Value} {g : Nat} (e : g = w.heap.size) : Blk (w.alloc (.cells cs t)) g t cs := by subst e; exact heap_alloc_new w _
theorem Blk.drew (h : Blk w g t cs) : Blk w.drew g t cs := h
theorem Blk.drewN (h : Blk w g t cs) (n : Nat) : Blk (w.drewN n) g t cs := h
theorem Blk.alloc (h : Blk w g t cs) (o : Obj) : Blk (w.alloc o) g t cs := (Below.heap_alloc w o g h.lt).trans h
theorem Blk.set_ (h : Blk w g t cs) (i : Nat) (u : Value) {cs' : Array Value} (e : cs.setIfInBounds i u = cs') : Blk (w.setCell ⟨g, i, none⟩ u) g t cs' := by
  subst e
  unfold Blk at h ⊢
  simp [World.setCell, Array.getElem?_modify, h]
theorem Blk.far (h : Blk w g t cs) {p : Addr} (hp : g ≠ p.block) (u : Value) : Blk (w.setCell p u) g t cs := (Below.heap_setCell w p u g hp).trans h
theorem Blk.below {B : Nat} (h : Blk w g t cs) (hb : Below B w w') (hg : g < B) : Blk w' g t cs := (hb.block g hg).trans h
end
/-- The halves of a number of 128 bits, and the number of two halves. -/
def hiN (n : Nat) : Nat := n / 18446744073709551616
def loN (n : Nat) : Nat := n % 18446744073709551616
def val (h l : Nat) : Nat := h * 18446744073709551616 + l
def lim : Nat := 18446744073709551616
theorem lim_eq : lim = 18446744073709551616 := rfl
theorem val_hl (n : Nat) : val (hiN n) (loN n) = n := by unfold val hiN loN; omega
theorem hi_val (h l : Nat) (hl : l < lim) : hiN (val h l) = h := by rw [lim_eq] at hl; unfold hiN val; omega
theorem lo_val (h l : Nat) (hl : l < lim) : loN (val h l) = l := by rw [lim_eq] at hl; unfold loN val; omega
theorem lo_lt (n : Nat) : loN n < lim := by rw [lim_eq]; unfold loN; omega
theorem hi_lt (n : Nat) (h : n < lim * lim) : hiN n < lim := by rw [lim_eq] at *; unfold hiN; omega
theorem val_lt (h l : Nat) (hh : h < lim) (hl : l < lim) : val h l < lim * lim := by rw [lim_eq] at *; unfold val; omega
theorem mul_lt (x y : Nat) (hx : x < lim) (hy : y < lim) : x * y < lim * lim := Nat.mul_lt_mul'' hx hy

/-- A number of 128 bits in memory's form. -/
def wide (n : Nat) : Value := .agg #[.int .u64 (hiN n : Nat), .int .u64 (loN n : Nat)]

namespace M
theorem maskN (a : Nat) (ha : a < 18446744073709551616) : bits .and .u64 (a : Int) 4294967295 = ((a % 4294967296 : Nat) : Int) := by
  have h := bits_and_u64_nat a 4294967295 ha (by omega)
  have e : a &&& 4294967295 = a % 4294967296 := Nat.and_two_pow_sub_one_eq_mod a 32
  rw [e] at h
  exact h
theorem divN (a : Nat) : (a : Int) / 4294967296 = ((a / 4294967296 : Nat) : Int) := by omega
theorem mulN (a b : Nat) : (a : Int) * (b : Int) = ((a * b : Nat) : Int) := (Int.natCast_mul a b).symm
theorem addN (a b : Nat) : (a : Int) + (b : Int) = ((a + b : Nat) : Int) := (Int.natCast_add a b).symm
theorem wrapN (a : Nat) (ha : a < 18446744073709551616) : IntKind.u64.wrap (a : Int) = (a : Int) := by rw [IntKind.wrap_u64]; omega
theorem wrapM (a : Nat) : IntKind.u64.wrap (a : Int) = ((a % 18446744073709551616 : Nat) : Int) := by rw [IntKind.wrap_u64]; omega
end M
end Go.Proofs.Ytgbkanbahclnhaa
