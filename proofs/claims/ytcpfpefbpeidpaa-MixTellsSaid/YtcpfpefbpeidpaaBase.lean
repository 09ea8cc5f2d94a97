/- Small facts on numbers, masks and worlds that the proofs of this seat share. -/
import Derived.Test.YtcpfpefbpeidpaaRows
import Derived.Handy
import Derived.WalkSpells
import Derived.WalkLawsBesides
import Derived.Deep.QuietTactic
import Derived.BigQuiet
import Derived.Lib.Hide
import Derived.Laws.Bits128
import Derived.Deep.Draws
import Derived.Laws.Rows
namespace Go.Proofs.Ytcpfpefbpeidpaa
open Go.RowKit

theorem mask (j : Nat) (hj : j ≤ 62) (m : Int) (hm : (BitVec.ofInt 64 m).toNat = 2 ^ j - 1) (n : Int) : bits .and .i64 n m = n % (2 ^ j : Nat) := by
  have key : (BitVec.ofInt 64 n &&& BitVec.ofInt 64 m).toNat = (n % ((2 ^ 64 : Nat) : Int)).toNat % 2 ^ j := by
    rw [BitVec.toNat_and, BitVec.toNat_ofInt, hm, Nat.and_two_pow_sub_one_eq_mod]
  show IntKind.i64.wrap ((BitVec.ofInt 64 n &&& BitVec.ofInt 64 m).toNat : Nat) = n % (2 ^ j : Nat)
  have hd : (2 ^ j : Nat) ∣ 2 ^ 64 := Nat.pow_dvd_pow 2 (by omega)
  have hp : 0 < 2 ^ j := Nat.two_pow_pos j
  have hlt : 2 ^ j ≤ 2 ^ 62 := Nat.pow_le_pow_right (by decide) hj
  have h0 : 0 ≤ n % ((2 ^ 64 : Nat) : Int) := Int.emod_nonneg _ (by decide)
  have e : (((n % ((2 ^ 64 : Nat) : Int)).toNat % 2 ^ j : Nat) : Int) = n % ((2 ^ j : Nat) : Int) := by
    rw [Int.natCast_emod, Int.toNat_of_nonneg h0]
    exact Int.emod_emod_of_dvd _ (by exact_mod_cast hd)
  rw [key, e, IntKind.wrap_i64]
  have h1 : 0 ≤ n % ((2 ^ j : Nat) : Int) := Int.emod_nonneg _ (by omega)
  have h2 : n % ((2 ^ j : Nat) : Int) < ((2 ^ j : Nat) : Int) := Int.emod_lt_of_pos _ (by omega)
  omega
theorem mask3 (n : Int) : bits .and .i64 n 3 = n % 4 := mask 2 (by decide) 3 (by decide) n
theorem mask7 (n : Int) : bits .and .i64 n 7 = n % 8 := mask 3 (by decide) 7 (by decide) n
theorem mask255 (n : Int) : bits .and .i64 n 255 = n % 256 := mask 8 (by decide) 255 (by decide) n
theorem tmod_bd (n m : Int) (hm : 0 < m) : -m < n.tmod m ∧ n.tmod m < m := by
  have h1 := Int.tmod_lt_of_pos n hm
  have h2 := Int.tmod_lt_of_pos (-n) hm
  rw [Int.neg_tmod] at h2
  omega

/-- A view that may be, made by Tame. -/
structure Fit (X Y P W H D k : Int) : Prop where
  x0 : -300000000 < X
  x1 : X < 300000000
  y0 : -300000000 < Y
  y1 : Y < 300000000
  p0 : 1 ≤ P
  p1 : P ≤ 8000000
  w0 : 1 ≤ W
  w1 : W ≤ 8
  h0 : 1 ≤ H
  h1 : H ≤ 8
  d : (D = 0 ∧ k = 1) ∨ (D = 1 ∧ k = 2) ∨ (D = 2 ∧ k = 4) ∨ (D = 3 ∧ k = 8)
  m : P % k = 0

def viewOf (X Y P W H D : Int) : Value := .agg #[.int .i64 X, .int .i64 Y, .int .i64 P, .int .i64 W, .int .i64 H, .int .i64 D]
def Tamed (w : World) (e : Ending) (w' : World) : Prop := ∃ X Y P W H D k : Int, Fit X Y P W H D k ∧ e = .returned (viewOf X Y P W H D) ∧ Below w.heap.size w w'

theorem tamed_mk (w w' : World) (X Y P W H D k : Int) (hf : Fit X Y P W H D k) (hb : Below w.heap.size w w') : Tamed w (.returned (viewOf X Y P W H D)) w' := ⟨_, _, _, _, _, _, _, hf, rfl, hb⟩

theorem bcell {W w1 : World} (hb : Below W.heap.size W w1) : (∀ b o, b < W.heap.size → w1.cell? ⟨b, o, none⟩ = W.cell? ⟨b, o, none⟩) ∧ (∀ b o, b < W.heap.size → w1.frozen? ⟨b, o, none⟩ = W.frozen? ⟨b, o, none⟩) :=
  ⟨fun b o h => hb.cell (p := ⟨b, o, none⟩) h, fun b o h => hb.frozen (p := ⟨b, o, none⟩) h⟩


/-- Block g is just the cells cs of element type t, none frozen. -/
def Blk (w : World) (g : Nat) (t : TypeId) (cs : Array Value) : Prop := w.heap[g]? = some (.cells cs t (0, 0))
section
variable {w w' : World} {g : Nat} {t : TypeId} {cs : Array Value}
theorem Blk.lt (h : Blk w g t cs) : g < w.heap.size := by
  rcases Nat.lt_or_ge g w.heap.size with hlt | hge
  · exact hlt
  · unfold Blk at h; rw [Array.getElem?_eq_none hge] at h; cases h
theorem Blk.cell (h : Blk w g t cs) (i : Nat) : w.cell? ⟨g, i, none⟩ = cs[i]? := cell_of_row w g i cs t (0, 0) h
theorem Blk.frozen (h : Blk w g t cs) (i : Nat) : w.frozen? ⟨g, i, none⟩ = false := by
  unfold Blk at h
  simp [World.frozen?, h]
theorem Blk.new (w : World) (t : TypeId) (cs : Array Value) : Blk (w.alloc (.cells cs t)) w.heap.size t cs := heap_alloc_new w _
theorem Blk.drew (h : Blk w g t cs) : Blk w.drew g t cs := h
theorem Blk.drewN (h : Blk w g t cs) (n : Nat) : Blk (w.drewN n) g t cs := h
theorem Blk.alloc (h : Blk w g t cs) (o : Obj) : Blk (w.alloc o) g t cs := (Below.heap_alloc w o g h.lt).trans h
theorem Blk.set_ (h : Blk w g t cs) (i : Nat) (u : Value) {cs' : Array Value} (e : cs.setIfInBounds i u = cs') : Blk (w.setCell ⟨g, i, none⟩ u) g t cs' := by
  subst e
  unfold Blk at h ⊢
  simp [World.setCell, Array.getElem?_modify, h]
theorem Blk.far (h : Blk w g t cs) {p : Addr} (hp : g ≠ p.block) (u : Value) : Blk (w.setCell p u) g t cs := (Below.heap_setCell w p u g hp).trans h
theorem Blk.below {B : Nat} (h : Blk w g t cs) (hb : Below B w w') (hg : g < B) : Blk w' g t cs := (hb.block g hg).trans h
end
end Go.Proofs.Ytcpfpefbpeidpaa
