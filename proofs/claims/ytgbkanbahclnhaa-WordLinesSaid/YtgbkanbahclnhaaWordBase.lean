/- Words for memory, for the walks of package word: what a reader's block holds. -/
import Derived.Test.YtgbkanbahclnhaaWordLaw
import Derived.Laws.OwnMore
import Derived.Deep.AppendLies
import Derived.OwnWalk
import Derived.Lib.SlBytesRow
import Derived.Deep.DeepCutAuto
import Derived.Deep.RegionWith
import Derived.Deep.RegionHeld3
import Derived.Deep.RegionLaw
namespace Go.Proofs.Ytgbkanbahclnhaa
open Go.RowKit
set_option linter.unusedVariables false

section
variable {w w' : World} {g : Nat} {t : TypeId} {cs : Array Value}
theorem Blk.grown {row : Option Nat} (h : Blk w g t cs) (hb : w.grownBy w' row) (hg : some g ≠ row) : Blk w' g t cs := (hb.block g h.lt hg).trans h
theorem Blk.ne_ {g' : Nat} {t' : TypeId} {cs' : Array Value} (h : Blk w g t cs) (h' : Blk w g' t' cs') (hne : t ≠ t') : g ≠ g' := by
  rintro rfl
  unfold Blk at h h'
  rw [h] at h'
  injection h' with h'
  injection h' with _ ht
  exact hne ht
theorem own_blk_ne {base : Nat} {e : TypeId} {size n : Nat} {v : Value} {xs : List Value} (h : w.ownsRow base e size v n xs) (hg : Blk w g t cs) (hne : e ≠ t) : v.ownBlock ≠ some g := by
  rcases h.2 with ⟨rfl, _⟩ | ⟨g', cap, cur, rfl, _, hh, _⟩
  · simp [Value.ownBlock]
  · intro he
    have : g' = g := by simpa [Value.ownBlock] using he
    subst this
    exact Blk.ne_ (t := e) hh hg hne rfl
theorem own_own_ne {b1 b2 : Nat} {e1 e2 : TypeId} {s1 s2 n1 n2 : Nat} {v1 v2 : Value} {xs1 xs2 : List Value} (h : w.ownsRow b1 e1 s1 v1 n1 xs1) (h' : w.ownsRow b2 e2 s2 v2 n2 xs2) (hne : e1 ≠ e2) : v1.ownBlock = none ∨ v1.ownBlock ≠ v2.ownBlock := by
  rcases h'.2 with ⟨rfl, _⟩ | ⟨g', cap, cur, rfl, _, hh, _⟩
  · rcases h.2 with ⟨rfl, _⟩ | ⟨g'', cap, cur, rfl, _⟩
    · left; rfl
    · right; simp [Value.ownBlock]
  · right; exact own_blk_ne h (show Blk w g' e2 cur from hh) hne
theorem own_far {base : Nat} {e : TypeId} {size n : Nat} {v : Value} {xs : List Value} (h : w.ownsRow base e size v n xs) {p : Addr} (hp : v.ownBlock ≠ some p.block) (u : Value) : (w.setCell p u).ownsRow base e size v n xs := by
  refine ⟨h.1, ?_⟩
  rcases h.2 with h0 | ⟨g', cap, cur, rfl, hb, hh, hr⟩
  · exact .inl h0
  · refine .inr ⟨g', cap, cur, rfl, hb, (Below.heap_setCell w p u g' ?_).trans hh, hr⟩
    intro he; exact hp (by simp [Value.ownBlock, he])
theorem own_below {base : Nat} {e : TypeId} {size n : Nat} {v : Value} {xs : List Value} (h : w.ownsRow base e size v n xs) {B : Nat} (hb : Below B w w') (hB : w.heap.size ≤ B) : w'.ownsRow base e size v n xs := by
  refine ⟨h.1, ?_⟩
  rcases h.2 with h0 | ⟨g', cap, cur, rfl, hbb, hh, hr⟩
  · exact .inl h0
  · have hlt : g' < w.heap.size := (h.lt g' rfl).2
    exact .inr ⟨g', cap, cur, rfl, hbb, (hb.block g' (by omega)).trans hh, hr⟩
end
theorem info28 : (Try.prog.info? 28).map (fun i => (i.zero, i.size, i.bytes)) = some (some (.agg #[.int .i64 0, .bool false, .bool false, .string ByteArray.empty]), 4, 32) := by kernel_rfl
theorem info5 : (Try.prog.info? 5).map (fun i => (i.zero, i.size, i.bytes)) = some (some (.int .u8 0), 1, 1) := by kernel_rfl

/-- The reader's block and its two rows. -/
structure RdAt (w : World) (B g : Nat) (wv tv : Value) (r : Rd) : Prop where
  blk : Blk w g 58 #[wv, tv, .int .i64 (r.at_ : Int), .bool r.group, .int .i64 (r.inner : Int)]
  ws : w.ownsRow B 28 4 wv r.words.length (wcells r.words)
  ts : w.ownsRow B 5 1 tv r.text.length (tcells r.text)
  le : B ≤ g
/-- The reader holds r. -/
def RdIs (w : World) (B g : Nat) (r : Rd) : Prop := ∃ wv tv, RdAt w B g wv tv r
/-- The bytes of a row of its own, as a string. -/
theorem conv_text {w : World} {B cap g : Nat} {l : List UInt8} (h : w.ownsRow B 5 1 (.slice (some ⟨g, 0, none⟩) l.length cap) l.length (tcells l)) :
    (convert 22 9 (.slice (some ⟨g, 0, none⟩) l.length cap)).run Try.prog w = .ok (.string (bs l)) w := by
  have hb : Lib.Bytes w g 0 (bs l) := by
    intro i hi
    have hi' : i < l.length := by simpa [bs, ByteArray.size] using hi
    have := h.cellAt i (by omega)
    rw [Nat.zero_add, this]
    simp [tcells, bs, hi']
    rfl
  have hs : (bs l).size = l.length := by simp [bs, ByteArray.size]
  have := Lib.run_convert_whole (P := Try.prog) w 22 5 9 Try.underlying22 Try.underlying5 Try.underlying9 g 0 (bs l) hb cap
  rw [hs] at this
  exact this
end Go.Proofs.Ytgbkanbahclnhaa
