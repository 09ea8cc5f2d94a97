/- Shapes, objects and groups of objects as they lie in memory. Walks: contours: edges, one crossed. Walks: contours: does an edge touch a box? -/
import Derived.LoopTactic
import Derived.Test.YtfajckkbinbpiaaGreatDoorJ07
import Derived.Test.YtfajckkbinbpiaaGreatDoorJ15
import Derived.Test.YtfajckkbinbpiaaGreatDoorJ19
namespace Go.Proofs.YtfajckkbinbpiaaGreatDoor
set_option maxRecDepth 100000
set_option maxHeartbeats 32000000
set_option linter.unusedVariables false
set_option linter.unusedSimpArgs false
open Go.RowKit
theorem cells_at {α : Type} (f : α → List Value) (n : Nat) : ∀ (l : List α), (∀ x ∈ l, (f x).length = n) → ∀ (k : Nat) (hk : k < l.length) (j : Nat), j < n → (l.flatMap f)[k * n + j]? = (f l[k])[j]?
  | [], _, k, hk, _, _ => by simp at hk
  | x :: l, h, k, hk, j, hj => by
    have hx := h x (List.mem_cons_self ..)
    rw [List.flatMap_cons]
    cases k with
    | zero => rw [List.getElem?_append_left (by omega)]; simp
    | succ k =>
      rw [List.getElem?_append_right (by rw [hx, Nat.add_mul]; omega), hx]
      have := cells_at f n l (fun y hy => h y (List.mem_cons_of_mem _ hy)) k (by simpa using hk) j hj
      rw [show (k + 1) * n + j - n = k * n + j by rw [Nat.add_mul]; omega, this]
      rfl
def shA (s : Geo.Sh) (L : Value) : Array Value := match s with
  | .disc x y r => #[.int .i64 1, .int .i64 x, .int .i64 y, .int .i64 0, .int .i64 0, .int .i64 0, .int .i64 0, .int .i64 r, .slice none 0 0, .slice none 0 0]
  | .line x y c d r => #[.int .i64 3, .int .i64 x, .int .i64 y, .int .i64 c, .int .i64 d, .int .i64 0, .int .i64 0, .int .i64 r, .slice none 0 0, .slice none 0 0]
  | .poly _ => #[.int .i64 2, .int .i64 0, .int .i64 0, .int .i64 0, .int .i64 0, .int .i64 0, .int .i64 0, .int .i64 0, L, .slice none 0 0]
theorem shA_form (s : Geo.Sh) (L : Value) : ∃ (k x y c d r : Int) (l : Value), shA s L = #[.int .i64 k, .int .i64 x, .int .i64 y, .int .i64 c, .int .i64 d, .int .i64 0, .int .i64 0, .int .i64 r, l, .slice none 0 0] ∧ (l = L ∨ l = .slice none 0 0) := by
  cases s with
  | disc => exact ⟨_, _, _, _, _, _, _, rfl, .inr rfl⟩
  | line => exact ⟨_, _, _, _, _, _, _, rfl, .inr rfl⟩
  | poly => exact ⟨_, _, _, _, _, _, _, rfl, .inl rfl⟩
def PtsAt (S : List Nat) (w : World) (v : Value) (c : List Geo.Pt) : Prop :=
  ∃ p cap, v = .slice p c.length cap ∧ (c ≠ [] → ∃ b, p = some ⟨b, 0, none⟩ ∧ b ∉ S ∧ b < w.heap.size ∧ ∀ j (h : j < c.length), w.cell? ⟨b, j * 2, none⟩ = some (.int .i64 c[j].1) ∧ w.cell? ⟨b, j * 2 + 1, none⟩ = some (.int .i64 c[j].2))
def PolyAt (S : List Nat) (w : World) (v : Value) (l : List (List Geo.Pt)) : Prop :=
  ∃ p cap, v = .slice p l.length cap ∧ (l ≠ [] → ∃ b, p = some ⟨b, 0, none⟩ ∧ b ∉ S ∧ b < w.heap.size ∧ ∀ i (h : i < l.length), ∃ u, w.cell? ⟨b, i, none⟩ = some u ∧ PtsAt S w u l[i])
def ShAt (S : List Nat) (w : World) (s : Geo.Sh) (L : Value) : Prop := match s with
  | .poly l => PolyAt S w L l
  | _ => True
abbrev Obj2 := Geo.Ob × Value
def oCells (o : Obj2) : List Value := .bool o.1.1 :: (shA o.1.2 o.2).toList
theorem oCells_len (o : Obj2) : (oCells o).length = 11 := by
  obtain ⟨k, x, y, c, d, r, l, h, _⟩ := shA_form o.1.2 o.2
  simp [oCells, h]
def RowAt (S : List Nat) (w : World) (v : Value) (n m : Nat) (cs : List Value) : Prop :=
  ∃ p cap, v = .slice p n cap ∧ (0 < n → ∃ b, p = some ⟨b, 0, none⟩ ∧ b ∉ S ∧ b < w.heap.size ∧ ∀ k j u, k < n → j < m → cs[k * m + j]? = some u → w.cell? ⟨b, k * m + j, none⟩ = some u)
def ObjsAt (S : List Nat) (w : World) (v : Value) (l : List Obj2) : Prop := RowAt S w v l.length 11 (l.flatMap oCells) ∧ ∀ o ∈ l, ShAt S w o.1.2 o.2
abbrev Ent2 := Geo.Ent × Value
def eCells (e : Ent2) : List Value := [.int .i64 e.1.2.x0, .int .i64 e.1.2.y0, .int .i64 e.1.2.x1, .int .i64 e.1.2.y1, .bool false]
def Ent2.obj (e : Ent2) : Obj2 := (e.1.1, e.2)
def GroupAt (S : List Nat) (w : World) (v1 v2 : Value) (l : List Ent2) : Prop := ObjsAt S w v1 (l.map Ent2.obj) ∧ RowAt S w v2 l.length 5 (l.flatMap eCells)
section
variable {S S' : List Nat} {w w' : World} {v : Value}
theorem PtsAt.to {c : List Geo.Pt} (h : PtsAt S w v c) (hs : w.heap.size ≤ w'.heap.size) (hw : ∀ b, b ∉ S → b < w.heap.size → w'.heap[b]? = w.heap[b]?) (hS : ∀ b, b ∉ S → b < w.heap.size → b ∉ S') : PtsAt S' w' v c := by
  obtain ⟨p, cap, rfl, h⟩ := h
  refine ⟨p, cap, rfl, fun hc => ?_⟩
  obtain ⟨b, rfl, h1, h2, h3⟩ := h hc
  refine ⟨b, rfl, hS b h1 h2, by omega, fun j hj => ?_⟩
  obtain ⟨h4, h5⟩ := h3 j hj
  have e := hw b h1 h2
  unfold World.cell? at h4 h5 ⊢
  simp only [e]
  exact ⟨h4, h5⟩
theorem PolyAt.to {l : List (List Geo.Pt)} (h : PolyAt S w v l) (hs : w.heap.size ≤ w'.heap.size) (hw : ∀ b, b ∉ S → b < w.heap.size → w'.heap[b]? = w.heap[b]?) (hS : ∀ b, b ∉ S → b < w.heap.size → b ∉ S') : PolyAt S' w' v l := by
  obtain ⟨p, cap, rfl, h⟩ := h
  refine ⟨p, cap, rfl, fun hc => ?_⟩
  obtain ⟨b, rfl, h1, h2, h3⟩ := h hc
  refine ⟨b, rfl, hS b h1 h2, by omega, fun i hi => ?_⟩
  obtain ⟨u, h4, h5⟩ := h3 i hi
  refine ⟨u, ?_, h5.to hs hw hS⟩
  have e := hw b h1 h2
  unfold World.cell? at h4 ⊢
  simp only [e]
  exact h4
theorem ShAt.to {s : Geo.Sh} {L : Value} (h : ShAt S w s L) (hs : w.heap.size ≤ w'.heap.size) (hw : ∀ b, b ∉ S → b < w.heap.size → w'.heap[b]? = w.heap[b]?) (hS : ∀ b, b ∉ S → b < w.heap.size → b ∉ S') : ShAt S' w' s L := by
  cases s with
  | disc => exact trivial
  | line => exact trivial
  | poly l => exact PolyAt.to (v := L) h hs hw hS
theorem RowAt.to {n m : Nat} {cs : List Value} (h : RowAt S w v n m cs) (hs : w.heap.size ≤ w'.heap.size) (hw : ∀ b, b ∉ S → b < w.heap.size → w'.heap[b]? = w.heap[b]?) (hS : ∀ b, b ∉ S → b < w.heap.size → b ∉ S') : RowAt S' w' v n m cs := by
  obtain ⟨p, cap, rfl, h⟩ := h
  refine ⟨p, cap, rfl, fun hc => ?_⟩
  obtain ⟨b, rfl, h1, h2, h3⟩ := h hc
  refine ⟨b, rfl, hS b h1 h2, by omega, fun k j u hk hj hu => ?_⟩
  have h4 := h3 k j u hk hj hu
  have e := hw b h1 h2
  unfold World.cell? at h4 ⊢
  simp only [e]
  exact h4
theorem ObjsAt.to {l : List Obj2} (h : ObjsAt S w v l) (hs : w.heap.size ≤ w'.heap.size) (hw : ∀ b, b ∉ S → b < w.heap.size → w'.heap[b]? = w.heap[b]?) (hS : ∀ b, b ∉ S → b < w.heap.size → b ∉ S') : ObjsAt S' w' v l :=
  ⟨h.1.to hs hw hS, fun o ho => (h.2 o ho).to hs hw hS⟩
theorem GroupAt.to {v2 : Value} {l : List Ent2} (h : GroupAt S w v v2 l) (hs : w.heap.size ≤ w'.heap.size) (hw : ∀ b, b ∉ S → b < w.heap.size → w'.heap[b]? = w.heap[b]?) (hS : ∀ b, b ∉ S → b < w.heap.size → b ∉ S') : GroupAt S' w' v v2 l :=
  ⟨h.1.to hs hw hS, h.2.to hs hw hS⟩
theorem PtsAt.below {c : List Geo.Pt} (h : PtsAt S w v c) {B : Nat} (hb : Below B w w') (hB : w.heap.size ≤ B) : PtsAt S w' v c := h.to hb.size (fun b _ hb2 => hb.block b (by omega)) (fun b h1 _ => h1)
theorem PtsAt.only {c : List Geo.Pt} (h : PtsAt S w v c) (ho : Only S w w') : PtsAt S w' v c := h.to ho.size (fun b h1 h2 => ho.block b h2 h1) (fun b h1 _ => h1)
theorem PtsAt.alloc {c : List Geo.Pt} (h : PtsAt S w v c) (x : Obj) : PtsAt S (w.alloc x) v c := h.below ((Below.refl _ _).alloc (Nat.le_refl _) x) (Nat.le_refl _)
theorem PtsAt.drew {c : List Geo.Pt} (h : PtsAt S w v c) : PtsAt S w.drew v c := h.below (Below.refl _ _).drew (Nat.le_refl _)
theorem PtsAt.grown {c : List Geo.Pt} (h : PtsAt S w v c) {row : Option Nat} (hg : w.grownBy w' row) (hr : ∀ b, row = some b → b ∈ S ∨ w.heap.size ≤ b) : PtsAt S w' v c := h.only ((Only.refl _ _).grown hg hr)
theorem PolyAt.below {l : List (List Geo.Pt)} (h : PolyAt S w v l) {B : Nat} (hb : Below B w w') (hB : w.heap.size ≤ B) : PolyAt S w' v l := h.to hb.size (fun b _ hb2 => hb.block b (by omega)) (fun b h1 _ => h1)
theorem PolyAt.only {l : List (List Geo.Pt)} (h : PolyAt S w v l) (ho : Only S w w') : PolyAt S w' v l := h.to ho.size (fun b h1 h2 => ho.block b h2 h1) (fun b h1 _ => h1)
theorem PolyAt.alloc {l : List (List Geo.Pt)} (h : PolyAt S w v l) (x : Obj) : PolyAt S (w.alloc x) v l := h.below ((Below.refl _ _).alloc (Nat.le_refl _) x) (Nat.le_refl _)
theorem PolyAt.drew {l : List (List Geo.Pt)} (h : PolyAt S w v l) : PolyAt S w.drew v l := h.below (Below.refl _ _).drew (Nat.le_refl _)
theorem PolyAt.grown {l : List (List Geo.Pt)} (h : PolyAt S w v l) {row : Option Nat} (hg : w.grownBy w' row) (hr : ∀ b, row = some b → b ∈ S ∨ w.heap.size ≤ b) : PolyAt S w' v l := h.only ((Only.refl _ _).grown hg hr)
theorem ShAt.below {s : Geo.Sh} {L : Value} (h : ShAt S w s L) {B : Nat} (hb : Below B w w') (hB : w.heap.size ≤ B) : ShAt S w' s L := h.to hb.size (fun b _ hb2 => hb.block b (by omega)) (fun b h1 _ => h1)
theorem ShAt.only {s : Geo.Sh} {L : Value} (h : ShAt S w s L) (ho : Only S w w') : ShAt S w' s L := h.to ho.size (fun b h1 h2 => ho.block b h2 h1) (fun b h1 _ => h1)
theorem ShAt.alloc {s : Geo.Sh} {L : Value} (h : ShAt S w s L) (x : Obj) : ShAt S (w.alloc x) s L := h.below ((Below.refl _ _).alloc (Nat.le_refl _) x) (Nat.le_refl _)
theorem ShAt.drew {s : Geo.Sh} {L : Value} (h : ShAt S w s L) : ShAt S w.drew s L := h.below (Below.refl _ _).drew (Nat.le_refl _)
theorem ShAt.grown {s : Geo.Sh} {L : Value} (h : ShAt S w s L) {row : Option Nat} (hg : w.grownBy w' row) (hr : ∀ b, row = some b → b ∈ S ∨ w.heap.size ≤ b) : ShAt S w' s L := h.only ((Only.refl _ _).grown hg hr)
theorem RowAt.below {n m : Nat} {cs : List Value} (h : RowAt S w v n m cs) {B : Nat} (hb : Below B w w') (hB : w.heap.size ≤ B) : RowAt S w' v n m cs := h.to hb.size (fun b _ hb2 => hb.block b (by omega)) (fun b h1 _ => h1)
theorem RowAt.only {n m : Nat} {cs : List Value} (h : RowAt S w v n m cs) (ho : Only S w w') : RowAt S w' v n m cs := h.to ho.size (fun b h1 h2 => ho.block b h2 h1) (fun b h1 _ => h1)
theorem RowAt.alloc {n m : Nat} {cs : List Value} (h : RowAt S w v n m cs) (x : Obj) : RowAt S (w.alloc x) v n m cs := h.below ((Below.refl _ _).alloc (Nat.le_refl _) x) (Nat.le_refl _)
theorem RowAt.drew {n m : Nat} {cs : List Value} (h : RowAt S w v n m cs) : RowAt S w.drew v n m cs := h.below (Below.refl _ _).drew (Nat.le_refl _)
theorem RowAt.grown {n m : Nat} {cs : List Value} (h : RowAt S w v n m cs) {row : Option Nat} (hg : w.grownBy w' row) (hr : ∀ b, row = some b → b ∈ S ∨ w.heap.size ≤ b) : RowAt S w' v n m cs := h.only ((Only.refl _ _).grown hg hr)
theorem ObjsAt.below {l : List Obj2} (h : ObjsAt S w v l) {B : Nat} (hb : Below B w w') (hB : w.heap.size ≤ B) : ObjsAt S w' v l := h.to hb.size (fun b _ hb2 => hb.block b (by omega)) (fun b h1 _ => h1)
theorem ObjsAt.only {l : List Obj2} (h : ObjsAt S w v l) (ho : Only S w w') : ObjsAt S w' v l := h.to ho.size (fun b h1 h2 => ho.block b h2 h1) (fun b h1 _ => h1)
theorem ObjsAt.alloc {l : List Obj2} (h : ObjsAt S w v l) (x : Obj) : ObjsAt S (w.alloc x) v l := h.below ((Below.refl _ _).alloc (Nat.le_refl _) x) (Nat.le_refl _)
theorem ObjsAt.drew {l : List Obj2} (h : ObjsAt S w v l) : ObjsAt S w.drew v l := h.below (Below.refl _ _).drew (Nat.le_refl _)
theorem ObjsAt.grown {l : List Obj2} (h : ObjsAt S w v l) {row : Option Nat} (hg : w.grownBy w' row) (hr : ∀ b, row = some b → b ∈ S ∨ w.heap.size ≤ b) : ObjsAt S w' v l := h.only ((Only.refl _ _).grown hg hr)
theorem GroupAt.below {v2 : Value} {l : List Ent2} (h : GroupAt S w v v2 l) {B : Nat} (hb : Below B w w') (hB : w.heap.size ≤ B) : GroupAt S w' v v2 l := h.to hb.size (fun b _ hb2 => hb.block b (by omega)) (fun b h1 _ => h1)
theorem GroupAt.only {v2 : Value} {l : List Ent2} (h : GroupAt S w v v2 l) (ho : Only S w w') : GroupAt S w' v v2 l := h.to ho.size (fun b h1 h2 => ho.block b h2 h1) (fun b h1 _ => h1)
theorem GroupAt.alloc {v2 : Value} {l : List Ent2} (h : GroupAt S w v v2 l) (x : Obj) : GroupAt S (w.alloc x) v v2 l := h.below ((Below.refl _ _).alloc (Nat.le_refl _) x) (Nat.le_refl _)
theorem GroupAt.drew {v2 : Value} {l : List Ent2} (h : GroupAt S w v v2 l) : GroupAt S w.drew v v2 l := h.below (Below.refl _ _).drew (Nat.le_refl _)
theorem GroupAt.grown {v2 : Value} {l : List Ent2} (h : GroupAt S w v v2 l) {row : Option Nat} (hg : w.grownBy w' row) (hr : ∀ b, row = some b → b ∈ S ∨ w.heap.size ≤ b) : GroupAt S w' v v2 l := h.only ((Only.refl _ _).grown hg hr)
end
theorem RowAt.of_own {S : List Nat} {w : World} {B e n m : Nat} {v : Value} {xs : List Value} (h : w.ownsRow B e m v n xs) (hS : ∀ b ∈ S, b < B) : RowAt S w v n m xs := by
  obtain ⟨p, c, rfl⟩ := own_form h
  refine ⟨p, c, rfl, fun hn => ?_⟩
  obtain ⟨g, cap, he, hg, _⟩ := h.form hn
  injection he with he1 he2 he3
  subst he1 he3
  refine ⟨g, rfl, fun hm => by have := hS g hm; omega, own_lt h rfl, fun k j u hk hj hu => ?_⟩
  have hlt : k * m + j < n * m := by
    have := Nat.mul_le_mul_right m (show k + 1 ≤ n by omega)
    rw [Nat.add_mul] at this
    omega
  rw [h.cellAt _ hlt, hu]
theorem ObjsAt.of_own {S : List Nat} {w : World} {B e : Nat} {v : Value} {l : List Obj2} (h : w.ownsRow B e 11 v l.length (l.flatMap oCells)) (hS : ∀ b ∈ S, b < B) (hs : ∀ o ∈ l, ShAt S w o.1.2 o.2) : ObjsAt S w v l := ⟨RowAt.of_own h hS, hs⟩
theorem shA_at {S : List Nat} {w : World} {s : Geo.Sh} {L : Value} (h : ShAt S w s L) : ∃ (k x y c d r : Int) (lp : Option Addr) (ln lc : Nat), shA s L = #[.int .i64 k, .int .i64 x, .int .i64 y, .int .i64 c, .int .i64 d, .int .i64 0, .int .i64 0, .int .i64 r, .slice lp ln lc, .slice none 0 0] := by
  cases s with
  | disc => exact ⟨_, _, _, _, _, _, none, 0, 0, rfl⟩
  | line => exact ⟨_, _, _, _, _, _, none, 0, 0, rfl⟩
  | poly l =>
    have h2 : PolyAt S w L l := h
    obtain ⟨p, cap, rfl, _⟩ := h2
    exact ⟨_, _, _, _, _, _, _, _, _, rfl⟩
theorem ObjsAt.at {S : List Nat} {w : World} {v : Value} {l : List Obj2} (h : ObjsAt S w v l) (k : Nat) (hk : k < l.length) : ∃ (b cap : Nat) (kd x y c d r : Int) (lp : Option Addr) (ln lc : Nat), v = .slice (some ⟨b, 0, none⟩) l.length cap ∧ b ∉ S ∧ b < w.heap.size ∧
    shA l[k].1.2 l[k].2 = #[.int .i64 kd, .int .i64 x, .int .i64 y, .int .i64 c, .int .i64 d, .int .i64 0, .int .i64 0, .int .i64 r, .slice lp ln lc, .slice none 0 0] ∧
    w.cell? ⟨b, k * 11, none⟩ = some (.bool l[k].1.1) ∧ w.cell? ⟨b, k * 11 + 1, none⟩ = some (.int .i64 kd) ∧ w.cell? ⟨b, k * 11 + 2, none⟩ = some (.int .i64 x) ∧ w.cell? ⟨b, k * 11 + 3, none⟩ = some (.int .i64 y) ∧ w.cell? ⟨b, k * 11 + 4, none⟩ = some (.int .i64 c) ∧ w.cell? ⟨b, k * 11 + 5, none⟩ = some (.int .i64 d) ∧
    w.cell? ⟨b, k * 11 + 6, none⟩ = some (.int .i64 0) ∧ w.cell? ⟨b, k * 11 + 7, none⟩ = some (.int .i64 0) ∧ w.cell? ⟨b, k * 11 + 8, none⟩ = some (.int .i64 r) ∧ w.cell? ⟨b, k * 11 + 9, none⟩ = some (.slice lp ln lc) ∧ w.cell? ⟨b, k * 11 + 10, none⟩ = some (.slice none 0 0) := by
  have hsh := h.2 _ (List.getElem_mem hk)
  obtain ⟨⟨p, cap, rfl, h1⟩, _⟩ := h
  obtain ⟨b, rfl, h2, h3, h4⟩ := h1 (by omega)
  obtain ⟨kd, x, y, c, d, r, lp, ln, lc, e⟩ := shA_at hsh
  have hq : ∀ j u, j < 11 → (oCells l[k])[j]? = some u → w.cell? ⟨b, k * 11 + j, none⟩ = some u := fun j u hj hu => by
    refine h4 k j u hk hj ?_
    rw [cells_at oCells 11 l (fun o _ => oCells_len o) k hk j hj, hu]
  have ec : oCells l[k] = [.bool l[k].1.1, .int .i64 kd, .int .i64 x, .int .i64 y, .int .i64 c, .int .i64 d, .int .i64 0, .int .i64 0, .int .i64 r, .slice lp ln lc, .slice none 0 0] := by simp [oCells, e]
  rw [ec] at hq
  exact ⟨b, cap, kd, x, y, c, d, r, lp, ln, lc, rfl, h2, h3, e, hq 0 _ (by omega) rfl, hq 1 _ (by omega) rfl, hq 2 _ (by omega) rfl, hq 3 _ (by omega) rfl, hq 4 _ (by omega) rfl, hq 5 _ (by omega) rfl, hq 6 _ (by omega) rfl, hq 7 _ (by omega) rfl, hq 8 _ (by omega) rfl, hq 9 _ (by omega) rfl, hq 10 _ (by omega) rfl⟩
theorem RowAt.ext {S : List Nat} {w : World} {v : Value} {l : List Ent2} (h : RowAt S w v l.length 5 (l.flatMap eCells)) (k : Nat) (hk : k < l.length) : ∃ (b cap : Nat), v = .slice (some ⟨b, 0, none⟩) l.length cap ∧ b ∉ S ∧ b < w.heap.size ∧
    w.cell? ⟨b, k * 5, none⟩ = some (.int .i64 l[k].1.2.x0) ∧ w.cell? ⟨b, k * 5 + 1, none⟩ = some (.int .i64 l[k].1.2.y0) ∧ w.cell? ⟨b, k * 5 + 2, none⟩ = some (.int .i64 l[k].1.2.x1) ∧ w.cell? ⟨b, k * 5 + 3, none⟩ = some (.int .i64 l[k].1.2.y1) ∧ w.cell? ⟨b, k * 5 + 4, none⟩ = some (.bool false) := by
  obtain ⟨p, cap, rfl, h1⟩ := h
  obtain ⟨b, rfl, h2, h3, h4⟩ := h1 (by omega)
  have hq : ∀ j u, j < 5 → (eCells l[k])[j]? = some u → w.cell? ⟨b, k * 5 + j, none⟩ = some u := fun j u hj hu => by
    refine h4 k j u hk hj ?_
    rw [cells_at eCells 5 l (fun o _ => rfl) k hk j hj, hu]
  exact ⟨b, cap, rfl, h2, h3, hq 0 _ (by omega) rfl, hq 1 _ (by omega) rfl, hq 2 _ (by omega) rfl, hq 3 _ (by omega) rfl, hq 4 _ (by omega) rfl⟩
theorem RowAt.len {S : List Nat} {w : World} {v : Value} {n m : Nat} {cs : List Value} (h : RowAt S w v n m cs) : ∃ p cap, v = .slice p n cap := by
  obtain ⟨p, cap, e, _⟩ := h
  exact ⟨p, cap, e⟩
theorem ring_len (c : List Geo.Pt) : (Geo.ring c).length = c.length := by
  cases c with
  | nil => rfl
  | cons v vs => simp [Geo.ring]
theorem ring_at (c : List Geo.Pt) (j : Nat) (h : j < c.length) : (Geo.ring c)[j]? = some (c[j], c[(j + 1) % c.length]'(Nat.mod_lt _ (by omega))) := by
  cases c with
  | nil => simp at h
  | cons v vs =>
    rw [Geo.ring, List.getElem?_zip_eq_some]
    refine ⟨List.getElem?_eq_getElem h, ?_⟩
    simp only [List.length_cons] at h
    by_cases hj : j < vs.length
    · have e : (j + 1) % (v :: vs).length = j + 1 := Nat.mod_eq_of_lt (by simp; omega)
      rw [List.getElem?_append_left hj, List.getElem?_eq_getElem hj]
      simp only [e, List.getElem_cons_succ]
    · have hj2 : j = vs.length := by omega
      subst hj2
      rw [List.getElem?_append_right (Nat.le_refl _)]
      simp
theorem edges_succ (l : List (List Geo.Pt)) (k : Nat) (h : k < l.length) : Geo.edges (l.take (k + 1)) = Geo.edges (l.take k) ++ Geo.ring l[k] := by
  rw [List.take_succ_eq_append_getElem h]
  unfold Geo.edges
  simp only [List.map_append, List.flatten_append, List.map_cons, List.map_nil, List.flatten_cons, List.flatten_nil, List.append_nil]
theorem any_take {f : Geo.Pt × Geo.Pt → Bool} {c : List Geo.Pt} {j : Nat} (h : j < c.length) (h0 : ((Geo.ring c).take j).any f = false) (h1 : f (c[j], c[(j + 1) % c.length]'(Nat.mod_lt _ (by omega))) = false) : ((Geo.ring c).take (j + 1)).any f = false := by
  have hl : j < (Geo.ring c).length := by rw [ring_len]; exact h
  have e : (Geo.ring c)[j] = (c[j], c[(j + 1) % c.length]'(Nat.mod_lt _ (by omega))) := by
    have := ring_at c j h
    rw [List.getElem?_eq_getElem hl] at this
    exact Option.some.inj this
  rw [List.take_succ_eq_append_getElem hl, List.any_append, h0, e]
  simpa using h1
theorem par_take {f : Geo.Pt × Geo.Pt → Bool} {c : List Geo.Pt} {j : Nat} (h : j < c.length) : Geo.par f ((Geo.ring c).take (j + 1)) = (Geo.par f ((Geo.ring c).take j) != f (c[j], c[(j + 1) % c.length]'(Nat.mod_lt _ (by omega)))) := by
  have hl : j < (Geo.ring c).length := by rw [ring_len]; exact h
  have e : (Geo.ring c)[j] = (c[j], c[(j + 1) % c.length]'(Nat.mod_lt _ (by omega))) := by
    have := ring_at c j h
    rw [List.getElem?_eq_getElem hl] at this
    exact Option.some.inj this
  rw [List.take_succ_eq_append_getElem hl, Geo.par_append, e]
  simp [Geo.par]
theorem any_hit {f : Geo.Pt × Geo.Pt → Bool} {l : List (List Geo.Pt)} {k j : Nat} (hk : k < l.length) (hj : j < (l[k]).length) (h1 : f ((l[k])[j], (l[k])[(j + 1) % (l[k]).length]'(Nat.mod_lt _ (by omega))) = true) : (Geo.edges l).any f = true := by
  rw [List.any_eq_true]
  refine ⟨_, ?_, h1⟩
  unfold Geo.edges
  rw [List.mem_flatten]
  refine ⟨Geo.ring l[k], List.mem_map.2 ⟨_, List.getElem_mem hk, rfl⟩, ?_⟩
  exact List.mem_of_getElem? (ring_at _ j hj)
def FarOk (l : List (List Geo.Pt)) : Prop := ∀ c ∈ l, ∀ p ∈ c, (-536870912 ≤ p.1 ∧ p.1 ≤ 536870912) ∧ (-536870912 ≤ p.2 ∧ p.2 ≤ 536870912)
theorem FarOk.at {l : List (List Geo.Pt)} (h : FarOk l) {k j : Nat} (hk : k < l.length) (hj : j < (l[k]).length) : (-536870912 ≤ ((l[k])[j]).1 ∧ ((l[k])[j]).1 ≤ 536870912) ∧ (-536870912 ≤ ((l[k])[j]).2 ∧ ((l[k])[j]).2 ≤ 536870912) :=
  h _ (List.getElem_mem hk) _ (List.getElem_mem hj)
theorem crosses_c (px py ax ay ex ey : Int) (w : World) (px_0 : -536870912 ≤ px) (px_1 : px ≤ 536870912) (py_0 : -536870912 ≤ py) (py_1 : py ≤ 536870912) (ax_0 : -536870912 ≤ ax) (ax_1 : ax ≤ 536870912) (ay_0 : -536870912 ≤ ay) (ay_1 : ay ≤ 536870912) (ex_0 : -536870912 ≤ ex) (ex_1 : ex ≤ 536870912) (ey_0 : -536870912 ≤ ey) (ey_1 : ey ≤ 536870912) :
    Calls Tryz.prog 337 #[.agg #[.int .i64 px, .int .i64 py], .agg #[.int .i64 ax, .int .i64 ay], .agg #[.int .i64 ex, .int .i64 ey]] w fun e w' => e = .returned (.bool (Geo.crs px py ax ay ex ey)) ∧ Below w.heap.size w w' := by
  have n1 := fun w => cross_c ax ay ex ey px py w ax_0 ax_1 ay_0 ay_1 ex_0 ex_1 ey_0 ey_1 px_0 px_1 py_0 py_1
  obtain ⟨K, eK⟩ : ∃ K, Geo.crs px py ax ay ex ey = K := ⟨_, rfl⟩
  rw [eK]
  unfold Geo.crs at eK
  obtain ⟨X, eX⟩ : ∃ X, Geo.cross ax ay ex ey px py = X := ⟨_, rfl⟩
  rw [eX] at n1 eK
  have C1 := Lib.hid n1
  clear n1 eX
  obtain ⟨u, eu⟩ : ∃ u, decide (py < ay) = u := ⟨_, rfl⟩
  obtain ⟨v, ev⟩ : ∃ u, decide (py < ey) = u := ⟨_, rfl⟩
  rw [eu, ev] at eK
  by_cases huv : u = v
  · subst huv
    simp only [bne_self_eq_false, Bool.false_and] at eK
    subst eK
    have d1 : (u == u) = true := by simp
    go_enter Tryz.func337, Tryz.ntmps337
    go_wp2_with fail
    go_ret
    exact ⟨rfl, by exact blw⟩
  · have d1 : (u == v) = false := by simpa using huv
    have d2 : (u != v) = true := by simpa [bne] using huv
    rw [d2, Bool.true_and] at eK
    rcases Int.lt_or_le ay ey with h | h
    · rw [if_pos h] at eK
      have d3 : decide (ay < ey) = true := by simp; omega
      go_enter Tryz.func337, Tryz.ntmps337
      go_wp2_with fail
      refine (C1.out _).mono ?_
      rintro e w1 ⟨rfl, hb⟩
      have hB1 : Below w.heap.size w w1 := Below.trans (by exact blw) (hb.mono (by first | omega | (simp; done) | (simp; omega)))
      have k1_0 : Blk w1 (w.heap.size + 1) 58 #[.int .i64 ax, .int .i64 ay] := Blk.below (by exact bkw) hb (by first | omega | (simp; done) | (simp; omega))
      have k1_1 : Blk w1 (w.heap.size + 1 + 1) 58 #[.int .i64 ex, .int .i64 ey] := Blk.below (by exact bkw) hb (by first | omega | (simp; done) | (simp; omega))
      have c1_0 := k1_0.cell
      have f1_0 := k1_0.frozen
      have l1_0 := k1_0.lt
      have c1_1 := k1_1.cell
      have f1_1 := k1_1.frozen
      have l1_1 := k1_1.lt
      have l1 := hB1.size
      clear hb
      go_wp2_with fail
      go_ret
      exact ⟨by rw [← eK]; rfl, hB1⟩
    · rw [if_neg (by omega)] at eK
      have d3 : decide (ay < ey) = false := by simp; omega
      go_enter Tryz.func337, Tryz.ntmps337
      go_wp2_with fail
      refine (C1.out _).mono ?_
      rintro e w1 ⟨rfl, hb⟩
      have hB1 : Below w.heap.size w w1 := Below.trans (by exact blw) (hb.mono (by first | omega | (simp; done) | (simp; omega)))
      have k1_0 : Blk w1 (w.heap.size + 1) 58 #[.int .i64 ax, .int .i64 ay] := Blk.below (by exact bkw) hb (by first | omega | (simp; done) | (simp; omega))
      have k1_1 : Blk w1 (w.heap.size + 1 + 1) 58 #[.int .i64 ex, .int .i64 ey] := Blk.below (by exact bkw) hb (by first | omega | (simp; done) | (simp; omega))
      have c1_0 := k1_0.cell
      have f1_0 := k1_0.frozen
      have l1_0 := k1_0.lt
      have c1_1 := k1_1.cell
      have f1_1 := k1_1.frozen
      have l1_1 := k1_1.lt
      have l1 := hB1.size
      clear hb
      go_wp2_with fail
      go_ret
      exact ⟨by rw [← eK]; rfl, hB1⟩
theorem rem_next (q m : Nat) : ((q : Int) + 1) % (m : Int) = (((q + 1) % m : Nat) : Int) := by
  simp
theorem touches_c (a b c d : Int) (S : List Nat) (v : Value) (l : List (List Geo.Pt)) (w : World) (hP : PolyAt S w v l) (hF : FarOk l) (hl : l.length ≤ 100000) (hc : ∀ c ∈ l, c.length ≤ 100000) (a_0 : -536870912 ≤ a) (a_1 : a ≤ 536870912) (b_0 : -536870912 ≤ b) (b_1 : b ≤ 536870912) (c_0 : -536870912 ≤ c) (c_1 : c ≤ 536870912) (d_0 : -536870912 ≤ d) (d_1 : d ≤ 536870912) (ac : a ≤ c) (bd : b ≤ d) :
    Calls Tryz.prog 285 #[.agg #[.int .i64 a, .int .i64 b, .int .i64 c, .int .i64 d], v] w fun e w' => e = .returned (.bool ((Geo.edges l).any (Geo.meets ⟨a, b, c, d⟩))) ∧ Below w.heap.size w w' := by
  have n1 := fun px py qx qy w (h1 : -536870912 ≤ px) h2 (h3 : -536870912 ≤ py) h4 (h5 : -536870912 ≤ qx) h6 (h7 : -536870912 ≤ qy) h8 => meets_c a b c d px py qx qy w a_0 a_1 b_0 b_1 c_0 c_1 d_0 d_1 h1 h2 h3 h4 h5 h6 h7 h8 ac bd
  have C1 := Lib.hid n1
  clear n1 a_0 a_1 b_0 b_1 c_0 c_1 d_0 d_1
  obtain ⟨F, eF⟩ : ∃ F, Geo.meets ⟨a, b, c, d⟩ = F := ⟨_, rfl⟩
  rw [eF]
  have EF := Lib.hid eF
  clear eF
  obtain ⟨p, cap, rfl, hp⟩ := hP
  obtain ⟨n, en⟩ : ∃ n, l.length = n := ⟨_, rfl⟩
  have PA : Hid (PolyAt S w (.slice p n cap) l) := Lib.hid ⟨p, cap, by rw [en], hp⟩
  have HF := Lib.hid hF
  have HL := Lib.hid en
  have HC := Lib.hid hc
  rw [en] at hl ⊢
  clear hp hF en hc
  go_enter Tryz.func285, Tryz.ntmps285
  go_wp2_with fail
  go_loopw [11] (fun i wr => ∃ k : Nat, i = .int .i64 (k : Int) ∧ k ≤ n ∧ Blk wr w.heap.size 70 #[.int .i64 a, .int .i64 b, .int .i64 c, .int .i64 d] ∧ Below w.heap.size w wr ∧ (Geo.edges (l.take k)).any F = false) (fun i wr => n - (intOf i).toNat)
  case atStart => exact ⟨0, rfl, Nat.zero_le _, by exact bkw, by exact blw, by simp [Geo.edges]⟩
  case round =>
  obtain ⟨k, rfl, hk, j0, hB, hE⟩ := hrel
  by_cases hlt : k < n
  · have hkl : k < l.length := by rw [HL.out]; exact hlt
    obtain ⟨p1, cap1, e1, h1⟩ := PA.out.below hB (Nat.le_refl _)
    obtain ⟨g1, rfl, _, lg1, h1⟩ := h1 (by intro e; rw [e] at hkl; simp at hkl)
    injection e1 with e1 e1n e1'
    subst e1 e1'
    clear e1n
    obtain ⟨u, hu, p2, cap2, rfl, h2⟩ := h1 k hkl
    obtain ⟨m, em⟩ : ∃ m, (l[k]).length = m := ⟨_, rfl⟩
    have hm : m ≤ 100000 := by rw [← em]; exact HC.out _ (List.getElem_mem hkl)
    rw [em] at hu
    have PT : Hid (PtsAt S wr (.slice p2 m cap2) l[k]) := Lib.hid ⟨p2, cap2, by rw [em], h2⟩
    have EM := Lib.hid em
    have J0 := Lib.hid j0
    have HB := Lib.hid hB
    have HE := Lib.hid hE
    have hw := hB.size
    obtain ⟨WR, eWR⟩ : ∃ W, wr = W := ⟨_, rfl⟩
    rw [eWR] at PT J0 HB hw hu
    rw [eWR]
    clear eWR h1 h2 em j0 hB hE
    go_wp2_with fail
    go_loopw [17] (fun j wx => ∃ q : Nat, j = .int .i64 (q : Int) ∧ q ≤ m ∧ Blk wx w.heap.size 70 #[.int .i64 a, .int .i64 b, .int .i64 c, .int .i64 d] ∧ Below w.heap.size w wx ∧ Below WR.heap.size WR wx ∧ ((Geo.ring l[k]).take q).any F = false) (fun j wx => m - (intOf j).toNat)
    case atStart => exact ⟨0, rfl, Nat.zero_le _, J0.out, HB.out, Below.refl _ _, by simp⟩
    case round =>
    obtain ⟨q, rfl, hq, j0, hB, hB2, hE⟩ := hrel
    by_cases hlq : q < m
    · have hql : q < (l[k]).length := by rw [EM.out]; exact hlq
      obtain ⟨p3, cap3, e3, h3⟩ := PT.out.below hB2 (Nat.le_refl _)
      obtain ⟨g2, rfl, _, lg2, h3⟩ := h3 (by intro e; rw [e] at hql; simp at hql)
      injection e3 with e3 e3n e3'
      subst e3 e3'
      clear e3n
      have hr : (q + 1) % m < m := Nat.mod_lt _ (by omega)
      obtain ⟨r, er⟩ : ∃ r, (q + 1) % m = r := ⟨_, rfl⟩
      rw [er] at hr
      have hrl : r < (l[k]).length := by rw [EM.out]; exact hr
      obtain ⟨x0, x1⟩ := h3 q hql
      obtain ⟨y0, y1⟩ := h3 r hrl
      obtain ⟨⟨b1, b2⟩, b3, b4⟩ := HF.out.at hkl hql
      obtain ⟨⟨b5, b6⟩, b7, b8⟩ := HF.out.at hkl hrl
      have hm1 := fun w => C1.out _ _ _ _ w b1 b2 b3 b4 b5 b6 b7 b8
      have eq2 : (l[k])[(q + 1) % (l[k]).length]'(Nat.mod_lt _ (by omega)) = (l[k])[r] := by simp only [EM.out, er]
      obtain ⟨P, eP⟩ : ∃ P, (l[k])[q] = P := ⟨_, rfl⟩
      obtain ⟨Q, eQ⟩ : ∃ P, (l[k])[r] = P := ⟨_, rfl⟩
      have hhit : F (P, Q) = true → (Geo.edges l).any F = true := fun h => by
        refine any_hit hkl hql ?_
        rw [eq2, eP, eQ]; exact h
      have hmiss : F (P, Q) = false → ((Geo.ring l[k]).take (q + 1)).any F = false := fun h => by
        refine any_take hql hE ?_
        rw [eq2, eP, eQ]; exact h
      rw [eP] at x0 x1 hm1
      rw [eQ] at y0 y1 hm1
      rw [EF.out] at hm1
      obtain ⟨P1, P2⟩ := P
      obtain ⟨Q1, Q2⟩ := Q
      simp only [] at x0 x1 y0 y1 hm1
      obtain ⟨T, eT⟩ : ∃ T, F ((P1, P2), (Q1, Q2)) = T := ⟨_, rfl⟩
      rw [eT] at hm1 hhit hmiss
      have HM1 := Lib.hid hm1
      have HHIT := Lib.hid hhit
      have HMISS := Lib.hid hmiss
      have hrem := rem_next q m
      rw [er] at hrem
      have J0 := Lib.hid j0
      have HB := Lib.hid hB
      have HB2 := Lib.hid hB2
      have lb := j0.lt
      have hwx := hB.size
      clear h3 b1 b2 b3 b4 b5 b6 b7 b8 hm1 eq2 eP eQ eT hhit hmiss j0 hB hB2 hE er
      go_wp2_with fail
      obtain ⟨vv, ev⟩ : ∃ v, wr.alloc (.cells #[.int .i64 P1, .int .i64 P2] 58) = v := ⟨_, rfl⟩
      have bv : Below wr.heap.size wr vv := by rw [← ev]; exact blw
      have kp : Blk vv wr.heap.size 58 #[.int .i64 P1, .int .i64 P2] := by rw [← ev]; exact bkw
      have kb := J0.out.below bv lb
      have sv := bv.size
      rw [ev]
      have z0 := cell_regrown (show vv.cell? ⟨w.heap.size, 0, none⟩ = some (.int .i64 a) from kb.cell 0)
      have z1 := cell_regrown (show vv.cell? ⟨w.heap.size, 1, none⟩ = some (.int .i64 b) from kb.cell 1)
      have z2 := cell_regrown (show vv.cell? ⟨w.heap.size, 2, none⟩ = some (.int .i64 c) from kb.cell 2)
      have z3 := cell_regrown (show vv.cell? ⟨w.heap.size, 3, none⟩ = some (.int .i64 d) from kb.cell 3)
      have z4 := cell_regrown (show vv.cell? ⟨wr.heap.size, 0, none⟩ = some (.int .i64 P1) from kp.cell 0)
      have z5 := cell_regrown (show vv.cell? ⟨wr.heap.size, 1, none⟩ = some (.int .i64 P2) from kp.cell 1)
      have z6 := cell_regrown (show vv.cell? ⟨g2, r * 2, none⟩ = some (.int .i64 Q1) from ((bcell bv).1 _ _ (blk_of_cell y0)).trans y0)
      have z7 := cell_regrown (show vv.cell? ⟨g2, r * 2 + 1, none⟩ = some (.int .i64 Q2) from ((bcell bv).1 _ _ (blk_of_cell y0)).trans y1)
      have m1 : ∀ d' os, Calls Tryz.prog 290 #[.agg #[.int .i64 a, .int .i64 b, .int .i64 c, .int .i64 d], .agg #[.int .i64 P1, .int .i64 P2], .agg #[.int .i64 Q1, .int .i64 Q2]] (Go.Sort.grow (redrawn vv d') os) fun e w'' => e = .returned (.bool T) ∧ ∃ p : Regrown, w'' = Go.Sort.grow (redrawn vv p.d) p.os := fun d' os => Calls.regrown_of (HM1.out _)
      have M1 := Lib.hid m1
      have BV := Lib.hid bv
      clear m1 ev kp kb bv x0 x1 y0 y1
      refine wp_region_quiet_below (by kernel_rfl) (by kernel_rfl) ?_
      repeat (first | go_big_quiet_step (with_reducible exact M1.out _ _) | quiet_step (with_reducible exact M1.out _ _))
      refine wpQuiet_nil ?_
      intro w1 hw'
      have hb : Below vv.heap.size vv w1 := by obtain ⟨p, rfl⟩ := hw'; exact below_regrown _ _ _
      have HB1 := Lib.hid (BV.out.trans (hb.mono sv))
      clear hw' hb z0 z1 z2 z3 z4 z5 z6 z7 hrem
      cases T
      · have HM := Lib.hid (HMISS.out rfl)
        clear HMISS HHIT
        go_wp2_with fail
        go_roundw
        case rel =>
          have hr2 : ∃ q' : Nat, Value.int .i64 ((q : Int) + 1) = .int .i64 (q' : Int) ∧ q' ≤ m ∧ Blk w1 w.heap.size 70 #[.int .i64 a, .int .i64 b, .int .i64 c, .int .i64 d] ∧ Below w.heap.size w w1 ∧ Below WR.heap.size WR w1 ∧ ((Geo.ring l[k]).take q').any F = false := ⟨q + 1, by go_num, by omega, J0.out.below HB1.out lb, HB.out.trans (HB1.out.mono hwx), HB2.out.trans (HB1.out.mono HB2.out.size), HM.out⟩
          first | exact hr2 | ((repeat apply Exists.intro); exact ⟨hr2, rfl⟩)
        case measure => simp [intOf]; omega
      · have HH := Lib.hid (HHIT.out rfl)
        clear HMISS HHIT
        go_wp2_with fail
        go_ret
        exact ⟨by rw [HH.out]; rfl, HB.out.trans (HB1.out.mono hwx)⟩
    · have e : q = m := by omega
      subst e
      have hE2 : (Geo.edges (l.take (k + 1))).any F = false := by
        rw [edges_succ l k hkl, List.any_append, HE.out]
        rw [List.take_of_length_le (by rw [ring_len, EM.out]; omega)] at hE
        rw [hE]; rfl
      have HE2 := Lib.hid hE2
      have J0 := Lib.hid j0
      have HB := Lib.hid hB
      clear hE2 hE j0 hB hB2 EM PT
      go_wp2_with fail
      go_roundw
      case rel =>
        have hr2 : ∃ k' : Nat, Value.int .i64 ((k : Int) + 1) = .int .i64 (k' : Int) ∧ k' ≤ n ∧ Blk wr w.heap.size 70 #[.int .i64 a, .int .i64 b, .int .i64 c, .int .i64 d] ∧ Below w.heap.size w wr ∧ (Geo.edges (l.take k')).any F = false := ⟨k + 1, by go_num, by omega, J0.out, HB.out, HE2.out⟩
        first | exact hr2 | ((repeat apply Exists.intro); exact ⟨hr2, rfl⟩)
      case measure => simp [intOf]; omega
  · have e : k = n := by omega
    subst e
    rw [List.take_of_length_le (by rw [HL.out]; omega)] at hE
    have HE := Lib.hid hE
    have HB := Lib.hid hB
    clear hE hB j0
    go_wp2_with fail
    go_ret
    exact ⟨by rw [HE.out]; rfl, HB.out⟩
end Go.Proofs.YtfajckkbinbpiaaGreatDoor
