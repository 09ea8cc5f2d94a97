/- The plain law of the texts of the statement: the words that they are read as. What a plotter holds, and what the commands of the statement do to it. A world that is as another was but for some blocks and for new ones. Walks: package plot: a code that is not taken. Walks: package plot: operations. A struct stored into the last element of a row of one's own. -/
import Derived.BigRegion
import Derived.Deep.MidRow
import Derived.Deep.RegionHeld3
import Derived.Maps.AppendAt
import Derived.Outline
import Derived.RegionTactic
import Derived.Test.YtfajckkbinbpiaaGreatDoorJ01
import Derived.Test.YtfajckkbinbpiaaGreatDoorJ02
import Derived.Test.YtfajckkbinbpiaaGreatDoorJ04
import Derived.Test.YtfajckkbinbpiaaGreatDoorJ05
import Derived.Test.YtfajckkbinbpiaaGreatDoorJ06
namespace Go.Proofs.YtfajckkbinbpiaaGreatDoor
set_option maxRecDepth 100000
set_option maxHeartbeats 32000000
set_option linter.unusedVariables false
set_option linter.unusedSimpArgs false
open Go.RowKit
def Good (c : UInt8) : Prop := 32 ≤ c.toNat ∧ c.toNat ≤ 126 ∧ c.toNat ≠ 42 ∧ c.toNat ≠ 37
theorem take_good {r : Rd} {c : UInt8} {i : Nat} (h : Good c) (h1 : ¬ (r.text = [] ∧ r.words.length = 20000)) (h2 : r.text.length ≠ 10000) :
    take r c i = .ok ⟨r.words, r.text ++ [c], if r.text = [] then i else r.at_, r.group, r.inner⟩ := by
  obtain ⟨g1, g2, g3, g4⟩ := h
  rw [take_plain (by omega) g3 g4, if_neg h1, if_neg h2]
theorem run_more (x : List UInt8) : ∀ (i : Nat) (r : Rd), (∀ c ∈ x, Good c) → r.text ≠ [] → r.text.length + x.length ≤ 10000 → run x i r = .ok ⟨r.words, r.text ++ x, r.at_, r.group, r.inner⟩ := by
  induction x with
  | nil => intro i r _ _ _; simp [run]
  | cons c x ih =>
    intro i r hg hne hl
    simp only [List.length_cons] at hl
    rw [run_cons (take_good (hg c (by simp)) (fun h => hne h.1) (by omega)), ih (i + 1) _ (fun d hd => hg d (by simp [hd])) (by simp) (by simp; omega)]
    simp [hne]
theorem run_text (x : List UInt8) (i : Nat) (r : Rd) (hg : ∀ c ∈ x, Good c) (hx : x ≠ []) (ht : r.text = []) (hw : r.words.length ≠ 20000) (hl : x.length ≤ 10000) : run x i r = .ok ⟨r.words, x, i, r.group, r.inner⟩ := by
  match x, hx with
  | c :: x, _ =>
    simp only [List.length_cons] at hl
    rw [run_cons (take_good (hg c (by simp)) (fun h => hw h.2) (by rw [ht]; simp)), run_more x (i + 1) _ (fun d hd => hg d (by simp [hd])) (by simp) (by simp [ht]; omega)]
    simp [ht]
def Sofar (s : List UInt8) (want : List Wd) (op : Bool) : Prop :=
  ∃ r, run s 0 Rd.start = .ok r ∧ r.words = want ∧ r.text = [] ∧ r.group = op ∧ (op = true → r.inner ≠ 0) ∧ (op = false → r.inner = 0)
theorem sofar_nil : Sofar [] [] false := ⟨Rd.start, rfl, rfl, rfl, rfl, by simp, fun _ => rfl⟩
theorem sofar_word {s x : List UInt8} {r : Rd} (hr : run s 0 Rd.start = .ok r) (ht : r.text = []) (hg : ∀ c ∈ x, Good c) (hx : x ≠ []) (hw : r.words.length ≠ 20000) (hl : x.length ≤ 10000) :
    run (s ++ (x ++ [42])) 0 Rd.start = .ok ⟨r.words ++ [⟨s.length, r.group, r.inner == 0, x⟩], [], s.length, r.group, if r.group then r.inner + 1 else r.inner⟩ := by
  rw [run_append, hr]
  simp only [Nat.zero_add]
  rw [run_append, run_text x s.length r hg hx ht hw hl]
  simp only []
  rw [run_cons (by rw [take_star rfl, if_neg hx])]
  rfl
theorem sofar_pct {s : List UInt8} {r : Rd} (hr : run s 0 Rd.start = .ok r) (ht : r.text = []) (hi : ¬ (r.group = true ∧ r.inner = 0)) : run (s ++ [37]) 0 Rd.start = .ok ⟨r.words, r.text, r.at_, !r.group, 0⟩ := by
  rw [run_append, hr]
  simp only []
  rw [run_cons (by rw [take_pct rfl, if_neg (by rintro (h | h); exact h ht; exact hi h)])]
  rfl
theorem sofar_same {s x : List UInt8} {want : List Wd} {op : Bool} (h : Sofar s want op) (hg : ∀ c ∈ x, Good c) (hx : x ≠ []) (hw : want.length ≠ 20000) (hl : x.length ≤ 10000) :
    Sofar (s ++ (x ++ [42])) (want ++ [⟨s.length, op, !op || !op, x⟩]) op := by
  obtain ⟨r, hr, rfl, ht, rfl, h1, h2⟩ := h
  refine ⟨_, sofar_word hr ht hg hx hw hl, ?_, rfl, rfl, ?_, ?_⟩
  · have e : (r.inner == 0) = (!r.group || !r.group) := by
      cases hgr : r.group
      · simp [h2 hgr]
      · have := h1 hgr; simp [this]
    rw [e]
  · intro hgr; simp [hgr]
  · intro hgr; simp [hgr, h2 hgr]
theorem sofar_turn {s x : List UInt8} {want : List Wd} {op : Bool} (h : Sofar s want op) (hg : ∀ c ∈ x, Good c) (hx : x ≠ []) (hw : want.length ≠ 20000) (hl : x.length ≤ 10000) :
    Sofar ((s ++ [37]) ++ (x ++ [42])) (want ++ [⟨(s ++ [37]).length, !op, true, x⟩]) (!op) := by
  obtain ⟨r, hr, rfl, ht, rfl, h1, h2⟩ := h
  have hp := sofar_pct hr ht (fun hh => h1 hh.1 hh.2)
  refine ⟨_, sofar_word hp (by exact ht) hg hx hw hl, ?_, rfl, rfl, ?_, ?_⟩
  · rfl
  · intro hgr; simp [hgr]
  · intro hgr; simp [hgr]
theorem sofar_done {s : List UInt8} {want : List Wd} (h : Sofar s want false) (hs : s.length ≤ 1000000) : words s = (want, 0, 0) := by
  obtain ⟨r, hr, rfl, ht, hg, _, _⟩ := h
  exact words_done (by omega) hr (by rw [ht, hg]; simp)
theorem sofar_shut {s : List UInt8} {want : List Wd} (h : Sofar s want true) : Sofar (s ++ [37]) want false := by
  obtain ⟨r, hr, rfl, ht, hg, h1, h2⟩ := h
  exact ⟨_, sofar_pct hr ht (fun hh => h1 rfl hh.2), rfl, ht, by simp [hg], by simp, fun _ => rfl⟩
inductive Gr where
  | fs | fs6 | mo | inch | adr | adi | adm | d10 | m02
  | op1 (a b : List UInt8)
  | op2 (a b : List UInt8)
  | op3 (a b : List UInt8)
def Gr.ext : Gr → Bool
  | .d10 | .m02 | .op1 _ _ | .op2 _ _ | .op3 _ _ => false
  | _ => true
def Gr.word : Gr → List UInt8
  | .fs => [70, 83, 76, 65, 88, 50, 52, 89, 50, 52]
  | .fs6 => [70, 83, 76, 65, 88, 50, 54, 89, 50, 54]
  | .mo => [77, 79, 77, 77]
  | .inch => [77, 79, 73, 78]
  | .adr => [65, 68, 68, 49, 48, 82, 44, 52, 88, 52]
  | .adi => [65, 68, 68, 49, 48, 67, 44, 48, 46, 48, 53]
  | .adm => [65, 68, 68, 49, 48, 67, 44, 49, 46, 50, 55]
  | .d10 => [68, 49, 48]
  | .m02 => [77, 48, 50]
  | .op1 a b => 88 :: (a ++ 89 :: (b ++ [68, 48, 49]))
  | .op2 a b => 88 :: (a ++ 89 :: (b ++ [68, 48, 50]))
  | .op3 a b => 88 :: (a ++ 89 :: (b ++ [68, 48, 51]))
def Gr.kind : Gr → Int
  | .fs => 8
  | .fs6 => 8
  | .mo => 9
  | .inch => 9
  | .adr => 10
  | .adi => 10
  | .adm => 10
  | .d10 => 6
  | .m02 => 5
  | .op1 _ _ | .op2 _ _ | .op3 _ _ => 7
def Gr.n : Gr → Int
  | .fs => 2
  | .fs6 => 2
  | .mo => 1
  | .inch => 2
  | .adr => 10
  | .adi => 10
  | .adm => 10
  | .d10 => 10
  | .m02 => 0
  | .op1 _ _ => 1
  | .op2 _ _ => 2
  | .op3 _ _ => 3
def Gr.m : Gr → Int
  | .fs => 4
  | .fs6 => 6
  | _ => 0
def Gr.on : Gr → Bool
  | _ => false
def Gr.name : Gr → List UInt8
  | .adi => [67]
  | .adm => [67]
  | .adr => [82]
  | _ => []
def Gr.x : Gr → List UInt8
  | .op1 a _ | .op2 a _ | .op3 a _ => a
  | _ => []
def Gr.y : Gr → List UInt8
  | .op1 _ b | .op2 _ b | .op3 _ b => b
  | _ => []
def Gr.nums : Gr → List Int
  | .adi => [50000]
  | .adm => [1270000]
  | .adr => [4000000, 4000000]
  | _ => []
def Gr.cells (g : Gr) (at_ : Int) (v : Value) : List Value := [.int .i64 at_, .int .i64 g.kind, .int .i64 g.n, .int .i64 g.m, .bool g.on, .string (bs g.name), .string (bs g.x), .string (bs g.y), .string (bs []), .string (bs []), v, .slice none 0 0]
def Gr.Ok : Gr → Prop
  | .op1 a b | .op2 a b | .op3 a b => (Digits a ∧ 0 < a.length ∧ a.length ≤ 8 ∧ numV a ≤ 53687091) ∧ (Digits b ∧ 0 < b.length ∧ b.length ≤ 8 ∧ numV b ≤ 53687091)
  | _ => True
def Gr.text (g : Gr) : List UInt8 := if g.ext then (37 :: (g.word ++ [42])) ++ [37] else g.word ++ [42]
def texts (gs : List Gr) : List UInt8 := gs.flatMap Gr.text
theorem texts_cons (g : Gr) (gs : List Gr) : texts (g :: gs) = g.text ++ texts gs := rfl
theorem digit_good {c : UInt8} (h : 48 ≤ c.toNat ∧ c.toNat ≤ 57) : Good c := ⟨by omega, by omega, by omega, by omega⟩
def goodB (c : UInt8) : Bool := decide (32 ≤ c.toNat) && decide (c.toNat ≤ 126) && (c.toNat != 42) && (c.toNat != 37)
theorem good_of (l : List UInt8) (h : l.all goodB = true) : ∀ c ∈ l, Good c := by
  intro c hc
  have := List.all_eq_true.1 h c hc
  simp only [goodB, Bool.and_eq_true, decide_eq_true_eq, bne_iff_ne] at this
  exact ⟨this.1.1.1, this.1.1.2, this.1.2, this.2⟩
theorem good_op {a b : List UInt8} (ha : Digits a) (hb : Digits b) (z : UInt8) (hz : Good z) : ∀ c ∈ 88 :: (a ++ 89 :: (b ++ [68, 48, z])), Good c := by
  intro c hc
  simp only [List.mem_cons, List.mem_append, List.not_mem_nil, or_false] at hc
  rcases hc with rfl | hc | rfl | hc | rfl | rfl | rfl
  · exact good_of [88] rfl _ (by simp)
  · exact digit_good (ha c hc)
  · exact good_of [89] rfl _ (by simp)
  · exact digit_good (hb c hc)
  · exact good_of [68] rfl _ (by simp)
  · exact good_of [48] rfl _ (by simp)
  · exact hz
theorem Gr.good (g : Gr) (h : g.Ok) : ∀ c ∈ g.word, Good c := by
  cases g
  case op1 a b => exact good_op h.1.1 h.2.1 49 (good_of [49] rfl _ (by simp))
  case op2 a b => exact good_op h.1.1 h.2.1 50 (good_of [50] rfl _ (by simp))
  case op3 a b => exact good_op h.1.1 h.2.1 51 (good_of [51] rfl _ (by simp))
  all_goals exact good_of _ rfl
theorem Gr.word_ne (g : Gr) : g.word ≠ [] := by cases g <;> simp [Gr.word]
theorem Gr.word_len (g : Gr) (h : g.Ok) : g.word.length ≤ 21 := by
  cases g
  case op1 a b => have h1 := h.1.2.2.1; have h2 := h.2.2.2.1; simp [Gr.word]; omega
  case op2 a b => have h1 := h.1.2.2.1; have h2 := h.2.2.2.1; simp [Gr.word]; omega
  case op3 a b => have h1 := h.1.2.2.1; have h2 := h.2.2.2.1; simp [Gr.word]; omega
  all_goals simp [Gr.word]
def WordOf (g : Gr) (d : Wd) : Prop := d.ext = g.ext ∧ d.first = true ∧ d.text = g.word
inductive WordsOf : List Gr → List Wd → Prop
  | nil : WordsOf [] []
  | cons {g : Gr} {d : Wd} {gs : List Gr} {ds : List Wd} : WordOf g d → WordsOf gs ds → WordsOf (g :: gs) (d :: ds)
theorem WordsOf.length {gs : List Gr} {ds : List Wd} (h : WordsOf gs ds) : ds.length = gs.length := by
  induction h with
  | nil => rfl
  | cons _ _ ih => simp [ih]
theorem WordsOf.at {gs : List Gr} {ds : List Wd} (h : WordsOf gs ds) (k : Nat) (hk : k < gs.length) (hd : k < ds.length) : WordOf gs[k] ds[k] := by
  induction h generalizing k with
  | nil => simp at hk
  | cons h1 _ ih =>
    cases k with
    | zero => exact h1
    | succ k => exact ih k (by simpa using hk) (by simpa using hd)
theorem sofar_gr {s : List UInt8} {want : List Wd} (g : Gr) (hg : g.Ok) (h : Sofar s want false) (hw : want.length ≠ 20000) : ∃ d, WordOf g d ∧ Sofar (s ++ g.text) (want ++ [d]) false := by
  have hl := g.word_len hg
  by_cases he : g.ext = true
  · have h1 := sofar_shut (sofar_turn h (g.good hg) g.word_ne hw (by omega))
    refine ⟨⟨(s ++ [37]).length, !false, true, g.word⟩, ⟨by simp [he], rfl, rfl⟩, ?_⟩
    unfold Gr.text
    rw [if_pos he]
    have e : s ++ (37 :: (g.word ++ [42]) ++ [37]) = s ++ [37] ++ (g.word ++ [42]) ++ [37] := by simp
    rw [e]
    exact h1
  · have he : g.ext = false := by simpa using he
    have h1 := sofar_same h (g.good hg) g.word_ne hw (by omega)
    refine ⟨⟨s.length, false, !false || !false, g.word⟩, ⟨by simp [he], rfl, rfl⟩, ?_⟩
    unfold Gr.text
    rw [if_neg (by simp [he])]
    exact h1
theorem sofar_grs : ∀ (gs : List Gr) (s : List UInt8) (want : List Wd), (∀ g ∈ gs, g.Ok) → Sofar s want false → want.length + gs.length ≤ 20000 → ∃ ds, WordsOf gs ds ∧ Sofar (s ++ texts gs) (want ++ ds) false
  | [], s, want, _, h, _ => ⟨[], .nil, by simpa [texts] using h⟩
  | g :: gs, s, want, ho, h, hl => by
    simp only [List.length_cons] at hl
    obtain ⟨d, h1, h2⟩ := sofar_gr g (ho g (by simp)) h (by omega)
    obtain ⟨ds, h3, h4⟩ := sofar_grs gs _ _ (fun x hx => ho x (by simp [hx])) h2 (by simp; omega)
    refine ⟨d :: ds, .cons h1 h3, ?_⟩
    rw [texts_cons]
    simpa using h4
theorem words_grs (gs : List Gr) (ho : ∀ g ∈ gs, g.Ok) (hn : gs.length ≤ 20000) (hl : (texts gs).length ≤ 1000000) : ∃ ds, WordsOf gs ds ∧ words (texts gs) = (ds, 0, 0) := by
  obtain ⟨ds, h1, h2⟩ := sofar_grs gs [] [] ho sofar_nil (by simpa using hn)
  exact ⟨ds, h1, sofar_done (by simpa using h2) hl⟩
theorem texts_len (gs : List Gr) (ho : ∀ g ∈ gs, g.Ok) : (texts gs).length ≤ 24 * gs.length := by
  induction gs with
  | nil => simp [texts]
  | cons g gs ih =>
    have h1 := g.word_len (ho g (by simp))
    have h2 := ih (fun x hx => ho x (by simp [hx]))
    have h3 : g.text.length ≤ 24 := by unfold Gr.text; split <;> simp <;> omega
    rw [texts_cons, List.length_append, List.length_cons]
    omega
structure Ob where
  dark : Bool
  x : Int
  y : Int
def Ob.cells (o : Ob) : List Value := [.bool o.dark, .int .i64 1, .int .i64 o.x, .int .i64 o.y, .int .i64 0, .int .i64 0, .int .i64 0, .int .i64 0, .int .i64 2500000, .slice none 0 0, .slice none 0 0]
def ocells (l : List Ob) : List Value := l.flatMap Ob.cells
def Ob.moved (o : Ob) (a b : Int) : Ob := ⟨o.dark, o.x + a, o.y + b⟩
structure Lev where
  step : Bool
  code : Int
  n : Int
  m : Int
  bx : Int
  by_ : Int
  objs : List Ob
structure St where
  unit : Int
  fmt : Bool
  a10 : Bool
  pick : Int
  x : Int
  y : Int
  dark : Bool
  blk : Option (List Ob)
  lev : Option Lev
  base : List Ob
  made : Nat
  ended : Bool
def St.start : St := ⟨0, false, false, 0, 0, 0, true, none, none, [], 0, false⟩
def St.puts (s : St) (l : List Ob) : St :=
  match s.lev with
  | some v => { s with lev := some { v with objs := v.objs ++ l }, made := s.made + l.length }
  | none => { s with base := s.base ++ l, made := s.made + l.length }
def copiesY (l : List Ob) (a : Int) (by_ : Int) : Nat → List Ob
  | 0 => []
  | k + 1 => copiesY l a by_ k ++ l.map (fun o => o.moved a ((k : Int) * by_))
def copies (l : List Ob) (bx by_ : Int) (m : Nat) : Nat → List Ob
  | 0 => []
  | i + 1 => copies l bx by_ m i ++ copiesY l ((i : Int) * bx) by_ m
def coordOf (l : List UInt8) : Int := ((numV l * 1000 : Nat) : Int)
def stepOf (c : UInt8) : Int := (((c.toNat - 48) * 10000000 : Nat) : Int)
structure Only (S : List Nat) (w w' : World) : Prop where
  os : w'.os = w.os
  tape : w'.tape = w.tape
  output : w'.output = w.output
  size : w.heap.size ≤ w'.heap.size
  block : ∀ b, b < w.heap.size → b ∉ S → w'.heap[b]? = w.heap[b]?
section
variable {S S' : List Nat} {w w1 w2 w' : World}
theorem Only.refl (S : List Nat) (w : World) : Only S w w := ⟨rfl, rfl, rfl, Nat.le_refl _, fun _ _ _ => rfl⟩
theorem Only.trans (h : Only S w w1) (k : Only S w1 w2) : Only S w w2 :=
  ⟨k.os.trans h.os, k.tape.trans h.tape, k.output.trans h.output, Nat.le_trans h.size k.size, fun b hb hn => (k.block b (Nat.lt_of_lt_of_le hb h.size) hn).trans (h.block b hb hn)⟩
theorem Only.then_ (h : Only S w w1) (k : Only S' w1 w2) (hs : ∀ b ∈ S', b ∈ S ∨ w.heap.size ≤ b) : Only S w w2 :=
  ⟨k.os.trans h.os, k.tape.trans h.tape, k.output.trans h.output, Nat.le_trans h.size k.size, fun b hb hn => (k.block b (Nat.lt_of_lt_of_le hb h.size) (fun hm => by rcases hs b hm with h1 | h1; exact hn h1; omega)).trans (h.block b hb hn)⟩
theorem Only.drew (h : Only S w w1) : Only S w w1.drew := ⟨h.os, h.tape, h.output, h.size, h.block⟩
theorem Only.drewN (h : Only S w w1) (n : Nat) : Only S w (w1.drewN n) := ⟨h.os, h.tape, h.output, h.size, h.block⟩
theorem Only.alloc (h : Only S w w1) (o : Obj) : Only S w (w1.alloc o) :=
  ⟨h.os, h.tape, h.output, Nat.le_trans h.size (by simp), fun b hb hn => (Below.heap_alloc w1 o b (Nat.lt_of_lt_of_le hb h.size)).trans (h.block b hb hn)⟩
theorem Only.setCell (h : Only S w w1) {p : Addr} (hp : p.block ∈ S ∨ w.heap.size ≤ p.block) (u : Value) : Only S w (w1.setCell p u) :=
  ⟨h.os, h.tape, h.output, Nat.le_trans h.size (by simp), fun b hb hn => (Below.heap_setCell w1 p u b (by rintro rfl; rcases hp with hp | hp; exact hn hp; omega)).trans (h.block b hb hn)⟩
theorem Only.below (h : Only S w w1) {B : Nat} (k : Below B w1 w2) (hB : w.heap.size ≤ B) : Only S w w2 :=
  ⟨k.os.trans h.os, k.tape.trans h.tape, k.output.trans h.output, Nat.le_trans h.size k.size, fun b hb hn => (k.block b (by omega)).trans (h.block b hb hn)⟩
theorem Only.grown (h : Only S w w1) {row : Option Nat} (k : w1.grownBy w2 row) (hr : ∀ b, row = some b → b ∈ S ∨ w.heap.size ≤ b) : Only S w w2 :=
  ⟨k.os.trans h.os, k.tape.trans h.tape, k.output.trans h.output, Nat.le_trans h.size k.size, fun b hb hn => (k.block b (Nat.lt_of_lt_of_le hb h.size) (fun e => by rcases hr b e.symm with h1 | h1; exact hn h1; omega)).trans (h.block b hb hn)⟩
theorem Only.mono (h : Only S w w') (hs : ∀ b ∈ S, b ∈ S') : Only S' w w' := ⟨h.os, h.tape, h.output, h.size, fun b hb hn => h.block b hb (fun hm => hn (hs b hm))⟩
theorem Only.toBelow (h : Only S w w') {B : Nat} (hB : B ≤ w.heap.size) (hs : ∀ b ∈ S, B ≤ b) : Below B w w' := ⟨h.os, h.tape, h.output, h.size, fun b hb => h.block b (by omega) (fun hm => by have := hs b hm; omega)⟩
theorem Only.of_below {B : Nat} (k : Below B w w') (hB : w.heap.size ≤ B) (S : List Nat) : Only S w w' := (Only.refl S w).below k hB
variable {g : Nat} {t : TypeId} {cs : Array Value} {M : Nat} {es : Array MapEntry} {clk : Nat} {base e size n : Nat} {v : Value} {xs : List Value}
theorem Only.blk (h : Only S w w') (k : Blk w g t cs) (hn : g ∉ S) : Blk w' g t cs := (h.block g k.lt hn).trans k
theorem Only.map (h : Only S w w') (k : IsMap w M es clk) (hn : M ∉ S) : IsMap w' M es clk := (h.block M k.lt hn).trans k
theorem Only.own (h : Only S w w') (k : w.ownsRow base e size v n xs) (hn : ∀ b, v.ownBlock = some b → b ∉ S) : w'.ownsRow base e size v n xs := own_same k fun b hb => h.block b (own_lt k hb) (hn b hb)
end
theorem onw {S : List Nat} {w w1 : World} (h : Only S w w1 := by (repeat' (first | (with_reducible exact Only.refl _ _) | (with_reducible assumption) | (with_reducible refine Only.drewN ?_ _) | (with_reducible refine Only.drew ?_) | (with_reducible refine Only.alloc ?_ _) | (with_reducible refine Only.setCell ?_ ?_ _) | (left; simp; done) | (right; omega) | (right; simp; done) | (right; simp; omega)))) : Only S w w1 := h
theorem zero167 (w : World) : (zeroValue 280).run Tryz.prog w = .ok (.agg #[.int .i64 0, .int .i64 0, .int .i64 0, .int .i64 0, .int .i64 0, .int .i64 0, .int .i64 0, .int .i64 0, .slice none 0 0, .slice none 0 0, .int .i64 0, .bool false, .bool false, .slice none 0 0]) w := by kernel_rfl
theorem taken_no (P M gL capL : Nat) (code : Int) {v0 v1 v2 v3 v4 v5 v7 v8 v9 v10 v11 v12 v13 v14 v15 v16 v17 v18 v19 v20 v22 v23 v24 : Value} (es : Array MapEntry) (clk : Nat) (w : World) (hP : Blk w P 159 #[v0, v1, v2, v3, v4, v5, .map (some M), v7, v8, v9, v10, v11, v12, v13, v14, v15, v16, v17, v18, v19, v20, .slice (some ⟨gL, 0, none⟩) 1 capL, v22, v23, v24]) (hM : IsMap w M es clk) (hf : Instr.findNow (.int .i64) (.int .i64 code) es.toList 0 = some none) (hcap : 1 ≤ capL) :
    Calls Tryz.prog 157 #[.pointer (some ⟨P, 0, none⟩), .int .i64 code] w fun e w' => e = .returned (.bool false) ∧ Below w.heap.size w w' := by
  have c := hP.cell
  have f := hP.frozen
  have l := hP.lt
  have HF := Lib.hid hf
  have HM := Lib.hid hM
  clear hP hf hM
  go_enter Tryz.func157, Tryz.ntmps157
  go_wp2_with (at_lookup; refine wpList_look _ rfl (.tmp 13) (.tmp 14) rfl (by simp [Act.eval]) HM.out code (by simp [Act.eval]) (.agg #[.int .i64 0, .int .i64 0, .int .i64 0, .int .i64 0, .int .i64 0, .int .i64 0, .int .i64 0, .int .i64 0, .slice none 0 0, .slice none 0 0, .int .i64 0, .bool false, .bool false, .slice none 0 0], false) (by rw [HF.out]; rfl) (fun _ w => zero167 w) ?_)
  all_goals
    refine wp_loop_rounds 1 ?_
    rw [rounds_succ]
    go_wp2_with fail
    go_ret
    exact ⟨rfl, by exact blw⟩
theorem define_fs (P : Nat) (A : Int) {v0 v6 v7 v8 v9 v10 v11 v12 v13 v14 v15 v16 v17 v18 v19 v20 v21 v22 v23 v24 : Value} (o1 o2 o3 o4 : Value) (w : World) (hP : Blk w P 159 #[v0, o1, o2, o3, o4, .bool false, v6, v7, v8, v9, v10, v11, v12, v13, v14, v15, v16, v17, v18, v19, v20, v21, v22, v23, v24]) :
    Calls Tryz.prog 100 #[.pointer (some ⟨P, 0, none⟩), .agg #[.int .i64 A, .int .i64 8, .int .i64 2, .int .i64 4, .bool false, .string { data := #[] }, .string { data := #[] }, .string { data := #[] }, .string { data := #[] }, .string { data := #[] }, .slice none 0 0, .slice none 0 0]] w fun e w' => e = .returned (.int .i64 0) ∧ Blk w' P 159 #[v0, .int .i64 1, .int .i64 2, .int .i64 4, .bool false, .bool true, v6, v7, v8, v9, v10, v11, v12, v13, v14, v15, v16, v17, v18, v19, v20, v21, v22, v23, v24] ∧ Only [P] w w' := by
  have c := hP.cell
  have f := hP.frozen
  have l := hP.lt
  have k := hP
  have HK := Lib.hid k
  clear hP k
  go_enter Tryz.func100, Tryz.ntmps100
  go_wp2_with fail
  refine (unitok_c _).mono ?_
  rintro e w1 ⟨rfl, hb⟩
  have k1 : Blk w1 P 159 #[v0, o1, o2, o3, o4, .bool false, v6, v7, v8, v9, v10, v11, v12, v13, v14, v15, v16, v17, v18, v19, v20, v21, v22, v23, v24] := (((HK.out).alloc _).alloc _).below hb (by simp; omega)
  have k2 : Blk w1 (w.heap.size + 1) 154 #[.int .i64 1, .int .i64 2, .int .i64 4, .bool false] := Blk.below (Blk.newAt (by simp)) hb (by simp)
  have hB1 : Only [P] w w1 := (((Only.refl _ _).alloc _).alloc _).below hb (by simp; omega)
  have l1 := hb.size
  have c1 := k1.cell
  have f1 := k1.frozen
  have c2 := k2.cell
  have l2 := k2.lt
  have K1 := Lib.hid k1
  clear hb c f k1 k2
  go_wp2_with fail
  go_ret
  exact ⟨rfl, ((((K1.out.set_ 1 _ rfl).set_ 2 _ rfl).set_ 3 _ rfl).set_ 4 _ rfl).set_ 5 _ rfl, by exact onw⟩
theorem define_mo (P : Nat) (A : Int) {v1 v2 v3 v4 v5 v6 v7 v8 v9 v10 v11 v12 v13 v14 v15 v16 v17 v18 v19 v20 v21 v22 v23 v24 : Value} (w : World) (hP : Blk w P 159 #[.int .i64 0, v1, v2, v3, v4, v5, v6, v7, v8, v9, v10, v11, v12, v13, v14, v15, v16, v17, v18, v19, v20, v21, v22, v23, v24]) :
    Calls Tryz.prog 100 #[.pointer (some ⟨P, 0, none⟩), .agg #[.int .i64 A, .int .i64 9, .int .i64 1, .int .i64 0, .bool false, .string { data := #[] }, .string { data := #[] }, .string { data := #[] }, .string { data := #[] }, .string { data := #[] }, .slice none 0 0, .slice none 0 0]] w fun e w' => e = .returned (.int .i64 0) ∧ Blk w' P 159 #[.int .i64 1, v1, v2, v3, v4, v5, v6, v7, v8, v9, v10, v11, v12, v13, v14, v15, v16, v17, v18, v19, v20, v21, v22, v23, v24] ∧ Only [P] w w' := by
  have c := hP.cell
  have f := hP.frozen
  have l := hP.lt
  have HK := Lib.hid hP
  clear hP
  go_enter Tryz.func100, Tryz.ntmps100
  go_wp2_with fail
  go_ret
  exact ⟨rfl, ((HK.out).set_ 0 _ rfl).alloc _, by exact onw⟩
theorem set_pick (P M : Nat) (A code : Int) {v0 v1 v2 v3 v4 v5 v8 v9 v10 v11 v12 v13 v14 v15 v16 v17 v18 v19 v20 v21 v22 v23 v24 : Value} (o1 : Value) (ak ar ar2 : Int) (rd bk : Bool) (pl po : Option Addr) (nl cl no co : Nat) (es : Array MapEntry) (clk : Nat) (w : World) (hP : Blk w P 159 #[v0, v1, v2, v3, v4, v5, .map (some M), o1, v8, v9, v10, v11, v12, v13, v14, v15, v16, v17, v18, v19, v20, v21, v22, v23, v24]) (hM : IsMap w M es clk) (hf : (Instr.findNow (.int .i64) (.int .i64 code) es.toList 0).map (fun r => r.map (·.2)) = some (some (.agg #[.int .i64 ak, .int .i64 0, .int .i64 0, .int .i64 0, .int .i64 0, .int .i64 0, .int .i64 0, .int .i64 ar, .slice pl nl cl, .slice none 0 0, .int .i64 ar2, .bool rd, .bool bk, .slice po no co]))) :
    Calls Tryz.prog 101 #[.pointer (some ⟨P, 0, none⟩), .agg #[.int .i64 A, .int .i64 6, .int .i64 code, .int .i64 0, .bool false, .string { data := #[] }, .string { data := #[] }, .string { data := #[] }, .string { data := #[] }, .string { data := #[] }, .slice none 0 0, .slice none 0 0]] w fun e w' => e = .returned (.int .i64 0) ∧ Blk w' P 159 #[v0, v1, v2, v3, v4, v5, .map (some M), .int .i64 code, v8, v9, v10, v11, v12, v13, v14, v15, v16, v17, v18, v19, v20, v21, v22, v23, v24] ∧ Only [P] w w' := by
  have c := hP.cell
  have f := hP.frozen
  have l := hP.lt
  have HK := Lib.hid hP
  have hl : ∀ w', w'.heap[M]? = some (.map es clk) → (Instr.lookup 151 (.map (some M)) (.int .i64 code) true).run Tryz.prog w' = .ok (.tuple #[.agg #[.int .i64 ak, .int .i64 0, .int .i64 0, .int .i64 0, .int .i64 0, .int .i64 0, .int .i64 0, .int .i64 ar, .slice pl nl cl, .slice none 0 0, .int .i64 ar2, .bool rd, .bool bk, .slice po no co], .bool true]) w' := fun w' hm => look_run w' hm code (.agg #[.int .i64 ak, .int .i64 0, .int .i64 0, .int .i64 0, .int .i64 0, .int .i64 0, .int .i64 0, .int .i64 ar, .slice pl nl cl, .slice none 0 0, .int .i64 ar2, .bool rd, .bool bk, .slice po no co], true) hf (fun h => by cases h)
  have lM := hM.lt
  clear hP hf
  go_enter Tryz.func101, Tryz.ntmps101
  go_wp2_with fail
  have hl1 := hl _ ((hM.alloc (.cells #[.int .i64 A, .int .i64 6, .int .i64 code, .int .i64 0, .bool false, .string { data := #[] }, .string { data := #[] }, .string { data := #[] }, .string { data := #[] }, .string { data := #[] }, .slice none 0 0, .slice none 0 0] 103)).drew)
  have hl2 := hl _ (((hM.alloc (.cells #[.int .i64 A, .int .i64 6, .int .i64 code, .int .i64 0, .bool false, .string { data := #[] }, .string { data := #[] }, .string { data := #[] }, .string { data := #[] }, .string { data := #[] }, .slice none 0 0, .slice none 0 0] 103)).alloc (.cells #[.int .i64 0, .int .i64 0, .int .i64 0, .int .i64 0, .int .i64 0, .int .i64 0, .int .i64 0, .int .i64 0, .slice none 0 0, .slice none 0 0, .int .i64 0, .bool false, .bool false, .slice none 0 0] 280)).drew)
  clear hl
  go_region
  all_goals
    go_wp2_with fail
    go_ret
    refine ⟨rfl, ?_, ?_⟩
    · exact ((((HK.out).set_ 7 _ rfl).alloc _).alloc _).drew
    · exact onw
theorem move_c (P : Nat) {v0 v1 v2 v3 v4 v5 v6 v7 v8 v9 v10 v11 v12 v13 v14 v15 v16 v17 v18 v20 v21 v22 v23 v24 : Value} (x y : Int) (w : World) (hP : Blk w P 159 #[v0, v1, v2, v3, v4, v5, v6, v7, v8, v9, v10, v11, v12, v13, v14, v15, v16, v17, v18, .bool false, v20, v21, v22, v23, v24]) :
    Calls Tryz.prog 164 #[.pointer (some ⟨P, 0, none⟩), .agg #[.int .i64 x, .int .i64 y]] w fun e w' => e = .returned (.int .i64 0) ∧ Below w.heap.size w w' := by
  have c := hP.cell
  have f := hP.frozen
  have l := hP.lt
  clear hP
  go_enter Tryz.func164, Tryz.ntmps164
  go_wp2_with fail
  go_ret
  exact ⟨rfl, by exact blw⟩
def setAt (xs : List Value) : Nat → List Value → List Value
  | _, [] => xs
  | o, v :: r => setAt (xs.set o v) (o + 1) r
theorem setAt_end (xs : List Value) : ∀ (old new done : List Value), old.length = new.length → setAt (xs ++ done ++ old) (xs.length + done.length) new = xs ++ done ++ new
  | [], [], done, _ => by simp [setAt]
  | [], _ :: _, _, h => by simp at h
  | _ :: _, [], _, h => by simp at h
  | a :: old, b :: new, done, h => by
    simp only [List.length_cons, Nat.add_right_cancel_iff] at h
    rw [setAt]
    have e : (xs ++ done ++ a :: old).set (xs.length + done.length) b = xs ++ (done ++ [b]) ++ old := by
      rw [← List.length_append, List.set_append_right _ _ (Nat.le_refl _)]
      simp
    rw [e, show xs.length + done.length + 1 = xs.length + (done ++ [b]).length by simp; omega, setAt_end xs old new (done ++ [b]) h]
    simp
section
variable {base e size n g cap : Nat}
theorem own_setCells : ∀ (vs : List Value) (o : Nat) (w : World) (xs : List Value), w.ownsRow base e size (.slice (some ⟨g, 0, none⟩) n cap) n xs →
    (w.setCells g o vs).ownsRow base e size (.slice (some ⟨g, 0, none⟩) n cap) n (setAt xs o vs) ∧ w.grownBy (w.setCells g o vs) (some g)
  | [], _, w, _, h => ⟨h, World.grownBy.refl _ _⟩
  | v :: r, o, w, xs, h => by
    obtain ⟨h1, h2⟩ := h.stored o v
    obtain ⟨h3, h4⟩ := own_setCells r (o + 1) _ _ h1
    exact ⟨h3, h2.trans h4⟩
end
end Go.Proofs.YtfajckkbinbpiaaGreatDoor
