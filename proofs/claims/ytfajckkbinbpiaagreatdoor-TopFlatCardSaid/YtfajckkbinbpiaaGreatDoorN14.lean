/- The plain law of the texts of the statement: the words that they are read as. What a plotter holds, and what the commands of the statement do to it. A world that is as another was but for some blocks and for new ones. Shapes, objects and groups of objects as they lie in memory. -/
import Derived.Test.YtfajckkbinbpiaaGreatDoorN01
import Derived.Test.YtfajckkbinbpiaaGreatDoorN02
import Derived.Test.YtfajckkbinbpiaaGreatDoorN09
import Derived.Test.YtfajckkbinbpiaaGreatDoorN12
import Derived.Test.YtfajckkbinbpiaaGreatDoorN13
namespace Go.Proofs.YtfajckkbinbpiaaGreatDoor
set_option maxRecDepth 100000
set_option maxHeartbeats 32000000
set_option linter.unusedVariables false
set_option linter.unusedSimpArgs false
open Go.RowKit
def Good (c : UInt8) : Prop := 32 ≤ c.toNat ∧ c.toNat ≤ 126 ∧ c.toNat ≠ 42 ∧ c.toNat ≠ 37
theorem take_good {r : Rd} {c : UInt8} {i : Nat} (h : Good c) (h1 : ¬ (r.text = [] ∧ r.words.length = 20000)) (h2 : r.text.length ≠ 10000) :
    take r c i = .ok ⟨r.words, r.text ++ [c], if r.text = [] then i else r.at_, r.group, r.inner⟩ := by
  obtain ⟨g1, g2, g3, g4⟩ := h
  rw [take_plain (by omega) g3 g4, if_neg h1, if_neg h2]
theorem run_more (x : List UInt8) : ∀ (i : Nat) (r : Rd), (∀ c ∈ x, Good c) → r.text ≠ [] → r.text.length + x.length ≤ 10000 → run x i r = .ok ⟨r.words, r.text ++ x, r.at_, r.group, r.inner⟩ := by
  induction x with
  | nil => intro i r _ _ _; simp [run]
  | cons c x ih =>
    intro i r hg hne hl
    simp only [List.length_cons] at hl
    rw [run_cons (take_good (hg c (by simp)) (fun h => hne h.1) (by omega)), ih (i + 1) _ (fun d hd => hg d (by simp [hd])) (by simp) (by simp; omega)]
    simp [hne]
theorem run_text (x : List UInt8) (i : Nat) (r : Rd) (hg : ∀ c ∈ x, Good c) (hx : x ≠ []) (ht : r.text = []) (hw : r.words.length ≠ 20000) (hl : x.length ≤ 10000) : run x i r = .ok ⟨r.words, x, i, r.group, r.inner⟩ := by
  match x, hx with
  | c :: x, _ =>
    simp only [List.length_cons] at hl
    rw [run_cons (take_good (hg c (by simp)) (fun h => hw h.2) (by rw [ht]; simp)), run_more x (i + 1) _ (fun d hd => hg d (by simp [hd])) (by simp) (by simp [ht]; omega)]
    simp [ht]
def Sofar (s : List UInt8) (want : List Wd) (op : Bool) : Prop :=
  ∃ r, run s 0 Rd.start = .ok r ∧ r.words = want ∧ r.text = [] ∧ r.group = op ∧ (op = true → r.inner ≠ 0) ∧ (op = false → r.inner = 0)
theorem sofar_nil : Sofar [] [] false := ⟨Rd.start, rfl, rfl, rfl, rfl, by simp, fun _ => rfl⟩
theorem sofar_word {s x : List UInt8} {r : Rd} (hr : run s 0 Rd.start = .ok r) (ht : r.text = []) (hg : ∀ c ∈ x, Good c) (hx : x ≠ []) (hw : r.words.length ≠ 20000) (hl : x.length ≤ 10000) :
    run (s ++ (x ++ [42])) 0 Rd.start = .ok ⟨r.words ++ [⟨s.length, r.group, r.inner == 0, x⟩], [], s.length, r.group, if r.group then r.inner + 1 else r.inner⟩ := by
  rw [run_append, hr]
  simp only [Nat.zero_add]
  rw [run_append, run_text x s.length r hg hx ht hw hl]
  simp only []
  rw [run_cons (by rw [take_star rfl, if_neg hx])]
  rfl
theorem sofar_pct {s : List UInt8} {r : Rd} (hr : run s 0 Rd.start = .ok r) (ht : r.text = []) (hi : ¬ (r.group = true ∧ r.inner = 0)) : run (s ++ [37]) 0 Rd.start = .ok ⟨r.words, r.text, r.at_, !r.group, 0⟩ := by
  rw [run_append, hr]
  simp only []
  rw [run_cons (by rw [take_pct rfl, if_neg (by rintro (h | h); exact h ht; exact hi h)])]
  rfl
theorem sofar_same {s x : List UInt8} {want : List Wd} {op : Bool} (h : Sofar s want op) (hg : ∀ c ∈ x, Good c) (hx : x ≠ []) (hw : want.length ≠ 20000) (hl : x.length ≤ 10000) :
    Sofar (s ++ (x ++ [42])) (want ++ [⟨s.length, op, !op || !op, x⟩]) op := by
  obtain ⟨r, hr, rfl, ht, rfl, h1, h2⟩ := h
  refine ⟨_, sofar_word hr ht hg hx hw hl, ?_, rfl, rfl, ?_, ?_⟩
  · have e : (r.inner == 0) = (!r.group || !r.group) := by
      cases hgr : r.group
      · simp [h2 hgr]
      · have := h1 hgr; simp [this]
    rw [e]
  · intro hgr; simp [hgr]
  · intro hgr; simp [hgr, h2 hgr]
theorem sofar_turn {s x : List UInt8} {want : List Wd} {op : Bool} (h : Sofar s want op) (hg : ∀ c ∈ x, Good c) (hx : x ≠ []) (hw : want.length ≠ 20000) (hl : x.length ≤ 10000) :
    Sofar ((s ++ [37]) ++ (x ++ [42])) (want ++ [⟨(s ++ [37]).length, !op, true, x⟩]) (!op) := by
  obtain ⟨r, hr, rfl, ht, rfl, h1, h2⟩ := h
  have hp := sofar_pct hr ht (fun hh => h1 hh.1 hh.2)
  refine ⟨_, sofar_word hp (by exact ht) hg hx hw hl, ?_, rfl, rfl, ?_, ?_⟩
  · rfl
  · intro hgr; simp [hgr]
  · intro hgr; simp [hgr]
theorem sofar_done {s : List UInt8} {want : List Wd} (h : Sofar s want false) (hs : s.length ≤ 1000000) : words s = (want, 0, 0) := by
  obtain ⟨r, hr, rfl, ht, hg, _, _⟩ := h
  exact words_done (by omega) hr (by rw [ht, hg]; simp)
theorem sofar_shut {s : List UInt8} {want : List Wd} (h : Sofar s want true) : Sofar (s ++ [37]) want false := by
  obtain ⟨r, hr, rfl, ht, hg, h1, h2⟩ := h
  exact ⟨_, sofar_pct hr ht (fun hh => h1 rfl hh.2), rfl, ht, by simp [hg], by simp, fun _ => rfl⟩
inductive Gr where
  | fs | mo | adc | adr | d10 | d20 | m02 | lpc | lpd | sre | ab | abe
  | sr (n m x y : UInt8)
  | op2 (a b : List UInt8)
  | op3 (a b : List UInt8)
def Gr.ext : Gr → Bool
  | .d10 | .d20 | .m02 | .op2 _ _ | .op3 _ _ => false
  | _ => true
def Gr.word : Gr → List UInt8
  | .fs => [70, 83, 76, 65, 88, 50, 52, 89, 50, 52]
  | .mo => [77, 79, 77, 77]
  | .adc => [65, 68, 68, 49, 48, 67, 44, 48, 46, 53]
  | .adr => [65, 68, 68, 49, 48, 82, 44, 52, 88, 52]
  | .d10 => [68, 49, 48]
  | .d20 => [68, 50, 48]
  | .m02 => [77, 48, 50]
  | .lpc => [76, 80, 67]
  | .lpd => [76, 80, 68]
  | .sre => [83, 82]
  | .ab => [65, 66, 68, 50, 48]
  | .abe => [65, 66]
  | .sr n m x y => [83, 82, 88, n, 89, m, 73, x, 74, y]
  | .op2 a b => 88 :: (a ++ 89 :: (b ++ [68, 48, 50]))
  | .op3 a b => 88 :: (a ++ 89 :: (b ++ [68, 48, 51]))
def Gr.kind : Gr → Int
  | .fs => 8
  | .mo => 9
  | .adc => 10
  | .adr => 10
  | .d10 => 6
  | .d20 => 6
  | .m02 => 5
  | .lpc => 15
  | .lpd => 15
  | .sre => 14
  | .ab => 11
  | .abe => 12
  | .sr _ _ _ _ => 13
  | .op2 _ _ | .op3 _ _ => 7
def Gr.n : Gr → Int
  | .fs => 2
  | .mo => 1
  | .adc => 10
  | .adr => 10
  | .d10 => 10
  | .d20 => 20
  | .m02 => 0
  | .lpc => 0
  | .lpd => 0
  | .sre => 0
  | .ab => 20
  | .abe => 0
  | .sr n _ _ _ => ((n.toNat - 48 : Nat) : Int)
  | .op2 _ _ => 2
  | .op3 _ _ => 3
def Gr.m : Gr → Int
  | .fs => 4
  | .sr _ m _ _ => ((m.toNat - 48 : Nat) : Int)
  | _ => 0
def Gr.on : Gr → Bool
  | .lpd => true
  | _ => false
def Gr.name : Gr → List UInt8
  | .adc => [67]
  | .adr => [82]
  | _ => []
def Gr.x : Gr → List UInt8
  | .op2 a _ | .op3 a _ => a
  | _ => []
def Gr.y : Gr → List UInt8
  | .op2 _ b | .op3 _ b => b
  | _ => []
def Gr.nums : Gr → List Int
  | .adc => [500000]
  | .adr => [4000000, 4000000]
  | .sr _ _ x y => [(((x.toNat - 48) * 1000000 : Nat) : Int), (((y.toNat - 48) * 1000000 : Nat) : Int)]
  | _ => []
def Gr.cells (g : Gr) (at_ : Int) (v : Value) : List Value := [.int .i64 at_, .int .i64 g.kind, .int .i64 g.n, .int .i64 g.m, .bool g.on, .string (bs g.name), .string (bs g.x), .string (bs g.y), .string (bs []), .string (bs []), v, .slice none 0 0]
def Gr.Ok : Gr → Prop
  | .sr n m x y => Dig n ∧ Dig m ∧ Dig x ∧ Dig y
  | .op2 a b | .op3 a b => (Digits a ∧ 0 < a.length ∧ a.length ≤ 6 ∧ numV a ≤ 536870) ∧ (Digits b ∧ 0 < b.length ∧ b.length ≤ 6 ∧ numV b ≤ 536870)
  | _ => True
def Gr.text (g : Gr) : List UInt8 := if g.ext then (37 :: (g.word ++ [42])) ++ [37] else g.word ++ [42]
def texts (gs : List Gr) : List UInt8 := gs.flatMap Gr.text
theorem texts_cons (g : Gr) (gs : List Gr) : texts (g :: gs) = g.text ++ texts gs := rfl
theorem digit_good {c : UInt8} (h : 48 ≤ c.toNat ∧ c.toNat ≤ 57) : Good c := ⟨by omega, by omega, by omega, by omega⟩
def goodB (c : UInt8) : Bool := decide (32 ≤ c.toNat) && decide (c.toNat ≤ 126) && (c.toNat != 42) && (c.toNat != 37)
theorem good_of (l : List UInt8) (h : l.all goodB = true) : ∀ c ∈ l, Good c := by
  intro c hc
  have := List.all_eq_true.1 h c hc
  simp only [goodB, Bool.and_eq_true, decide_eq_true_eq, bne_iff_ne] at this
  exact ⟨this.1.1.1, this.1.1.2, this.1.2, this.2⟩
theorem good_one (c : UInt8) (h : goodB c = true) : Good c := good_of [c] (by simpa using h) c (by simp)
theorem good_op {a b : List UInt8} (ha : Digits a) (hb : Digits b) (z : UInt8) (hz : Good z) : ∀ c ∈ 88 :: (a ++ 89 :: (b ++ [68, 48, z])), Good c := by
  intro c hc
  simp only [List.mem_cons, List.mem_append, List.not_mem_nil, or_false] at hc
  rcases hc with rfl | hc | rfl | hc | rfl | rfl | rfl
  · exact good_of [88] rfl _ (by simp)
  · exact digit_good (ha c hc)
  · exact good_of [89] rfl _ (by simp)
  · exact digit_good (hb c hc)
  · exact good_of [68] rfl _ (by simp)
  · exact good_of [48] rfl _ (by simp)
  · exact hz
theorem Gr.good (g : Gr) (h : g.Ok) : ∀ c ∈ g.word, Good c := by
  cases g
  case sr n m x y =>
    obtain ⟨h1, h2, h3, h4⟩ := h
    intro c hc
    simp only [Gr.word, List.mem_cons, List.not_mem_nil, or_false] at hc
    rcases hc with rfl | rfl | rfl | rfl | rfl | rfl | rfl | rfl | rfl | rfl
    all_goals first | exact digit_good ‹_› | exact good_one _ rfl
  case op2 a b => exact good_op h.1.1 h.2.1 50 (good_of [50] rfl _ (by simp))
  case op3 a b => exact good_op h.1.1 h.2.1 51 (good_of [51] rfl _ (by simp))
  all_goals exact good_of _ rfl
theorem Gr.word_ne (g : Gr) : g.word ≠ [] := by cases g <;> simp [Gr.word]
theorem Gr.word_len (g : Gr) (h : g.Ok) : g.word.length ≤ 20 := by
  cases g
  case op2 a b => have h1 := h.1.2.2.1; have h2 := h.2.2.2.1; simp [Gr.word]; omega
  case op3 a b => have h1 := h.1.2.2.1; have h2 := h.2.2.2.1; simp [Gr.word]; omega
  all_goals simp [Gr.word]
def WordOf (g : Gr) (d : Wd) : Prop := d.ext = g.ext ∧ d.first = true ∧ d.text = g.word
inductive WordsOf : List Gr → List Wd → Prop
  | nil : WordsOf [] []
  | cons {g : Gr} {d : Wd} {gs : List Gr} {ds : List Wd} : WordOf g d → WordsOf gs ds → WordsOf (g :: gs) (d :: ds)
theorem WordsOf.length {gs : List Gr} {ds : List Wd} (h : WordsOf gs ds) : ds.length = gs.length := by
  induction h with
  | nil => rfl
  | cons _ _ ih => simp [ih]
theorem WordsOf.at {gs : List Gr} {ds : List Wd} (h : WordsOf gs ds) (k : Nat) (hk : k < gs.length) (hd : k < ds.length) : WordOf gs[k] ds[k] := by
  induction h generalizing k with
  | nil => simp at hk
  | cons h1 _ ih =>
    cases k with
    | zero => exact h1
    | succ k => exact ih k (by simpa using hk) (by simpa using hd)
theorem sofar_gr {s : List UInt8} {want : List Wd} (g : Gr) (hg : g.Ok) (h : Sofar s want false) (hw : want.length ≠ 20000) : ∃ d, WordOf g d ∧ Sofar (s ++ g.text) (want ++ [d]) false := by
  have hl := g.word_len hg
  by_cases he : g.ext = true
  · have h1 := sofar_shut (sofar_turn h (g.good hg) g.word_ne hw (by omega))
    refine ⟨⟨(s ++ [37]).length, !false, true, g.word⟩, ⟨by simp [he], rfl, rfl⟩, ?_⟩
    unfold Gr.text
    rw [if_pos he]
    have e : s ++ (37 :: (g.word ++ [42]) ++ [37]) = s ++ [37] ++ (g.word ++ [42]) ++ [37] := by simp
    rw [e]
    exact h1
  · have he : g.ext = false := by simpa using he
    have h1 := sofar_same h (g.good hg) g.word_ne hw (by omega)
    refine ⟨⟨s.length, false, !false || !false, g.word⟩, ⟨by simp [he], rfl, rfl⟩, ?_⟩
    unfold Gr.text
    rw [if_neg (by simp [he])]
    exact h1
theorem sofar_grs : ∀ (gs : List Gr) (s : List UInt8) (want : List Wd), (∀ g ∈ gs, g.Ok) → Sofar s want false → want.length + gs.length ≤ 20000 → ∃ ds, WordsOf gs ds ∧ Sofar (s ++ texts gs) (want ++ ds) false
  | [], s, want, _, h, _ => ⟨[], .nil, by simpa [texts] using h⟩
  | g :: gs, s, want, ho, h, hl => by
    simp only [List.length_cons] at hl
    obtain ⟨d, h1, h2⟩ := sofar_gr g (ho g (by simp)) h (by omega)
    obtain ⟨ds, h3, h4⟩ := sofar_grs gs _ _ (fun x hx => ho x (by simp [hx])) h2 (by simp; omega)
    refine ⟨d :: ds, .cons h1 h3, ?_⟩
    rw [texts_cons]
    simpa using h4
theorem words_grs (gs : List Gr) (ho : ∀ g ∈ gs, g.Ok) (hn : gs.length ≤ 20000) (hl : (texts gs).length ≤ 1000000) : ∃ ds, WordsOf gs ds ∧ words (texts gs) = (ds, 0, 0) := by
  obtain ⟨ds, h1, h2⟩ := sofar_grs gs [] [] ho sofar_nil (by simpa using hn)
  exact ⟨ds, h1, sofar_done (by simpa using h2) hl⟩
structure Ob where
  dark : Bool
  x : Int
  y : Int
def Ob.cells (o : Ob) : List Value := [.bool o.dark, .int .i64 1, .int .i64 o.x, .int .i64 o.y, .int .i64 0, .int .i64 0, .int .i64 0, .int .i64 0, .int .i64 2500000, .slice none 0 0, .slice none 0 0]
def ocells (l : List Ob) : List Value := l.flatMap Ob.cells
structure Lev where
  step : Bool
  code : Int
  n : Int
  m : Int
  bx : Int
  by_ : Int
  objs : List Ob
structure St where
  unit : Int
  fmt : Bool
  a10 : Bool
  pick : Int
  x : Int
  y : Int
  dark : Bool
  blk : Option (List Ob)
  lev : Option Lev
  base : List Ob
  made : Nat
  ended : Bool
def St.start : St := ⟨0, false, false, 0, 0, 0, true, none, none, [], 0, false⟩
def coordOf (l : List UInt8) : Int := ((numV l * 1000 : Nat) : Int)
structure Only (S : List Nat) (w w' : World) : Prop where
  os : w'.os = w.os
  tape : w'.tape = w.tape
  output : w'.output = w.output
  size : w.heap.size ≤ w'.heap.size
  block : ∀ b, b < w.heap.size → b ∉ S → w'.heap[b]? = w.heap[b]?
section
variable {S S' : List Nat} {w w1 w2 w' : World}
theorem Only.refl (S : List Nat) (w : World) : Only S w w := ⟨rfl, rfl, rfl, Nat.le_refl _, fun _ _ _ => rfl⟩
theorem Only.trans (h : Only S w w1) (k : Only S w1 w2) : Only S w w2 :=
  ⟨k.os.trans h.os, k.tape.trans h.tape, k.output.trans h.output, Nat.le_trans h.size k.size, fun b hb hn => (k.block b (Nat.lt_of_lt_of_le hb h.size) hn).trans (h.block b hb hn)⟩
theorem Only.then_ (h : Only S w w1) (k : Only S' w1 w2) (hs : ∀ b ∈ S', b ∈ S ∨ w.heap.size ≤ b) : Only S w w2 :=
  ⟨k.os.trans h.os, k.tape.trans h.tape, k.output.trans h.output, Nat.le_trans h.size k.size, fun b hb hn => (k.block b (Nat.lt_of_lt_of_le hb h.size) (fun hm => by rcases hs b hm with h1 | h1; exact hn h1; omega)).trans (h.block b hb hn)⟩
theorem Only.drew (h : Only S w w1) : Only S w w1.drew := ⟨h.os, h.tape, h.output, h.size, h.block⟩
theorem Only.drewN (h : Only S w w1) (n : Nat) : Only S w (w1.drewN n) := ⟨h.os, h.tape, h.output, h.size, h.block⟩
theorem Only.alloc (h : Only S w w1) (o : Obj) : Only S w (w1.alloc o) :=
  ⟨h.os, h.tape, h.output, Nat.le_trans h.size (by simp), fun b hb hn => (Below.heap_alloc w1 o b (Nat.lt_of_lt_of_le hb h.size)).trans (h.block b hb hn)⟩
theorem Only.setCell (h : Only S w w1) {p : Addr} (hp : p.block ∈ S ∨ w.heap.size ≤ p.block) (u : Value) : Only S w (w1.setCell p u) :=
  ⟨h.os, h.tape, h.output, Nat.le_trans h.size (by simp), fun b hb hn => (Below.heap_setCell w1 p u b (by rintro rfl; rcases hp with hp | hp; exact hn hp; omega)).trans (h.block b hb hn)⟩
theorem Only.below (h : Only S w w1) {B : Nat} (k : Below B w1 w2) (hB : w.heap.size ≤ B) : Only S w w2 :=
  ⟨k.os.trans h.os, k.tape.trans h.tape, k.output.trans h.output, Nat.le_trans h.size k.size, fun b hb hn => (k.block b (by omega)).trans (h.block b hb hn)⟩
theorem Only.grown (h : Only S w w1) {row : Option Nat} (k : w1.grownBy w2 row) (hr : ∀ b, row = some b → b ∈ S ∨ w.heap.size ≤ b) : Only S w w2 :=
  ⟨k.os.trans h.os, k.tape.trans h.tape, k.output.trans h.output, Nat.le_trans h.size k.size, fun b hb hn => (k.block b (Nat.lt_of_lt_of_le hb h.size) (fun e => by rcases hr b e.symm with h1 | h1; exact hn h1; omega)).trans (h.block b hb hn)⟩
theorem Only.mono (h : Only S w w') (hs : ∀ b ∈ S, b ∈ S') : Only S' w w' := ⟨h.os, h.tape, h.output, h.size, fun b hb hn => h.block b hb (fun hm => hn (hs b hm))⟩
theorem Only.toBelow (h : Only S w w') {B : Nat} (hB : B ≤ w.heap.size) (hs : ∀ b ∈ S, B ≤ b) : Below B w w' := ⟨h.os, h.tape, h.output, h.size, fun b hb => h.block b (by omega) (fun hm => by have := hs b hm; omega)⟩
theorem Only.of_below {B : Nat} (k : Below B w w') (hB : w.heap.size ≤ B) (S : List Nat) : Only S w w' := (Only.refl S w).below k hB
variable {g : Nat} {t : TypeId} {cs : Array Value} {M : Nat} {es : Array MapEntry} {clk : Nat} {base e size n : Nat} {v : Value} {xs : List Value}
theorem Only.blk (h : Only S w w') (k : Blk w g t cs) (hn : g ∉ S) : Blk w' g t cs := (h.block g k.lt hn).trans k
theorem Only.map (h : Only S w w') (k : IsMap w M es clk) (hn : M ∉ S) : IsMap w' M es clk := (h.block M k.lt hn).trans k
theorem Only.own (h : Only S w w') (k : w.ownsRow base e size v n xs) (hn : ∀ b, v.ownBlock = some b → b ∉ S) : w'.ownsRow base e size v n xs := own_same k fun b hb => h.block b (own_lt k hb) (hn b hb)
end
theorem onw {S : List Nat} {w w1 : World} (h : Only S w w1 := by (repeat' (first | (with_reducible exact Only.refl _ _) | (with_reducible assumption) | (with_reducible refine Only.drewN ?_ _) | (with_reducible refine Only.drew ?_) | (with_reducible refine Only.alloc ?_ _) | (with_reducible refine Only.setCell ?_ ?_ _) | (left; simp; done) | (right; omega) | (right; simp; done) | (right; simp; omega)))) : Only S w w1 := h
theorem cells_at {α : Type} (f : α → List Value) (n : Nat) : ∀ (l : List α), (∀ x ∈ l, (f x).length = n) → ∀ (k : Nat) (hk : k < l.length) (j : Nat), j < n → (l.flatMap f)[k * n + j]? = (f l[k])[j]?
  | [], _, k, hk, _, _ => by simp at hk
  | x :: l, h, k, hk, j, hj => by
    have hx := h x (List.mem_cons_self ..)
    rw [List.flatMap_cons]
    cases k with
    | zero => rw [List.getElem?_append_left (by omega)]; simp
    | succ k =>
      rw [List.getElem?_append_right (by rw [hx, Nat.add_mul]; omega), hx]
      have := cells_at f n l (fun y hy => h y (List.mem_cons_of_mem _ hy)) k (by simpa using hk) j hj
      rw [show (k + 1) * n + j - n = k * n + j by rw [Nat.add_mul]; omega, this]
      rfl
def shA (s : Geo.Sh) (L : Value) : Array Value := match s with
  | .disc x y r => #[.int .i64 1, .int .i64 x, .int .i64 y, .int .i64 0, .int .i64 0, .int .i64 0, .int .i64 0, .int .i64 r, .slice none 0 0, .slice none 0 0]
  | .line x y c d r => #[.int .i64 3, .int .i64 x, .int .i64 y, .int .i64 c, .int .i64 d, .int .i64 0, .int .i64 0, .int .i64 r, .slice none 0 0, .slice none 0 0]
  | .poly _ => #[.int .i64 2, .int .i64 0, .int .i64 0, .int .i64 0, .int .i64 0, .int .i64 0, .int .i64 0, .int .i64 0, L, .slice none 0 0]
theorem shA_form (s : Geo.Sh) (L : Value) : ∃ (k x y c d r : Int) (l : Value), shA s L = #[.int .i64 k, .int .i64 x, .int .i64 y, .int .i64 c, .int .i64 d, .int .i64 0, .int .i64 0, .int .i64 r, l, .slice none 0 0] ∧ (l = L ∨ l = .slice none 0 0) := by
  cases s with
  | disc => exact ⟨_, _, _, _, _, _, _, rfl, .inr rfl⟩
  | line => exact ⟨_, _, _, _, _, _, _, rfl, .inr rfl⟩
  | poly => exact ⟨_, _, _, _, _, _, _, rfl, .inl rfl⟩
def PtsAt (S : List Nat) (w : World) (v : Value) (c : List Geo.Pt) : Prop :=
  ∃ p cap, v = .slice p c.length cap ∧ (c ≠ [] → ∃ b, p = some ⟨b, 0, none⟩ ∧ b ∉ S ∧ b < w.heap.size ∧ ∀ j (h : j < c.length), w.cell? ⟨b, j * 2, none⟩ = some (.int .i64 c[j].1) ∧ w.cell? ⟨b, j * 2 + 1, none⟩ = some (.int .i64 c[j].2))
def PolyAt (S : List Nat) (w : World) (v : Value) (l : List (List Geo.Pt)) : Prop :=
  ∃ p cap, v = .slice p l.length cap ∧ (l ≠ [] → ∃ b, p = some ⟨b, 0, none⟩ ∧ b ∉ S ∧ b < w.heap.size ∧ ∀ i (h : i < l.length), ∃ u, w.cell? ⟨b, i, none⟩ = some u ∧ PtsAt S w u l[i])
def ShAt (S : List Nat) (w : World) (s : Geo.Sh) (L : Value) : Prop := match s with
  | .poly l => PolyAt S w L l
  | _ => True
abbrev Obj2 := Geo.Ob × Value
def oCells (o : Obj2) : List Value := .bool o.1.1 :: (shA o.1.2 o.2).toList
theorem oCells_len (o : Obj2) : (oCells o).length = 11 := by
  obtain ⟨k, x, y, c, d, r, l, h, _⟩ := shA_form o.1.2 o.2
  simp [oCells, h]
def RowAt (S : List Nat) (w : World) (v : Value) (n m : Nat) (cs : List Value) : Prop :=
  ∃ p cap, v = .slice p n cap ∧ (0 < n → ∃ b, p = some ⟨b, 0, none⟩ ∧ b ∉ S ∧ b < w.heap.size ∧ ∀ k j u, k < n → j < m → cs[k * m + j]? = some u → w.cell? ⟨b, k * m + j, none⟩ = some u)
def ObjsAt (S : List Nat) (w : World) (v : Value) (l : List Obj2) : Prop := RowAt S w v l.length 11 (l.flatMap oCells) ∧ ∀ o ∈ l, ShAt S w o.1.2 o.2
abbrev Ent2 := Geo.Ent × Value
def eCells (e : Ent2) : List Value := [.int .i64 e.1.2.x0, .int .i64 e.1.2.y0, .int .i64 e.1.2.x1, .int .i64 e.1.2.y1, .bool false]
def Ent2.obj (e : Ent2) : Obj2 := (e.1.1, e.2)
def GroupAt (S : List Nat) (w : World) (v1 v2 : Value) (l : List Ent2) : Prop := ObjsAt S w v1 (l.map Ent2.obj) ∧ RowAt S w v2 l.length 5 (l.flatMap eCells)
section
variable {S S' : List Nat} {w w' : World} {v : Value}
theorem PtsAt.to {c : List Geo.Pt} (h : PtsAt S w v c) (hs : w.heap.size ≤ w'.heap.size) (hw : ∀ b, b ∉ S → b < w.heap.size → w'.heap[b]? = w.heap[b]?) (hS : ∀ b, b ∉ S → b < w.heap.size → b ∉ S') : PtsAt S' w' v c := by
  obtain ⟨p, cap, rfl, h⟩ := h
  refine ⟨p, cap, rfl, fun hc => ?_⟩
  obtain ⟨b, rfl, h1, h2, h3⟩ := h hc
  refine ⟨b, rfl, hS b h1 h2, by omega, fun j hj => ?_⟩
  obtain ⟨h4, h5⟩ := h3 j hj
  have e := hw b h1 h2
  unfold World.cell? at h4 h5 ⊢
  simp only [e]
  exact ⟨h4, h5⟩
theorem PolyAt.to {l : List (List Geo.Pt)} (h : PolyAt S w v l) (hs : w.heap.size ≤ w'.heap.size) (hw : ∀ b, b ∉ S → b < w.heap.size → w'.heap[b]? = w.heap[b]?) (hS : ∀ b, b ∉ S → b < w.heap.size → b ∉ S') : PolyAt S' w' v l := by
  obtain ⟨p, cap, rfl, h⟩ := h
  refine ⟨p, cap, rfl, fun hc => ?_⟩
  obtain ⟨b, rfl, h1, h2, h3⟩ := h hc
  refine ⟨b, rfl, hS b h1 h2, by omega, fun i hi => ?_⟩
  obtain ⟨u, h4, h5⟩ := h3 i hi
  refine ⟨u, ?_, h5.to hs hw hS⟩
  have e := hw b h1 h2
  unfold World.cell? at h4 ⊢
  simp only [e]
  exact h4
theorem ShAt.to {s : Geo.Sh} {L : Value} (h : ShAt S w s L) (hs : w.heap.size ≤ w'.heap.size) (hw : ∀ b, b ∉ S → b < w.heap.size → w'.heap[b]? = w.heap[b]?) (hS : ∀ b, b ∉ S → b < w.heap.size → b ∉ S') : ShAt S' w' s L := by
  cases s with
  | disc => exact trivial
  | line => exact trivial
  | poly l => exact PolyAt.to (v := L) h hs hw hS
theorem RowAt.to {n m : Nat} {cs : List Value} (h : RowAt S w v n m cs) (hs : w.heap.size ≤ w'.heap.size) (hw : ∀ b, b ∉ S → b < w.heap.size → w'.heap[b]? = w.heap[b]?) (hS : ∀ b, b ∉ S → b < w.heap.size → b ∉ S') : RowAt S' w' v n m cs := by
  obtain ⟨p, cap, rfl, h⟩ := h
  refine ⟨p, cap, rfl, fun hc => ?_⟩
  obtain ⟨b, rfl, h1, h2, h3⟩ := h hc
  refine ⟨b, rfl, hS b h1 h2, by omega, fun k j u hk hj hu => ?_⟩
  have h4 := h3 k j u hk hj hu
  have e := hw b h1 h2
  unfold World.cell? at h4 ⊢
  simp only [e]
  exact h4
theorem ObjsAt.to {l : List Obj2} (h : ObjsAt S w v l) (hs : w.heap.size ≤ w'.heap.size) (hw : ∀ b, b ∉ S → b < w.heap.size → w'.heap[b]? = w.heap[b]?) (hS : ∀ b, b ∉ S → b < w.heap.size → b ∉ S') : ObjsAt S' w' v l :=
  ⟨h.1.to hs hw hS, fun o ho => (h.2 o ho).to hs hw hS⟩
theorem GroupAt.to {v2 : Value} {l : List Ent2} (h : GroupAt S w v v2 l) (hs : w.heap.size ≤ w'.heap.size) (hw : ∀ b, b ∉ S → b < w.heap.size → w'.heap[b]? = w.heap[b]?) (hS : ∀ b, b ∉ S → b < w.heap.size → b ∉ S') : GroupAt S' w' v v2 l :=
  ⟨h.1.to hs hw hS, h.2.to hs hw hS⟩
theorem PtsAt.below {c : List Geo.Pt} (h : PtsAt S w v c) {B : Nat} (hb : Below B w w') (hB : w.heap.size ≤ B) : PtsAt S w' v c := h.to hb.size (fun b _ hb2 => hb.block b (by omega)) (fun b h1 _ => h1)
theorem PtsAt.only {c : List Geo.Pt} (h : PtsAt S w v c) (ho : Only S w w') : PtsAt S w' v c := h.to ho.size (fun b h1 h2 => ho.block b h2 h1) (fun b h1 _ => h1)
theorem PtsAt.alloc {c : List Geo.Pt} (h : PtsAt S w v c) (x : Obj) : PtsAt S (w.alloc x) v c := h.below ((Below.refl _ _).alloc (Nat.le_refl _) x) (Nat.le_refl _)
theorem PtsAt.drew {c : List Geo.Pt} (h : PtsAt S w v c) : PtsAt S w.drew v c := h.below (Below.refl _ _).drew (Nat.le_refl _)
theorem PtsAt.grown {c : List Geo.Pt} (h : PtsAt S w v c) {row : Option Nat} (hg : w.grownBy w' row) (hr : ∀ b, row = some b → b ∈ S ∨ w.heap.size ≤ b) : PtsAt S w' v c := h.only ((Only.refl _ _).grown hg hr)
theorem PolyAt.below {l : List (List Geo.Pt)} (h : PolyAt S w v l) {B : Nat} (hb : Below B w w') (hB : w.heap.size ≤ B) : PolyAt S w' v l := h.to hb.size (fun b _ hb2 => hb.block b (by omega)) (fun b h1 _ => h1)
theorem PolyAt.only {l : List (List Geo.Pt)} (h : PolyAt S w v l) (ho : Only S w w') : PolyAt S w' v l := h.to ho.size (fun b h1 h2 => ho.block b h2 h1) (fun b h1 _ => h1)
theorem PolyAt.alloc {l : List (List Geo.Pt)} (h : PolyAt S w v l) (x : Obj) : PolyAt S (w.alloc x) v l := h.below ((Below.refl _ _).alloc (Nat.le_refl _) x) (Nat.le_refl _)
theorem PolyAt.drew {l : List (List Geo.Pt)} (h : PolyAt S w v l) : PolyAt S w.drew v l := h.below (Below.refl _ _).drew (Nat.le_refl _)
theorem PolyAt.grown {l : List (List Geo.Pt)} (h : PolyAt S w v l) {row : Option Nat} (hg : w.grownBy w' row) (hr : ∀ b, row = some b → b ∈ S ∨ w.heap.size ≤ b) : PolyAt S w' v l := h.only ((Only.refl _ _).grown hg hr)
theorem ShAt.below {s : Geo.Sh} {L : Value} (h : ShAt S w s L) {B : Nat} (hb : Below B w w') (hB : w.heap.size ≤ B) : ShAt S w' s L := h.to hb.size (fun b _ hb2 => hb.block b (by omega)) (fun b h1 _ => h1)
theorem ShAt.only {s : Geo.Sh} {L : Value} (h : ShAt S w s L) (ho : Only S w w') : ShAt S w' s L := h.to ho.size (fun b h1 h2 => ho.block b h2 h1) (fun b h1 _ => h1)
theorem ShAt.alloc {s : Geo.Sh} {L : Value} (h : ShAt S w s L) (x : Obj) : ShAt S (w.alloc x) s L := h.below ((Below.refl _ _).alloc (Nat.le_refl _) x) (Nat.le_refl _)
theorem ShAt.drew {s : Geo.Sh} {L : Value} (h : ShAt S w s L) : ShAt S w.drew s L := h.below (Below.refl _ _).drew (Nat.le_refl _)
theorem ShAt.grown {s : Geo.Sh} {L : Value} (h : ShAt S w s L) {row : Option Nat} (hg : w.grownBy w' row) (hr : ∀ b, row = some b → b ∈ S ∨ w.heap.size ≤ b) : ShAt S w' s L := h.only ((Only.refl _ _).grown hg hr)
theorem RowAt.below {n m : Nat} {cs : List Value} (h : RowAt S w v n m cs) {B : Nat} (hb : Below B w w') (hB : w.heap.size ≤ B) : RowAt S w' v n m cs := h.to hb.size (fun b _ hb2 => hb.block b (by omega)) (fun b h1 _ => h1)
theorem RowAt.only {n m : Nat} {cs : List Value} (h : RowAt S w v n m cs) (ho : Only S w w') : RowAt S w' v n m cs := h.to ho.size (fun b h1 h2 => ho.block b h2 h1) (fun b h1 _ => h1)
theorem RowAt.alloc {n m : Nat} {cs : List Value} (h : RowAt S w v n m cs) (x : Obj) : RowAt S (w.alloc x) v n m cs := h.below ((Below.refl _ _).alloc (Nat.le_refl _) x) (Nat.le_refl _)
theorem RowAt.drew {n m : Nat} {cs : List Value} (h : RowAt S w v n m cs) : RowAt S w.drew v n m cs := h.below (Below.refl _ _).drew (Nat.le_refl _)
theorem RowAt.grown {n m : Nat} {cs : List Value} (h : RowAt S w v n m cs) {row : Option Nat} (hg : w.grownBy w' row) (hr : ∀ b, row = some b → b ∈ S ∨ w.heap.size ≤ b) : RowAt S w' v n m cs := h.only ((Only.refl _ _).grown hg hr)
theorem ObjsAt.below {l : List Obj2} (h : ObjsAt S w v l) {B : Nat} (hb : Below B w w') (hB : w.heap.size ≤ B) : ObjsAt S w' v l := h.to hb.size (fun b _ hb2 => hb.block b (by omega)) (fun b h1 _ => h1)
theorem ObjsAt.only {l : List Obj2} (h : ObjsAt S w v l) (ho : Only S w w') : ObjsAt S w' v l := h.to ho.size (fun b h1 h2 => ho.block b h2 h1) (fun b h1 _ => h1)
theorem ObjsAt.alloc {l : List Obj2} (h : ObjsAt S w v l) (x : Obj) : ObjsAt S (w.alloc x) v l := h.below ((Below.refl _ _).alloc (Nat.le_refl _) x) (Nat.le_refl _)
theorem ObjsAt.drew {l : List Obj2} (h : ObjsAt S w v l) : ObjsAt S w.drew v l := h.below (Below.refl _ _).drew (Nat.le_refl _)
theorem ObjsAt.grown {l : List Obj2} (h : ObjsAt S w v l) {row : Option Nat} (hg : w.grownBy w' row) (hr : ∀ b, row = some b → b ∈ S ∨ w.heap.size ≤ b) : ObjsAt S w' v l := h.only ((Only.refl _ _).grown hg hr)
theorem GroupAt.below {v2 : Value} {l : List Ent2} (h : GroupAt S w v v2 l) {B : Nat} (hb : Below B w w') (hB : w.heap.size ≤ B) : GroupAt S w' v v2 l := h.to hb.size (fun b _ hb2 => hb.block b (by omega)) (fun b h1 _ => h1)
theorem GroupAt.only {v2 : Value} {l : List Ent2} (h : GroupAt S w v v2 l) (ho : Only S w w') : GroupAt S w' v v2 l := h.to ho.size (fun b h1 h2 => ho.block b h2 h1) (fun b h1 _ => h1)
theorem GroupAt.alloc {v2 : Value} {l : List Ent2} (h : GroupAt S w v v2 l) (x : Obj) : GroupAt S (w.alloc x) v v2 l := h.below ((Below.refl _ _).alloc (Nat.le_refl _) x) (Nat.le_refl _)
theorem GroupAt.drew {v2 : Value} {l : List Ent2} (h : GroupAt S w v v2 l) : GroupAt S w.drew v v2 l := h.below (Below.refl _ _).drew (Nat.le_refl _)
theorem GroupAt.grown {v2 : Value} {l : List Ent2} (h : GroupAt S w v v2 l) {row : Option Nat} (hg : w.grownBy w' row) (hr : ∀ b, row = some b → b ∈ S ∨ w.heap.size ≤ b) : GroupAt S w' v v2 l := h.only ((Only.refl _ _).grown hg hr)
end
theorem RowAt.of_own {S : List Nat} {w : World} {B e n m : Nat} {v : Value} {xs : List Value} (h : w.ownsRow B e m v n xs) (hS : ∀ b ∈ S, b < B) : RowAt S w v n m xs := by
  obtain ⟨p, c, rfl⟩ := own_form h
  refine ⟨p, c, rfl, fun hn => ?_⟩
  obtain ⟨g, cap, he, hg, _⟩ := h.form hn
  injection he with he1 he2 he3
  subst he1 he3
  refine ⟨g, rfl, fun hm => by have := hS g hm; omega, own_lt h rfl, fun k j u hk hj hu => ?_⟩
  have hlt : k * m + j < n * m := by
    have := Nat.mul_le_mul_right m (show k + 1 ≤ n by omega)
    rw [Nat.add_mul] at this
    omega
  rw [h.cellAt _ hlt, hu]
theorem ObjsAt.of_own {S : List Nat} {w : World} {B e : Nat} {v : Value} {l : List Obj2} (h : w.ownsRow B e 11 v l.length (l.flatMap oCells)) (hS : ∀ b ∈ S, b < B) (hs : ∀ o ∈ l, ShAt S w o.1.2 o.2) : ObjsAt S w v l := ⟨RowAt.of_own h hS, hs⟩
theorem shA_at {S : List Nat} {w : World} {s : Geo.Sh} {L : Value} (h : ShAt S w s L) : ∃ (k x y c d r : Int) (lp : Option Addr) (ln lc : Nat), shA s L = #[.int .i64 k, .int .i64 x, .int .i64 y, .int .i64 c, .int .i64 d, .int .i64 0, .int .i64 0, .int .i64 r, .slice lp ln lc, .slice none 0 0] := by
  cases s with
  | disc => exact ⟨_, _, _, _, _, _, none, 0, 0, rfl⟩
  | line => exact ⟨_, _, _, _, _, _, none, 0, 0, rfl⟩
  | poly l =>
    have h2 : PolyAt S w L l := h
    obtain ⟨p, cap, rfl, _⟩ := h2
    exact ⟨_, _, _, _, _, _, _, _, _, rfl⟩
theorem ObjsAt.at {S : List Nat} {w : World} {v : Value} {l : List Obj2} (h : ObjsAt S w v l) (k : Nat) (hk : k < l.length) : ∃ (b cap : Nat) (kd x y c d r : Int) (lp : Option Addr) (ln lc : Nat), v = .slice (some ⟨b, 0, none⟩) l.length cap ∧ b ∉ S ∧ b < w.heap.size ∧
    shA l[k].1.2 l[k].2 = #[.int .i64 kd, .int .i64 x, .int .i64 y, .int .i64 c, .int .i64 d, .int .i64 0, .int .i64 0, .int .i64 r, .slice lp ln lc, .slice none 0 0] ∧
    w.cell? ⟨b, k * 11, none⟩ = some (.bool l[k].1.1) ∧ w.cell? ⟨b, k * 11 + 1, none⟩ = some (.int .i64 kd) ∧ w.cell? ⟨b, k * 11 + 2, none⟩ = some (.int .i64 x) ∧ w.cell? ⟨b, k * 11 + 3, none⟩ = some (.int .i64 y) ∧ w.cell? ⟨b, k * 11 + 4, none⟩ = some (.int .i64 c) ∧ w.cell? ⟨b, k * 11 + 5, none⟩ = some (.int .i64 d) ∧
    w.cell? ⟨b, k * 11 + 6, none⟩ = some (.int .i64 0) ∧ w.cell? ⟨b, k * 11 + 7, none⟩ = some (.int .i64 0) ∧ w.cell? ⟨b, k * 11 + 8, none⟩ = some (.int .i64 r) ∧ w.cell? ⟨b, k * 11 + 9, none⟩ = some (.slice lp ln lc) ∧ w.cell? ⟨b, k * 11 + 10, none⟩ = some (.slice none 0 0) := by
  have hsh := h.2 _ (List.getElem_mem hk)
  obtain ⟨⟨p, cap, rfl, h1⟩, _⟩ := h
  obtain ⟨b, rfl, h2, h3, h4⟩ := h1 (by omega)
  obtain ⟨kd, x, y, c, d, r, lp, ln, lc, e⟩ := shA_at hsh
  have hq : ∀ j u, j < 11 → (oCells l[k])[j]? = some u → w.cell? ⟨b, k * 11 + j, none⟩ = some u := fun j u hj hu => by
    refine h4 k j u hk hj ?_
    rw [cells_at oCells 11 l (fun o _ => oCells_len o) k hk j hj, hu]
  have ec : oCells l[k] = [.bool l[k].1.1, .int .i64 kd, .int .i64 x, .int .i64 y, .int .i64 c, .int .i64 d, .int .i64 0, .int .i64 0, .int .i64 r, .slice lp ln lc, .slice none 0 0] := by simp [oCells, e]
  rw [ec] at hq
  exact ⟨b, cap, kd, x, y, c, d, r, lp, ln, lc, rfl, h2, h3, e, hq 0 _ (by omega) rfl, hq 1 _ (by omega) rfl, hq 2 _ (by omega) rfl, hq 3 _ (by omega) rfl, hq 4 _ (by omega) rfl, hq 5 _ (by omega) rfl, hq 6 _ (by omega) rfl, hq 7 _ (by omega) rfl, hq 8 _ (by omega) rfl, hq 9 _ (by omega) rfl, hq 10 _ (by omega) rfl⟩
theorem RowAt.ext {S : List Nat} {w : World} {v : Value} {l : List Ent2} (h : RowAt S w v l.length 5 (l.flatMap eCells)) (k : Nat) (hk : k < l.length) : ∃ (b cap : Nat), v = .slice (some ⟨b, 0, none⟩) l.length cap ∧ b ∉ S ∧ b < w.heap.size ∧
    w.cell? ⟨b, k * 5, none⟩ = some (.int .i64 l[k].1.2.x0) ∧ w.cell? ⟨b, k * 5 + 1, none⟩ = some (.int .i64 l[k].1.2.y0) ∧ w.cell? ⟨b, k * 5 + 2, none⟩ = some (.int .i64 l[k].1.2.x1) ∧ w.cell? ⟨b, k * 5 + 3, none⟩ = some (.int .i64 l[k].1.2.y1) ∧ w.cell? ⟨b, k * 5 + 4, none⟩ = some (.bool false) := by
  obtain ⟨p, cap, rfl, h1⟩ := h
  obtain ⟨b, rfl, h2, h3, h4⟩ := h1 (by omega)
  have hq : ∀ j u, j < 5 → (eCells l[k])[j]? = some u → w.cell? ⟨b, k * 5 + j, none⟩ = some u := fun j u hj hu => by
    refine h4 k j u hk hj ?_
    rw [cells_at eCells 5 l (fun o _ => rfl) k hk j hj, hu]
  exact ⟨b, cap, rfl, h2, h3, hq 0 _ (by omega) rfl, hq 1 _ (by omega) rfl, hq 2 _ (by omega) rfl, hq 3 _ (by omega) rfl, hq 4 _ (by omega) rfl⟩
theorem RowAt.len {S : List Nat} {w : World} {v : Value} {n m : Nat} {cs : List Value} (h : RowAt S w v n m cs) : ∃ p cap, v = .slice p n cap := by
  obtain ⟨p, cap, e, _⟩ := h
  exact ⟨p, cap, e⟩
end Go.Proofs.YtfajckkbinbpiaaGreatDoor
