/- The plain law of the texts of the statement: the words that they are read as. What a plotter holds, and what the commands of the statement do to it. A world that is as another was but for some blocks and for new ones. -/
import Derived.Test.YtfajckkbinbpiaaGreatDoorM11
import Derived.Test.YtfajckkbinbpiaaGreatDoorM01
import Derived.Test.YtfajckkbinbpiaaGreatDoorM07
import Derived.Test.YtfajckkbinbpiaaGreatDoorM10
namespace Go.Proofs.YtfajckkbinbpiaaGreatDoor
open Go.RowKit
set_option linter.unusedVariables false
set_option linter.unusedSimpArgs false

/-- A byte that may stand in a word. -/
def Good (c : UInt8) : Prop := 32 ≤ c.toNat ∧ c.toNat ≤ 126 ∧ c.toNat ≠ 42 ∧ c.toNat ≠ 37
theorem take_good {r : Rd} {c : UInt8} {i : Nat} (h : Good c) (h1 : ¬ (r.text = [] ∧ r.words.length = 20000)) (h2 : r.text.length ≠ 10000) :
    take r c i = .ok ⟨r.words, r.text ++ [c], if r.text = [] then i else r.at_, r.group, r.inner⟩ := by
  obtain ⟨g1, g2, g3, g4⟩ := h
  rw [take_plain (by omega) g3 g4, if_neg h1, if_neg h2]
theorem run_more (x : List UInt8) : ∀ (i : Nat) (r : Rd), (∀ c ∈ x, Good c) → r.text ≠ [] → r.text.length + x.length ≤ 10000 → run x i r = .ok ⟨r.words, r.text ++ x, r.at_, r.group, r.inner⟩ := by
  induction x with
  | nil => intro i r _ _ _; simp [run]
  | cons c x ih =>
    intro i r hg hne hl
    simp only [List.length_cons] at hl
    rw [run_cons (take_good (hg c (by simp)) (fun h => hne h.1) (by omega)), ih (i + 1) _ (fun d hd => hg d (by simp [hd])) (by simp) (by simp; omega)]
    simp [hne]
theorem run_text (x : List UInt8) (i : Nat) (r : Rd) (hg : ∀ c ∈ x, Good c) (hx : x ≠ []) (ht : r.text = []) (hw : r.words.length ≠ 20000) (hl : x.length ≤ 10000) : run x i r = .ok ⟨r.words, x, i, r.group, r.inner⟩ := by
  match x, hx with
  | c :: x, _ =>
    simp only [List.length_cons] at hl
    rw [run_cons (take_good (hg c (by simp)) (fun h => hw h.2) (by rw [ht]; simp)), run_more x (i + 1) _ (fun d hd => hg d (by simp [hd])) (by simp) (by simp [ht]; omega)]
    simp [ht]
/-- What has been written so far is read as the words wanted so far. -/
def Sofar (s : List UInt8) (want : List Wd) (op : Bool) : Prop :=
  ∃ r, run s 0 Rd.start = .ok r ∧ r.words = want ∧ r.text = [] ∧ r.group = op ∧ (op = true → r.inner ≠ 0) ∧ (op = false → r.inner = 0)
theorem sofar_nil : Sofar [] [] false := ⟨Rd.start, rfl, rfl, rfl, rfl, by simp, fun _ => rfl⟩
/-- A reader behind a word. -/
theorem sofar_word {s x : List UInt8} {r : Rd} (hr : run s 0 Rd.start = .ok r) (ht : r.text = []) (hg : ∀ c ∈ x, Good c) (hx : x ≠ []) (hw : r.words.length ≠ 20000) (hl : x.length ≤ 10000) :
    run (s ++ (x ++ [42])) 0 Rd.start = .ok ⟨r.words ++ [⟨s.length, r.group, r.inner == 0, x⟩], [], s.length, r.group, if r.group then r.inner + 1 else r.inner⟩ := by
  rw [run_append, hr]
  simp only [Nat.zero_add]
  rw [run_append, run_text x s.length r hg hx ht hw hl]
  simp only []
  rw [run_cons (by rw [take_star rfl, if_neg hx])]
  rfl
theorem sofar_pct {s : List UInt8} {r : Rd} (hr : run s 0 Rd.start = .ok r) (ht : r.text = []) (hi : ¬ (r.group = true ∧ r.inner = 0)) : run (s ++ [37]) 0 Rd.start = .ok ⟨r.words, r.text, r.at_, !r.group, 0⟩ := by
  rw [run_append, hr]
  simp only []
  rw [run_cons (by rw [take_pct rfl, if_neg (by rintro (h | h); exact h ht; exact hi h)])]
  rfl
theorem sofar_same {s x : List UInt8} {want : List Wd} {op : Bool} (h : Sofar s want op) (hg : ∀ c ∈ x, Good c) (hx : x ≠ []) (hw : want.length ≠ 20000) (hl : x.length ≤ 10000) :
    Sofar (s ++ (x ++ [42])) (want ++ [⟨s.length, op, !op || !op, x⟩]) op := by
  obtain ⟨r, hr, rfl, ht, rfl, h1, h2⟩ := h
  refine ⟨_, sofar_word hr ht hg hx hw hl, ?_, rfl, rfl, ?_, ?_⟩
  · have e : (r.inner == 0) = (!r.group || !r.group) := by
      cases hgr : r.group
      · simp [h2 hgr]
      · have := h1 hgr; simp [this]
    rw [e]
  · intro hgr; simp [hgr]
  · intro hgr; simp [hgr, h2 hgr]
theorem sofar_turn {s x : List UInt8} {want : List Wd} {op : Bool} (h : Sofar s want op) (hg : ∀ c ∈ x, Good c) (hx : x ≠ []) (hw : want.length ≠ 20000) (hl : x.length ≤ 10000) :
    Sofar ((s ++ [37]) ++ (x ++ [42])) (want ++ [⟨(s ++ [37]).length, !op, true, x⟩]) (!op) := by
  obtain ⟨r, hr, rfl, ht, rfl, h1, h2⟩ := h
  have hp := sofar_pct hr ht (fun hh => h1 hh.1 hh.2)
  refine ⟨_, sofar_word hp (by exact ht) hg hx hw hl, ?_, rfl, rfl, ?_, ?_⟩
  · rfl
  · intro hgr; simp [hgr]
  · intro hgr; simp [hgr]
theorem sofar_done {s : List UInt8} {want : List Wd} (h : Sofar s want false) (hs : s.length ≤ 1000000) : words s = (want, 0, 0) := by
  obtain ⟨r, hr, rfl, ht, hg, _, _⟩ := h
  exact words_done (by omega) hr (by rw [ht, hg]; simp)
theorem sofar_shut {s : List UInt8} {want : List Wd} (h : Sofar s want true) : Sofar (s ++ [37]) want false := by
  obtain ⟨r, hr, rfl, ht, hg, h1, h2⟩ := h
  exact ⟨_, sofar_pct hr ht (fun hh => h1 rfl hh.2), rfl, ht, by simp [hg], by simp, fun _ => rfl⟩

/-- What the texts of the statement are made of: groups and words. -/
inductive Gr where
  | fs | mo | adc | adr | d10 | d20 | m02 | lpc | lpd | sre | ab | abe
  | sr (n m x y : UInt8)
  | op2 (a b : List UInt8)
  | op3 (a b : List UInt8)
def Gr.ext : Gr → Bool
  | .d10 | .d20 | .m02 | .op2 _ _ | .op3 _ _ => false
  | _ => true
def Gr.word : Gr → List UInt8
  | .fs => [70, 83, 76, 65, 88, 50, 52, 89, 50, 52]
  | .mo => [77, 79, 77, 77]
  | .adc => [65, 68, 68, 49, 48, 67, 44, 48, 46, 53]
  | .adr => [65, 68, 68, 49, 48, 82, 44, 52, 88, 52]
  | .d10 => [68, 49, 48]
  | .d20 => [68, 50, 48]
  | .m02 => [77, 48, 50]
  | .lpc => [76, 80, 67]
  | .lpd => [76, 80, 68]
  | .sre => [83, 82]
  | .ab => [65, 66, 68, 50, 48]
  | .abe => [65, 66]
  | .sr n m x y => [83, 82, 88, n, 89, m, 73, x, 74, y]
  | .op2 a b => 88 :: (a ++ 89 :: (b ++ [68, 48, 50]))
  | .op3 a b => 88 :: (a ++ 89 :: (b ++ [68, 48, 51]))
def Gr.kind : Gr → Int
  | .fs => 8
  | .mo => 9
  | .adc => 10
  | .adr => 10
  | .d10 => 6
  | .d20 => 6
  | .m02 => 5
  | .lpc => 15
  | .lpd => 15
  | .sre => 14
  | .ab => 11
  | .abe => 12
  | .sr _ _ _ _ => 13
  | .op2 _ _ | .op3 _ _ => 7
def Gr.n : Gr → Int
  | .fs => 2
  | .mo => 1
  | .adc => 10
  | .adr => 10
  | .d10 => 10
  | .d20 => 20
  | .m02 => 0
  | .lpc => 0
  | .lpd => 0
  | .sre => 0
  | .ab => 20
  | .abe => 0
  | .sr n _ _ _ => ((n.toNat - 48 : Nat) : Int)
  | .op2 _ _ => 2
  | .op3 _ _ => 3
def Gr.m : Gr → Int
  | .fs => 4
  | .sr _ m _ _ => ((m.toNat - 48 : Nat) : Int)
  | _ => 0
def Gr.on : Gr → Bool
  | .lpd => true
  | _ => false
def Gr.name : Gr → List UInt8
  | .adc => [67]
  | .adr => [82]
  | _ => []
def Gr.x : Gr → List UInt8
  | .op2 a _ | .op3 a _ => a
  | _ => []
def Gr.y : Gr → List UInt8
  | .op2 _ b | .op3 _ b => b
  | _ => []
def Gr.nums : Gr → List Int
  | .adc => [500000]
  | .adr => [4000000, 4000000]
  | .sr _ _ x y => [(((x.toNat - 48) * 1000000 : Nat) : Int), (((y.toNat - 48) * 1000000 : Nat) : Int)]
  | _ => []
/-- The cells of the command of a word, which lies at a place and whose numbers are v. -/
def Gr.cells (g : Gr) (at_ : Int) (v : Value) : List Value := [.int .i64 at_, .int .i64 g.kind, .int .i64 g.n, .int .i64 g.m, .bool g.on, .string (bs g.name), .string (bs g.x), .string (bs g.y), .string (bs []), .string (bs []), v, .slice none 0 0]
def Gr.Ok : Gr → Prop
  | .sr n m x y => Dig n ∧ Dig m ∧ Dig x ∧ Dig y
  | .op2 a b | .op3 a b => (Digits a ∧ 0 < a.length ∧ a.length ≤ 6 ∧ numV a ≤ 536870) ∧ (Digits b ∧ 0 < b.length ∧ b.length ≤ 6 ∧ numV b ≤ 536870)
  | _ => True
def Gr.text (g : Gr) : List UInt8 := if g.ext then (37 :: (g.word ++ [42])) ++ [37] else g.word ++ [42]
def texts (gs : List Gr) : List UInt8 := gs.flatMap Gr.text
theorem texts_nil : texts [] = [] := rfl
theorem texts_cons (g : Gr) (gs : List Gr) : texts (g :: gs) = g.text ++ texts gs := rfl
theorem texts_append (a b : List Gr) : texts (a ++ b) = texts a ++ texts b := by simp [texts]
theorem digit_good {c : UInt8} (h : 48 ≤ c.toNat ∧ c.toNat ≤ 57) : Good c := ⟨by omega, by omega, by omega, by omega⟩
def goodB (c : UInt8) : Bool := decide (32 ≤ c.toNat) && decide (c.toNat ≤ 126) && (c.toNat != 42) && (c.toNat != 37)
theorem good_of (l : List UInt8) (h : l.all goodB = true) : ∀ c ∈ l, Good c := by
  intro c hc
  have := List.all_eq_true.1 h c hc
  simp only [goodB, Bool.and_eq_true, decide_eq_true_eq, bne_iff_ne] at this
  exact ⟨this.1.1.1, this.1.1.2, this.1.2, this.2⟩
theorem good_one (c : UInt8) (h : goodB c = true) : Good c := good_of [c] (by simpa using h) c (by simp)
theorem good_op {a b : List UInt8} (ha : Digits a) (hb : Digits b) (z : UInt8) (hz : Good z) : ∀ c ∈ 88 :: (a ++ 89 :: (b ++ [68, 48, z])), Good c := by
  intro c hc
  simp only [List.mem_cons, List.mem_append, List.not_mem_nil, or_false] at hc
  rcases hc with rfl | hc | rfl | hc | rfl | rfl | rfl
  · exact good_of [88] rfl _ (by simp)
  · exact digit_good (ha c hc)
  · exact good_of [89] rfl _ (by simp)
  · exact digit_good (hb c hc)
  · exact good_of [68] rfl _ (by simp)
  · exact good_of [48] rfl _ (by simp)
  · exact hz
theorem Gr.good (g : Gr) (h : g.Ok) : ∀ c ∈ g.word, Good c := by
  cases g
  case sr n m x y =>
    obtain ⟨h1, h2, h3, h4⟩ := h
    intro c hc
    simp only [Gr.word, List.mem_cons, List.not_mem_nil, or_false] at hc
    rcases hc with rfl | rfl | rfl | rfl | rfl | rfl | rfl | rfl | rfl | rfl
    all_goals first | exact digit_good ‹_› | exact good_one _ rfl
  case op2 a b => exact good_op h.1.1 h.2.1 50 (good_of [50] rfl _ (by simp))
  case op3 a b => exact good_op h.1.1 h.2.1 51 (good_of [51] rfl _ (by simp))
  all_goals exact good_of _ rfl
theorem Gr.word_ne (g : Gr) : g.word ≠ [] := by cases g <;> simp [Gr.word]
theorem Gr.word_len (g : Gr) (h : g.Ok) : g.word.length ≤ 20 := by
  cases g
  case op2 a b => have h1 := h.1.2.2.1; have h2 := h.2.2.2.1; simp [Gr.word]; omega
  case op3 a b => have h1 := h.1.2.2.1; have h2 := h.2.2.2.1; simp [Gr.word]; omega
  all_goals simp [Gr.word]
/-- A word as it is read of a group. -/
def WordOf (g : Gr) (d : Wd) : Prop := d.ext = g.ext ∧ d.first = true ∧ d.text = g.word
inductive WordsOf : List Gr → List Wd → Prop
  | nil : WordsOf [] []
  | cons {g : Gr} {d : Wd} {gs : List Gr} {ds : List Wd} : WordOf g d → WordsOf gs ds → WordsOf (g :: gs) (d :: ds)
theorem WordsOf.length {gs : List Gr} {ds : List Wd} (h : WordsOf gs ds) : ds.length = gs.length := by
  induction h with
  | nil => rfl
  | cons _ _ ih => simp [ih]
theorem WordsOf.at {gs : List Gr} {ds : List Wd} (h : WordsOf gs ds) (k : Nat) (hk : k < gs.length) (hd : k < ds.length) : WordOf gs[k] ds[k] := by
  induction h generalizing k with
  | nil => simp at hk
  | cons h1 _ ih =>
    cases k with
    | zero => exact h1
    | succ k => exact ih k (by simpa using hk) (by simpa using hd)
theorem sofar_gr {s : List UInt8} {want : List Wd} (g : Gr) (hg : g.Ok) (h : Sofar s want false) (hw : want.length ≠ 20000) : ∃ d, WordOf g d ∧ Sofar (s ++ g.text) (want ++ [d]) false := by
  have hl := g.word_len hg
  by_cases he : g.ext = true
  · have h1 := sofar_shut (sofar_turn h (g.good hg) g.word_ne hw (by omega))
    refine ⟨⟨(s ++ [37]).length, !false, true, g.word⟩, ⟨by simp [he], rfl, rfl⟩, ?_⟩
    unfold Gr.text
    rw [if_pos he]
    have e : s ++ (37 :: (g.word ++ [42]) ++ [37]) = s ++ [37] ++ (g.word ++ [42]) ++ [37] := by simp
    rw [e]
    exact h1
  · have he : g.ext = false := by simpa using he
    have h1 := sofar_same h (g.good hg) g.word_ne hw (by omega)
    refine ⟨⟨s.length, false, !false || !false, g.word⟩, ⟨by simp [he], rfl, rfl⟩, ?_⟩
    unfold Gr.text
    rw [if_neg (by simp [he])]
    exact h1
theorem sofar_grs : ∀ (gs : List Gr) (s : List UInt8) (want : List Wd), (∀ g ∈ gs, g.Ok) → Sofar s want false → want.length + gs.length ≤ 20000 → ∃ ds, WordsOf gs ds ∧ Sofar (s ++ texts gs) (want ++ ds) false
  | [], s, want, _, h, _ => ⟨[], .nil, by simpa [texts] using h⟩
  | g :: gs, s, want, ho, h, hl => by
    simp only [List.length_cons] at hl
    obtain ⟨d, h1, h2⟩ := sofar_gr g (ho g (by simp)) h (by omega)
    obtain ⟨ds, h3, h4⟩ := sofar_grs gs _ _ (fun x hx => ho x (by simp [hx])) h2 (by simp; omega)
    refine ⟨d :: ds, .cons h1 h3, ?_⟩
    rw [texts_cons]
    simpa using h4
theorem words_grs (gs : List Gr) (ho : ∀ g ∈ gs, g.Ok) (hn : gs.length ≤ 20000) (hl : (texts gs).length ≤ 1000000) : ∃ ds, WordsOf gs ds ∧ words (texts gs) = (ds, 0, 0) := by
  obtain ⟨ds, h1, h2⟩ := sofar_grs gs [] [] ho sofar_nil (by simpa using hn)
  exact ⟨ds, h1, sofar_done (by simpa using h2) hl⟩
theorem texts_len (gs : List Gr) (ho : ∀ g ∈ gs, g.Ok) : (texts gs).length ≤ 23 * gs.length := by
  induction gs with
  | nil => simp [texts]
  | cons g gs ih =>
    have h1 := g.word_len (ho g (by simp))
    have h2 := ih (fun x hx => ho x (by simp [hx]))
    have h3 : g.text.length ≤ 23 := by unfold Gr.text; split <;> simp <;> omega
    rw [texts_cons, List.length_append, List.length_cons]
    omega
end Go.Proofs.YtfajckkbinbpiaaGreatDoor
namespace Go.Proofs.YtfajckkbinbpiaaGreatDoor
open Go.RowKit
set_option linter.unusedVariables false
set_option linter.unusedSimpArgs false

/-- An object: a disc of the one size that the texts use. -/
structure Ob where
  dark : Bool
  x : Int
  y : Int
def Ob.cells (o : Ob) : List Value := [.bool o.dark, .int .i64 1, .int .i64 o.x, .int .i64 o.y, .int .i64 0, .int .i64 0, .int .i64 0, .int .i64 0, .int .i64 2500000, .slice none 0 0, .slice none 0 0]
def ocells (l : List Ob) : List Value := l.flatMap Ob.cells
theorem ocells_nil : ocells [] = [] := rfl
theorem ocells_append (l m : List Ob) : ocells (l ++ m) = ocells l ++ ocells m := by simp [ocells]
theorem ocells_one (o : Ob) : ocells [o] = o.cells := by simp [ocells]
theorem ocells_length (l : List Ob) : (ocells l).length = l.length * 11 := by
  induction l with
  | nil => rfl
  | cons o l ih => simp [ocells] at ih ⊢; rw [ih]; simp [Ob.cells]; omega
theorem ocells_at (l : List Ob) (k : Nat) (hk : k < l.length) (j : Nat) (hj : j < 11) : (ocells l)[k * 11 + j]? = (l[k]).cells[j]? := by
  induction l generalizing k with
  | nil => simp at hk
  | cons o l ih =>
    have e : ocells (o :: l) = o.cells ++ ocells l := by simp [ocells]
    have hl : o.cells.length = 11 := rfl
    cases k with
    | zero => rw [e, List.getElem?_append_left (by rw [hl]; omega)]; simp
    | succ k =>
      rw [e, List.getElem?_append_right (by rw [hl]; omega), hl]
      have := ih k (by simpa using hk)
      rw [show (k + 1) * 11 + j - 11 = k * 11 + j by omega, this]
      rfl
def Ob.moved (o : Ob) (a b : Int) : Ob := ⟨o.dark, o.x + a, o.y + b⟩
/-- Coordinates that may be. -/
def Near (v : Int) : Prop := -536870912 ≤ v ∧ v ≤ 536870912
/-- An open block or step. -/
structure Lev where
  step : Bool
  code : Int
  n : Int
  m : Int
  bx : Int
  by_ : Int
  objs : List Ob
/-- What a plotter holds. -/
structure St where
  unit : Int
  fmt : Bool
  a10 : Bool
  pick : Int
  x : Int
  y : Int
  dark : Bool
  blk : Option (List Ob)
  lev : Option Lev
  base : List Ob
  made : Nat
  ended : Bool
def St.start : St := ⟨0, false, false, 0, 0, 0, true, none, none, [], 0, false⟩
/-- Objects are laid on what is open. -/
def St.puts (s : St) (l : List Ob) : St :=
  match s.lev with
  | some v => { s with lev := some { v with objs := v.objs ++ l }, made := s.made + l.length }
  | none => { s with base := s.base ++ l, made := s.made + l.length }
def copiesY (l : List Ob) (a : Int) (by_ : Int) : Nat → List Ob
  | 0 => []
  | k + 1 => copiesY l a by_ k ++ l.map (fun o => o.moved a ((k : Int) * by_))
def copies (l : List Ob) (bx by_ : Int) (m : Nat) : Nat → List Ob
  | 0 => []
  | i + 1 => copies l bx by_ m i ++ copiesY l ((i : Int) * bx) by_ m
def coordOf (l : List UInt8) : Int := ((numV l * 1000 : Nat) : Int)
def stepOf (c : UInt8) : Int := (((c.toNat - 48) * 10000000 : Nat) : Int)
end Go.Proofs.YtfajckkbinbpiaaGreatDoor
namespace Go.Proofs.YtfajckkbinbpiaaGreatDoor
open Go.RowKit
set_option linter.unusedVariables false
set_option linter.unusedSimpArgs false

/-- w' is as w was, but for the blocks S and for new ones. -/
structure Only (S : List Nat) (w w' : World) : Prop where
  os : w'.os = w.os
  tape : w'.tape = w.tape
  output : w'.output = w.output
  size : w.heap.size ≤ w'.heap.size
  block : ∀ b, b < w.heap.size → b ∉ S → w'.heap[b]? = w.heap[b]?
section
variable {S S' : List Nat} {w w1 w2 w' : World}
theorem Only.refl (S : List Nat) (w : World) : Only S w w := ⟨rfl, rfl, rfl, Nat.le_refl _, fun _ _ _ => rfl⟩
theorem Only.trans (h : Only S w w1) (k : Only S w1 w2) : Only S w w2 :=
  ⟨k.os.trans h.os, k.tape.trans h.tape, k.output.trans h.output, Nat.le_trans h.size k.size, fun b hb hn => (k.block b (Nat.lt_of_lt_of_le hb h.size) hn).trans (h.block b hb hn)⟩
/-- .. where what the second step turns is on the list, or new. -/
theorem Only.then_ (h : Only S w w1) (k : Only S' w1 w2) (hs : ∀ b ∈ S', b ∈ S ∨ w.heap.size ≤ b) : Only S w w2 :=
  ⟨k.os.trans h.os, k.tape.trans h.tape, k.output.trans h.output, Nat.le_trans h.size k.size, fun b hb hn => (k.block b (Nat.lt_of_lt_of_le hb h.size) (fun hm => by rcases hs b hm with h1 | h1; exact hn h1; omega)).trans (h.block b hb hn)⟩
theorem Only.drew (h : Only S w w1) : Only S w w1.drew := ⟨h.os, h.tape, h.output, h.size, h.block⟩
theorem Only.drewN (h : Only S w w1) (n : Nat) : Only S w (w1.drewN n) := ⟨h.os, h.tape, h.output, h.size, h.block⟩
theorem Only.alloc (h : Only S w w1) (o : Obj) : Only S w (w1.alloc o) :=
  ⟨h.os, h.tape, h.output, Nat.le_trans h.size (by simp), fun b hb hn => (Below.heap_alloc w1 o b (Nat.lt_of_lt_of_le hb h.size)).trans (h.block b hb hn)⟩
theorem Only.setCell (h : Only S w w1) {p : Addr} (hp : p.block ∈ S ∨ w.heap.size ≤ p.block) (u : Value) : Only S w (w1.setCell p u) :=
  ⟨h.os, h.tape, h.output, Nat.le_trans h.size (by simp), fun b hb hn => (Below.heap_setCell w1 p u b (by rintro rfl; rcases hp with hp | hp; exact hn hp; omega)).trans (h.block b hb hn)⟩
theorem Only.below (h : Only S w w1) {B : Nat} (k : Below B w1 w2) (hB : w.heap.size ≤ B) : Only S w w2 :=
  ⟨k.os.trans h.os, k.tape.trans h.tape, k.output.trans h.output, Nat.le_trans h.size k.size, fun b hb hn => (k.block b (by omega)).trans (h.block b hb hn)⟩
theorem Only.grown (h : Only S w w1) {row : Option Nat} (k : w1.grownBy w2 row) (hr : ∀ b, row = some b → b ∈ S ∨ w.heap.size ≤ b) : Only S w w2 :=
  ⟨k.os.trans h.os, k.tape.trans h.tape, k.output.trans h.output, Nat.le_trans h.size k.size, fun b hb hn => (k.block b (Nat.lt_of_lt_of_le hb h.size) (fun e => by rcases hr b e.symm with h1 | h1; exact hn h1; omega)).trans (h.block b hb hn)⟩
theorem Only.mono (h : Only S w w') (hs : ∀ b ∈ S, b ∈ S') : Only S' w w' := ⟨h.os, h.tape, h.output, h.size, fun b hb hn => h.block b hb (fun hm => hn (hs b hm))⟩
theorem Only.toBelow (h : Only S w w') {B : Nat} (hB : B ≤ w.heap.size) (hs : ∀ b ∈ S, B ≤ b) : Below B w w' := ⟨h.os, h.tape, h.output, h.size, fun b hb => h.block b (by omega) (fun hm => by have := hs b hm; omega)⟩
theorem Only.of_below {B : Nat} (k : Below B w w') (hB : w.heap.size ≤ B) (S : List Nat) : Only S w w' := (Only.refl S w).below k hB
variable {g : Nat} {t : TypeId} {cs : Array Value} {M : Nat} {es : Array MapEntry} {clk : Nat} {base e size n : Nat} {v : Value} {xs : List Value}
theorem Only.blk (h : Only S w w') (k : Blk w g t cs) (hn : g ∉ S) : Blk w' g t cs := (h.block g k.lt hn).trans k
theorem Only.map (h : Only S w w') (k : IsMap w M es clk) (hn : M ∉ S) : IsMap w' M es clk := (h.block M k.lt hn).trans k
theorem Only.own (h : Only S w w') (k : w.ownsRow base e size v n xs) (hn : ∀ b, v.ownBlock = some b → b ∉ S) : w'.ownsRow base e size v n xs := own_same k fun b hb => h.block b (own_lt k hb) (hn b hb)
end
end Go.Proofs.YtfajckkbinbpiaaGreatDoor
