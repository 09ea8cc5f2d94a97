/- Walks: package plot: each command of a drawing in inches or millimetres. Walk: a group of one word. -/
import Derived.Test.YtfajckkbinbpiaaGreatDoorJ05
import Derived.Test.YtfajckkbinbpiaaGreatDoorJ09
import Derived.Test.YtfajckkbinbpiaaGreatDoorJ12
import Derived.Test.YtfajckkbinbpiaaGreatDoorJ13
import Derived.Test.YtfajckkbinbpiaaGreatDoorJ15
import Derived.Test.YtfajckkbinbpiaaGreatDoorJ21
namespace Go.Proofs.YtfajckkbinbpiaaGreatDoor
set_option maxRecDepth 100000
set_option maxHeartbeats 32000000
set_option linter.unusedVariables false
set_option linter.unusedSimpArgs false
open Go.RowKit
inductive Md where
  | inch | mm
def Md.u : Md → Int
  | .inch => 2
  | .mm => 1
def Md.d : Md → Int
  | .inch => 4
  | .mm => 6
def Md.num : Md → Int
  | .inch => 50000
  | .mm => 1270000
def Md.co : Md → List UInt8 → Int
  | .inch, l => ((numV l * 25400 : Nat) : Int)
  | .mm, l => (numV l : Int) * 10
def Md.Fits : Md → List UInt8 → Prop
  | .inch, l => Digits l ∧ 0 < l.length ∧ l.length ≤ 6 ∧ numV l ≤ 8000
  | .mm, l => Digits l ∧ 0 < l.length ∧ l.length ≤ 8 ∧ numV l ≤ 20000000
theorem Md.fits0 {m : Md} {l : List UInt8} (h : m.Fits l) : 0 < l.length := by cases m <;> exact h.2.1
theorem Md.fits_ne {m : Md} {l : List UInt8} (h : m.Fits l) : (bs l).toList.isEmpty = false := by
  have h1 := Md.fits0 h
  rw [bs_toList]
  cases l <;> simp at h1 ⊢
theorem Md.co_b {m : Md} {l : List UInt8} (h : m.Fits l) : 0 ≤ m.co l ∧ m.co l ≤ 230000000 := by
  cases m
  · have := h.2.2.2; show 0 ≤ ((numV l * 25400 : Nat) : Int) ∧ ((numV l * 25400 : Nat) : Int) ≤ 230000000; omega
  · have := h.2.2.2; show 0 ≤ (numV l : Int) * 10 ∧ (numV l : Int) * 10 ≤ 230000000; omega
theorem Md.u0 (m : Md) : (m.u == 0) = false := by cases m <;> rfl
theorem coord_m (m : Md) (l : List UInt8) (w : World) (h : m.Fits l) : Calls Tryz.prog 162 #[.string (bs l), .agg #[.int .i64 m.u, .int .i64 2, .int .i64 m.d, .bool false]] w fun e w' => e = .returned (.tuple #[.int .i64 (m.co l), .bool true]) ∧ Below w.heap.size w w' := by
  cases m
  · exact coord_i l w h.1 h.2.1 h.2.2.1 (by have := h.2.2.2; omega)
  · exact coord_6 l w h.1 h.2.1 h.2.2.1 (by have := h.2.2.2; omega)
theorem unitok_m (m : Md) (w : World) : Calls Tryz.prog 156 #[.agg #[.int .i64 1, .int .i64 2, .int .i64 m.d, .bool false]] w fun e w' => e = .returned (.bool true) ∧ Below w.heap.size w w' := by
  cases m
  · exact unitok_c w
  · exact unitok_6 w
theorem grain_m (m : Md) (w : World) : Calls Tryz.prog 166 #[.int .i64 m.num, .int .i64 m.u] w fun e w' => e = .returned (.tuple #[.int .i64 12700000, .bool true]) ∧ w = w' := by
  cases m
  · exact grain_i 50000 w (by omega) (by omega)
  · exact grain_c 1270000 w (by omega) (by omega)
inductive IOb where
  | disc (x y : Int)
  | line (x y a b : Int)
def IOb.cells : IOb → List Value
  | .disc x y => [.bool true, .int .i64 1, .int .i64 x, .int .i64 y, .int .i64 0, .int .i64 0, .int .i64 0, .int .i64 0, .int .i64 6350000, .slice none 0 0, .slice none 0 0]
  | .line x y a b => [.bool true, .int .i64 3, .int .i64 x, .int .i64 y, .int .i64 a, .int .i64 b, .int .i64 0, .int .i64 0, .int .i64 6350000, .slice none 0 0, .slice none 0 0]
def iocells (l : List IOb) : List Value := l.flatMap IOb.cells
theorem iocells_append (l m : List IOb) : iocells (l ++ m) = iocells l ++ iocells m := by simp [iocells]
theorem iocells_one (o : IOb) : iocells [o] = o.cells := by simp [iocells]
structure ISt where
  stage : Nat
  x : Int
  y : Int
  objs : List IOb
  ended : Bool
def ISt.start : ISt := ⟨0, 0, 0, [], false⟩
def ISt.act (m : Md) (s : ISt) : Gr → ISt
  | .fs | .fs6 => { s with stage := 1 }
  | .mo | .inch => { s with stage := 2 }
  | .adi | .adm => { s with stage := 3 }
  | .adr => s
  | .d10 => { s with stage := 4 }
  | .m02 => { s with ended := true }
  | .op1 a b => { s with x := m.co a, y := m.co b, objs := s.objs ++ [.line s.x s.y (m.co a) (m.co b)] }
  | .op2 a b => { s with x := m.co a, y := m.co b }
  | .op3 a b => { s with x := m.co a, y := m.co b, objs := s.objs ++ [.disc (m.co a) (m.co b)] }
def ISt.may (m : Md) (s : ISt) : Gr → Prop
  | .fs => s = ISt.start ∧ m = .inch
  | .fs6 => s = ISt.start ∧ m = .mm
  | .mo => s = ⟨1, 0, 0, [], false⟩ ∧ m = .mm
  | .inch => s = ⟨1, 0, 0, [], false⟩ ∧ m = .inch
  | .adi => s = ⟨2, 0, 0, [], false⟩ ∧ m = .inch
  | .adm => s = ⟨2, 0, 0, [], false⟩ ∧ m = .mm
  | .adr => False
  | .d10 => s = ⟨3, 0, 0, [], false⟩
  | .m02 => s.stage = 4 ∧ s.ended = false
  | .op1 a b | .op2 a b | .op3 a b => (s.stage = 4 ∧ s.ended = false) ∧ (m.Fits a ∧ m.Fits b) ∧ s.objs.length < 100 ∧ (0 ≤ s.x ∧ s.x ≤ 230000000) ∧ (0 ≤ s.y ∧ s.y ≤ 230000000)
inductive ISt.Runs (m : Md) : ISt → List Gr → ISt → Prop
  | nil {s : ISt} : ISt.Runs m s [] s
  | cons {s t : ISt} {g : Gr} {gs : List Gr} : s.may m g → ISt.Runs m (s.act m g) gs t → ISt.Runs m s (g :: gs) t
def icells (m : Md) (st : Nat) (x y made : Int) (en : Bool) (M : Nat) (lv : Value) : Array Value := match st with
  | 0 => #[.int .i64 0, .int .i64 0, .int .i64 0, .int .i64 0, .bool false, .bool false, .map (some M), .int .i64 0, .slice none 0 0, .int .i64 x, .int .i64 y, .int .i64 1, .bool false, .bool true, .bool false, .bool false, .int .i64 0, .int .i64 0, .int .i64 0, .bool false, .slice none 0 0, lv, .int .i64 made, .int .i64 300, .bool en]
  | 1 => #[.int .i64 0, .int .i64 1, .int .i64 2, .int .i64 m.d, .bool false, .bool true, .map (some M), .int .i64 0, .slice none 0 0, .int .i64 x, .int .i64 y, .int .i64 1, .bool false, .bool true, .bool false, .bool false, .int .i64 0, .int .i64 0, .int .i64 0, .bool false, .slice none 0 0, lv, .int .i64 made, .int .i64 300, .bool en]
  | 2 => #[.int .i64 m.u, .int .i64 1, .int .i64 2, .int .i64 m.d, .bool false, .bool true, .map (some M), .int .i64 0, .slice none 0 0, .int .i64 x, .int .i64 y, .int .i64 1, .bool false, .bool true, .bool false, .bool false, .int .i64 0, .int .i64 0, .int .i64 0, .bool false, .slice none 0 0, lv, .int .i64 made, .int .i64 300, .bool en]
  | 3 => #[.int .i64 m.u, .int .i64 1, .int .i64 2, .int .i64 m.d, .bool false, .bool true, .map (some M), .int .i64 0, .slice none 0 0, .int .i64 x, .int .i64 y, .int .i64 1, .bool false, .bool true, .bool false, .bool false, .int .i64 0, .int .i64 0, .int .i64 0, .bool false, .slice none 0 0, lv, .int .i64 made, .int .i64 300, .bool en]
  | _ => #[.int .i64 m.u, .int .i64 1, .int .i64 2, .int .i64 m.d, .bool false, .bool true, .map (some M), .int .i64 10, .slice none 0 0, .int .i64 x, .int .i64 y, .int .i64 1, .bool false, .bool true, .bool false, .bool false, .int .i64 0, .int .i64 0, .int .i64 0, .bool false, .slice none 0 0, lv, .int .i64 made, .int .i64 300, .bool en]
def entryR : MapEntry := { key := .int .i64 10, val := .agg #[.int .i64 1, .int .i64 0, .int .i64 0, .int .i64 0, .int .i64 0, .int .i64 0, .int .i64 0, .int .i64 6350000, .slice none 0 0, .slice none 0 0, .int .i64 6350000, .bool true, .bool false, .slice none 0 0], born := 0 }
def imap (w : World) (M st : Nat) : Prop := match st with
  | 0 | 1 | 2 => IsMap w M #[] 0
  | _ => IsMap w M #[entryR] 1
theorem imap.is {w : World} {M st : Nat} (h : imap w M st) : ∃ es clk, IsMap w M es clk := by
  unfold imap at h
  split at h <;> exact ⟨_, _, h⟩
theorem imap.to {w w' : World} {M st : Nat} (h : imap w M st) (hm : ∀ es clk, IsMap w M es clk → IsMap w' M es clk) : imap w' M st := by
  unfold imap at h ⊢
  split at h <;> exact hm _ _ h
structure IAt (B P M : Nat) (m : Md) (s : ISt) (w : World) (gL capL : Nat) (lcs : Array Value) (v0 : Value) : Prop where
  blk : Blk w P 159 (icells m s.stage s.x s.y (s.objs.length : Int) s.ended M (.slice (some ⟨gL, 0, none⟩) 1 capL))
  lv : Blk w gL 162 lcs
  sz : lcs.size = capL * 7
  cap : 1 ≤ capL
  mx : capL ≤ maxLen
  gB : B ≤ gL
  h7 : lcs.toList.take 7 = [.bool false, .int .i64 0, .int .i64 0, .int .i64 0, .int .i64 0, .int .i64 0, v0]
  own : w.ownsRow B 65 11 v0 s.objs.length (iocells s.objs)
  map : imap w M s.stage
  PB : B ≤ P
  MB : B ≤ M
  BW : B ≤ w.heap.size
def IInv (B P M : Nat) (m : Md) (s : ISt) (w : World) : Prop := ∃ gL capL lcs v0, IAt B P M m s w gL capL lcs v0
theorem IAt.turnP {B P M : Nat} {m : Md} {s s' : ISt} {w w' : World} {gL capL : Nat} {lcs : Array Value} {v0 : Value} (h : IAt B P M m s w gL capL lcs v0) (hP' : Blk w' P 159 (icells m s'.stage s'.x s'.y (s'.objs.length : Int) s'.ended M (.slice (some ⟨gL, 0, none⟩) 1 capL))) (ho : Only [P] w w')
    (e2 : s'.objs = s.objs) (e3 : ∀ W, imap W M s.stage → imap W M s'.stage) : IAt B P M m s' w' gL capL lcs v0 := by
  have hne := h.blk.ne_ h.lv (by decide)
  obtain ⟨es, clk, hm⟩ := h.map.is
  have hMP := hm.blk_ne h.blk
  have hk : ∀ v n xs, w.ownsRow B 65 11 v n xs → w'.ownsRow B 65 11 v n xs := fun v n xs hv => ho.own hv (fun b hb hq => by simp at hq; subst hq; exact own_blk_ne hv h.blk (by decide) hb)
  exact ⟨hP', ho.blk h.lv (by simpa using Ne.symm hne), h.sz, h.cap, h.mx, h.gB, h.h7, by rw [e2]; exact hk _ _ _ h.own, e3 _ (h.map.to (fun es clk hm => ho.map hm (by simpa using hMP))), h.PB, h.MB, Nat.le_trans h.BW ho.size⟩
theorem IAt.alloc {B P M : Nat} {m : Md} {s : ISt} {w : World} {gL capL : Nat} {lcs : Array Value} {v0 : Value} (h : IAt B P M m s w gL capL lcs v0) (o : Obj) : IAt B P M m s (w.alloc o) gL capL lcs v0 :=
  h.turnP (h.blk.alloc o) ((Only.refl _ _).alloc o) rfl (fun _ h => h)
theorem itake_set6 {lcs : Array Value} {l : List Value} {v v' : Value} (h : lcs.toList.take 7 = l ++ [v]) (hl : l.length = 6) : (lcs.setIfInBounds 6 v').toList.take 7 = l ++ [v'] := by
  rw [Array.toList_setIfInBounds, List.take_set, h, ← hl, List.set_append_right _ _ (Nat.le_refl _)]
  simp
theorem ilev_cells {lcs : Array Value} {v0 : Value} (h7 : lcs.toList.take 7 = [.bool false, .int .i64 0, .int .i64 0, .int .i64 0, .int .i64 0, .int .i64 0, v0]) : lcs[6]? = some v0 := by
  have h : (lcs.toList.take 7)[6]? = some v0 := by rw [h7]; rfl
  rw [List.getElem?_take] at h
  simpa using h
theorem iadds {B P M : Nat} {m : Md} {s s' : ISt} {w w' : World} {gL capL : Nat} {lcs : Array Value} {v0 : Value} {pc : Int → Array Value} {o : IOb} (h : IAt B P M m s w gL capL lcs v0)
    (hA : Adds P gL 6 B s.objs.length pc lcs v0 (iocells s.objs) (s.objs.length : Int) w 1 o.cells w') (hpc : pc ((s.objs.length : Int) + 1) = icells m s'.stage s'.x s'.y (s'.objs.length : Int) s'.ended M (.slice (some ⟨gL, 0, none⟩) 1 capL))
    (e2 : s'.objs = s.objs ++ [o]) (e3 : s'.stage = s.stage) : IInv B P M m s' w' ∧ Below B w w' := by
  obtain ⟨ov', lcs', a1, a2, a3, a4, a5, a6, a7⟩ := hA
  obtain ⟨es, clk, hm⟩ := h.map.is
  have hMP := hm.blk_ne h.blk
  have hML := hm.blk_ne h.lv
  have hMo := own_map_ne h.own hm
  have hnotM : M ∉ P :: gL :: v0.ownBlock.toList := by
    simp only [List.mem_cons, Option.mem_toList, not_or]
    exact ⟨hMP, hML, hMo⟩
  have hB : Below B w w' := a6.toBelow h.BW (by
    intro b hb
    simp only [List.mem_cons, Option.mem_toList] at hb
    rcases hb with rfl | rfl | hb
    · exact h.PB
    · exact h.gB
    · exact own_ge h.own hb)
  refine ⟨⟨gL, capL, lcs', ov', ?_⟩, hB⟩
  have h7 : lcs'.toList.take 7 = [.bool false, .int .i64 0, .int .i64 0, .int .i64 0, .int .i64 0, .int .i64 0, ov'] := by
    rcases a4 with ⟨_, rfl, rfl⟩ | ⟨rfl, _⟩
    · exact h.h7
    · exact itake_set6 (l := [.bool false, .int .i64 0, .int .i64 0, .int .i64 0, .int .i64 0, .int .i64 0]) h.h7 rfl
  refine ⟨by rw [← hpc]; exact a1, a2, ?_, h.cap, h.mx, h.gB, h7, ?_, ?_, h.PB, h.MB, Nat.le_trans h.BW a6.size⟩
  · rcases a4 with ⟨_, rfl, _⟩ | ⟨rfl, _⟩
    · exact h.sz
    · simpa using h.sz
  · rw [e2, iocells_append, iocells_one, List.length_append]; exact a5
  · rw [e3]
    exact h.map.to (fun es clk hm => a6.map hm hnotM)
theorem iinv_fs (B P M : Nat) (m : Md) (s : ISt) (w : World) (B' : Nat) (A : Int) (nv : Value) (hI : IInv B P M m s w) (hm : s.may m (Gr.fs)) (hn : Numz w B' nv (Gr.fs).nums) :
    Calls Tryz.prog 63 #[.pointer (some ⟨P, 0, none⟩), .agg ((Gr.fs).cells A nv).toArray] w fun e w' => e = .returned (.int .i64 0) ∧ (IInv B P M m (s.act m (Gr.fs)) w' ∧ Below B w w') := by
  obtain ⟨gL, capL, lcs, v0, h⟩ := hI
  have hnv := hn.2 rfl
  subst hnv
  obtain ⟨rfl, rfl⟩ := hm
  have hb0 := h.blk
  refine do_8 P A 2 4 false (bs []) (bs []) (bs []) (bs []) none 0 0 w _ hb0 ?_
  have hb := (h.alloc (.cells #[.int .i64 A, .int .i64 8, .int .i64 2, .int .i64 4, .bool false, .string { data := #[] }, .string { data := #[] }, .string { data := #[] }, .string { data := #[] }, .string { data := #[] }, .slice none 0 0, .slice none 0 0] 103)).blk
  refine (define_fsg 4 (unitok_m .inch) P A _ _ _ _ _ hb).mono ?_
  rintro e w' ⟨rfl, k, o⟩
  exact ⟨rfl, ⟨gL, capL, lcs, v0, (h.alloc _).turnP k o rfl (fun _ h => h)⟩, (((Only.refl [P] w).alloc _).trans o).toBelow h.BW (by simpa using h.PB)⟩
theorem iinv_fs6 (B P M : Nat) (m : Md) (s : ISt) (w : World) (B' : Nat) (A : Int) (nv : Value) (hI : IInv B P M m s w) (hm : s.may m (Gr.fs6)) (hn : Numz w B' nv (Gr.fs6).nums) :
    Calls Tryz.prog 63 #[.pointer (some ⟨P, 0, none⟩), .agg ((Gr.fs6).cells A nv).toArray] w fun e w' => e = .returned (.int .i64 0) ∧ (IInv B P M m (s.act m (Gr.fs6)) w' ∧ Below B w w') := by
  obtain ⟨gL, capL, lcs, v0, h⟩ := hI
  have hnv := hn.2 rfl
  subst hnv
  obtain ⟨rfl, rfl⟩ := hm
  have hb0 := h.blk
  refine do_8 P A 2 6 false (bs []) (bs []) (bs []) (bs []) none 0 0 w _ hb0 ?_
  have hb := (h.alloc (.cells #[.int .i64 A, .int .i64 8, .int .i64 2, .int .i64 6, .bool false, .string { data := #[] }, .string { data := #[] }, .string { data := #[] }, .string { data := #[] }, .string { data := #[] }, .slice none 0 0, .slice none 0 0] 103)).blk
  refine (define_fsg 6 (unitok_m .mm) P A _ _ _ _ _ hb).mono ?_
  rintro e w' ⟨rfl, k, o⟩
  exact ⟨rfl, ⟨gL, capL, lcs, v0, (h.alloc _).turnP k o rfl (fun _ h => h)⟩, (((Only.refl [P] w).alloc _).trans o).toBelow h.BW (by simpa using h.PB)⟩
theorem iinv_mo (B P M : Nat) (m : Md) (s : ISt) (w : World) (B' : Nat) (A : Int) (nv : Value) (hI : IInv B P M m s w) (hm : s.may m (Gr.mo)) (hn : Numz w B' nv (Gr.mo).nums) :
    Calls Tryz.prog 63 #[.pointer (some ⟨P, 0, none⟩), .agg ((Gr.mo).cells A nv).toArray] w fun e w' => e = .returned (.int .i64 0) ∧ (IInv B P M m (s.act m (Gr.mo)) w' ∧ Below B w w') := by
  obtain ⟨gL, capL, lcs, v0, h⟩ := hI
  have hnv := hn.2 rfl
  subst hnv
  obtain ⟨rfl, rfl⟩ := hm
  have hb0 := h.blk
  refine do_9 P A 1 0 false (bs []) (bs []) (bs []) (bs []) none 0 0 w _ hb0 ?_
  have hb := (h.alloc (.cells #[.int .i64 A, .int .i64 9, .int .i64 1, .int .i64 0, .bool false, .string { data := #[] }, .string { data := #[] }, .string { data := #[] }, .string { data := #[] }, .string { data := #[] }, .slice none 0 0, .slice none 0 0] 103)).blk
  refine (define_mog 1 P A _ hb).mono ?_
  rintro e w' ⟨rfl, k, o⟩
  exact ⟨rfl, ⟨gL, capL, lcs, v0, (h.alloc _).turnP k o rfl (fun _ h => h)⟩, (((Only.refl [P] w).alloc _).trans o).toBelow h.BW (by simpa using h.PB)⟩
theorem iinv_inch (B P M : Nat) (m : Md) (s : ISt) (w : World) (B' : Nat) (A : Int) (nv : Value) (hI : IInv B P M m s w) (hm : s.may m (Gr.inch)) (hn : Numz w B' nv (Gr.inch).nums) :
    Calls Tryz.prog 63 #[.pointer (some ⟨P, 0, none⟩), .agg ((Gr.inch).cells A nv).toArray] w fun e w' => e = .returned (.int .i64 0) ∧ (IInv B P M m (s.act m (Gr.inch)) w' ∧ Below B w w') := by
  obtain ⟨gL, capL, lcs, v0, h⟩ := hI
  have hnv := hn.2 rfl
  subst hnv
  obtain ⟨rfl, rfl⟩ := hm
  have hb0 := h.blk
  refine do_9 P A 2 0 false (bs []) (bs []) (bs []) (bs []) none 0 0 w _ hb0 ?_
  have hb := (h.alloc (.cells #[.int .i64 A, .int .i64 9, .int .i64 2, .int .i64 0, .bool false, .string { data := #[] }, .string { data := #[] }, .string { data := #[] }, .string { data := #[] }, .string { data := #[] }, .slice none 0 0, .slice none 0 0] 103)).blk
  refine (define_mog 2 P A _ hb).mono ?_
  rintro e w' ⟨rfl, k, o⟩
  exact ⟨rfl, ⟨gL, capL, lcs, v0, (h.alloc _).turnP k o rfl (fun _ h => h)⟩, (((Only.refl [P] w).alloc _).trans o).toBelow h.BW (by simpa using h.PB)⟩
theorem iinv_adi (B P M : Nat) (m : Md) (s : ISt) (w : World) (B' : Nat) (A : Int) (nv : Value) (hI : IInv B P M m s w) (hm : s.may m (Gr.adi)) (hn : Numz w B' nv (Gr.adi).nums) :
    Calls Tryz.prog 63 #[.pointer (some ⟨P, 0, none⟩), .agg ((Gr.adi).cells A nv).toArray] w fun e w' => e = .returned (.int .i64 0) ∧ (IInv B P M m (s.act m (Gr.adi)) w' ∧ Below B w w') := by
  obtain ⟨gL, capL, lcs, v0, h⟩ := hI
  obtain ⟨rfl, rfl⟩ := hm
  obtain ⟨gn, cn, rfl, _, hgn⟩ := World.ownsRow.form hn.1 (by decide)
  have hc : w.cell? ⟨gn, 0, none⟩ = some (.int .i64 50000) := by
    have := hn.1.cellAt 0 (by decide)
    simpa [Gr.nums] using this
  have hmp : IsMap w M #[] 0 := h.map
  have hb0 := h.blk
  have hPM := hmp.blk_ne hb0
  have hLM := hmp.blk_ne h.lv
  refine do_10 P A 10 0 false (bs [67]) (bs []) (bs []) (bs []) (some ⟨gn, 0, none⟩) 1 cn w _ hb0 ?_
  have hb := (h.alloc (.cells #[.int .i64 A, .int .i64 10, .int .i64 10, .int .i64 0, .bool false, .string (bs [67]), .string { data := #[] }, .string { data := #[] }, .string { data := #[] }, .string { data := #[] }, .slice (some ⟨gn, 0, none⟩) 1 cn, .slice none 0 0] 103)).blk
  refine (define_adg (Md.u .inch) 50000 (Md.u0 .inch) (grain_m .inch) P M gL capL gn cn A _ hb (hmp.alloc _) h.cap ?_ ?_).mono ?_
  · rw [World.cell?_alloc_lt _ _ _ hgn]; exact hc
  · simp; omega
  rintro e w' ⟨rfl, m, o⟩
  have o2 : Only [M] w w' := ((Only.refl [M] w).alloc _).trans o
  refine ⟨rfl, ⟨gL, capL, lcs, v0, ?_⟩, o2.toBelow h.BW (by simpa using h.MB)⟩
  exact ⟨o2.blk h.blk (by simpa using Ne.symm hPM), o2.blk h.lv (by simpa using Ne.symm hLM), h.sz, h.cap, h.mx, h.gB, h.h7, o2.own h.own (fun b hbq hq => own_map_ne h.own hmp (by simp at hq; rw [← hq]; exact hbq)), m, h.PB, h.MB, Nat.le_trans h.BW o2.size⟩
theorem iinv_adm (B P M : Nat) (m : Md) (s : ISt) (w : World) (B' : Nat) (A : Int) (nv : Value) (hI : IInv B P M m s w) (hm : s.may m (Gr.adm)) (hn : Numz w B' nv (Gr.adm).nums) :
    Calls Tryz.prog 63 #[.pointer (some ⟨P, 0, none⟩), .agg ((Gr.adm).cells A nv).toArray] w fun e w' => e = .returned (.int .i64 0) ∧ (IInv B P M m (s.act m (Gr.adm)) w' ∧ Below B w w') := by
  obtain ⟨gL, capL, lcs, v0, h⟩ := hI
  obtain ⟨rfl, rfl⟩ := hm
  obtain ⟨gn, cn, rfl, _, hgn⟩ := World.ownsRow.form hn.1 (by decide)
  have hc : w.cell? ⟨gn, 0, none⟩ = some (.int .i64 1270000) := by
    have := hn.1.cellAt 0 (by decide)
    simpa [Gr.nums] using this
  have hmp : IsMap w M #[] 0 := h.map
  have hb0 := h.blk
  have hPM := hmp.blk_ne hb0
  have hLM := hmp.blk_ne h.lv
  refine do_10 P A 10 0 false (bs [67]) (bs []) (bs []) (bs []) (some ⟨gn, 0, none⟩) 1 cn w _ hb0 ?_
  have hb := (h.alloc (.cells #[.int .i64 A, .int .i64 10, .int .i64 10, .int .i64 0, .bool false, .string (bs [67]), .string { data := #[] }, .string { data := #[] }, .string { data := #[] }, .string { data := #[] }, .slice (some ⟨gn, 0, none⟩) 1 cn, .slice none 0 0] 103)).blk
  refine (define_adg (Md.u .mm) 1270000 (Md.u0 .mm) (grain_m .mm) P M gL capL gn cn A _ hb (hmp.alloc _) h.cap ?_ ?_).mono ?_
  · rw [World.cell?_alloc_lt _ _ _ hgn]; exact hc
  · simp; omega
  rintro e w' ⟨rfl, m, o⟩
  have o2 : Only [M] w w' := ((Only.refl [M] w).alloc _).trans o
  refine ⟨rfl, ⟨gL, capL, lcs, v0, ?_⟩, o2.toBelow h.BW (by simpa using h.MB)⟩
  exact ⟨o2.blk h.blk (by simpa using Ne.symm hPM), o2.blk h.lv (by simpa using Ne.symm hLM), h.sz, h.cap, h.mx, h.gB, h.h7, o2.own h.own (fun b hbq hq => own_map_ne h.own hmp (by simp at hq; rw [← hq]; exact hbq)), m, h.PB, h.MB, Nat.le_trans h.BW o2.size⟩
theorem iinv_d10 (B P M : Nat) (m : Md) (s : ISt) (w : World) (B' : Nat) (A : Int) (nv : Value) (hI : IInv B P M m s w) (hm : s.may m (Gr.d10)) (hn : Numz w B' nv (Gr.d10).nums) :
    Calls Tryz.prog 63 #[.pointer (some ⟨P, 0, none⟩), .agg ((Gr.d10).cells A nv).toArray] w fun e w' => e = .returned (.int .i64 0) ∧ (IInv B P M m (s.act m (Gr.d10)) w' ∧ Below B w w') := by
  obtain ⟨gL, capL, lcs, v0, h⟩ := hI
  have hnv := hn.2 rfl
  subst hnv
  have hm : s = ⟨3, 0, 0, [], false⟩ := hm
  subst hm
  have hmp : IsMap w M #[entryR] 1 := h.map
  have hb0 := h.blk
  refine do_6 P A 10 0 false (bs []) (bs []) (bs []) (bs []) none 0 0 w _ hb0 ?_
  have hb := (h.alloc (.cells #[.int .i64 A, .int .i64 6, .int .i64 10, .int .i64 0, .bool false, .string { data := #[] }, .string { data := #[] }, .string { data := #[] }, .string { data := #[] }, .string { data := #[] }, .slice none 0 0, .slice none 0 0] 103)).blk
  refine (set_pick P M A 10 _ 1 6350000 6350000 true false none none 0 0 0 0 #[entryR] 1 _ hb (hmp.alloc _) rfl).mono ?_
  rintro e w' ⟨rfl, k, o⟩
  exact ⟨rfl, ⟨gL, capL, lcs, v0, (h.alloc _).turnP k o rfl (fun _ h => h)⟩, (((Only.refl [P] w).alloc _).trans o).toBelow h.BW (by simpa using h.PB)⟩
theorem iinv_m02 (B P M : Nat) (m : Md) (s : ISt) (w : World) (B' : Nat) (A : Int) (nv : Value) (hI : IInv B P M m s w) (hm : s.may m (Gr.m02)) (hn : Numz w B' nv (Gr.m02).nums) :
    Calls Tryz.prog 63 #[.pointer (some ⟨P, 0, none⟩), .agg ((Gr.m02).cells A nv).toArray] w fun e w' => e = .returned (.int .i64 0) ∧ (IInv B P M m (s.act m (Gr.m02)) w' ∧ Below B w w') := by
  obtain ⟨gL, capL, lcs, v0, h⟩ := hI
  have hnv := hn.2 rfl
  subst hnv
  obtain ⟨st, x, y, objs, en⟩ := s
  obtain ⟨h4, hen⟩ := hm
  have h4 : st = 4 := h4
  have hen : en = false := hen
  subst h4 hen
  have hb0 := h.blk
  refine (do_5 P A 0 0 false (bs []) (bs []) (bs []) (bs []) none 0 0 gL capL w hb0).mono ?_
  rintro e w' ⟨rfl, k, o⟩
  exact ⟨rfl, ⟨gL, capL, lcs, v0, h.turnP k o rfl (fun _ h => h)⟩, o.toBelow h.BW (by simpa using h.PB)⟩
theorem iinv_op2 (B P M : Nat) (m : Md) (s : ISt) (w : World) (B' : Nat) (A : Int) (nv : Value) (a b : List UInt8) (hI : IInv B P M m s w) (hm : s.may m (Gr.op2 a b)) (hn : Numz w B' nv (Gr.op2 a b).nums) :
    Calls Tryz.prog 63 #[.pointer (some ⟨P, 0, none⟩), .agg ((Gr.op2 a b).cells A nv).toArray] w fun e w' => e = .returned (.int .i64 0) ∧ (IInv B P M m (s.act m (Gr.op2 a b)) w' ∧ Below B w w') := by
  obtain ⟨gL, capL, lcs, v0, h⟩ := hI
  have hnv := hn.2 rfl
  subst hnv
  obtain ⟨st, x, y, objs, en⟩ := s
  obtain ⟨⟨h4, hen⟩, ⟨fa, fb⟩, hlen, ⟨hx0, hx1⟩, hy0, hy1⟩ := hm
  have h4 : st = 4 := h4
  have hen : en = false := hen
  subst h4 hen
  have hb0 := h.blk
  refine do_7 P A 2 0 false (bs []) (bs a) (bs b) (bs []) none 0 0 w _ hb0 ?_
  have h' := h.alloc (.cells #[.int .i64 A, .int .i64 7, .int .i64 2, .int .i64 0, .bool false, .string { data := #[] }, .string (bs a), .string (bs b), .string { data := #[] }, .string { data := #[] }, .slice none 0 0, .slice none 0 0] 103)
  have hb := h'.blk
  have ca := fun w => coord_m m a w fa
  have cb := fun w => coord_m m b w fb
  refine (operate_2g P A x y m.u m.d (m.co a) (m.co b) (bs a) (bs b) m.u0 (Md.fits_ne fa) (Md.fits_ne fb) ca cb _ hb).mono ?_
  rintro e w' ⟨rfl, k, o⟩
  exact ⟨rfl, ⟨gL, capL, lcs, v0, h'.turnP k o rfl (fun _ h => h)⟩, (((Only.refl [P] w).alloc _).trans o).toBelow h.BW (by simpa using h.PB)⟩
theorem iinv_op3 (B P M : Nat) (m : Md) (s : ISt) (w : World) (B' : Nat) (A : Int) (nv : Value) (a b : List UInt8) (hI : IInv B P M m s w) (hm : s.may m (Gr.op3 a b)) (hn : Numz w B' nv (Gr.op3 a b).nums) :
    Calls Tryz.prog 63 #[.pointer (some ⟨P, 0, none⟩), .agg ((Gr.op3 a b).cells A nv).toArray] w fun e w' => e = .returned (.int .i64 0) ∧ (IInv B P M m (s.act m (Gr.op3 a b)) w' ∧ Below B w w') := by
  obtain ⟨gL, capL, lcs, v0, h⟩ := hI
  have hnv := hn.2 rfl
  subst hnv
  obtain ⟨st, x, y, objs, en⟩ := s
  obtain ⟨⟨h4, hen⟩, ⟨fa, fb⟩, hlen, ⟨hx0, hx1⟩, hy0, hy1⟩ := hm
  have h4 : st = 4 := h4
  have hen : en = false := hen
  subst h4 hen
  have hb0 := h.blk
  refine do_7 P A 3 0 false (bs []) (bs a) (bs b) (bs []) none 0 0 w _ hb0 ?_
  have h' := h.alloc (.cells #[.int .i64 A, .int .i64 7, .int .i64 3, .int .i64 0, .bool false, .string { data := #[] }, .string (bs a), .string (bs b), .string { data := #[] }, .string { data := #[] }, .slice none 0 0, .slice none 0 0] 103)
  have hb := h'.blk
  have ca := fun w => coord_m m a w fa
  have cb := fun w => coord_m m b w fb
  have hmp : IsMap _ M #[entryR] 1 := h'.map
  have hlen : objs.length < 100 := hlen
  have hx0 : 0 ≤ x := hx0
  have hx1 : x ≤ 230000000 := hx1
  have hy0 : 0 ≤ y := hy0
  have hy1 : y ≤ 230000000 := hy1
  obtain ⟨a0, a1⟩ := Md.co_b fa
  obtain ⟨b0, b1⟩ := Md.co_b fb
  have hBW : Below B w _ := (Below.refl _ w).alloc h.BW (.cells #[.int .i64 A, .int .i64 7, .int .i64 3, .int .i64 0, .bool false, .string { data := #[] }, .string (bs a), .string (bs b), .string { data := #[] }, .string { data := #[] }, .slice none 0 0, .slice none 0 0] 103)
  refine (operate_dg P M gL capL B objs.length (objs.length : Int) 300 10 A x y true #[entryR] 1 m.u m.d (m.co a) (m.co b) (bs a) (bs b) m.u0 (Md.fits_ne fa) (Md.fits_ne fb) ca cb a0 a1 b0 b1 _ hb hmp rfl h'.lv (ilev_cells h.h7) h'.own (by omega) (by omega) (by omega) (by omega) h'.BW).mono ?_
  rintro e w' ⟨rfl, hA⟩
  obtain ⟨r1, r2⟩ := iadds (s' := ISt.act m ⟨4, x, y, objs, false⟩ (Gr.op3 a b)) (o := (.disc (m.co a) (m.co b))) h' hA (by simp [ISt.act, icells]) rfl rfl
  exact ⟨rfl, r1, hBW.trans r2⟩
theorem iinv_op1 (B P M : Nat) (m : Md) (s : ISt) (w : World) (B' : Nat) (A : Int) (nv : Value) (a b : List UInt8) (hI : IInv B P M m s w) (hm : s.may m (Gr.op1 a b)) (hn : Numz w B' nv (Gr.op1 a b).nums) :
    Calls Tryz.prog 63 #[.pointer (some ⟨P, 0, none⟩), .agg ((Gr.op1 a b).cells A nv).toArray] w fun e w' => e = .returned (.int .i64 0) ∧ (IInv B P M m (s.act m (Gr.op1 a b)) w' ∧ Below B w w') := by
  obtain ⟨gL, capL, lcs, v0, h⟩ := hI
  have hnv := hn.2 rfl
  subst hnv
  obtain ⟨st, x, y, objs, en⟩ := s
  obtain ⟨⟨h4, hen⟩, ⟨fa, fb⟩, hlen, ⟨hx0, hx1⟩, hy0, hy1⟩ := hm
  have h4 : st = 4 := h4
  have hen : en = false := hen
  subst h4 hen
  have hb0 := h.blk
  refine do_7 P A 1 0 false (bs []) (bs a) (bs b) (bs []) none 0 0 w _ hb0 ?_
  have h' := h.alloc (.cells #[.int .i64 A, .int .i64 7, .int .i64 1, .int .i64 0, .bool false, .string { data := #[] }, .string (bs a), .string (bs b), .string { data := #[] }, .string { data := #[] }, .slice none 0 0, .slice none 0 0] 103)
  have hb := h'.blk
  have ca := fun w => coord_m m a w fa
  have cb := fun w => coord_m m b w fb
  have hmp : IsMap _ M #[entryR] 1 := h'.map
  have hlen : objs.length < 100 := hlen
  have hx0 : 0 ≤ x := hx0
  have hx1 : x ≤ 230000000 := hx1
  have hy0 : 0 ≤ y := hy0
  have hy1 : y ≤ 230000000 := hy1
  obtain ⟨a0, a1⟩ := Md.co_b fa
  obtain ⟨b0, b1⟩ := Md.co_b fb
  have hBW : Below B w _ := (Below.refl _ w).alloc h.BW (.cells #[.int .i64 A, .int .i64 7, .int .i64 1, .int .i64 0, .bool false, .string { data := #[] }, .string (bs a), .string (bs b), .string { data := #[] }, .string { data := #[] }, .slice none 0 0, .slice none 0 0] 103)
  refine (operate_lg P M gL capL B objs.length (objs.length : Int) 300 10 A x y true #[entryR] 1 m.u m.d (m.co a) (m.co b) (bs a) (bs b) m.u0 (Md.fits_ne fa) (Md.fits_ne fb) ca cb a0 a1 b0 b1 (fun w => ok_line x y (m.co a) (m.co b) 6350000 w (by omega) (by omega) (by omega) (by omega) (by omega) (by omega) (by omega) (by omega) (by omega) (by omega)) _ hb hmp rfl h'.lv (ilev_cells h.h7) h'.own (by omega) (by omega) (by omega) (by omega) h'.BW).mono ?_
  rintro e w' ⟨rfl, hA⟩
  obtain ⟨r1, r2⟩ := iadds (s' := ISt.act m ⟨4, x, y, objs, false⟩ (Gr.op1 a b)) (o := (.line x y (m.co a) (m.co b))) h' hA (by simp [ISt.act, icells]) rfl rfl
  exact ⟨rfl, r1, hBW.trans r2⟩
theorem ido_c (B P M : Nat) (m : Md) (s : ISt) (w : World) (B' : Nat) (A : Int) (nv : Value) (g : Gr) (hI : IInv B P M m s w) (hm : s.may m g) (hn : Numz w B' nv g.nums) :
    Calls Tryz.prog 63 #[.pointer (some ⟨P, 0, none⟩), .agg (g.cells A nv).toArray] w fun e w' => e = .returned (.int .i64 0) ∧ (IInv B P M m (s.act m g) w' ∧ Below B w w') := by
  cases g
  case fs => exact iinv_fs B P M m s w B' A nv hI hm hn
  case fs6 => exact iinv_fs6 B P M m s w B' A nv hI hm hn
  case mo => exact iinv_mo B P M m s w B' A nv hI hm hn
  case inch => exact iinv_inch B P M m s w B' A nv hI hm hn
  case adr => exact hm.elim
  case adi => exact iinv_adi B P M m s w B' A nv hI hm hn
  case adm => exact iinv_adm B P M m s w B' A nv hI hm hn
  case d10 => exact iinv_d10 B P M m s w B' A nv hI hm hn
  case m02 => exact iinv_m02 B P M m s w B' A nv hI hm hn
  case op1 a b => exact iinv_op1 B P M m s w B' A nv a b hI hm hn
  case op2 a b => exact iinv_op2 B P M m s w B' A nv a b hI hm hn
  case op3 a b => exact iinv_op3 B P M m s w B' A nv a b hI hm hn
theorem Gr.noAM (g : Gr) : g.word.take 2 ≠ [65, 77] := by cases g <;> simp [Gr.word]
theorem group_c (g : Gr) (he : g.ext = true) (ho : g.Ok) (w : World) (b o cap : Nat) (at_ : Int) (h0 : w.cell? ⟨b, o, none⟩ = some (.int .i64 at_)) (h1 : w.cell? ⟨b, o + 1, none⟩ = some (.bool true)) (h2 : w.cell? ⟨b, o + 2, none⟩ = some (.bool true)) (h3 : w.cell? ⟨b, o + 3, none⟩ = some (.string (bs g.word))) (hlt : b < w.heap.size) :
    Calls Tryz.prog 61 #[.slice (some ⟨b, o, none⟩) 1 cap] w fun e w' => ∃ v nv, e = .returned (.tuple #[v, .int .i64 0, .int .i64 0]) ∧ Numz w' w.heap.size nv g.nums ∧ Cmds w' w.heap.size v [g.cells 0 nv] ∧ Below w.heap.size w w' := by
  have hx : ∀ w, Calls Tryz.prog 93 #[.string (bs g.word), .string { data := #[65, 77] }] w fun e w' => e = .returned (.tuple #[.string (bs g.word), .bool false]) ∧ w = w' := fun w => cutP_no g.word [65, 77] w (by have := g.word_len ho; omega) (by decide) g.noAM
  have hy : ∀ w, Calls Tryz.prog 94 #[.string (bs g.word)] w fun e w' => ∃ nv, e = .returned (.tuple #[.agg #[.int .i64 0, .int .i64 g.kind, .int .i64 g.n, .int .i64 g.m, .bool g.on, .string (bs g.name), .string (bs g.x), .string (bs g.y), .string (bs []), .string (bs []), nv, .slice none 0 0], .int .i64 0]) ∧ Numz w' w.heap.size nv g.nums ∧ Below w.heap.size w w' := fun w => extended_c g he ho w
  obtain ⟨T, eT⟩ : ∃ T, bs g.word = T := ⟨_, rfl⟩
  rw [eT] at hx hy h3
  show Calls Tryz.prog 61 #[.slice (some ⟨b, o, none⟩) 1 cap] w fun e w' => ∃ v nv, e = .returned (.tuple #[v, .int .i64 0, .int .i64 0]) ∧ Numz w' w.heap.size nv g.nums ∧ Cmds w' w.heap.size v [[.int .i64 0, .int .i64 g.kind, .int .i64 g.n, .int .i64 g.m, .bool g.on, .string (bs g.name), .string (bs g.x), .string (bs g.y), .string (bs []), .string (bs []), nv, .slice none 0 0]] ∧ Below w.heap.size w w'
  obtain ⟨K, eK⟩ : ∃ x, g.kind = x := ⟨_, rfl⟩
  obtain ⟨N, eN⟩ : ∃ x, g.n = x := ⟨_, rfl⟩
  obtain ⟨M, eM⟩ : ∃ x, g.m = x := ⟨_, rfl⟩
  obtain ⟨O, eO⟩ : ∃ x, g.on = x := ⟨_, rfl⟩
  obtain ⟨Q, eQ⟩ : ∃ x, bs g.name = x := ⟨_, rfl⟩
  obtain ⟨X, eX⟩ : ∃ x, bs g.x = x := ⟨_, rfl⟩
  obtain ⟨Y, eY⟩ : ∃ x, bs g.y = x := ⟨_, rfl⟩
  obtain ⟨E, eE⟩ : ∃ x, bs [] = x := ⟨_, rfl⟩
  rw [eK, eN, eM, eO, eQ, eX, eY, eE] at hy ⊢
  obtain ⟨L, eL⟩ : ∃ x, g.nums = x := ⟨_, rfl⟩
  rw [eL] at hy ⊢
  have H1 := Lib.hid hx
  have H2 := Lib.hid hy
  clear hx hy eT eL eK eN eM eO eQ eX eY eE he ho
  go_enter Tryz.func61, Tryz.ntmps61
  go_wp2_with (go_at_call 93; ((with_reducible refine (H1.out _).mono ?_); rintro e w' ⟨rfl, rfl⟩))
  refine (H2.out _).mono ?_
  rintro e w1 ⟨nv, rfl, hn, hb⟩
  have hB1 : Below w.heap.size w w1 := Below.trans (by exact blw) (hb.mono (by first | omega | (simp; done) | (simp; omega)))
  have k1_0 : Blk w1 (w.heap.size) 146 #[.int .i64 at_, .bool true, .bool true, .string T] := Blk.below (by exact bkw) hb (by first | omega | (simp; done) | (simp; omega))
  have c1_0 := k1_0.cell
  have f1_0 := k1_0.frozen
  have l1_0 := k1_0.lt
  have l1 := hB1.size
  obtain ⟨np, nn, nc, rfl⟩ := numz_form hn
  have HN := Lib.hid hn
  clear hb hn
  go_wp2_with fail
  go_ret3
  refine ⟨_, .slice np nn nc, rfl, ?_, ⟨by simp, ?_⟩, (hB1.alloc l1 _).alloc (Nat.le_trans l1 (by simp)) _⟩
  · exact numz_mono (numz_alloc (numz_alloc HN.out _) _) (by simp)
  · have hq := own_of_blk (B := w.heap.size) (size := 12) (n := 1) (Blk.newAt (w := w1.alloc (.cells #[.int .i64 0, .int .i64 K, .int .i64 N, .int .i64 M, .bool O, .string (Q), .string (X), .string (Y), .string (E), .string (E), .slice np nn nc, .slice none 0 0] 103)) (t := 103) (cs := #[.int .i64 0, .int .i64 K, .int .i64 N, .int .i64 M, .bool O, .string (Q), .string (X), .string (Y), .string (E), .string (E), .slice np nn nc, .slice none 0 0]) (g := w1.heap.size + 1) (by simp)) (by decide) rfl (by omega)
    exact hq
end Go.Proofs.YtfajckkbinbpiaaGreatDoor
