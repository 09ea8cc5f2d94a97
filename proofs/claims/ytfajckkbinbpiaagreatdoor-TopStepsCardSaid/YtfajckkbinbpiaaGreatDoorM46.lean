/- Walk: the texts of the statement's rows. -/
import Derived.Test.YtfajckkbinbpiaaGreatDoorM44
import Derived.Test.YtfajckkbinbpiaaGreatDoorM45
import Derived.Test.YtfajckkbinbpiaaGreatDoorM40
import Derived.Test.YtfajckkbinbpiaaGreatDoorM14
import Derived.Deep.RegionHeld3
import Derived.Deep.Cut
import Derived.Deep.CutRange
import Derived.LoopTactic
import Derived.IntWalk
namespace Go.Proofs.YtfajckkbinbpiaaGreatDoor
open Go.RowKit
set_option linter.unusedVariables false
set_option linter.unusedSimpArgs false

/-- An element of the row, as the statement reads it. -/
def itemOf (e : Int) : It := ⟨bits .and .i64 e 1 == 1, ((e / 256) % 4096).toNat, ((e / 16777216) % 4096).toNat, if bits .and .i64 e 6 == 6 then some (bits .and .i64 (e / 8) 1 == 1) else none⟩
def itsOf (l : List Int) : List It := (l.take 12).map itemOf
/-- The load of the text that was chosen, under a name of its own: so it is not taken first in vain. -/
def ld50 : Op := Op.load 9 (Operand.tmp 49)
theorem mask4095 (n : Int) : bits .and .i64 n 4095 = n % 4096 := mask 12 (by decide) 4095 (by decide) n
theorem mask1 (n : Int) : bits .and .i64 n 1 = n % 2 := mask 1 (by decide) 1 (by decide) n
theorem itsOf_ok (l : List Int) : ∀ i ∈ itsOf l, i.Ok := by
  intro i hi
  obtain ⟨e, _, rfl⟩ := List.mem_map.1 hi
  unfold It.Ok itemOf
  simp only
  omega
theorem itsOf_len (l : List Int) : (itsOf l).length ≤ 12 := by simp [itsOf]; omega
/-- The words of a row, moved: they are these. -/
noncomputable def gsF (X Y : Nat) : List It → List Gr
  | [] => []
  | i :: r => (if i.fl then .op3 (numD (i.x + 10000 * X)) (numD (i.y + 10000 * Y)) else .op2 (numD (i.x + 10000 * X)) (numD (i.y + 10000 * Y))) :: (polG i.pol ++ gsF X Y r)
theorem gsF_snoc (X Y : Nat) (its : List It) (i : It) : gsF X Y (its ++ [i]) = gsF X Y its ++ ((if i.fl then .op3 (numD (i.x + 10000 * X)) (numD (i.y + 10000 * Y)) else .op2 (numD (i.x + 10000 * X)) (numD (i.y + 10000 * Y))) :: polG i.pol) := by
  induction its with
  | nil => simp [gsF]
  | cons j r ih => simp only [List.cons_append, gsF, ih, List.append_assoc]
theorem gsOf_gsF (X Y : Nat) (its : List It) (hi : ∀ i ∈ its, i.Ok) (hX : X ≤ 21) (hY : Y ≤ 21) : GsOf X Y its (gsF X Y its) := by
  induction its with
  | nil => exact .nil
  | cons i r ih =>
    have h := hi i (by simp)
    unfold It.Ok at h
    have ca := canon_numD (i.x + 10000 * X) (by omega)
    have cb := canon_numD (i.y + 10000 * Y) (by omega)
    exact .cons ⟨ca.1, ca.2.2.1, ca.2.2.2.1⟩ ⟨cb.1, cb.2.2.1, cb.2.2.2.1⟩ ca.2.1 cb.2.1 (ih fun j hj => hi j (by simp [hj]))
set_option maxRecDepth 100000 in
set_option maxHeartbeats 16000000 in
theorem ops_c (l : List Int) (X Y : Nat) (XI YI : Int) (eX : XI = (X : Int)) (eY : YI = (Y : Int)) (hX : X ≤ 21) (hY : Y ≤ 21) (bl b off c : Nat) (p : Option Addr) (w : World) (hl : w.cell? ⟨bl, 0, none⟩ = some (.slice p l.length c)) (hp : 0 < l.length → p = some ⟨b, off, none⟩) (hc : ∀ k (h : k < l.length), w.cell? ⟨b, off + k, none⟩ = some (.int .i64 l[k])) (hlen : l.length ≤ 9223372036854775807) :
    Calls Tryz.prog 12 #[.int .i64 XI, .int .i64 YI, .pointer (some ⟨bl, 0, none⟩)] w fun e w' => e = .returned (.string (bs (texts (gsF X Y (itsOf l))))) ∧ Below w.heap.size w w' := by
  obtain ⟨N, eN⟩ : ∃ N, l.length = N := ⟨_, rfl⟩
  rw [eN] at hl hp hlen
  have HN := Lib.hid eN
  have HL := Lib.hid hl
  have HP := Lib.hid hp
  have HC := Lib.hid hc
  have lb := blk_of_cell hl
  have EXB := Lib.hid hX
  have EYB := Lib.hid hY
  have EX := Lib.hid eX
  have EY := Lib.hid eY
  clear hl hp hc eN eX eY
  go_enter Tryz.func12, Tryz.ntmps12
  go_wp2_with fail
  go_loopw [6, 7] (fun s i wr => ∃ k : Nat, i = .int .i64 (k : Int) ∧ s = .string (bs (texts (gsF X Y ((l.take k).map itemOf)))) ∧ k ≤ 12 ∧ k ≤ N ∧ Below w.heap.size w wr) (fun _ i wr => 12 - (intOf i).toNat)
  case atStart => exact ⟨0, rfl, rfl, by omega, by omega, Below.refl _ _⟩
  case round =>
  obtain ⟨k, rfl, rfl, hk, hkN, hB⟩ := hrel
  obtain ⟨gs, egs⟩ : ∃ gs, gsF X Y ((l.take k).map itemOf) = gs := ⟨_, rfl⟩
  have hG : GsOf X Y ((l.take k).map itemOf) gs := by
    rw [← egs]
    exact gsOf_gsF _ _ _ (fun i hi => by obtain ⟨e, _, rfl⟩ := List.mem_map.1 hi; unfold It.Ok itemOf; simp only; omega) EXB.out EYB.out
  rw [egs]
  have HG := Lib.hid hG
  have HE := Lib.hid egs
  have HB := Lib.hid hB
  have lw := hB.size
  have hl2 : wr.cell? ⟨bl, 0, none⟩ = some (.slice p N c) := (hB.cell (p := ⟨bl, 0, none⟩) lb).trans HL.out
  clear hG hB egs
  by_cases hlt : k < 12 ∧ k < N
  · obtain ⟨hk12, hkn⟩ := hlt
    have hpe := HP.out (by omega)
    subst hpe
    have hkl : k < l.length := by have := HN.out; omega
    obtain ⟨e, ee⟩ : ∃ e, l[k] = e := ⟨_, rfl⟩
    have he : wr.cell? ⟨b, off + k, none⟩ = some (.int .i64 e) := by
      have h1 := HC.out k hkl
      rw [HB.out.cell (p := ⟨b, off + k, none⟩) (blk_of_cell h1), h1, ee]
    have htake : l.take (k + 1) = l.take k ++ [e] := by rw [List.take_succ_eq_append_getElem hkl, ee]
    have HT := Lib.hid htake
    obtain ⟨x, ex⟩ : ∃ x : Nat, (e / 256) % 4096 = (x : Int) := ⟨((e / 256) % 4096).toNat, by omega⟩
    obtain ⟨y, ey⟩ : ∃ y : Nat, (e / 16777216) % 4096 = (y : Int) := ⟨((e / 16777216) % 4096).toNat, by omega⟩
    have x1 : x ≤ 4095 := by omega
    have y1 : y ≤ 4095 := by omega
    have mx : bits .and .i64 (e / 256) 4095 = (x : Int) := by rw [mask4095, ex]
    have my : bits .and .i64 (e / 16777216) 4095 = (y : Int) := by rw [mask4095, ey]
    have hix : (itemOf e).x = x := by show ((e / 256) % 4096).toNat = x; rw [ex]; rfl
    have hiy : (itemOf e).y = y := by show ((e / 16777216) % 4096).toNat = y; rw [ey]; rfl
    have eX := EX.out
    have eY := EY.out
    obtain ⟨U, eU⟩ : ∃ U : Int, ((x + 10000 * X : Nat) : Int) = U := ⟨_, rfl⟩
    obtain ⟨V, eV⟩ : ∃ V : Int, ((y + 10000 * Y : Nat) : Int) = V := ⟨_, rfl⟩
    have s1 : IntKind.i64.wrap (10000 * XI) = 10000 * XI := IntWalk.i64_in _ (by omega)
    have s2 : IntKind.i64.wrap ((x : Int) + 10000 * XI) = U := by rw [IntWalk.i64_in _ (by omega)]; omega
    have s3 : IntKind.i64.wrap (10000 * YI) = 10000 * YI := IntWalk.i64_in _ (by omega)
    have s4 : IntKind.i64.wrap ((y : Int) + 10000 * YI) = V := by rw [IntWalk.i64_in _ (by omega)]; omega
    have hd1 := fun w => num_d (x + 10000 * X) w (by omega)
    have hd2 := fun w => num_d (y + 10000 * Y) w (by omega)
    rw [eU] at hd1
    rw [eV] at hd2
    have ca := canon_numD (x + 10000 * X) (by omega)
    have cb := canon_numD (y + 10000 * Y) (by omega)
    have hok := HG.out.ok (fun i hi => by obtain ⟨e, _, rfl⟩ := List.mem_map.1 hi; unfold It.Ok itemOf; simp only; omega) EXB.out EYB.out
    have htl := texts_len gs hok
    have hgl := HG.out.len
    have htl2 : (texts gs).length ≤ 600 := by
      have : ((l.take k).map itemOf).length ≤ 12 := by simp; omega
      omega
    obtain ⟨da, eda⟩ : ∃ d, numD (x + 10000 * X) = d := ⟨_, rfl⟩
    obtain ⟨db, edb⟩ : ∃ d, numD (y + 10000 * Y) = d := ⟨_, rfl⟩
    rw [eda] at hd1 ca
    rw [edb] at hd2 cb
    have CA := Lib.hid ca
    have CB := Lib.hid cb
    have la := ca.2.2.2.1
    have lb6 := cb.2.2.2.1
    obtain ⟨T0, eT0⟩ : ∃ S, bs (texts gs) = S := ⟨_, rfl⟩
    obtain ⟨T1, eT1⟩ : ∃ S, bs (texts gs ++ [88]) = S := ⟨_, rfl⟩
    obtain ⟨T2, eT2⟩ : ∃ S, bs ((texts gs ++ [88]) ++ da) = S := ⟨_, rfl⟩
    obtain ⟨T3, eT3⟩ : ∃ S, bs (((texts gs ++ [88]) ++ da) ++ [89]) = S := ⟨_, rfl⟩
    obtain ⟨T4, eT4⟩ : ∃ S, bs ((((texts gs ++ [88]) ++ da) ++ [89]) ++ db) = S := ⟨_, rfl⟩
    obtain ⟨DA, eDA⟩ : ∃ S, bs da = S := ⟨_, rfl⟩
    obtain ⟨DB, eDB⟩ : ∃ S, bs db = S := ⟨_, rfl⟩
    have q1 : ∀ w, (Op.stringOp .add T0 { data := #[88] }).run Tryz.prog w = .ok (.string T1) w := fun w => add_lit _ [88] T0 T1 eT0 eT1 (by omega) (by simp) w
    have q2 : ∀ w, (Op.stringOp .add T1 DA).run Tryz.prog w = .ok (.string T2) w := fun w => by rw [← eDA]; exact add_lit _ da T1 T2 eT1 eT2 (by simp; omega) (by omega) w
    have q3 : ∀ w, (Op.stringOp .add T2 { data := #[89] }).run Tryz.prog w = .ok (.string T3) w := fun w => add_lit _ [89] T2 T3 eT2 eT3 (by simp; omega) (by simp) w
    have q4 : ∀ w, (Op.stringOp .add T3 DB).run Tryz.prog w = .ok (.string T4) w := fun w => by rw [← eDB]; exact add_lit _ db T3 T4 eT3 eT4 (by simp; omega) (by omega) w
    rw [eDA] at hd1
    rw [eDB] at hd2
    rw [eT0]
    have HD1 := Lib.hid hd1
    have HD2 := Lib.hid hd2
    have hgl2 : b < wr.heap.size := blk_of_cell he
    have hbl2 : bl < wr.heap.size := blk_of_cell hl2
    have hKS : ∀ w', Only [] wr w' → (w'.cell? ⟨bl, 0, none⟩ = some (.slice (some ⟨b, off, none⟩) N c) ∧ w'.cell? ⟨b, off + k, none⟩ = some (.int .i64 e) ∧ Only [] wr w') := fun w' o => ⟨(World.cell?_of_block (w := wr) (o.block bl hbl2 (by simp))).trans hl2, (World.cell?_of_block (w := wr) (o.block b hgl2 (by simp))).trans he, o⟩
    have i1 : (k : Int) < (N : Int) := by omega
    have i2 : (k : Int) < 12 := by omega
    have DAB := Lib.hid (And.intro eda edb)
    clear hd1 hd2 ca cb htl hgl hok htake ex ey ee eda edb hkl hX hY eX eY
    rcases Int.emod_two_eq e with hfl | hfl
    · have mf : bits .and .i64 e 1 = 0 := by rw [mask1, hfl]
      obtain ⟨T5, eT5⟩ : ∃ S, bs (((((texts gs ++ [88]) ++ da) ++ [89]) ++ db) ++ [68, 48, 50, 42]) = S := ⟨_, rfl⟩
      have q5 : ∀ w, (Op.stringOp .add T4 { data := #[68, 48, 50, 42] }).run Tryz.prog w = .ok (.string T5) w := fun w => add_lit _ [68, 48, 50, 42] T4 T5 eT4 eT5 (by simp; omega) (by simp) w
      go_upto_region 5 with (fail)
      go_cut [6] (fun s wx => s = .string T5 ∧ Only [] wr wx)
      case first =>
        have hld : ld50 = Op.load 9 (Operand.tmp 49) := rfl
        rw [← hld]
        go_region_held3 (fun w' => w'.cell? ⟨bl, 0, none⟩ = some (.slice (some ⟨b, off, none⟩) N c) ∧ w'.cell? ⟨b, off + k, none⟩ = some (.int .i64 e) ∧ Only [] wr w')
          (exact hKS _ (by (repeat' (first | (with_reducible exact Only.refl _ _) | (with_reducible assumption) | (with_reducible refine Only.drewN ?_ _) | (with_reducible refine Only.drew ?_) | (with_reducible refine Only.alloc ?_ _) | (with_reducible refine Only.setCell ?_ ?_ _) | (left; simp; done) | (right; omega) | (right; simp; done) | (right; simp; omega)))))
          (first | (go_at_call 7; (with_reducible refine (HD1.out _).mono ?_); rintro e5 w5 ⟨⟨rfl, hcq⟩, rfl⟩; clear hcq) | (go_at_call 7; (with_reducible refine (HD2.out _).mono ?_); rintro e5 w5 ⟨⟨rfl, hcq⟩, rfl⟩; clear hcq))
        all_goals
          go_wp2_with fail
          go_meet
          exact ⟨rfl, by (repeat' (first | (with_reducible exact Only.refl _ _) | (with_reducible assumption) | (with_reducible refine Only.drewN ?_ _) | (with_reducible refine Only.drew ?_) | (with_reducible refine Only.alloc ?_ _) | (with_reducible refine Only.setCell ?_ ?_ _) | (left; simp; done) | (right; omega) | (right; simp; done) | (right; simp; omega)))⟩
      case rest =>
      obtain ⟨rfl, hO⟩ := hcut
      obtain ⟨hl3, he3, hO3⟩ := hKS _ hO
      have hB3 := HB.out.trans (hO.toBelow (B := w.heap.size) lw (by simp))
      have HB3 := Lib.hid hB3
      have lw3 := hB3.size
      have lbl3 := blk_of_cell hl3
      have lb3 := blk_of_cell he3
      simp only at lbl3 lb3
      clear hKS hl2 he hO hO3 hB3 HD1 HD2 s1 s2 s3 s4 mx my q1 q2 q3 q4
      obtain ⟨z, ez⟩ : ∃ z, bits .and .i64 e 6 = z := ⟨_, rfl⟩
      by_cases hz : z = 6
      · subst hz
        rcases Int.emod_two_eq (e / 8) with h8 | h8
        · have m8 : bits .and .i64 (e / 8) 1 = 0 := by rw [mask1, h8]
          obtain ⟨T6, eT6⟩ : ∃ S, bs ((((((texts gs ++ [88]) ++ da) ++ [89]) ++ db) ++ [68, 48, 50, 42]) ++ [37, 76, 80, 67, 42, 37]) = S := ⟨_, rfl⟩
          have q6 : ∀ w, (Op.stringOp .add T5 { data := #[37, 76, 80, 67, 42, 37] }).run Tryz.prog w = .ok (.string T6) w := fun w => add_lit _ [37, 76, 80, 67, 42, 37] T5 T6 eT5 eT6 (by simp; omega) (by simp) w
          go_wp2_with fail
          go_roundw
          case rel =>
            have hf : (itemOf e).fl = false := by show (bits .and .i64 e 1 == 1) = false; rw [mf]; rfl
            have hp : (itemOf e).pol = (some false) := by
              show (if bits .and .i64 e 6 == 6 then some (bits .and .i64 (e / 8) 1 == 1) else none) = (some false)
              rw [if_pos (by rw [ez]; rfl), m8]; rfl
            have hgs : gsF X Y ((l.take (k + 1)).map itemOf) = gs ++ [.op2 da db, .lpc] := by
              rw [HT.out, List.map_append, show List.map itemOf [e] = [itemOf e] from rfl, gsF_snoc, HE.out, hf, hp, hix, hiy, DAB.out.1, DAB.out.2]
              rfl
            have hS : Value.string T6 = .string (bs (texts (gsF X Y ((l.take (k + 1)).map itemOf)))) := by rw [hgs, ← eT6]; simp [texts_append, texts_cons, texts_nil, Gr.text, Gr.ext, Gr.word, List.append_assoc]
            have hb3 := HB3.out
            first | exact ⟨k + 1, by go_num, hS, by omega, by omega, by (repeat' (first | (with_reducible exact Below.refl _ _) | (with_reducible assumption) | (with_reducible refine below_drewN ?_ _) | (with_reducible refine Below.drew ?_) | (with_reducible refine Below.alloc ?_ ?_ _) | (with_reducible refine Below.setCell ?_ ?_ _) | omega | (simp; done) | (simp; omega)))⟩ | ((repeat apply Exists.intro); exact ⟨⟨k + 1, by go_num, hS, by omega, by omega, by (repeat' (first | (with_reducible exact Below.refl _ _) | (with_reducible assumption) | (with_reducible refine below_drewN ?_ _) | (with_reducible refine Below.drew ?_) | (with_reducible refine Below.alloc ?_ ?_ _) | (with_reducible refine Below.setCell ?_ ?_ _) | omega | (simp; done) | (simp; omega)))⟩, rfl⟩)
          case measure => simp [intOf]; omega
        · have m8 : bits .and .i64 (e / 8) 1 = 1 := by rw [mask1, h8]
          obtain ⟨T6, eT6⟩ : ∃ S, bs ((((((texts gs ++ [88]) ++ da) ++ [89]) ++ db) ++ [68, 48, 50, 42]) ++ [37, 76, 80, 68, 42, 37]) = S := ⟨_, rfl⟩
          have q6 : ∀ w, (Op.stringOp .add T5 { data := #[37, 76, 80, 68, 42, 37] }).run Tryz.prog w = .ok (.string T6) w := fun w => add_lit _ [37, 76, 80, 68, 42, 37] T5 T6 eT5 eT6 (by simp; omega) (by simp) w
          go_wp2_with fail
          go_roundw
          case rel =>
            have hf : (itemOf e).fl = false := by show (bits .and .i64 e 1 == 1) = false; rw [mf]; rfl
            have hp : (itemOf e).pol = (some true) := by
              show (if bits .and .i64 e 6 == 6 then some (bits .and .i64 (e / 8) 1 == 1) else none) = (some true)
              rw [if_pos (by rw [ez]; rfl), m8]; rfl
            have hgs : gsF X Y ((l.take (k + 1)).map itemOf) = gs ++ [.op2 da db, .lpd] := by
              rw [HT.out, List.map_append, show List.map itemOf [e] = [itemOf e] from rfl, gsF_snoc, HE.out, hf, hp, hix, hiy, DAB.out.1, DAB.out.2]
              rfl
            have hS : Value.string T6 = .string (bs (texts (gsF X Y ((l.take (k + 1)).map itemOf)))) := by rw [hgs, ← eT6]; simp [texts_append, texts_cons, texts_nil, Gr.text, Gr.ext, Gr.word, List.append_assoc]
            have hb3 := HB3.out
            first | exact ⟨k + 1, by go_num, hS, by omega, by omega, by (repeat' (first | (with_reducible exact Below.refl _ _) | (with_reducible assumption) | (with_reducible refine below_drewN ?_ _) | (with_reducible refine Below.drew ?_) | (with_reducible refine Below.alloc ?_ ?_ _) | (with_reducible refine Below.setCell ?_ ?_ _) | omega | (simp; done) | (simp; omega)))⟩ | ((repeat apply Exists.intro); exact ⟨⟨k + 1, by go_num, hS, by omega, by omega, by (repeat' (first | (with_reducible exact Below.refl _ _) | (with_reducible assumption) | (with_reducible refine below_drewN ?_ _) | (with_reducible refine Below.drew ?_) | (with_reducible refine Below.alloc ?_ ?_ _) | (with_reducible refine Below.setCell ?_ ?_ _) | omega | (simp; done) | (simp; omega)))⟩, rfl⟩)
          case measure => simp [intOf]; omega
      · have hz2 : (z == 6) = false := by simpa using hz
        go_wp2_with fail
        go_roundw
        case rel =>
          have hf : (itemOf e).fl = false := by show (bits .and .i64 e 1 == 1) = false; rw [mf]; rfl
          have hp : (itemOf e).pol = none := by
            show (if bits .and .i64 e 6 == 6 then some (bits .and .i64 (e / 8) 1 == 1) else none) = none
            rw [if_neg (by rw [ez]; simpa using hz)]
          have hgs : gsF X Y ((l.take (k + 1)).map itemOf) = gs ++ [.op2 da db] := by
            rw [HT.out, List.map_append, show List.map itemOf [e] = [itemOf e] from rfl, gsF_snoc, HE.out, hf, hp, hix, hiy, DAB.out.1, DAB.out.2]
            rfl
          have hS : Value.string T5 = .string (bs (texts (gsF X Y ((l.take (k + 1)).map itemOf)))) := by rw [hgs, ← eT5]; simp [texts_append, texts_cons, texts_nil, Gr.text, Gr.ext, Gr.word, List.append_assoc]
          have hb3 := HB3.out
          first | exact ⟨k + 1, by go_num, hS, by omega, by omega, by (repeat' (first | (with_reducible exact Below.refl _ _) | (with_reducible assumption) | (with_reducible refine below_drewN ?_ _) | (with_reducible refine Below.drew ?_) | (with_reducible refine Below.alloc ?_ ?_ _) | (with_reducible refine Below.setCell ?_ ?_ _) | omega | (simp; done) | (simp; omega)))⟩ | ((repeat apply Exists.intro); exact ⟨⟨k + 1, by go_num, hS, by omega, by omega, by (repeat' (first | (with_reducible exact Below.refl _ _) | (with_reducible assumption) | (with_reducible refine below_drewN ?_ _) | (with_reducible refine Below.drew ?_) | (with_reducible refine Below.alloc ?_ ?_ _) | (with_reducible refine Below.setCell ?_ ?_ _) | omega | (simp; done) | (simp; omega)))⟩, rfl⟩)
        case measure => simp [intOf]; omega
    · have mf : bits .and .i64 e 1 = 1 := by rw [mask1, hfl]
      obtain ⟨T5, eT5⟩ : ∃ S, bs (((((texts gs ++ [88]) ++ da) ++ [89]) ++ db) ++ [68, 48, 51, 42]) = S := ⟨_, rfl⟩
      have q5 : ∀ w, (Op.stringOp .add T4 { data := #[68, 48, 51, 42] }).run Tryz.prog w = .ok (.string T5) w := fun w => add_lit _ [68, 48, 51, 42] T4 T5 eT4 eT5 (by simp; omega) (by simp) w
      go_upto_region 5 with (fail)
      go_cut [6] (fun s wx => s = .string T5 ∧ Only [] wr wx)
      case first =>
        have hld : ld50 = Op.load 9 (Operand.tmp 49) := rfl
        rw [← hld]
        go_region_held3 (fun w' => w'.cell? ⟨bl, 0, none⟩ = some (.slice (some ⟨b, off, none⟩) N c) ∧ w'.cell? ⟨b, off + k, none⟩ = some (.int .i64 e) ∧ Only [] wr w')
          (exact hKS _ (by (repeat' (first | (with_reducible exact Only.refl _ _) | (with_reducible assumption) | (with_reducible refine Only.drewN ?_ _) | (with_reducible refine Only.drew ?_) | (with_reducible refine Only.alloc ?_ _) | (with_reducible refine Only.setCell ?_ ?_ _) | (left; simp; done) | (right; omega) | (right; simp; done) | (right; simp; omega)))))
          (first | (go_at_call 7; (with_reducible refine (HD1.out _).mono ?_); rintro e5 w5 ⟨⟨rfl, hcq⟩, rfl⟩; clear hcq) | (go_at_call 7; (with_reducible refine (HD2.out _).mono ?_); rintro e5 w5 ⟨⟨rfl, hcq⟩, rfl⟩; clear hcq))
        all_goals
          go_wp2_with fail
          go_meet
          exact ⟨rfl, by (repeat' (first | (with_reducible exact Only.refl _ _) | (with_reducible assumption) | (with_reducible refine Only.drewN ?_ _) | (with_reducible refine Only.drew ?_) | (with_reducible refine Only.alloc ?_ _) | (with_reducible refine Only.setCell ?_ ?_ _) | (left; simp; done) | (right; omega) | (right; simp; done) | (right; simp; omega)))⟩
      case rest =>
      obtain ⟨rfl, hO⟩ := hcut
      obtain ⟨hl3, he3, hO3⟩ := hKS _ hO
      have hB3 := HB.out.trans (hO.toBelow (B := w.heap.size) lw (by simp))
      have HB3 := Lib.hid hB3
      have lw3 := hB3.size
      have lbl3 := blk_of_cell hl3
      have lb3 := blk_of_cell he3
      simp only at lbl3 lb3
      clear hKS hl2 he hO hO3 hB3 HD1 HD2 s1 s2 s3 s4 mx my q1 q2 q3 q4
      obtain ⟨z, ez⟩ : ∃ z, bits .and .i64 e 6 = z := ⟨_, rfl⟩
      by_cases hz : z = 6
      · subst hz
        rcases Int.emod_two_eq (e / 8) with h8 | h8
        · have m8 : bits .and .i64 (e / 8) 1 = 0 := by rw [mask1, h8]
          obtain ⟨T6, eT6⟩ : ∃ S, bs ((((((texts gs ++ [88]) ++ da) ++ [89]) ++ db) ++ [68, 48, 51, 42]) ++ [37, 76, 80, 67, 42, 37]) = S := ⟨_, rfl⟩
          have q6 : ∀ w, (Op.stringOp .add T5 { data := #[37, 76, 80, 67, 42, 37] }).run Tryz.prog w = .ok (.string T6) w := fun w => add_lit _ [37, 76, 80, 67, 42, 37] T5 T6 eT5 eT6 (by simp; omega) (by simp) w
          go_wp2_with fail
          go_roundw
          case rel =>
            have hf : (itemOf e).fl = true := by show (bits .and .i64 e 1 == 1) = true; rw [mf]; rfl
            have hp : (itemOf e).pol = (some false) := by
              show (if bits .and .i64 e 6 == 6 then some (bits .and .i64 (e / 8) 1 == 1) else none) = (some false)
              rw [if_pos (by rw [ez]; rfl), m8]; rfl
            have hgs : gsF X Y ((l.take (k + 1)).map itemOf) = gs ++ [.op3 da db, .lpc] := by
              rw [HT.out, List.map_append, show List.map itemOf [e] = [itemOf e] from rfl, gsF_snoc, HE.out, hf, hp, hix, hiy, DAB.out.1, DAB.out.2]
              rfl
            have hS : Value.string T6 = .string (bs (texts (gsF X Y ((l.take (k + 1)).map itemOf)))) := by rw [hgs, ← eT6]; simp [texts_append, texts_cons, texts_nil, Gr.text, Gr.ext, Gr.word, List.append_assoc]
            have hb3 := HB3.out
            first | exact ⟨k + 1, by go_num, hS, by omega, by omega, by (repeat' (first | (with_reducible exact Below.refl _ _) | (with_reducible assumption) | (with_reducible refine below_drewN ?_ _) | (with_reducible refine Below.drew ?_) | (with_reducible refine Below.alloc ?_ ?_ _) | (with_reducible refine Below.setCell ?_ ?_ _) | omega | (simp; done) | (simp; omega)))⟩ | ((repeat apply Exists.intro); exact ⟨⟨k + 1, by go_num, hS, by omega, by omega, by (repeat' (first | (with_reducible exact Below.refl _ _) | (with_reducible assumption) | (with_reducible refine below_drewN ?_ _) | (with_reducible refine Below.drew ?_) | (with_reducible refine Below.alloc ?_ ?_ _) | (with_reducible refine Below.setCell ?_ ?_ _) | omega | (simp; done) | (simp; omega)))⟩, rfl⟩)
          case measure => simp [intOf]; omega
        · have m8 : bits .and .i64 (e / 8) 1 = 1 := by rw [mask1, h8]
          obtain ⟨T6, eT6⟩ : ∃ S, bs ((((((texts gs ++ [88]) ++ da) ++ [89]) ++ db) ++ [68, 48, 51, 42]) ++ [37, 76, 80, 68, 42, 37]) = S := ⟨_, rfl⟩
          have q6 : ∀ w, (Op.stringOp .add T5 { data := #[37, 76, 80, 68, 42, 37] }).run Tryz.prog w = .ok (.string T6) w := fun w => add_lit _ [37, 76, 80, 68, 42, 37] T5 T6 eT5 eT6 (by simp; omega) (by simp) w
          go_wp2_with fail
          go_roundw
          case rel =>
            have hf : (itemOf e).fl = true := by show (bits .and .i64 e 1 == 1) = true; rw [mf]; rfl
            have hp : (itemOf e).pol = (some true) := by
              show (if bits .and .i64 e 6 == 6 then some (bits .and .i64 (e / 8) 1 == 1) else none) = (some true)
              rw [if_pos (by rw [ez]; rfl), m8]; rfl
            have hgs : gsF X Y ((l.take (k + 1)).map itemOf) = gs ++ [.op3 da db, .lpd] := by
              rw [HT.out, List.map_append, show List.map itemOf [e] = [itemOf e] from rfl, gsF_snoc, HE.out, hf, hp, hix, hiy, DAB.out.1, DAB.out.2]
              rfl
            have hS : Value.string T6 = .string (bs (texts (gsF X Y ((l.take (k + 1)).map itemOf)))) := by rw [hgs, ← eT6]; simp [texts_append, texts_cons, texts_nil, Gr.text, Gr.ext, Gr.word, List.append_assoc]
            have hb3 := HB3.out
            first | exact ⟨k + 1, by go_num, hS, by omega, by omega, by (repeat' (first | (with_reducible exact Below.refl _ _) | (with_reducible assumption) | (with_reducible refine below_drewN ?_ _) | (with_reducible refine Below.drew ?_) | (with_reducible refine Below.alloc ?_ ?_ _) | (with_reducible refine Below.setCell ?_ ?_ _) | omega | (simp; done) | (simp; omega)))⟩ | ((repeat apply Exists.intro); exact ⟨⟨k + 1, by go_num, hS, by omega, by omega, by (repeat' (first | (with_reducible exact Below.refl _ _) | (with_reducible assumption) | (with_reducible refine below_drewN ?_ _) | (with_reducible refine Below.drew ?_) | (with_reducible refine Below.alloc ?_ ?_ _) | (with_reducible refine Below.setCell ?_ ?_ _) | omega | (simp; done) | (simp; omega)))⟩, rfl⟩)
          case measure => simp [intOf]; omega
      · have hz2 : (z == 6) = false := by simpa using hz
        go_wp2_with fail
        go_roundw
        case rel =>
          have hf : (itemOf e).fl = true := by show (bits .and .i64 e 1 == 1) = true; rw [mf]; rfl
          have hp : (itemOf e).pol = none := by
            show (if bits .and .i64 e 6 == 6 then some (bits .and .i64 (e / 8) 1 == 1) else none) = none
            rw [if_neg (by rw [ez]; simpa using hz)]
          have hgs : gsF X Y ((l.take (k + 1)).map itemOf) = gs ++ [.op3 da db] := by
            rw [HT.out, List.map_append, show List.map itemOf [e] = [itemOf e] from rfl, gsF_snoc, HE.out, hf, hp, hix, hiy, DAB.out.1, DAB.out.2]
            rfl
          have hS : Value.string T5 = .string (bs (texts (gsF X Y ((l.take (k + 1)).map itemOf)))) := by rw [hgs, ← eT5]; simp [texts_append, texts_cons, texts_nil, Gr.text, Gr.ext, Gr.word, List.append_assoc]
          have hb3 := HB3.out
          first | exact ⟨k + 1, by go_num, hS, by omega, by omega, by (repeat' (first | (with_reducible exact Below.refl _ _) | (with_reducible assumption) | (with_reducible refine below_drewN ?_ _) | (with_reducible refine Below.drew ?_) | (with_reducible refine Below.alloc ?_ ?_ _) | (with_reducible refine Below.setCell ?_ ?_ _) | omega | (simp; done) | (simp; omega)))⟩ | ((repeat apply Exists.intro); exact ⟨⟨k + 1, by go_num, hS, by omega, by omega, by (repeat' (first | (with_reducible exact Below.refl _ _) | (with_reducible assumption) | (with_reducible refine below_drewN ?_ _) | (with_reducible refine Below.drew ?_) | (with_reducible refine Below.alloc ?_ ?_ _) | (with_reducible refine Below.setCell ?_ ?_ _) | omega | (simp; done) | (simp; omega)))⟩, rfl⟩)
        case measure => simp [intOf]; omega
  · have hfin : texts gs = texts (gsF X Y (itsOf l)) := by
      have h2 : l.take 12 = l.take k := by
        by_cases h : k = 12
        · rw [h]
        · rw [List.take_of_length_le (by have := HN.out; omega), List.take_of_length_le (by have := HN.out; omega)]
      unfold itsOf; rw [h2, HE.out]
    have HF := Lib.hid hfin
    clear hfin
    by_cases hkn : k < N
    · have hk12 : ¬ k < 12 := fun h => hlt ⟨h, hkn⟩
      clear hlt
      go_wp2_with fail
      go_ret
      exact ⟨congrArg (fun t => Ending.returned (Value.string (bs t))) HF.out, HB.out⟩
    · clear hlt
      go_wp2_with fail
      go_ret
      exact ⟨congrArg (fun t => Ending.returned (Value.string (bs t))) HF.out, HB.out⟩
end Go.Proofs.YtfajckkbinbpiaaGreatDoor
