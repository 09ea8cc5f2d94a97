/- Walk: the statement's function. -/
import Derived.Test.YtfajckkbinbpiaaGreatDoorIRen
import Derived.Test.YtfajckkbinbpiaaGreatDoorILaw
import Derived.Test.YtfajckkbinbpiaaGreatDoorAwk27
import Derived.Deep.RegionHeld3
import Derived.Deep.Cut
import Derived.Deep.CutRange
import Derived.LoopTactic
import Derived.IntWalk
namespace Go.Proofs.YtfajckkbinbpiaaGreatDoor
open Go.RowKit
set_option linter.unusedVariables false
set_option linter.unusedSimpArgs false

noncomputable def preI (m : Md) (l : List Itm) : List Gr := m.head ++ l.map (grI m)
theorem preI_end (m : Md) (l : List Itm) : preI m l ++ [.m02] = gsI m l := rfl
theorem preI_snoc (m : Md) (l : List Itm) (i : Itm) : preI m (l ++ [i]) = preI m l ++ [grI m i] := by simp [preI]
theorem preI_ok (m : Md) (l : List Itm) (h : ∀ i ∈ l, i.Ok) : ∀ g ∈ preI m l, g.Ok := fun g hg => gsI_ok m l h g (by rw [← preI_end]; exact List.mem_append_left _ hg)
theorem preI_len (m : Md) (l : List Itm) : (preI m l).length = l.length + 4 := by unfold preI; cases m <;> simp [Md.head] <;> omega
theorem pre_a : bs (texts (preI .inch [])) = { data := #[37, 70, 83, 76, 65, 88, 50, 52, 89, 50, 52, 42, 37, 37, 77, 79, 73, 78, 42, 37, 37, 65, 68, 68, 49, 48, 67, 44, 48, 46, 48, 53, 42, 37, 68, 49, 48, 42] } := by rfl
theorem pre_b : bs (texts (preI .mm [])) = { data := #[37, 70, 83, 76, 65, 88, 50, 54, 89, 50, 54, 42, 37, 37, 77, 79, 77, 77, 42, 37, 37, 65, 68, 68, 49, 48, 67, 44, 49, 46, 50, 55, 42, 37, 68, 49, 48, 42] } := by rfl
/-- How an operation ends. -/
def dl (k : Nat) : List UInt8 := if k = 1 then [68, 48, 50, 42] else if k = 2 then [68, 48, 51, 42] else [68, 48, 49, 42]
theorem dl_len (k : Nat) : (dl k).length = 4 := by unfold dl; split; rfl; split <;> rfl
theorem grI_text (m : Md) (i : Itm) : (grI m i).text = ((([88] ++ numD8 (m.f * i.x)) ++ [89]) ++ numD8 (m.f * i.y)) ++ dl i.k := by
  unfold grI dl
  split
  · simp [Gr.text, Gr.ext, Gr.word]
  · split <;> simp [Gr.text, Gr.ext, Gr.word]
theorem imask4095 (n : Int) : bits .and .i64 n 4095 = n % 4096 := mask 12 (by decide) 4095 (by decide) n
theorem objs_ok {l : List Itm} (h : ∀ i ∈ l, i.Ok) : ∀ o ∈ drawI 0 0 l, o.Ok := fun o ho => by
  have := drawI_in l 0 0 h (by omega) (by omega) o ho
  cases o <;> exact this
set_option maxRecDepth 100000 in
set_option maxHeartbeats 64000000 in
theorem topinches_c (l n : List Int) (p q : Option Addr) (b off c b2 off2 c2 : Nat) (w : World) (hp : 0 < l.length → p = some ⟨b, off, none⟩) (hc : ∀ k (h : k < l.length), w.cell? ⟨b, off + k, none⟩ = some (.int .i64 l[k])) (hlen : l.length ≤ 9223372036854775807) (hp2 : 0 < n.length → q = some ⟨b2, off2, none⟩) (hc2 : ∀ k (h : k < n.length), w.cell? ⟨b2, off2 + k, none⟩ = some (.int .i64 n[k])) (hlen2 : n.length ≤ 9223372036854775807) :
    Calls Tryz.prog 3 #[.slice p l.length c, .slice q n.length c2] w fun e w' => e = .returned (.bool true) ∧ Below w.heap.size w w' := by
  have CAW := Lib.hid awake_c
  have CMD := Lib.hid (fun u (hb : Below w.heap.size w u) => made_c n q b2 off2 c2 u hp2 (fun k h => (hb.cell (p := ⟨b2, off2 + k, none⟩) (blk_of_cell (hc2 k h))).trans (hc2 k h)) hlen2)
  obtain ⟨N, eN⟩ : ∃ N, l.length = N := ⟨_, rfl⟩
  rw [eN] at hp hlen ⊢
  have HN := Lib.hid eN
  have HP := Lib.hid hp
  have HC := Lib.hid hc
  have ea := pre_a
  have eb := pre_b
  clear hp hc eN hp2 hc2
  go_enter Tryz.func3, Tryz.ntmps3
  go_wp2_with fail
  rw [← ea, ← eb]
  clear ea eb
  go_loopw [5, 6, 7] (fun s t i wr => ∃ k : Nat, i = .int .i64 (k : Int) ∧ s = .string (bs (texts (preI .inch ((l.take k).map itmOf)))) ∧ t = .string (bs (texts (preI .mm ((l.take k).map itmOf)))) ∧ k ≤ 20 ∧ k ≤ N ∧ Below w.heap.size w wr) (fun _ _ i wr => 20 - (intOf i).toNat)
  case atStart => exact ⟨0, rfl, rfl, rfl, by omega, by omega, Below.refl _ _⟩
  case round =>
  obtain ⟨k, rfl, rfl, rfl, hk, hkN, hB⟩ := hrel
  have hits : ∀ i ∈ (l.take k).map itmOf, i.Ok := fun i hi => by obtain ⟨e, _, rfl⟩ := List.mem_map.1 hi; exact itmOf_ok e
  have hil : ((l.take k).map itmOf).length ≤ 20 := by simp; omega
  obtain ⟨ga, ega⟩ : ∃ gs, preI .inch ((l.take k).map itmOf) = gs := ⟨_, rfl⟩
  obtain ⟨gb, egb⟩ : ∃ gs, preI .mm ((l.take k).map itmOf) = gs := ⟨_, rfl⟩
  have la : (texts ga).length ≤ 600 := by
    have h1 := texts_len (preI .inch ((l.take k).map itmOf)) (preI_ok _ _ hits)
    rw [preI_len] at h1
    rw [← ega]; omega
  have lb : (texts gb).length ≤ 600 := by
    have h1 := texts_len (preI .mm ((l.take k).map itmOf)) (preI_ok _ _ hits)
    rw [preI_len] at h1
    rw [← egb]; omega
  rw [ega, egb]
  have HEA := Lib.hid ega
  have HEB := Lib.hid egb
  have HB := Lib.hid hB
  have HIT := Lib.hid hits
  have HIL := Lib.hid hil
  have lw := hB.size
  clear hB ega egb hits hil
  by_cases hlt : k < 20 ∧ k < N
  · obtain ⟨hk20, hkn⟩ := hlt
    have hpe := HP.out (by omega)
    subst hpe
    have hkl : k < l.length := by have := HN.out; omega
    obtain ⟨e, ee⟩ : ∃ e, l[k] = e := ⟨_, rfl⟩
    have he : wr.cell? ⟨b, off + k, none⟩ = some (.int .i64 e) := by
      have h1 := HC.out k hkl
      rw [HB.out.cell (p := ⟨b, off + k, none⟩) (blk_of_cell h1), h1, ee]
    have htake : l.take (k + 1) = l.take k ++ [e] := by rw [List.take_succ_eq_append_getElem hkl, ee]
    have HT := Lib.hid htake
    obtain ⟨z, ez⟩ : ∃ z : Nat, e % 4 = (z : Int) := ⟨(e % 4).toNat, by omega⟩
    obtain ⟨x, ex⟩ : ∃ x : Nat, (e / 256) % 4096 = (x : Int) := ⟨((e / 256) % 4096).toNat, by omega⟩
    obtain ⟨y, ey⟩ : ∃ y : Nat, (e / 16777216) % 4096 = (y : Int) := ⟨((e / 16777216) % 4096).toNat, by omega⟩
    have z3 : z ≤ 3 := by omega
    have x1 : x ≤ 4095 := by omega
    have y1 : y ≤ 4095 := by omega
    have mz : bits .and .i64 e 3 = (z : Int) := by rw [imask3, ez]
    have mx : bits .and .i64 (e / 256) 4095 = (x : Int) := by rw [imask4095, ex]
    have my : bits .and .i64 (e / 16777216) 4095 = (y : Int) := by rw [imask4095, ey]
    have hit : itmOf e = ⟨z, x, y⟩ := by unfold itmOf; rw [ez, ex, ey]; rfl
    obtain ⟨U, eU⟩ : ∃ U : Int, ((2540 * x : Nat) : Int) = U := ⟨_, rfl⟩
    obtain ⟨V, eV⟩ : ∃ V : Int, ((2540 * y : Nat) : Int) = V := ⟨_, rfl⟩
    have s1 : IntKind.i64.wrap (2540 * (x : Int)) = U := by rw [IntWalk.i64_in _ (by omega)]; omega
    have s2 : IntKind.i64.wrap (2540 * (y : Int)) = V := by rw [IntWalk.i64_in _ (by omega)]; omega
    have hd1 := fun w => num8_d x w (by omega)
    have hd2 := fun w => num8_d y w (by omega)
    have hd3 := fun w => num8_d (2540 * x) w (by omega)
    have hd4 := fun w => num8_d (2540 * y) w (by omega)
    rw [eU] at hd3
    rw [eV] at hd4
    have l1 := (canon8_numD8 x (by omega)).2.2.2.1
    have l2 := (canon8_numD8 y (by omega)).2.2.2.1
    have l3 := (canon8_numD8 (2540 * x) (by omega)).2.2.2.1
    have l4 := (canon8_numD8 (2540 * y) (by omega)).2.2.2.1
    obtain ⟨da, eda⟩ : ∃ d, numD8 x = d := ⟨_, rfl⟩
    obtain ⟨db, edb⟩ : ∃ d, numD8 y = d := ⟨_, rfl⟩
    obtain ⟨dc, edc⟩ : ∃ d, numD8 (2540 * x) = d := ⟨_, rfl⟩
    obtain ⟨dd, edd⟩ : ∃ d, numD8 (2540 * y) = d := ⟨_, rfl⟩
    rw [eda] at hd1 l1
    rw [edb] at hd2 l2
    rw [edc] at hd3 l3
    rw [edd] at hd4 l4
    have l5 := dl_len z
    have hga : preI .inch ((l.take (k + 1)).map itmOf) = ga ++ [grI .inch ⟨z, x, y⟩] := by rw [HT.out, List.map_append, show List.map itmOf [e] = [itmOf e] from rfl, preI_snoc, HEA.out, hit]
    have hgb : preI .mm ((l.take (k + 1)).map itmOf) = gb ++ [grI .mm ⟨z, x, y⟩] := by rw [HT.out, List.map_append, show List.map itmOf [e] = [itmOf e] from rfl, preI_snoc, HEB.out, hit]
    have hta : texts (preI .inch ((l.take (k + 1)).map itmOf)) = (((((texts ga) ++ [88]) ++ da) ++ [89]) ++ db) ++ dl z := by
      rw [hga, texts_append, texts_cons, texts_nil, grI_text, List.append_nil]
      show texts ga ++ (((([88] ++ numD8 (1 * x)) ++ [89]) ++ numD8 (1 * y)) ++ dl z) = _
      rw [Nat.one_mul, Nat.one_mul, eda, edb]
      simp only [List.append_assoc]
    have htb : texts (preI .mm ((l.take (k + 1)).map itmOf)) = (((((texts gb) ++ [88]) ++ dc) ++ [89]) ++ dd) ++ dl z := by
      rw [hgb, texts_append, texts_cons, texts_nil, grI_text, List.append_nil]
      show texts gb ++ (((([88] ++ numD8 (2540 * x)) ++ [89]) ++ numD8 (2540 * y)) ++ dl z) = _
      rw [edc, edd]
      simp only [List.append_assoc]
    obtain ⟨DA, eDA⟩ : ∃ S, bs da = S := ⟨_, rfl⟩
    obtain ⟨DB, eDB⟩ : ∃ S, bs db = S := ⟨_, rfl⟩
    obtain ⟨DC, eDC⟩ : ∃ S, bs dc = S := ⟨_, rfl⟩
    obtain ⟨DD, eDD⟩ : ∃ S, bs dd = S := ⟨_, rfl⟩
    obtain ⟨DW, eDW⟩ : ∃ S, bs (dl z) = S := ⟨_, rfl⟩
    obtain ⟨A0, eA0⟩ : ∃ S, bs (texts ga) = S := ⟨_, rfl⟩
    obtain ⟨A1, eA1⟩ : ∃ S, bs ((texts ga) ++ [88]) = S := ⟨_, rfl⟩
    obtain ⟨A2, eA2⟩ : ∃ S, bs (((texts ga) ++ [88]) ++ da) = S := ⟨_, rfl⟩
    obtain ⟨A3, eA3⟩ : ∃ S, bs ((((texts ga) ++ [88]) ++ da) ++ [89]) = S := ⟨_, rfl⟩
    obtain ⟨A4, eA4⟩ : ∃ S, bs (((((texts ga) ++ [88]) ++ da) ++ [89]) ++ db) = S := ⟨_, rfl⟩
    obtain ⟨A5, eA5⟩ : ∃ S, bs ((((((texts ga) ++ [88]) ++ da) ++ [89]) ++ db) ++ dl z) = S := ⟨_, rfl⟩
    obtain ⟨B0, eB0⟩ : ∃ S, bs (texts gb) = S := ⟨_, rfl⟩
    obtain ⟨B1, eB1⟩ : ∃ S, bs ((texts gb) ++ [88]) = S := ⟨_, rfl⟩
    obtain ⟨B2, eB2⟩ : ∃ S, bs (((texts gb) ++ [88]) ++ dc) = S := ⟨_, rfl⟩
    obtain ⟨B3, eB3⟩ : ∃ S, bs ((((texts gb) ++ [88]) ++ dc) ++ [89]) = S := ⟨_, rfl⟩
    obtain ⟨B4, eB4⟩ : ∃ S, bs (((((texts gb) ++ [88]) ++ dc) ++ [89]) ++ dd) = S := ⟨_, rfl⟩
    obtain ⟨B5, eB5⟩ : ∃ S, bs ((((((texts gb) ++ [88]) ++ dc) ++ [89]) ++ dd) ++ dl z) = S := ⟨_, rfl⟩
    have qA0 : ∀ w, (Op.stringOp .add A0 { data := #[88] }).run Tryz.prog w = .ok (.string A1) w := fun w => by exact add_lit _ [88] A0 A1 eA0 eA1 (by first | omega | (simp; omega)) (by first | (simp; done) | (simp; omega) | omega) w
    have qA1 : ∀ w, (Op.stringOp .add A1 DA).run Tryz.prog w = .ok (.string A2) w := fun w => by rw [← eDA]; exact add_lit _ da A1 A2 eA1 eA2 (by first | omega | (simp; omega)) (by first | (simp; done) | (simp; omega) | omega) w
    have qA2 : ∀ w, (Op.stringOp .add A2 { data := #[89] }).run Tryz.prog w = .ok (.string A3) w := fun w => by exact add_lit _ [89] A2 A3 eA2 eA3 (by first | omega | (simp; omega)) (by first | (simp; done) | (simp; omega) | omega) w
    have qA3 : ∀ w, (Op.stringOp .add A3 DB).run Tryz.prog w = .ok (.string A4) w := fun w => by rw [← eDB]; exact add_lit _ db A3 A4 eA3 eA4 (by first | omega | (simp; omega)) (by first | (simp; done) | (simp; omega) | omega) w
    have qA4 : ∀ w, (Op.stringOp .add A4 DW).run Tryz.prog w = .ok (.string A5) w := fun w => by rw [← eDW]; exact add_lit _ (dl z) A4 A5 eA4 eA5 (by first | omega | (simp; omega)) (by first | (simp; done) | (simp; omega) | omega) w
    have qB0 : ∀ w, (Op.stringOp .add B0 { data := #[88] }).run Tryz.prog w = .ok (.string B1) w := fun w => by exact add_lit _ [88] B0 B1 eB0 eB1 (by first | omega | (simp; omega)) (by first | (simp; done) | (simp; omega) | omega) w
    have qB1 : ∀ w, (Op.stringOp .add B1 DC).run Tryz.prog w = .ok (.string B2) w := fun w => by rw [← eDC]; exact add_lit _ dc B1 B2 eB1 eB2 (by first | omega | (simp; omega)) (by first | (simp; done) | (simp; omega) | omega) w
    have qB2 : ∀ w, (Op.stringOp .add B2 { data := #[89] }).run Tryz.prog w = .ok (.string B3) w := fun w => by exact add_lit _ [89] B2 B3 eB2 eB3 (by first | omega | (simp; omega)) (by first | (simp; done) | (simp; omega) | omega) w
    have qB3 : ∀ w, (Op.stringOp .add B3 DD).run Tryz.prog w = .ok (.string B4) w := fun w => by rw [← eDD]; exact add_lit _ dd B3 B4 eB3 eB4 (by first | omega | (simp; omega)) (by first | (simp; done) | (simp; omega) | omega) w
    have qB4 : ∀ w, (Op.stringOp .add B4 DW).run Tryz.prog w = .ok (.string B5) w := fun w => by rw [← eDW]; exact add_lit _ (dl z) B4 B5 eB4 eB5 (by first | omega | (simp; omega)) (by first | (simp; done) | (simp; omega) | omega) w
    rw [eDA] at hd1
    rw [eDB] at hd2
    rw [eDC] at hd3
    rw [eDD] at hd4
    rw [eA0, eB0]
    have HD1 := Lib.hid hd1
    have HD2 := Lib.hid hd2
    have HD3 := Lib.hid hd3
    have HD4 := Lib.hid hd4
    have HTA := Lib.hid hta
    have HTB := Lib.hid htb
    have EA5 := Lib.hid eA5
    have EB5 := Lib.hid eB5
    have EDW := Lib.hid eDW
    have i1 : (k : Int) < (N : Int) := by omega
    have i2 : (k : Int) < 20 := by omega
    have lgb : b < wr.heap.size := blk_of_cell he
    clear hd1 hd2 hd3 hd4 hta htb hga hgb hit ex ey ez ee hkl htake eA0 eA1 eA2 eA3 eA4 eA5 eB0 eB1 eB2 eB3 eB4 eB5 eDA eDB eDC eDD eDW eda edb edc edd eU eV l1 l2 l3 l4 l5 la lb
    go_wp2_with fail
    go_quiet (fail)
    obtain ⟨wy, ewy⟩ : ∃ W, wr.drewN nq = W := ⟨_, rfl⟩
    have he2 : wy.cell? ⟨b, off + k, none⟩ = some (.int .i64 e) := by rw [← ewy]; exact he
    have hby : Below wr.heap.size wr wy := by rw [← ewy]; exact below_drewN (Below.refl _ _) _
    have lwy := hby.size
    have lgb2 : b < wy.heap.size := by omega
    rw [ewy]
    clear ewy he
    go_upto_region 6 with (fail)
    go_cut [10] (fun d wx => d = .string DW ∧ Below wr.heap.size wr wx)
    case first =>
      rcases (show z = 0 ∨ z = 1 ∨ z = 2 ∨ z = 3 by omega) with rfl | rfl | rfl | rfl
      · have mz0 : bits .and .i64 e 3 = 0 := mz
        clear mz
        go_wp2_with fail
        go_meet
        exact ⟨by rw [← EDW.out]; rfl, hby.alloc lwy _⟩
      · have mz0 : bits .and .i64 e 3 = 1 := mz
        clear mz
        go_wp2_with fail
        go_meet
        exact ⟨by rw [← EDW.out]; rfl, hby.alloc lwy _⟩
      · have mz0 : bits .and .i64 e 3 = 2 := mz
        clear mz
        go_wp2_with fail
        go_meet
        exact ⟨by rw [← EDW.out]; rfl, hby.alloc lwy _⟩
      · have mz0 : bits .and .i64 e 3 = 3 := mz
        clear mz
        go_wp2_with fail
        go_meet
        exact ⟨by rw [← EDW.out]; rfl, hby.alloc lwy _⟩
    case rest =>
    obtain ⟨rfl, hO⟩ := hcut
    have HO9 := Lib.hid (HB.out.trans (hO.mono lw))
    clear hO he2 hby lwy lgb2 mz z3 lgb
    go_wp2_with (first | (go_at_call 7; (with_reducible refine (HD1.out _).mono ?_); rintro e5 w5 ⟨⟨rfl, hcq⟩, rfl⟩; clear hcq) | (go_at_call 7; (with_reducible refine (HD2.out _).mono ?_); rintro e5 w5 ⟨⟨rfl, hcq⟩, rfl⟩; clear hcq) | (go_at_call 7; (with_reducible refine (HD3.out _).mono ?_); rintro e5 w5 ⟨⟨rfl, hcq⟩, rfl⟩; clear hcq) | (go_at_call 7; (with_reducible refine (HD4.out _).mono ?_); rintro e5 w5 ⟨⟨rfl, hcq⟩, rfl⟩; clear hcq))
    go_roundw
    case rel =>
      have hS1 : Value.string A5 = .string (bs (texts (preI .inch ((l.take (k + 1)).map itmOf)))) := by rw [HTA.out, EA5.out]
      have hS2 : Value.string B5 = .string (bs (texts (preI .mm ((l.take (k + 1)).map itmOf)))) := by rw [HTB.out, EB5.out]
      have hr2 : ∃ k' : Nat, Value.int .i64 ((k : Int) + 1) = .int .i64 (k' : Int) ∧ Value.string A5 = .string (bs (texts (preI .inch ((l.take k').map itmOf)))) ∧ Value.string B5 = .string (bs (texts (preI .mm ((l.take k').map itmOf)))) ∧ k' ≤ 20 ∧ k' ≤ N ∧ Below w.heap.size w wc := ⟨k + 1, by go_num, hS1, hS2, by omega, by omega, HO9.out⟩
      first | exact hr2 | ((repeat apply Exists.intro); exact ⟨hr2, rfl⟩)
    case measure => simp [intOf]; omega
  · have hend : ¬ ((k : Int) < (N : Int) ∧ (k : Int) < 20) := by omega
    obtain ⟨its, eits⟩ : ∃ its, (l.take k).map itmOf = its := ⟨_, rfl⟩
    rw [eits] at HEA HEB HIT HIL
    have hF1 := fun w => inches_file .inch its HIT.out HIL.out w
    have hF2 := fun w => inches_file .mm its HIT.out HIL.out w
    rw [← preI_end, HEA.out] at hF1
    rw [← preI_end, HEB.out] at hF2
    have e1 : texts (ga ++ [.m02]) = texts ga ++ [77, 48, 50, 42] := by rw [texts_append]; rfl
    have e2 : texts (gb ++ [.m02]) = texts gb ++ [77, 48, 50, 42] := by rw [texts_append]; rfl
    rw [e1] at hF1
    rw [e2] at hF2
    obtain ⟨A0, eA0⟩ : ∃ S, bs (texts ga) = S := ⟨_, rfl⟩
    obtain ⟨B0, eB0⟩ : ∃ S, bs (texts gb) = S := ⟨_, rfl⟩
    obtain ⟨A1, eA1⟩ : ∃ S, bs (texts ga ++ [77, 48, 50, 42]) = S := ⟨_, rfl⟩
    obtain ⟨B1, eB1⟩ : ∃ S, bs (texts gb ++ [77, 48, 50, 42]) = S := ⟨_, rfl⟩
    have qA : ∀ w, (Op.stringOp .add A0 { data := #[77, 48, 50, 42] }).run Tryz.prog w = .ok (.string A1) w := fun w => add_lit _ [77, 48, 50, 42] A0 A1 eA0 eA1 (by omega) (by simp) w
    have qB : ∀ w, (Op.stringOp .add B0 { data := #[77, 48, 50, 42] }).run Tryz.prog w = .ok (.string B1) w := fun w => add_lit _ [77, 48, 50, 42] B0 B1 eB0 eB1 (by omega) (by simp) w
    rw [eA1] at hF1
    rw [eB1] at hF2
    rw [eA0, eB0]
    have hok := objs_ok HIT.out
    have hln : (drawI 0 0 its).length ≤ 1000 := by have := drawI_len its 0 0; have := HIL.out; omega
    obtain ⟨L, eL⟩ : ∃ L, drawI 0 0 its = L := ⟨_, rfl⟩
    rw [eL] at hF1 hF2 hok hln
    have HF1 := Lib.hid hF1
    have HF2 := Lib.hid hF2
    have HOK := Lib.hid hok
    have HLN := Lib.hid hln
    clear hF1 hF2 hok hln eL eA0 eB0 eA1 eB1 e1 e2 HEA HEB HIT HIL eits la lb HC HP HN
    by_cases h1 : (k : Int) < (N : Int)
    · have h2 : ¬ (k : Int) < 20 := by omega
      go_wp2_with fail
      refine (CMD.out _ HB.out).mono ?_
      rintro e z ⟨X, Y, P, kk, W, H, nn, k0, k1, k2, hM, rfl, hb⟩
      have hBz := HB.out.trans (hb.mono lw)
      have R1 := Lib.hid (fun g u h => render_i X Y P kk W H nn g k0 k1 k2 A1 L u hM HF1.out HLN.out HOK.out h)
      have R2 := Lib.hid (fun g u h => render_i X Y P kk W H nn g k0 k1 k2 B1 L u hM HF2.out HLN.out HOK.out h)
      obtain ⟨WR, eWR⟩ : ∃ x, (walkPx 4000 nn ((reachL (L.map IOb.obj)).map (·.1)) (pxsOf X Y P W H) [] 0).1 = x := ⟨_, rfl⟩
      rw [eWR] at R1 R2
      have HBZ := Lib.hid hBz
      have sz := hBz.size
      clear hb hBz HF1 HF2 HOK HLN CMD hM eWR
      go_upto_region 12 with fail
      obtain ⟨u, eu⟩ : ∃ u, (((z.alloc (.cells #[.int .i64 X, .int .i64 Y, .int .i64 P, .int .i64 (W : Int), .int .i64 (H : Int), .int .i64 (nn : Int), .slice (some ⟨z.heap.size + 1 + 1, 0, none⟩) 1 1, .slice none 0 0, .int .i64 k0, .int .i64 k1, .int .i64 k2, .int .i64 300, .int .i64 4000] 31)).alloc (.cells #[.int .i64 X, .int .i64 Y, .int .i64 P, .int .i64 (W : Int), .int .i64 (H : Int), .int .i64 (nn : Int), .slice (some ⟨z.heap.size + 1 + 1 + 1, 0, none⟩) 1 1, .slice none 0 0, .int .i64 k0, .int .i64 k1, .int .i64 k2, .int .i64 300, .int .i64 4000] 31)).alloc (.cells #[.string A1, .int .i64 200, .int .i64 0, .int .i64 0, .int .i64 255, .bool false] 34)).alloc (.cells #[.string B1, .int .i64 200, .int .i64 0, .int .i64 0, .int .i64 255, .bool false] 34) = u := ⟨_, rfl⟩
      have kJ1 : Blk u z.heap.size 31 #[.int .i64 X, .int .i64 Y, .int .i64 P, .int .i64 (W : Int), .int .i64 (H : Int), .int .i64 (nn : Int), .slice (some ⟨z.heap.size + 1 + 1, 0, none⟩) 1 1, .slice none 0 0, .int .i64 k0, .int .i64 k1, .int .i64 k2, .int .i64 300, .int .i64 4000] := by rw [← eu]; exact (((Blk.new z 31 #[.int .i64 X, .int .i64 Y, .int .i64 P, .int .i64 (W : Int), .int .i64 (H : Int), .int .i64 (nn : Int), .slice (some ⟨z.heap.size + 1 + 1, 0, none⟩) 1 1, .slice none 0 0, .int .i64 k0, .int .i64 k1, .int .i64 k2, .int .i64 300, .int .i64 4000]).alloc _).alloc _).alloc _
      have kJ2 : Blk u (z.heap.size + 1) 31 #[.int .i64 X, .int .i64 Y, .int .i64 P, .int .i64 (W : Int), .int .i64 (H : Int), .int .i64 (nn : Int), .slice (some ⟨z.heap.size + 1 + 1 + 1, 0, none⟩) 1 1, .slice none 0 0, .int .i64 k0, .int .i64 k1, .int .i64 k2, .int .i64 300, .int .i64 4000] := by rw [← eu]; exact ((Blk.newAt (by simp)).alloc _).alloc _
      have kG1 : Blk u (z.heap.size + 1 + 1) 34 #[.string A1, .int .i64 200, .int .i64 0, .int .i64 0, .int .i64 255, .bool false] := by rw [← eu]; exact (Blk.newAt (by simp)).alloc _
      have kG2 : Blk u (z.heap.size + 1 + 1 + 1) 34 #[.string B1, .int .i64 200, .int .i64 0, .int .i64 0, .int .i64 255, .bool false] := by rw [← eu]; exact Blk.newAt (by simp)
      have uB : Below w.heap.size w u := by
        rw [← eu]
        have hz := HBZ.out
        (repeat' (first | (with_reducible exact Below.refl _ _) | (with_reducible assumption) | (with_reducible refine below_drewN ?_ _) | (with_reducible refine Below.drew ?_) | (with_reducible refine Below.alloc ?_ ?_ _) | (with_reducible refine Below.setCell ?_ ?_ _) | omega | (simp; done) | (simp; omega)))
      have UB := Lib.hid uB
      have c1 := kJ1.cell
      have l1 := kJ1.lt
      have J2 := Lib.hid kJ2
      have G1 := Lib.hid kG1
      have G2 := Lib.hid kG2
      rw [eu]
      clear eu kJ1 kJ2 kG1 kG2 uB
      go_wp2_with fail
      refine (R1.out _ u G1.out).mono ?_
      rintro e y ⟨hb, hm⟩
      have J2y := Lib.hid (J2.out.below hb J2.out.lt)
      have G2y := Lib.hid (G2.out.below hb G2.out.lt)
      have YB := Lib.hid (UB.out.trans (hb.mono UB.out.size))
      have c2 := J2y.out.cell
      have l2 := J2y.out.lt
      clear hb c1 l1
      cases WR with
      | none =>
        simp only [] at hm
        subst hm
        go_upto_region 13 with fail
        obtain ⟨v, ev⟩ : ∃ v, (y.alloc (.cells #[.int .i64 0, .int .i64 0, .bool false, .slice none 0 0] 37)).alloc (.cells #[.int .i64 1, .int .i64 0, .int .i64 0, .int .i64 6] 40) = v := ⟨_, rfl⟩
        have kI : Blk v y.heap.size 37 #[.int .i64 0, .int .i64 0, .bool false, .slice none 0 0] := by rw [← ev]; exact (Blk.new _ _ _).alloc _
        have kF : Blk v (y.heap.size + 1) 40 #[.int .i64 1, .int .i64 0, .int .i64 0, .int .i64 6] := by rw [← ev]; exact Blk.newAt (by simp)
        have kJ : Blk v (z.heap.size + 1) 31 #[.int .i64 X, .int .i64 Y, .int .i64 P, .int .i64 (W : Int), .int .i64 (H : Int), .int .i64 (nn : Int), .slice (some ⟨z.heap.size + 1 + 1 + 1, 0, none⟩) 1 1, .slice none 0 0, .int .i64 k0, .int .i64 k1, .int .i64 k2, .int .i64 300, .int .i64 4000] := by rw [← ev]; exact (J2y.out.alloc _).alloc _
        have kG : Blk v (z.heap.size + 1 + 1 + 1) 34 #[.string B1, .int .i64 200, .int .i64 0, .int .i64 0, .int .i64 255, .bool false] := by rw [← ev]; exact (G2y.out.alloc _).alloc _
        have vB : Below w.heap.size w v := by rw [← ev]; exact (YB.out.alloc YB.out.size _).alloc (by have := YB.out.size; simp; omega) _
        have c3 := kJ.cell
        have l3 := kJ.lt
        have VB := Lib.hid vB
        have KI := Lib.hid kI
        have KF := Lib.hid kF
        have KG := Lib.hid kG
        rw [ev]
        clear ev kI kF kJ kG vB c2 l2
        go_wp2_with fail
        refine (R2.out _ v KG.out).mono ?_
        rintro e x ⟨hb, hm⟩
        try simp only [] at hm
        subst hm
        have KI2 := Lib.hid (KI.out.below hb KI.out.lt)
        have KF2 := Lib.hid (KF.out.below hb KF.out.lt)
        have XB := Lib.hid (VB.out.trans (hb.mono VB.out.size))
        clear hb c3 l3
        go_upto_region 14 with fail
        obtain ⟨r, er⟩ : ∃ v, (x.alloc (.cells #[.int .i64 0, .int .i64 0, .bool false, .slice none 0 0] 37)).alloc (.cells #[.int .i64 1, .int .i64 0, .int .i64 0, .int .i64 6] 40) = v := ⟨_, rfl⟩
        have kI1 : Blk r y.heap.size 37 #[.int .i64 0, .int .i64 0, .bool false, .slice none 0 0] := by rw [← er]; exact (KI2.out.alloc _).alloc _
        have kF1 : Blk r (y.heap.size + 1) 40 #[.int .i64 1, .int .i64 0, .int .i64 0, .int .i64 6] := by rw [← er]; exact (KF2.out.alloc _).alloc _
        have kI2 : Blk r x.heap.size 37 #[.int .i64 0, .int .i64 0, .bool false, .slice none 0 0] := by rw [← er]; exact (Blk.new _ _ _).alloc _
        have kF2 : Blk r (x.heap.size + 1) 40 #[.int .i64 1, .int .i64 0, .int .i64 0, .int .i64 6] := by rw [← er]; exact Blk.newAt (by simp)
        have rB : Below w.heap.size w r := by rw [← er]; exact (XB.out.alloc XB.out.size _).alloc (by have := XB.out.size; simp; omega) _
        have ci1 := kI1.cell
        have li1 := kI1.lt
        have ci2 := kI2.cell
        have li2 := kI2.lt
        have KF1 := Lib.hid kF1
        have KF2' := Lib.hid kF2
        have RB := Lib.hid rB
        rw [er]
        clear er kI1 kF1 kI2 kF2 rB
        go_wp2_with fail
        refine (same_none _).mono ?_
        rintro e s ⟨rfl, hb⟩
        have cf1 := (KF1.out.below hb KF1.out.lt).cell
        have lf1 := (KF1.out.below hb KF1.out.lt).lt
        have cf2 := (KF2'.out.below hb KF2'.out.lt).cell
        have lf2 := (KF2'.out.below hb KF2'.out.lt).lt
        have SB := Lib.hid (RB.out.trans (hb.mono RB.out.size))
        clear hb ci1 li1 ci2 li2
        go_wp2_with fail
        refine (CAW.out _).mono ?_
        rintro e s2 ⟨rfl, hb⟩
        have S2B := Lib.hid (SB.out.trans (hb.mono SB.out.size))
        clear hb
        go_wp2_with fail
        go_ret
        exact ⟨rfl, S2B.out⟩
      | some acc =>
        obtain ⟨gp, cp, rfl, ho⟩ := hm
        obtain ⟨NP, eNP⟩ : ∃ NP, W * H * 3 = NP := ⟨_, rfl⟩
        rw [eNP] at ho ⊢
        rw [eNP] at R2
        obtain ⟨fx, efx⟩ : ∃ fx, ovT k0 k1 k2 200 0 0 255 ((4 ^ nn : Nat) : Int) acc = fx := ⟨_, rfl⟩
        rw [efx] at ho
        have HO1 := Lib.hid ho
        have EFX := Lib.hid efx
        clear ho eNP efx
        go_upto_region 13 with fail
        obtain ⟨v, ev⟩ : ∃ v, (y.alloc (.cells #[.int .i64 (W : Int), .int .i64 (H : Int), .bool true, .slice (some ⟨gp, 0, none⟩) NP cp] 37)).alloc (.cells #[.int .i64 0, .int .i64 0, .int .i64 0, .int .i64 0] 40) = v := ⟨_, rfl⟩
        have kI : Blk v y.heap.size 37 #[.int .i64 (W : Int), .int .i64 (H : Int), .bool true, .slice (some ⟨gp, 0, none⟩) NP cp] := by rw [← ev]; exact (Blk.new _ _ _).alloc _
        have kF : Blk v (y.heap.size + 1) 40 #[.int .i64 0, .int .i64 0, .int .i64 0, .int .i64 0] := by rw [← ev]; exact Blk.newAt (by simp)
        have kJ : Blk v (z.heap.size + 1) 31 #[.int .i64 X, .int .i64 Y, .int .i64 P, .int .i64 (W : Int), .int .i64 (H : Int), .int .i64 (nn : Int), .slice (some ⟨z.heap.size + 1 + 1 + 1, 0, none⟩) 1 1, .slice none 0 0, .int .i64 k0, .int .i64 k1, .int .i64 k2, .int .i64 300, .int .i64 4000] := by rw [← ev]; exact (J2y.out.alloc _).alloc _
        have kG : Blk v (z.heap.size + 1 + 1 + 1) 34 #[.string B1, .int .i64 200, .int .i64 0, .int .i64 0, .int .i64 255, .bool false] := by rw [← ev]; exact (G2y.out.alloc _).alloc _
        have vB : Below w.heap.size w v := by rw [← ev]; exact (YB.out.alloc YB.out.size _).alloc (by have := YB.out.size; simp; omega) _
        have ho1 := (HO1.out.alloc (.cells #[.int .i64 (W : Int), .int .i64 (H : Int), .bool true, .slice (some ⟨gp, 0, none⟩) NP cp] 37)).alloc (.cells #[.int .i64 0, .int .i64 0, .int .i64 0, .int .i64 0] 40)
        rw [ev] at ho1
        have HO2 := Lib.hid ho1
        have c3 := kJ.cell
        have l3 := kJ.lt
        have VB := Lib.hid vB
        have KI := Lib.hid kI
        have KF := Lib.hid kF
        have KG := Lib.hid kG
        rw [ev]
        clear ev kI kF kJ kG vB c2 l2 ho1
        go_wp2_with fail
        refine (R2.out _ v KG.out).mono ?_
        rintro e x ⟨hb, hm⟩
        obtain ⟨gq, cq, rfl, ho⟩ := hm
        rw [EFX.out] at ho
        have HO3 := Lib.hid (own_below HO2.out hb (Nat.le_refl _))
        have HO4 := Lib.hid ho
        have KI2 := Lib.hid (KI.out.below hb KI.out.lt)
        have KF2 := Lib.hid (KF.out.below hb KF.out.lt)
        have XB := Lib.hid (VB.out.trans (hb.mono VB.out.size))
        clear hb c3 l3 ho
        go_upto_region 14 with fail
        obtain ⟨r, er⟩ : ∃ v, (x.alloc (.cells #[.int .i64 (W : Int), .int .i64 (H : Int), .bool true, .slice (some ⟨gq, 0, none⟩) NP cq] 37)).alloc (.cells #[.int .i64 0, .int .i64 0, .int .i64 0, .int .i64 0] 40) = v := ⟨_, rfl⟩
        have kI1 : Blk r y.heap.size 37 #[.int .i64 (W : Int), .int .i64 (H : Int), .bool true, .slice (some ⟨gp, 0, none⟩) NP cp] := by rw [← er]; exact (KI2.out.alloc _).alloc _
        have kF1 : Blk r (y.heap.size + 1) 40 #[.int .i64 0, .int .i64 0, .int .i64 0, .int .i64 0] := by rw [← er]; exact (KF2.out.alloc _).alloc _
        have kI2 : Blk r x.heap.size 37 #[.int .i64 (W : Int), .int .i64 (H : Int), .bool true, .slice (some ⟨gq, 0, none⟩) NP cq] := by rw [← er]; exact (Blk.new _ _ _).alloc _
        have kF2 : Blk r (x.heap.size + 1) 40 #[.int .i64 0, .int .i64 0, .int .i64 0, .int .i64 0] := by rw [← er]; exact Blk.newAt (by simp)
        have rB : Below w.heap.size w r := by rw [← er]; exact (XB.out.alloc XB.out.size _).alloc (by have := XB.out.size; simp; omega) _
        have ho1 := (HO3.out.alloc (.cells #[.int .i64 (W : Int), .int .i64 (H : Int), .bool true, .slice (some ⟨gq, 0, none⟩) NP cq] 37)).alloc (.cells #[.int .i64 0, .int .i64 0, .int .i64 0, .int .i64 0] 40)
        have ho2 := (HO4.out.alloc (.cells #[.int .i64 (W : Int), .int .i64 (H : Int), .bool true, .slice (some ⟨gq, 0, none⟩) NP cq] 37)).alloc (.cells #[.int .i64 0, .int .i64 0, .int .i64 0, .int .i64 0] 40)
        rw [er] at ho1 ho2
        have HS := Lib.hid (same_i (W : Int) (H : Int) gp cp gq cq NP _ _ fx r ho1 ho2)
        have ci1 := kI1.cell
        have li1 := kI1.lt
        have ci2 := kI2.cell
        have li2 := kI2.lt
        have KF1 := Lib.hid kF1
        have KF2' := Lib.hid kF2
        have RB := Lib.hid rB
        rw [er]
        clear er kI1 kF1 kI2 kF2 rB ho1 ho2
        go_wp2_with fail
        refine (HS.out).mono ?_
        rintro e s ⟨rfl, hb⟩
        have cf1 := (KF1.out.below hb KF1.out.lt).cell
        have lf1 := (KF1.out.below hb KF1.out.lt).lt
        have cf2 := (KF2'.out.below hb KF2'.out.lt).cell
        have lf2 := (KF2'.out.below hb KF2'.out.lt).lt
        have SB := Lib.hid (RB.out.trans (hb.mono RB.out.size))
        clear hb ci1 li1 ci2 li2
        go_wp2_with fail
        refine (CAW.out _).mono ?_
        rintro e s2 ⟨rfl, hb⟩
        have S2B := Lib.hid (SB.out.trans (hb.mono SB.out.size))
        clear hb
        go_wp2_with fail
        go_ret
        exact ⟨rfl, S2B.out⟩
    · go_wp2_with fail
      refine (CMD.out _ HB.out).mono ?_
      rintro e z ⟨X, Y, P, kk, W, H, nn, k0, k1, k2, hM, rfl, hb⟩
      have hBz := HB.out.trans (hb.mono lw)
      have R1 := Lib.hid (fun g u h => render_i X Y P kk W H nn g k0 k1 k2 A1 L u hM HF1.out HLN.out HOK.out h)
      have R2 := Lib.hid (fun g u h => render_i X Y P kk W H nn g k0 k1 k2 B1 L u hM HF2.out HLN.out HOK.out h)
      obtain ⟨WR, eWR⟩ : ∃ x, (walkPx 4000 nn ((reachL (L.map IOb.obj)).map (·.1)) (pxsOf X Y P W H) [] 0).1 = x := ⟨_, rfl⟩
      rw [eWR] at R1 R2
      have HBZ := Lib.hid hBz
      have sz := hBz.size
      clear hb hBz HF1 HF2 HOK HLN CMD hM eWR
      go_upto_region 12 with fail
      obtain ⟨u, eu⟩ : ∃ u, (((z.alloc (.cells #[.int .i64 X, .int .i64 Y, .int .i64 P, .int .i64 (W : Int), .int .i64 (H : Int), .int .i64 (nn : Int), .slice (some ⟨z.heap.size + 1 + 1, 0, none⟩) 1 1, .slice none 0 0, .int .i64 k0, .int .i64 k1, .int .i64 k2, .int .i64 300, .int .i64 4000] 31)).alloc (.cells #[.int .i64 X, .int .i64 Y, .int .i64 P, .int .i64 (W : Int), .int .i64 (H : Int), .int .i64 (nn : Int), .slice (some ⟨z.heap.size + 1 + 1 + 1, 0, none⟩) 1 1, .slice none 0 0, .int .i64 k0, .int .i64 k1, .int .i64 k2, .int .i64 300, .int .i64 4000] 31)).alloc (.cells #[.string A1, .int .i64 200, .int .i64 0, .int .i64 0, .int .i64 255, .bool false] 34)).alloc (.cells #[.string B1, .int .i64 200, .int .i64 0, .int .i64 0, .int .i64 255, .bool false] 34) = u := ⟨_, rfl⟩
      have kJ1 : Blk u z.heap.size 31 #[.int .i64 X, .int .i64 Y, .int .i64 P, .int .i64 (W : Int), .int .i64 (H : Int), .int .i64 (nn : Int), .slice (some ⟨z.heap.size + 1 + 1, 0, none⟩) 1 1, .slice none 0 0, .int .i64 k0, .int .i64 k1, .int .i64 k2, .int .i64 300, .int .i64 4000] := by rw [← eu]; exact (((Blk.new z 31 #[.int .i64 X, .int .i64 Y, .int .i64 P, .int .i64 (W : Int), .int .i64 (H : Int), .int .i64 (nn : Int), .slice (some ⟨z.heap.size + 1 + 1, 0, none⟩) 1 1, .slice none 0 0, .int .i64 k0, .int .i64 k1, .int .i64 k2, .int .i64 300, .int .i64 4000]).alloc _).alloc _).alloc _
      have kJ2 : Blk u (z.heap.size + 1) 31 #[.int .i64 X, .int .i64 Y, .int .i64 P, .int .i64 (W : Int), .int .i64 (H : Int), .int .i64 (nn : Int), .slice (some ⟨z.heap.size + 1 + 1 + 1, 0, none⟩) 1 1, .slice none 0 0, .int .i64 k0, .int .i64 k1, .int .i64 k2, .int .i64 300, .int .i64 4000] := by rw [← eu]; exact ((Blk.newAt (by simp)).alloc _).alloc _
      have kG1 : Blk u (z.heap.size + 1 + 1) 34 #[.string A1, .int .i64 200, .int .i64 0, .int .i64 0, .int .i64 255, .bool false] := by rw [← eu]; exact (Blk.newAt (by simp)).alloc _
      have kG2 : Blk u (z.heap.size + 1 + 1 + 1) 34 #[.string B1, .int .i64 200, .int .i64 0, .int .i64 0, .int .i64 255, .bool false] := by rw [← eu]; exact Blk.newAt (by simp)
      have uB : Below w.heap.size w u := by
        rw [← eu]
        have hz := HBZ.out
        (repeat' (first | (with_reducible exact Below.refl _ _) | (with_reducible assumption) | (with_reducible refine below_drewN ?_ _) | (with_reducible refine Below.drew ?_) | (with_reducible refine Below.alloc ?_ ?_ _) | (with_reducible refine Below.setCell ?_ ?_ _) | omega | (simp; done) | (simp; omega)))
      have UB := Lib.hid uB
      have c1 := kJ1.cell
      have l1 := kJ1.lt
      have J2 := Lib.hid kJ2
      have G1 := Lib.hid kG1
      have G2 := Lib.hid kG2
      rw [eu]
      clear eu kJ1 kJ2 kG1 kG2 uB
      go_wp2_with fail
      refine (R1.out _ u G1.out).mono ?_
      rintro e y ⟨hb, hm⟩
      have J2y := Lib.hid (J2.out.below hb J2.out.lt)
      have G2y := Lib.hid (G2.out.below hb G2.out.lt)
      have YB := Lib.hid (UB.out.trans (hb.mono UB.out.size))
      have c2 := J2y.out.cell
      have l2 := J2y.out.lt
      clear hb c1 l1
      cases WR with
      | none =>
        simp only [] at hm
        subst hm
        go_upto_region 13 with fail
        obtain ⟨v, ev⟩ : ∃ v, (y.alloc (.cells #[.int .i64 0, .int .i64 0, .bool false, .slice none 0 0] 37)).alloc (.cells #[.int .i64 1, .int .i64 0, .int .i64 0, .int .i64 6] 40) = v := ⟨_, rfl⟩
        have kI : Blk v y.heap.size 37 #[.int .i64 0, .int .i64 0, .bool false, .slice none 0 0] := by rw [← ev]; exact (Blk.new _ _ _).alloc _
        have kF : Blk v (y.heap.size + 1) 40 #[.int .i64 1, .int .i64 0, .int .i64 0, .int .i64 6] := by rw [← ev]; exact Blk.newAt (by simp)
        have kJ : Blk v (z.heap.size + 1) 31 #[.int .i64 X, .int .i64 Y, .int .i64 P, .int .i64 (W : Int), .int .i64 (H : Int), .int .i64 (nn : Int), .slice (some ⟨z.heap.size + 1 + 1 + 1, 0, none⟩) 1 1, .slice none 0 0, .int .i64 k0, .int .i64 k1, .int .i64 k2, .int .i64 300, .int .i64 4000] := by rw [← ev]; exact (J2y.out.alloc _).alloc _
        have kG : Blk v (z.heap.size + 1 + 1 + 1) 34 #[.string B1, .int .i64 200, .int .i64 0, .int .i64 0, .int .i64 255, .bool false] := by rw [← ev]; exact (G2y.out.alloc _).alloc _
        have vB : Below w.heap.size w v := by rw [← ev]; exact (YB.out.alloc YB.out.size _).alloc (by have := YB.out.size; simp; omega) _
        have c3 := kJ.cell
        have l3 := kJ.lt
        have VB := Lib.hid vB
        have KI := Lib.hid kI
        have KF := Lib.hid kF
        have KG := Lib.hid kG
        rw [ev]
        clear ev kI kF kJ kG vB c2 l2
        go_wp2_with fail
        refine (R2.out _ v KG.out).mono ?_
        rintro e x ⟨hb, hm⟩
        try simp only [] at hm
        subst hm
        have KI2 := Lib.hid (KI.out.below hb KI.out.lt)
        have KF2 := Lib.hid (KF.out.below hb KF.out.lt)
        have XB := Lib.hid (VB.out.trans (hb.mono VB.out.size))
        clear hb c3 l3
        go_upto_region 14 with fail
        obtain ⟨r, er⟩ : ∃ v, (x.alloc (.cells #[.int .i64 0, .int .i64 0, .bool false, .slice none 0 0] 37)).alloc (.cells #[.int .i64 1, .int .i64 0, .int .i64 0, .int .i64 6] 40) = v := ⟨_, rfl⟩
        have kI1 : Blk r y.heap.size 37 #[.int .i64 0, .int .i64 0, .bool false, .slice none 0 0] := by rw [← er]; exact (KI2.out.alloc _).alloc _
        have kF1 : Blk r (y.heap.size + 1) 40 #[.int .i64 1, .int .i64 0, .int .i64 0, .int .i64 6] := by rw [← er]; exact (KF2.out.alloc _).alloc _
        have kI2 : Blk r x.heap.size 37 #[.int .i64 0, .int .i64 0, .bool false, .slice none 0 0] := by rw [← er]; exact (Blk.new _ _ _).alloc _
        have kF2 : Blk r (x.heap.size + 1) 40 #[.int .i64 1, .int .i64 0, .int .i64 0, .int .i64 6] := by rw [← er]; exact Blk.newAt (by simp)
        have rB : Below w.heap.size w r := by rw [← er]; exact (XB.out.alloc XB.out.size _).alloc (by have := XB.out.size; simp; omega) _
        have ci1 := kI1.cell
        have li1 := kI1.lt
        have ci2 := kI2.cell
        have li2 := kI2.lt
        have KF1 := Lib.hid kF1
        have KF2' := Lib.hid kF2
        have RB := Lib.hid rB
        rw [er]
        clear er kI1 kF1 kI2 kF2 rB
        go_wp2_with fail
        refine (same_none _).mono ?_
        rintro e s ⟨rfl, hb⟩
        have cf1 := (KF1.out.below hb KF1.out.lt).cell
        have lf1 := (KF1.out.below hb KF1.out.lt).lt
        have cf2 := (KF2'.out.below hb KF2'.out.lt).cell
        have lf2 := (KF2'.out.below hb KF2'.out.lt).lt
        have SB := Lib.hid (RB.out.trans (hb.mono RB.out.size))
        clear hb ci1 li1 ci2 li2
        go_wp2_with fail
        refine (CAW.out _).mono ?_
        rintro e s2 ⟨rfl, hb⟩
        have S2B := Lib.hid (SB.out.trans (hb.mono SB.out.size))
        clear hb
        go_wp2_with fail
        go_ret
        exact ⟨rfl, S2B.out⟩
      | some acc =>
        obtain ⟨gp, cp, rfl, ho⟩ := hm
        obtain ⟨NP, eNP⟩ : ∃ NP, W * H * 3 = NP := ⟨_, rfl⟩
        rw [eNP] at ho ⊢
        rw [eNP] at R2
        obtain ⟨fx, efx⟩ : ∃ fx, ovT k0 k1 k2 200 0 0 255 ((4 ^ nn : Nat) : Int) acc = fx := ⟨_, rfl⟩
        rw [efx] at ho
        have HO1 := Lib.hid ho
        have EFX := Lib.hid efx
        clear ho eNP efx
        go_upto_region 13 with fail
        obtain ⟨v, ev⟩ : ∃ v, (y.alloc (.cells #[.int .i64 (W : Int), .int .i64 (H : Int), .bool true, .slice (some ⟨gp, 0, none⟩) NP cp] 37)).alloc (.cells #[.int .i64 0, .int .i64 0, .int .i64 0, .int .i64 0] 40) = v := ⟨_, rfl⟩
        have kI : Blk v y.heap.size 37 #[.int .i64 (W : Int), .int .i64 (H : Int), .bool true, .slice (some ⟨gp, 0, none⟩) NP cp] := by rw [← ev]; exact (Blk.new _ _ _).alloc _
        have kF : Blk v (y.heap.size + 1) 40 #[.int .i64 0, .int .i64 0, .int .i64 0, .int .i64 0] := by rw [← ev]; exact Blk.newAt (by simp)
        have kJ : Blk v (z.heap.size + 1) 31 #[.int .i64 X, .int .i64 Y, .int .i64 P, .int .i64 (W : Int), .int .i64 (H : Int), .int .i64 (nn : Int), .slice (some ⟨z.heap.size + 1 + 1 + 1, 0, none⟩) 1 1, .slice none 0 0, .int .i64 k0, .int .i64 k1, .int .i64 k2, .int .i64 300, .int .i64 4000] := by rw [← ev]; exact (J2y.out.alloc _).alloc _
        have kG : Blk v (z.heap.size + 1 + 1 + 1) 34 #[.string B1, .int .i64 200, .int .i64 0, .int .i64 0, .int .i64 255, .bool false] := by rw [← ev]; exact (G2y.out.alloc _).alloc _
        have vB : Below w.heap.size w v := by rw [← ev]; exact (YB.out.alloc YB.out.size _).alloc (by have := YB.out.size; simp; omega) _
        have ho1 := (HO1.out.alloc (.cells #[.int .i64 (W : Int), .int .i64 (H : Int), .bool true, .slice (some ⟨gp, 0, none⟩) NP cp] 37)).alloc (.cells #[.int .i64 0, .int .i64 0, .int .i64 0, .int .i64 0] 40)
        rw [ev] at ho1
        have HO2 := Lib.hid ho1
        have c3 := kJ.cell
        have l3 := kJ.lt
        have VB := Lib.hid vB
        have KI := Lib.hid kI
        have KF := Lib.hid kF
        have KG := Lib.hid kG
        rw [ev]
        clear ev kI kF kJ kG vB c2 l2 ho1
        go_wp2_with fail
        refine (R2.out _ v KG.out).mono ?_
        rintro e x ⟨hb, hm⟩
        obtain ⟨gq, cq, rfl, ho⟩ := hm
        rw [EFX.out] at ho
        have HO3 := Lib.hid (own_below HO2.out hb (Nat.le_refl _))
        have HO4 := Lib.hid ho
        have KI2 := Lib.hid (KI.out.below hb KI.out.lt)
        have KF2 := Lib.hid (KF.out.below hb KF.out.lt)
        have XB := Lib.hid (VB.out.trans (hb.mono VB.out.size))
        clear hb c3 l3 ho
        go_upto_region 14 with fail
        obtain ⟨r, er⟩ : ∃ v, (x.alloc (.cells #[.int .i64 (W : Int), .int .i64 (H : Int), .bool true, .slice (some ⟨gq, 0, none⟩) NP cq] 37)).alloc (.cells #[.int .i64 0, .int .i64 0, .int .i64 0, .int .i64 0] 40) = v := ⟨_, rfl⟩
        have kI1 : Blk r y.heap.size 37 #[.int .i64 (W : Int), .int .i64 (H : Int), .bool true, .slice (some ⟨gp, 0, none⟩) NP cp] := by rw [← er]; exact (KI2.out.alloc _).alloc _
        have kF1 : Blk r (y.heap.size + 1) 40 #[.int .i64 0, .int .i64 0, .int .i64 0, .int .i64 0] := by rw [← er]; exact (KF2.out.alloc _).alloc _
        have kI2 : Blk r x.heap.size 37 #[.int .i64 (W : Int), .int .i64 (H : Int), .bool true, .slice (some ⟨gq, 0, none⟩) NP cq] := by rw [← er]; exact (Blk.new _ _ _).alloc _
        have kF2 : Blk r (x.heap.size + 1) 40 #[.int .i64 0, .int .i64 0, .int .i64 0, .int .i64 0] := by rw [← er]; exact Blk.newAt (by simp)
        have rB : Below w.heap.size w r := by rw [← er]; exact (XB.out.alloc XB.out.size _).alloc (by have := XB.out.size; simp; omega) _
        have ho1 := (HO3.out.alloc (.cells #[.int .i64 (W : Int), .int .i64 (H : Int), .bool true, .slice (some ⟨gq, 0, none⟩) NP cq] 37)).alloc (.cells #[.int .i64 0, .int .i64 0, .int .i64 0, .int .i64 0] 40)
        have ho2 := (HO4.out.alloc (.cells #[.int .i64 (W : Int), .int .i64 (H : Int), .bool true, .slice (some ⟨gq, 0, none⟩) NP cq] 37)).alloc (.cells #[.int .i64 0, .int .i64 0, .int .i64 0, .int .i64 0] 40)
        rw [er] at ho1 ho2
        have HS := Lib.hid (same_i (W : Int) (H : Int) gp cp gq cq NP _ _ fx r ho1 ho2)
        have ci1 := kI1.cell
        have li1 := kI1.lt
        have ci2 := kI2.cell
        have li2 := kI2.lt
        have KF1 := Lib.hid kF1
        have KF2' := Lib.hid kF2
        have RB := Lib.hid rB
        rw [er]
        clear er kI1 kF1 kI2 kF2 rB ho1 ho2
        go_wp2_with fail
        refine (HS.out).mono ?_
        rintro e s ⟨rfl, hb⟩
        have cf1 := (KF1.out.below hb KF1.out.lt).cell
        have lf1 := (KF1.out.below hb KF1.out.lt).lt
        have cf2 := (KF2'.out.below hb KF2'.out.lt).cell
        have lf2 := (KF2'.out.below hb KF2'.out.lt).lt
        have SB := Lib.hid (RB.out.trans (hb.mono RB.out.size))
        clear hb ci1 li1 ci2 li2
        go_wp2_with fail
        refine (CAW.out _).mono ?_
        rintro e s2 ⟨rfl, hb⟩
        have S2B := Lib.hid (SB.out.trans (hb.mono SB.out.size))
        clear hb
        go_wp2_with fail
        go_ret
        exact ⟨rfl, S2B.out⟩
end Go.Proofs.YtfajckkbinbpiaaGreatDoor
