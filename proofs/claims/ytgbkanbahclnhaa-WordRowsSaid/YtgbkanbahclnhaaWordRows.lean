/- A walk: heliographlaw14.WordRows returns true. -/
import Derived.Test.YtgbkanbahclnhaaWordRowsLaw
import Derived.Test.YtgbkanbahclnhaaWordTame
import Derived.Test.YtgbkanbahclnhaaWordSame
namespace Go.Proofs.Ytgbkanbahclnhaa
open Go.RowKit
set_option linter.unusedVariables false

theorem own_len' {w : World} {B : Nat} {e : TypeId} {size n : Nat} {v : Value} {xs : List Value} (h : w.ownsRow B e size v n xs) : n ≤ 9223372036854775807 := by
  rcases h.2 with ⟨_, h0⟩ | ⟨g, cap, cur, _, _, _, hn, hm, _⟩
  · omega
  · unfold maxLen at hm; omega
def goodC (c : UInt8) : Bool := decide (32 ≤ c.toNat ∧ c.toNat ≤ 126 ∧ c.toNat ≠ 42 ∧ c.toNat ≠ 37)
def goodB (l : List UInt8) : Bool := l.all goodC
theorem good_all {l : List UInt8} (h : goodB l = true) : ∀ c ∈ l, Good c := by
  intro c hc
  have := List.all_eq_true.1 h c hc
  simpa [goodC, Good] using this
theorem good_step (x : List UInt8) (j : Nat) (h : j < x.length) : goodB (x.take (j + 1)) = (goodB (x.take j) && goodC x[j]) := by
  unfold goodB
  rw [List.take_add_one, List.getElem?_eq_getElem h, List.all_append]
  simp only [Option.toList, List.all_cons, List.all_nil, Bool.and_true]
/-- What a round of the outer loop leaves. -/
def RowHeld (w : World) (s want op i : Value) (wr : World) : Prop := ∃ (k : Nat) (l : List UInt8) (ws : List Wd) (o : Bool), s = .string (bs l) ∧ wr.ownsRow w.heap.size 28 4 want ws.length (wcells ws) ∧ op = .bool o ∧ i = .int .i64 (k : Int) ∧ k ≤ 30 ∧ ws.length ≤ k ∧ l.length ≤ 102 * k ∧ Sofar l ws o ∧ Below w.heap.size w wr

set_option maxRecDepth 100000 in
set_option maxHeartbeats 8000000 in
theorem wordrows_c (A1 A2 : Option Addr) (n1 c1 n2 c2 : Nat) (w : World) (hn1 : n1 ≤ 9223372036854775807) (hn2 : n2 ≤ 9223372036854775807)
    (hA : ∀ j, j < n1 → ∃ ad x, A1 = some ad ∧ ad.block < w.heap.size ∧ x.length ≤ 9223372036854775807 ∧ w.cell? (ad.add j) = some (.string (bs x)))
    (hE : ∀ j, j < n2 → ∃ ad b, A2 = some ad ∧ ad.block < w.heap.size ∧ w.cell? (ad.add j) = some (.bool b)) :
    Calls Try.prog 6 #[.slice A1 n1 c1, .slice A2 n2 c2] w fun e w' => e = .returned (.bool true) ∧ Below w.heap.size w w' := by
  have HA := Lib.hid hA
  have HE := Lib.hid hE
  clear hA hE
  go_enter Try.func6, Try.ntmps6
  go_wp2_with fail
  go_loopw [5, 6, 7, 8] (RowHeld w) (fun _ _ _ i _ => 30 - (intOf i).toNat)
  case atStart => exact ⟨0, [], [], false, rfl, World.ownsRow_nil _ _ _ _, rfl, rfl, by omega, by simp, by simp, sofar_nil, by (repeat' (first | (with_reducible exact Below.refl _ _) | (with_reducible assumption) | (with_reducible refine below_drewN ?_ _) | (with_reducible refine Below.drew ?_) | (with_reducible refine Below.alloc ?_ ?_ _) | (with_reducible refine Below.setCell ?_ ?_ _) | omega | (simp; done) | (simp; omega)))⟩
  case round =>
  obtain ⟨k, l, ws, o, rfl, hws, rfl, rfl, hk, hwl, hll, hso, hB⟩ := hrel
  have HWS := Lib.hid hws
  have HSO := Lib.hid hso
  have lB := hB.size
  have wlen := own_len' hws
  clear hso
  by_cases hk1 : k < n1 ∧ k < 30
  · obtain ⟨hk1, hk2⟩ := hk1
    have d1 : decide ((k : Int) < (n1 : Int)) = true := by simp; omega
    have d2 : decide ((k : Int) < 30) = true := by simp; omega
    have d3 : (k : Int) < (n1 : Int) := by omega
    obtain ⟨ad, x, rfl, had, hxl, hcell⟩ := HA.out k hk1
    have hb1 : (ad.add k).block < w.heap.size := by unfold Addr.add; split <;> exact had
    have q := (hB.cell hb1).trans hcell
    obtain ⟨X, eX⟩ : ∃ y, bs x = y := ⟨_, rfl⟩
    obtain ⟨S, eS⟩ : ∃ y, bs l = y := ⟨_, rfl⟩
    obtain ⟨Lx, eLx⟩ : ∃ y, x.length = y := ⟨_, rfl⟩
    have hXs : X.size = Lx := by rw [← eX, bs_size, eLx]
    have hSs : S.size = l.length := by rw [← eS, bs_size]
    have hx0 := fun j c h w => bs_at x j c h w
    rw [eX] at q hx0
    rw [eS]
    have HL := Lib.hid eS
    have HX := Lib.hid eX
    have HLx := Lib.hid eLx
    have HX0 := Lib.hid hx0
    clear hcell eX eS hws hx0
    rw [eLx] at hxl
    by_cases hsmall : Lx < 1
    · have e1 : decide ((Lx : Int) < 1) = true := by simp; omega
      clear eLx
      as_aux_lemma =>
      go_wp2_with fail
      go_roundw
      case rel => exact ⟨k + 1, l, ws, o, by rw [HL.out], HWS.out, rfl, by simp, by omega, by omega, by omega, HSO.out, hB⟩
      case measure => simp [intOf]; omega
    have e1 : decide ((Lx : Int) < 1) = false := by simp; omega
    by_cases hbig : 100 < Lx
    · have e2 : decide (100 < (Lx : Int)) = true := by simp; omega
      clear eLx
      as_aux_lemma =>
      go_wp2_with fail
      go_roundw
      case rel => exact ⟨k + 1, l, ws, o, by rw [HL.out], HWS.out, rfl, by simp, by omega, by omega, by omega, HSO.out, hB⟩
      case measure => simp [intOf]; omega
    have e2 : decide (100 < (Lx : Int)) = false := by simp; omega
    go_wp2_with fail
    go_loopw [9, 10] (fun g i wx => ∃ j : Nat, i = .int .i64 (j : Int) ∧ j ≤ Lx ∧ g = .bool (goodB (x.take j)) ∧ wx = wr) (fun _ i _ => Lx - (intOf i).toNat)
    case atStart => exact ⟨0, rfl, by omega, rfl, rfl⟩
    case round =>
    obtain ⟨j, rfl, hj, rfl, hwx⟩ := hrel
    subst hwx
    by_cases hjl' : j < Lx
    · have hjl : j < x.length := by have := HLx.out; omega
      have p1 : decide ((j : Int) < (Lx : Int)) = true := by simp; omega
      have hx1 := HX0.out j x[j] (List.getElem?_eq_getElem hjl)
      obtain ⟨n, ec⟩ : ∃ n, (x[j]).toNat = n := ⟨_, rfl⟩
      rw [ec] at hx1
      obtain ⟨gb, hgb⟩ : ∃ b, goodB (x.take j) = b := ⟨_, rfl⟩
      rw [hgb]
      clear eLx
      rcases gb with _ | _
      · have hg : goodB (x.take (j + 1)) = false := by rw [good_step x j hjl, hgb]; simp only [goodC, ec]; simp; try omega
        have GS := Lib.hid hg
        clear hg ec hgb
        as_aux_lemma =>
        go_wp2_with fail
        go_roundw
        case rel => exact ⟨j + 1, by simp, by omega, by rw [GS.out], by first | rfl | trivial⟩
        case measure => simp [intOf]; omega
      by_cases m1 : 32 ≤ n
      · by_cases m2 : n ≤ 126
        · by_cases m3 : n = 42
          · have hg : goodB (x.take (j + 1)) = false := by rw [good_step x j hjl, hgb]; simp only [goodC, ec]; simp; try omega
            have GS := Lib.hid hg
            have q1 : decide (32 ≤ (n : Int)) = true := by simp; omega
            have q2 : decide ((n : Int) ≤ 126) = true := by simp; omega
            have q3 : ((n : Int) == 42) = true := by simp; omega
            have q3n : ((n : Int) != 42) = false := by simp; omega
            clear hg ec hgb
            as_aux_lemma =>
            go_wp2_with fail
            go_roundw
            case rel => exact ⟨j + 1, by simp, by omega, by rw [GS.out], by first | rfl | trivial⟩
            case measure => simp [intOf]; omega
          · by_cases m4 : n = 37
            · have hg : goodB (x.take (j + 1)) = false := by rw [good_step x j hjl, hgb]; simp only [goodC, ec]; simp; try omega
              have GS := Lib.hid hg
              have q1 : decide (32 ≤ (n : Int)) = true := by simp; omega
              have q2 : decide ((n : Int) ≤ 126) = true := by simp; omega
              have q3 : ((n : Int) == 42) = false := by simp; omega
              have q3n : ((n : Int) != 42) = true := by simp; omega
              have q4 : ((n : Int) == 37) = true := by simp; omega
              have q4n : ((n : Int) != 37) = false := by simp; omega
              clear hg ec hgb
              as_aux_lemma =>
              go_wp2_with fail
              go_roundw
              case rel => exact ⟨j + 1, by simp, by omega, by rw [GS.out], by first | rfl | trivial⟩
              case measure => simp [intOf]; omega
            · have hg : goodB (x.take (j + 1)) = true := by rw [good_step x j hjl, hgb]; simp only [goodC, ec]; simp; try omega
              have GS := Lib.hid hg
              have q1 : decide (32 ≤ (n : Int)) = true := by simp; omega
              have q2 : decide ((n : Int) ≤ 126) = true := by simp; omega
              have q3 : ((n : Int) == 42) = false := by simp; omega
              have q3n : ((n : Int) != 42) = true := by simp; omega
              have q4 : ((n : Int) == 37) = false := by simp; omega
              have q4n : ((n : Int) != 37) = true := by simp; omega
              clear hg ec hgb
              as_aux_lemma =>
              go_wp2_with fail
              go_roundw
              case rel => exact ⟨j + 1, by simp, by omega, by rw [GS.out], by first | rfl | trivial⟩
              case measure => simp [intOf]; omega
        · have hg : goodB (x.take (j + 1)) = false := by rw [good_step x j hjl, hgb]; simp only [goodC, ec]; simp; try omega
          have GS := Lib.hid hg
          have q1 : decide (32 ≤ (n : Int)) = true := by simp; omega
          have q2 : decide ((n : Int) ≤ 126) = false := by simp; omega
          clear hg ec hgb
          as_aux_lemma =>
          go_wp2_with fail
          go_roundw
          case rel => exact ⟨j + 1, by simp, by omega, by rw [GS.out], by first | rfl | trivial⟩
          case measure => simp [intOf]; omega
      · have hg : goodB (x.take (j + 1)) = false := by rw [good_step x j hjl, hgb]; simp only [goodC, ec]; simp; try omega
        have GS := Lib.hid hg
        have q1 : decide (32 ≤ (n : Int)) = false := by simp; omega
        clear hg ec hgb
        as_aux_lemma =>
        go_wp2_with fail
        go_roundw
        case rel => exact ⟨j + 1, by simp, by omega, by rw [GS.out], by first | rfl | trivial⟩
        case measure => simp [intOf]; omega
    obtain rfl : Lx = j := by omega
    have p1 : decide ((Lx : Int) < (Lx : Int)) = false := by simp
    have htk : x.take Lx = x := by rw [← eLx]; exact List.take_length
    rw [htk]
    obtain ⟨gb, hgb⟩ : ∃ b, goodB x = b := ⟨_, rfl⟩
    rw [hgb]
    rcases gb with _ | _
    · clear eLx
      as_aux_lemma =>
      go_wp2_with fail
      go_roundw
      case rel => exact ⟨k + 1, l, ws, o, by rw [HL.out], HWS.out, rfl, by simp, by omega, by omega, by omega, HSO.out, hB⟩
      case measure => simp [intOf]; omega
    have hgood := good_all hgb
    have hxne : x ≠ [] := by intro h; rw [h] at eLx; simp at eLx; omega
    have HG := Lib.hid (And.intro hgood hxne)
    clear hgood hxne hgb htk eLx
    have hIs : ∃ is : Bool, (k < n2 → ∃ ad2, A2 = some ad2 ∧ wr.cell? (ad2.add k) = some (.bool is)) ∧ (¬ k < n2 → is = false) := by
      by_cases hk3 : k < n2
      · obtain ⟨ad2, b, e2, hb2, hc2⟩ := HE.out k hk3
        exact ⟨b, fun _ => ⟨ad2, e2, (hB.cell (by unfold Addr.add; split <;> exact hb2)).trans hc2⟩, fun h => absurd hk3 h⟩
      · exact ⟨false, fun h => absurd h hk3, fun _ => rfl⟩
    obtain ⟨is, hI1, hI2⟩ := hIs
    have H1 := Lib.hid hI1
    have H2 := Lib.hid hI2
    clear hI1 hI2
    by_cases hk3 : k < n2
    · obtain ⟨ad2, rfl, hc2⟩ := H1.out hk3
      have d5 : decide ((k : Int) < (n2 : Int)) = true := by simp; omega
      have d6 : (k : Int) < (n2 : Int) := by omega
      rcases is with _ | _
      · rcases o with _ | _
        · obtain ⟨S1, eS1⟩ : ∃ y, bs l = y := ⟨_, rfl⟩
          obtain rfl : S = S1 := by rw [← eS1, ← HL.out]
          obtain ⟨p, ep⟩ : ∃ y, l.length = y := ⟨_, rfl⟩
          have hS1s : S.size = p := by rw [← eS1, bs_size, ep]
          have hnew := sofar_same HSO.out HG.out.1 HG.out.2 (by omega) (by have := HLx.out; omega)
          have hpl : p ≤ 102 * k + 1 := by rw [← ep]; (try simp); omega
          rw [ep] at hnew
          obtain ⟨S2, eS2⟩ : ∃ y, bs (l ++ x) = y := ⟨_, rfl⟩
          obtain ⟨S3, eS3⟩ : ∃ y, bs ((l ++ x) ++ [42]) = y := ⟨_, rfl⟩
          have hLx := HLx.out
          have ha2 := fun w => add_lit l x S S2 eS1 eS2 (by rw [ep]; omega) (by omega) w
          rw [HX.out] at ha2
          have ha3 := fun w => add_lit (l ++ x) [42] S2 S3 eS2 eS3 (by rw [List.length_append, ep]; omega) (by decide) w
          rw [show bs [42] = { data := #[42] } from rfl] at ha3
          obtain ⟨i28, hi28, hz0, hz1, hz2⟩ := info_parts info28
          have HI := Lib.hid (And.intro hi28 (And.intro hz0 (And.intro hz1 hz2)))
          have hZ : Hid ((Value.agg #[.int .i64 0, .bool false, .bool false, .string ByteArray.empty]).cells.size = 4) := Lib.hid (by kernel_rfl)
          have b8 : ws.length + 1 ≤ maxLen := by unfold maxLen; omega
          have b9 : (ws.length + 1) * 32 ≤ 140737488355328 := by omega
          clear hi28 hz0 hz1 hz2
          have fin2 : ∀ g2 cap2 w1, World.ownsRow w1 w.heap.size 28 4 (.slice (some ⟨g2, 0, none⟩) (ws.length + 1) cap2) (ws.length + 1) (wcells ws ++ [.int .i64 (p : Int), .bool false, .bool true, .string X]) → (wr.alloc (.cells #[.int .i64 (p : Int), .bool false, .bool true, .string X] 28)).grownBy w1 u6.ownBlock →
              RowHeld w (.string S3) (.slice (some ⟨g2, 0, none⟩) (ws.length + 1) cap2) (.bool false) (.int .i64 ((k : Int) + 1)) w1 ∧ Below w.heap.size w w1 := by
            intro g2 cap2 w1 hown hgrow
            have hbb : Below w.heap.size w w1 := Below.grown (Below.alloc hB lB _) hgrow (Nat.le_trans lB (by simp)) (fun q hq => (HWS.out.lt q hq).1)
            refine ⟨⟨k + 1, _, _, _, ?_, ?_, rfl, by simp, by omega, ?_, ?_, hnew, hbb⟩, hbb⟩
            · rw [← eS3, List.append_assoc]
            · simp only [List.length_append, List.length_cons, List.length_nil, wcells_append, wcells_one]
              rw [HX.out]; exact hown
            · simp; omega
            · have : l.length = p := ep
              rw [List.length_append, this, List.length_append]; simp; omega
          have hs : ∀ o, w.heap.size ≤ (wr.alloc o).heap.size := fun o => Nat.le_trans lB (by simp)
          have hN : ∀ j u, ([.int .i64 (p : Int), .bool false, .bool true, .string X] : List Value)[j]? = some u → (wr.alloc (.cells #[.int .i64 (p : Int), .bool false, .bool true, .string X] 28)).cell? ((⟨wr.heap.size, 0, none⟩ : Addr).add j) = some u :=
            World.news_of_block (cs := #[.int .i64 (p : Int), .bool false, .bool true, .string X]) (Blk.newAt (w := wr) rfl)
          have hO : ∀ u ∈ ([.int .i64 (p : Int), .bool false, .bool true, .string X] : List Value), u.oneCell' = true := by
            intro u hu
            simp only [List.mem_cons, List.not_mem_nil, or_false] at hu
            rcases hu with rfl | rfl | rfl | rfl <;> rfl
          have FIN2 := Lib.hid fin2
          have HSZ := Lib.hid hs
          have HN := Lib.hid hN
          have HO := Lib.hid hO
          clear fin2 hs hN hO hnew eS1 eS2 eS3 ep hLx hSs
          go_wp2_with (at_builtin; refine wpList_append_lies _ rfl (.tmp 97) (.tmp 107) 23 rfl w.heap.size 28 i28 _ 4 32 Try.underlying23 HI.out.1 HI.out.2.1 HI.out.2.2.1 HI.out.2.2.2 hZ.out (by decide) u6 ws.length (wcells ws) (by simp [Act.eval]) (HWS.out.alloc _) ⟨wr.heap.size, 0, none⟩ 1 1 [.int .i64 (p : Int), .bool false, .bool true, .string X] (by simp [Act.eval]) rfl HN.out HO.out (by decide) b8 b9 (HSZ.out _) _ rfl ?_)
          intro g2 cap2 w1 hown hgrow hat hlt
          obtain ⟨RR, hB1⟩ := FIN2.out g2 cap2 w1 hown hgrow
          have q1 := ((hB1.cell hb1).trans (hB.cell hb1).symm).trans q
          have HRR := Lib.hid RR
          clear hown hgrow hat RR
          go_wp2_with fail
          go_roundw
          case rel => exact HRR.out
          case measure => simp [intOf]; omega
        · obtain ⟨S1, eS1⟩ : ∃ y, bs (l ++ [37]) = y := ⟨_, rfl⟩
          have ha1 := fun w => add_lit l [37] S S1 HL.out eS1 (by omega) (by decide) w
          rw [show bs [37] = { data := #[37] } from rfl] at ha1
          obtain ⟨p, ep⟩ : ∃ y, (l ++ [37]).length = y := ⟨_, rfl⟩
          have hS1s : S1.size = p := by rw [← eS1, bs_size, ep]
          have hnew := sofar_turn HSO.out HG.out.1 HG.out.2 (by omega) (by have := HLx.out; omega)
          have hpl : p ≤ 102 * k + 1 := by rw [← ep]; (try simp); omega
          rw [ep] at hnew
          obtain ⟨S2, eS2⟩ : ∃ y, bs ((l ++ [37]) ++ x) = y := ⟨_, rfl⟩
          obtain ⟨S3, eS3⟩ : ∃ y, bs (((l ++ [37]) ++ x) ++ [42]) = y := ⟨_, rfl⟩
          have hLx := HLx.out
          have ha2 := fun w => add_lit (l ++ [37]) x S1 S2 eS1 eS2 (by rw [ep]; omega) (by omega) w
          rw [HX.out] at ha2
          have ha3 := fun w => add_lit ((l ++ [37]) ++ x) [42] S2 S3 eS2 eS3 (by rw [List.length_append, ep]; omega) (by decide) w
          rw [show bs [42] = { data := #[42] } from rfl] at ha3
          obtain ⟨i28, hi28, hz0, hz1, hz2⟩ := info_parts info28
          have HI := Lib.hid (And.intro hi28 (And.intro hz0 (And.intro hz1 hz2)))
          have hZ : Hid ((Value.agg #[.int .i64 0, .bool false, .bool false, .string ByteArray.empty]).cells.size = 4) := Lib.hid (by kernel_rfl)
          have b8 : ws.length + 1 ≤ maxLen := by unfold maxLen; omega
          have b9 : (ws.length + 1) * 32 ≤ 140737488355328 := by omega
          clear hi28 hz0 hz1 hz2
          have fin2 : ∀ g2 cap2 w1, World.ownsRow w1 w.heap.size 28 4 (.slice (some ⟨g2, 0, none⟩) (ws.length + 1) cap2) (ws.length + 1) (wcells ws ++ [.int .i64 (p : Int), .bool false, .bool true, .string X]) → (wr.alloc (.cells #[.int .i64 (p : Int), .bool false, .bool true, .string X] 28)).grownBy w1 u6.ownBlock →
              RowHeld w (.string S3) (.slice (some ⟨g2, 0, none⟩) (ws.length + 1) cap2) (.bool false) (.int .i64 ((k : Int) + 1)) w1 ∧ Below w.heap.size w w1 := by
            intro g2 cap2 w1 hown hgrow
            have hbb : Below w.heap.size w w1 := Below.grown (Below.alloc hB lB _) hgrow (Nat.le_trans lB (by simp)) (fun q hq => (HWS.out.lt q hq).1)
            refine ⟨⟨k + 1, _, _, _, ?_, ?_, rfl, by simp, by omega, ?_, ?_, hnew, hbb⟩, hbb⟩
            · rw [← eS3, List.append_assoc]
            · simp only [List.length_append, List.length_cons, List.length_nil, wcells_append, wcells_one]
              rw [HX.out]; exact hown
            · simp; omega
            · have : (l ++ [37]).length = p := ep
              rw [List.length_append, this, List.length_append]; simp; omega
          have hs : ∀ o, w.heap.size ≤ (wr.alloc o).heap.size := fun o => Nat.le_trans lB (by simp)
          have hN : ∀ j u, ([.int .i64 (p : Int), .bool false, .bool true, .string X] : List Value)[j]? = some u → (wr.alloc (.cells #[.int .i64 (p : Int), .bool false, .bool true, .string X] 28)).cell? ((⟨wr.heap.size, 0, none⟩ : Addr).add j) = some u :=
            World.news_of_block (cs := #[.int .i64 (p : Int), .bool false, .bool true, .string X]) (Blk.newAt (w := wr) rfl)
          have hO : ∀ u ∈ ([.int .i64 (p : Int), .bool false, .bool true, .string X] : List Value), u.oneCell' = true := by
            intro u hu
            simp only [List.mem_cons, List.not_mem_nil, or_false] at hu
            rcases hu with rfl | rfl | rfl | rfl <;> rfl
          have FIN2 := Lib.hid fin2
          have HSZ := Lib.hid hs
          have HN := Lib.hid hN
          have HO := Lib.hid hO
          clear fin2 hs hN hO hnew eS1 eS2 eS3 ep hLx hSs
          go_wp2_with (at_builtin; refine wpList_append_lies _ rfl (.tmp 97) (.tmp 107) 23 rfl w.heap.size 28 i28 _ 4 32 Try.underlying23 HI.out.1 HI.out.2.1 HI.out.2.2.1 HI.out.2.2.2 hZ.out (by decide) u6 ws.length (wcells ws) (by simp [Act.eval]) (HWS.out.alloc _) ⟨wr.heap.size, 0, none⟩ 1 1 [.int .i64 (p : Int), .bool false, .bool true, .string X] (by simp [Act.eval]) rfl HN.out HO.out (by decide) b8 b9 (HSZ.out _) _ rfl ?_)
          intro g2 cap2 w1 hown hgrow hat hlt
          obtain ⟨RR, hB1⟩ := FIN2.out g2 cap2 w1 hown hgrow
          have q1 := ((hB1.cell hb1).trans (hB.cell hb1).symm).trans q
          have HRR := Lib.hid RR
          clear hown hgrow hat RR
          go_wp2_with fail
          go_roundw
          case rel => exact HRR.out
          case measure => simp [intOf]; omega
      · rcases o with _ | _
        · obtain ⟨S1, eS1⟩ : ∃ y, bs (l ++ [37]) = y := ⟨_, rfl⟩
          have ha1 := fun w => add_lit l [37] S S1 HL.out eS1 (by omega) (by decide) w
          rw [show bs [37] = { data := #[37] } from rfl] at ha1
          obtain ⟨p, ep⟩ : ∃ y, (l ++ [37]).length = y := ⟨_, rfl⟩
          have hS1s : S1.size = p := by rw [← eS1, bs_size, ep]
          have hnew := sofar_turn HSO.out HG.out.1 HG.out.2 (by omega) (by have := HLx.out; omega)
          have hpl : p ≤ 102 * k + 1 := by rw [← ep]; (try simp); omega
          rw [ep] at hnew
          obtain ⟨S2, eS2⟩ : ∃ y, bs ((l ++ [37]) ++ x) = y := ⟨_, rfl⟩
          obtain ⟨S3, eS3⟩ : ∃ y, bs (((l ++ [37]) ++ x) ++ [42]) = y := ⟨_, rfl⟩
          have hLx := HLx.out
          have ha2 := fun w => add_lit (l ++ [37]) x S1 S2 eS1 eS2 (by rw [ep]; omega) (by omega) w
          rw [HX.out] at ha2
          have ha3 := fun w => add_lit ((l ++ [37]) ++ x) [42] S2 S3 eS2 eS3 (by rw [List.length_append, ep]; omega) (by decide) w
          rw [show bs [42] = { data := #[42] } from rfl] at ha3
          obtain ⟨i28, hi28, hz0, hz1, hz2⟩ := info_parts info28
          have HI := Lib.hid (And.intro hi28 (And.intro hz0 (And.intro hz1 hz2)))
          have hZ : Hid ((Value.agg #[.int .i64 0, .bool false, .bool false, .string ByteArray.empty]).cells.size = 4) := Lib.hid (by kernel_rfl)
          have b8 : ws.length + 1 ≤ maxLen := by unfold maxLen; omega
          have b9 : (ws.length + 1) * 32 ≤ 140737488355328 := by omega
          clear hi28 hz0 hz1 hz2
          have fin2 : ∀ g2 cap2 w1, World.ownsRow w1 w.heap.size 28 4 (.slice (some ⟨g2, 0, none⟩) (ws.length + 1) cap2) (ws.length + 1) (wcells ws ++ [.int .i64 (p : Int), .bool true, .bool true, .string X]) → (wr.alloc (.cells #[.int .i64 (p : Int), .bool true, .bool true, .string X] 28)).grownBy w1 u6.ownBlock →
              RowHeld w (.string S3) (.slice (some ⟨g2, 0, none⟩) (ws.length + 1) cap2) (.bool true) (.int .i64 ((k : Int) + 1)) w1 ∧ Below w.heap.size w w1 := by
            intro g2 cap2 w1 hown hgrow
            have hbb : Below w.heap.size w w1 := Below.grown (Below.alloc hB lB _) hgrow (Nat.le_trans lB (by simp)) (fun q hq => (HWS.out.lt q hq).1)
            refine ⟨⟨k + 1, _, _, _, ?_, ?_, rfl, by simp, by omega, ?_, ?_, hnew, hbb⟩, hbb⟩
            · rw [← eS3, List.append_assoc]
            · simp only [List.length_append, List.length_cons, List.length_nil, wcells_append, wcells_one]
              rw [HX.out]; exact hown
            · simp; omega
            · have : (l ++ [37]).length = p := ep
              rw [List.length_append, this, List.length_append]; simp; omega
          have hs : ∀ o, w.heap.size ≤ (wr.alloc o).heap.size := fun o => Nat.le_trans lB (by simp)
          have hN : ∀ j u, ([.int .i64 (p : Int), .bool true, .bool true, .string X] : List Value)[j]? = some u → (wr.alloc (.cells #[.int .i64 (p : Int), .bool true, .bool true, .string X] 28)).cell? ((⟨wr.heap.size, 0, none⟩ : Addr).add j) = some u :=
            World.news_of_block (cs := #[.int .i64 (p : Int), .bool true, .bool true, .string X]) (Blk.newAt (w := wr) rfl)
          have hO : ∀ u ∈ ([.int .i64 (p : Int), .bool true, .bool true, .string X] : List Value), u.oneCell' = true := by
            intro u hu
            simp only [List.mem_cons, List.not_mem_nil, or_false] at hu
            rcases hu with rfl | rfl | rfl | rfl <;> rfl
          have FIN2 := Lib.hid fin2
          have HSZ := Lib.hid hs
          have HN := Lib.hid hN
          have HO := Lib.hid hO
          clear fin2 hs hN hO hnew eS1 eS2 eS3 ep hLx hSs
          go_wp2_with (at_builtin; refine wpList_append_lies _ rfl (.tmp 97) (.tmp 107) 23 rfl w.heap.size 28 i28 _ 4 32 Try.underlying23 HI.out.1 HI.out.2.1 HI.out.2.2.1 HI.out.2.2.2 hZ.out (by decide) u6 ws.length (wcells ws) (by simp [Act.eval]) (HWS.out.alloc _) ⟨wr.heap.size, 0, none⟩ 1 1 [.int .i64 (p : Int), .bool true, .bool true, .string X] (by simp [Act.eval]) rfl HN.out HO.out (by decide) b8 b9 (HSZ.out _) _ rfl ?_)
          intro g2 cap2 w1 hown hgrow hat hlt
          obtain ⟨RR, hB1⟩ := FIN2.out g2 cap2 w1 hown hgrow
          have q1 := ((hB1.cell hb1).trans (hB.cell hb1).symm).trans q
          have HRR := Lib.hid RR
          clear hown hgrow hat RR
          go_wp2_with fail
          go_roundw
          case rel => exact HRR.out
          case measure => simp [intOf]; omega
        · obtain ⟨S1, eS1⟩ : ∃ y, bs l = y := ⟨_, rfl⟩
          obtain rfl : S = S1 := by rw [← eS1, ← HL.out]
          obtain ⟨p, ep⟩ : ∃ y, l.length = y := ⟨_, rfl⟩
          have hS1s : S.size = p := by rw [← eS1, bs_size, ep]
          have hnew := sofar_same HSO.out HG.out.1 HG.out.2 (by omega) (by have := HLx.out; omega)
          have hpl : p ≤ 102 * k + 1 := by rw [← ep]; (try simp); omega
          rw [ep] at hnew
          obtain ⟨S2, eS2⟩ : ∃ y, bs (l ++ x) = y := ⟨_, rfl⟩
          obtain ⟨S3, eS3⟩ : ∃ y, bs ((l ++ x) ++ [42]) = y := ⟨_, rfl⟩
          have hLx := HLx.out
          have ha2 := fun w => add_lit l x S S2 eS1 eS2 (by rw [ep]; omega) (by omega) w
          rw [HX.out] at ha2
          have ha3 := fun w => add_lit (l ++ x) [42] S2 S3 eS2 eS3 (by rw [List.length_append, ep]; omega) (by decide) w
          rw [show bs [42] = { data := #[42] } from rfl] at ha3
          obtain ⟨i28, hi28, hz0, hz1, hz2⟩ := info_parts info28
          have HI := Lib.hid (And.intro hi28 (And.intro hz0 (And.intro hz1 hz2)))
          have hZ : Hid ((Value.agg #[.int .i64 0, .bool false, .bool false, .string ByteArray.empty]).cells.size = 4) := Lib.hid (by kernel_rfl)
          have b8 : ws.length + 1 ≤ maxLen := by unfold maxLen; omega
          have b9 : (ws.length + 1) * 32 ≤ 140737488355328 := by omega
          clear hi28 hz0 hz1 hz2
          have fin2 : ∀ g2 cap2 w1, World.ownsRow w1 w.heap.size 28 4 (.slice (some ⟨g2, 0, none⟩) (ws.length + 1) cap2) (ws.length + 1) (wcells ws ++ [.int .i64 (p : Int), .bool true, .bool false, .string X]) → (wr.alloc (.cells #[.int .i64 (p : Int), .bool true, .bool false, .string X] 28)).grownBy w1 u6.ownBlock →
              RowHeld w (.string S3) (.slice (some ⟨g2, 0, none⟩) (ws.length + 1) cap2) (.bool true) (.int .i64 ((k : Int) + 1)) w1 ∧ Below w.heap.size w w1 := by
            intro g2 cap2 w1 hown hgrow
            have hbb : Below w.heap.size w w1 := Below.grown (Below.alloc hB lB _) hgrow (Nat.le_trans lB (by simp)) (fun q hq => (HWS.out.lt q hq).1)
            refine ⟨⟨k + 1, _, _, _, ?_, ?_, rfl, by simp, by omega, ?_, ?_, hnew, hbb⟩, hbb⟩
            · rw [← eS3, List.append_assoc]
            · simp only [List.length_append, List.length_cons, List.length_nil, wcells_append, wcells_one]
              rw [HX.out]; exact hown
            · simp; omega
            · have : l.length = p := ep
              rw [List.length_append, this, List.length_append]; simp; omega
          have hs : ∀ o, w.heap.size ≤ (wr.alloc o).heap.size := fun o => Nat.le_trans lB (by simp)
          have hN : ∀ j u, ([.int .i64 (p : Int), .bool true, .bool false, .string X] : List Value)[j]? = some u → (wr.alloc (.cells #[.int .i64 (p : Int), .bool true, .bool false, .string X] 28)).cell? ((⟨wr.heap.size, 0, none⟩ : Addr).add j) = some u :=
            World.news_of_block (cs := #[.int .i64 (p : Int), .bool true, .bool false, .string X]) (Blk.newAt (w := wr) rfl)
          have hO : ∀ u ∈ ([.int .i64 (p : Int), .bool true, .bool false, .string X] : List Value), u.oneCell' = true := by
            intro u hu
            simp only [List.mem_cons, List.not_mem_nil, or_false] at hu
            rcases hu with rfl | rfl | rfl | rfl <;> rfl
          have FIN2 := Lib.hid fin2
          have HSZ := Lib.hid hs
          have HN := Lib.hid hN
          have HO := Lib.hid hO
          clear fin2 hs hN hO hnew eS1 eS2 eS3 ep hLx hSs
          go_wp2_with (at_builtin; refine wpList_append_lies _ rfl (.tmp 97) (.tmp 107) 23 rfl w.heap.size 28 i28 _ 4 32 Try.underlying23 HI.out.1 HI.out.2.1 HI.out.2.2.1 HI.out.2.2.2 hZ.out (by decide) u6 ws.length (wcells ws) (by simp [Act.eval]) (HWS.out.alloc _) ⟨wr.heap.size, 0, none⟩ 1 1 [.int .i64 (p : Int), .bool true, .bool false, .string X] (by simp [Act.eval]) rfl HN.out HO.out (by decide) b8 b9 (HSZ.out _) _ rfl ?_)
          intro g2 cap2 w1 hown hgrow hat hlt
          obtain ⟨RR, hB1⟩ := FIN2.out g2 cap2 w1 hown hgrow
          have q1 := ((hB1.cell hb1).trans (hB.cell hb1).symm).trans q
          have HRR := Lib.hid RR
          clear hown hgrow hat RR
          go_wp2_with fail
          go_roundw
          case rel => exact HRR.out
          case measure => simp [intOf]; omega
    · obtain rfl := H2.out hk3
      have d5 : decide ((k : Int) < (n2 : Int)) = false := by simp; omega
      rcases o with _ | _
      · obtain ⟨S1, eS1⟩ : ∃ y, bs l = y := ⟨_, rfl⟩
        obtain rfl : S = S1 := by rw [← eS1, ← HL.out]
        obtain ⟨p, ep⟩ : ∃ y, l.length = y := ⟨_, rfl⟩
        have hS1s : S.size = p := by rw [← eS1, bs_size, ep]
        have hnew := sofar_same HSO.out HG.out.1 HG.out.2 (by omega) (by have := HLx.out; omega)
        have hpl : p ≤ 102 * k + 1 := by rw [← ep]; (try simp); omega
        rw [ep] at hnew
        obtain ⟨S2, eS2⟩ : ∃ y, bs (l ++ x) = y := ⟨_, rfl⟩
        obtain ⟨S3, eS3⟩ : ∃ y, bs ((l ++ x) ++ [42]) = y := ⟨_, rfl⟩
        have hLx := HLx.out
        have ha2 := fun w => add_lit l x S S2 eS1 eS2 (by rw [ep]; omega) (by omega) w
        rw [HX.out] at ha2
        have ha3 := fun w => add_lit (l ++ x) [42] S2 S3 eS2 eS3 (by rw [List.length_append, ep]; omega) (by decide) w
        rw [show bs [42] = { data := #[42] } from rfl] at ha3
        obtain ⟨i28, hi28, hz0, hz1, hz2⟩ := info_parts info28
        have HI := Lib.hid (And.intro hi28 (And.intro hz0 (And.intro hz1 hz2)))
        have hZ : Hid ((Value.agg #[.int .i64 0, .bool false, .bool false, .string ByteArray.empty]).cells.size = 4) := Lib.hid (by kernel_rfl)
        have b8 : ws.length + 1 ≤ maxLen := by unfold maxLen; omega
        have b9 : (ws.length + 1) * 32 ≤ 140737488355328 := by omega
        clear hi28 hz0 hz1 hz2
        have fin2 : ∀ g2 cap2 w1, World.ownsRow w1 w.heap.size 28 4 (.slice (some ⟨g2, 0, none⟩) (ws.length + 1) cap2) (ws.length + 1) (wcells ws ++ [.int .i64 (p : Int), .bool false, .bool true, .string X]) → (wr.alloc (.cells #[.int .i64 (p : Int), .bool false, .bool true, .string X] 28)).grownBy w1 u6.ownBlock →
            RowHeld w (.string S3) (.slice (some ⟨g2, 0, none⟩) (ws.length + 1) cap2) (.bool false) (.int .i64 ((k : Int) + 1)) w1 ∧ Below w.heap.size w w1 := by
          intro g2 cap2 w1 hown hgrow
          have hbb : Below w.heap.size w w1 := Below.grown (Below.alloc hB lB _) hgrow (Nat.le_trans lB (by simp)) (fun q hq => (HWS.out.lt q hq).1)
          refine ⟨⟨k + 1, _, _, _, ?_, ?_, rfl, by simp, by omega, ?_, ?_, hnew, hbb⟩, hbb⟩
          · rw [← eS3, List.append_assoc]
          · simp only [List.length_append, List.length_cons, List.length_nil, wcells_append, wcells_one]
            rw [HX.out]; exact hown
          · simp; omega
          · have : l.length = p := ep
            rw [List.length_append, this, List.length_append]; simp; omega
        have hs : ∀ o, w.heap.size ≤ (wr.alloc o).heap.size := fun o => Nat.le_trans lB (by simp)
        have hN : ∀ j u, ([.int .i64 (p : Int), .bool false, .bool true, .string X] : List Value)[j]? = some u → (wr.alloc (.cells #[.int .i64 (p : Int), .bool false, .bool true, .string X] 28)).cell? ((⟨wr.heap.size, 0, none⟩ : Addr).add j) = some u :=
          World.news_of_block (cs := #[.int .i64 (p : Int), .bool false, .bool true, .string X]) (Blk.newAt (w := wr) rfl)
        have hO : ∀ u ∈ ([.int .i64 (p : Int), .bool false, .bool true, .string X] : List Value), u.oneCell' = true := by
          intro u hu
          simp only [List.mem_cons, List.not_mem_nil, or_false] at hu
          rcases hu with rfl | rfl | rfl | rfl <;> rfl
        have FIN2 := Lib.hid fin2
        have HSZ := Lib.hid hs
        have HN := Lib.hid hN
        have HO := Lib.hid hO
        clear fin2 hs hN hO hnew eS1 eS2 eS3 ep hLx hSs
        go_wp2_with (at_builtin; refine wpList_append_lies _ rfl (.tmp 97) (.tmp 107) 23 rfl w.heap.size 28 i28 _ 4 32 Try.underlying23 HI.out.1 HI.out.2.1 HI.out.2.2.1 HI.out.2.2.2 hZ.out (by decide) u6 ws.length (wcells ws) (by simp [Act.eval]) (HWS.out.alloc _) ⟨wr.heap.size, 0, none⟩ 1 1 [.int .i64 (p : Int), .bool false, .bool true, .string X] (by simp [Act.eval]) rfl HN.out HO.out (by decide) b8 b9 (HSZ.out _) _ rfl ?_)
        intro g2 cap2 w1 hown hgrow hat hlt
        obtain ⟨RR, hB1⟩ := FIN2.out g2 cap2 w1 hown hgrow
        have q1 := ((hB1.cell hb1).trans (hB.cell hb1).symm).trans q
        have HRR := Lib.hid RR
        clear hown hgrow hat RR
        go_wp2_with fail
        go_roundw
        case rel => exact HRR.out
        case measure => simp [intOf]; omega
      · obtain ⟨S1, eS1⟩ : ∃ y, bs (l ++ [37]) = y := ⟨_, rfl⟩
        have ha1 := fun w => add_lit l [37] S S1 HL.out eS1 (by omega) (by decide) w
        rw [show bs [37] = { data := #[37] } from rfl] at ha1
        obtain ⟨p, ep⟩ : ∃ y, (l ++ [37]).length = y := ⟨_, rfl⟩
        have hS1s : S1.size = p := by rw [← eS1, bs_size, ep]
        have hnew := sofar_turn HSO.out HG.out.1 HG.out.2 (by omega) (by have := HLx.out; omega)
        have hpl : p ≤ 102 * k + 1 := by rw [← ep]; (try simp); omega
        rw [ep] at hnew
        obtain ⟨S2, eS2⟩ : ∃ y, bs ((l ++ [37]) ++ x) = y := ⟨_, rfl⟩
        obtain ⟨S3, eS3⟩ : ∃ y, bs (((l ++ [37]) ++ x) ++ [42]) = y := ⟨_, rfl⟩
        have hLx := HLx.out
        have ha2 := fun w => add_lit (l ++ [37]) x S1 S2 eS1 eS2 (by rw [ep]; omega) (by omega) w
        rw [HX.out] at ha2
        have ha3 := fun w => add_lit ((l ++ [37]) ++ x) [42] S2 S3 eS2 eS3 (by rw [List.length_append, ep]; omega) (by decide) w
        rw [show bs [42] = { data := #[42] } from rfl] at ha3
        obtain ⟨i28, hi28, hz0, hz1, hz2⟩ := info_parts info28
        have HI := Lib.hid (And.intro hi28 (And.intro hz0 (And.intro hz1 hz2)))
        have hZ : Hid ((Value.agg #[.int .i64 0, .bool false, .bool false, .string ByteArray.empty]).cells.size = 4) := Lib.hid (by kernel_rfl)
        have b8 : ws.length + 1 ≤ maxLen := by unfold maxLen; omega
        have b9 : (ws.length + 1) * 32 ≤ 140737488355328 := by omega
        clear hi28 hz0 hz1 hz2
        have fin2 : ∀ g2 cap2 w1, World.ownsRow w1 w.heap.size 28 4 (.slice (some ⟨g2, 0, none⟩) (ws.length + 1) cap2) (ws.length + 1) (wcells ws ++ [.int .i64 (p : Int), .bool false, .bool true, .string X]) → (wr.alloc (.cells #[.int .i64 (p : Int), .bool false, .bool true, .string X] 28)).grownBy w1 u6.ownBlock →
            RowHeld w (.string S3) (.slice (some ⟨g2, 0, none⟩) (ws.length + 1) cap2) (.bool false) (.int .i64 ((k : Int) + 1)) w1 ∧ Below w.heap.size w w1 := by
          intro g2 cap2 w1 hown hgrow
          have hbb : Below w.heap.size w w1 := Below.grown (Below.alloc hB lB _) hgrow (Nat.le_trans lB (by simp)) (fun q hq => (HWS.out.lt q hq).1)
          refine ⟨⟨k + 1, _, _, _, ?_, ?_, rfl, by simp, by omega, ?_, ?_, hnew, hbb⟩, hbb⟩
          · rw [← eS3, List.append_assoc]
          · simp only [List.length_append, List.length_cons, List.length_nil, wcells_append, wcells_one]
            rw [HX.out]; exact hown
          · simp; omega
          · have : (l ++ [37]).length = p := ep
            rw [List.length_append, this, List.length_append]; simp; omega
        have hs : ∀ o, w.heap.size ≤ (wr.alloc o).heap.size := fun o => Nat.le_trans lB (by simp)
        have hN : ∀ j u, ([.int .i64 (p : Int), .bool false, .bool true, .string X] : List Value)[j]? = some u → (wr.alloc (.cells #[.int .i64 (p : Int), .bool false, .bool true, .string X] 28)).cell? ((⟨wr.heap.size, 0, none⟩ : Addr).add j) = some u :=
          World.news_of_block (cs := #[.int .i64 (p : Int), .bool false, .bool true, .string X]) (Blk.newAt (w := wr) rfl)
        have hO : ∀ u ∈ ([.int .i64 (p : Int), .bool false, .bool true, .string X] : List Value), u.oneCell' = true := by
          intro u hu
          simp only [List.mem_cons, List.not_mem_nil, or_false] at hu
          rcases hu with rfl | rfl | rfl | rfl <;> rfl
        have FIN2 := Lib.hid fin2
        have HSZ := Lib.hid hs
        have HN := Lib.hid hN
        have HO := Lib.hid hO
        clear fin2 hs hN hO hnew eS1 eS2 eS3 ep hLx hSs
        go_wp2_with (at_builtin; refine wpList_append_lies _ rfl (.tmp 97) (.tmp 107) 23 rfl w.heap.size 28 i28 _ 4 32 Try.underlying23 HI.out.1 HI.out.2.1 HI.out.2.2.1 HI.out.2.2.2 hZ.out (by decide) u6 ws.length (wcells ws) (by simp [Act.eval]) (HWS.out.alloc _) ⟨wr.heap.size, 0, none⟩ 1 1 [.int .i64 (p : Int), .bool false, .bool true, .string X] (by simp [Act.eval]) rfl HN.out HO.out (by decide) b8 b9 (HSZ.out _) _ rfl ?_)
        intro g2 cap2 w1 hown hgrow hat hlt
        obtain ⟨RR, hB1⟩ := FIN2.out g2 cap2 w1 hown hgrow
        have q1 := ((hB1.cell hb1).trans (hB.cell hb1).symm).trans q
        have HRR := Lib.hid RR
        clear hown hgrow hat RR
        go_wp2_with fail
        go_roundw
        case rel => exact HRR.out
        case measure => simp [intOf]; omega
  · clear hws
    by_cases h1 : k < n1
    · have d1 : decide ((k : Int) < (n1 : Int)) = true := by simp; omega
      have d2 : decide ((k : Int) < 30) = false := by simp; omega
      obtain ⟨S, eS⟩ : ∃ y, bs l = y := ⟨_, rfl⟩
      rw [eS]
      rcases o with _ | _
      · have HF := HSO
        have hw := sofar_done (s := l) HF.out (by omega)
        have c1 := fun w => words_c l w (by omega)
        unfold WordsIs at c1
        rw [hw, eS] at c1
        have C1 := Lib.hid c1
        clear hw c1
        go_wp2_with fail
        refine (C1.out _).mono ?_
        rintro e w1 ⟨v1, rfl, hv1, hb⟩
        have hB1 : Below w.heap.size w w1 := hB.trans (hb.mono hB.size)
        have HV1 := Lib.hid hv1
        have HV2 := Lib.hid (own_below HWS.out hb (Nat.le_refl _))
        clear hb hv1
        go_wp2_with fail
        refine (same_c ws v1 u6 _ _ w1 wlen HV1.out HV2.out).mono ?_
        rintro e w3 ⟨rfl, hb⟩
        have hB3 : Below w.heap.size w w3 := hB1.trans (hb.mono hB1.size)
        clear hb HV1 HV2
        go_wp2_with fail
        refine (awake14 _).mono ?_
        rintro e w6 ⟨rfl, hb⟩
        have hB6 : Below w.heap.size w w6 := hB3.trans (hb.mono hB3.size)
        go_wp2_with fail
        go_ret
        exact ⟨rfl, hB6⟩
      · have HF := Lib.hid (sofar_shut HSO.out)
        obtain ⟨S1, eS1⟩ : ∃ y, bs (l ++ [37]) = y := ⟨_, rfl⟩
        have ha1 := fun w => add_lit l [37] S S1 eS eS1 (by omega) (by decide) w
        rw [show bs [37] = { data := #[37] } from rfl] at ha1
        have hw := sofar_done (s := (l ++ [37])) HF.out (by rw [List.length_append]; simp; omega)
        have c1 := fun w => words_c (l ++ [37]) w (by rw [List.length_append]; simp; omega)
        unfold WordsIs at c1
        rw [hw, eS1] at c1
        have C1 := Lib.hid c1
        clear hw c1
        go_wp2_with fail
        refine (C1.out _).mono ?_
        rintro e w1 ⟨v1, rfl, hv1, hb⟩
        have hB1 : Below w.heap.size w w1 := hB.trans (hb.mono hB.size)
        have HV1 := Lib.hid hv1
        have HV2 := Lib.hid (own_below HWS.out hb (Nat.le_refl _))
        clear hb hv1
        go_wp2_with fail
        refine (same_c ws v1 u6 _ _ w1 wlen HV1.out HV2.out).mono ?_
        rintro e w3 ⟨rfl, hb⟩
        have hB3 : Below w.heap.size w w3 := hB1.trans (hb.mono hB1.size)
        clear hb HV1 HV2
        go_wp2_with fail
        refine (awake14 _).mono ?_
        rintro e w6 ⟨rfl, hb⟩
        have hB6 : Below w.heap.size w w6 := hB3.trans (hb.mono hB3.size)
        go_wp2_with fail
        go_ret
        exact ⟨rfl, hB6⟩
    · have d1 : decide ((k : Int) < (n1 : Int)) = false := by simp; omega
      obtain ⟨S, eS⟩ : ∃ y, bs l = y := ⟨_, rfl⟩
      rw [eS]
      rcases o with _ | _
      · have HF := HSO
        have hw := sofar_done (s := l) HF.out (by omega)
        have c1 := fun w => words_c l w (by omega)
        unfold WordsIs at c1
        rw [hw, eS] at c1
        have C1 := Lib.hid c1
        clear hw c1
        go_wp2_with fail
        refine (C1.out _).mono ?_
        rintro e w1 ⟨v1, rfl, hv1, hb⟩
        have hB1 : Below w.heap.size w w1 := hB.trans (hb.mono hB.size)
        have HV1 := Lib.hid hv1
        have HV2 := Lib.hid (own_below HWS.out hb (Nat.le_refl _))
        clear hb hv1
        go_wp2_with fail
        refine (same_c ws v1 u6 _ _ w1 wlen HV1.out HV2.out).mono ?_
        rintro e w3 ⟨rfl, hb⟩
        have hB3 : Below w.heap.size w w3 := hB1.trans (hb.mono hB1.size)
        clear hb HV1 HV2
        go_wp2_with fail
        refine (awake14 _).mono ?_
        rintro e w6 ⟨rfl, hb⟩
        have hB6 : Below w.heap.size w w6 := hB3.trans (hb.mono hB3.size)
        go_wp2_with fail
        go_ret
        exact ⟨rfl, hB6⟩
      · have HF := Lib.hid (sofar_shut HSO.out)
        obtain ⟨S1, eS1⟩ : ∃ y, bs (l ++ [37]) = y := ⟨_, rfl⟩
        have ha1 := fun w => add_lit l [37] S S1 eS eS1 (by omega) (by decide) w
        rw [show bs [37] = { data := #[37] } from rfl] at ha1
        have hw := sofar_done (s := (l ++ [37])) HF.out (by rw [List.length_append]; simp; omega)
        have c1 := fun w => words_c (l ++ [37]) w (by rw [List.length_append]; simp; omega)
        unfold WordsIs at c1
        rw [hw, eS1] at c1
        have C1 := Lib.hid c1
        clear hw c1
        go_wp2_with fail
        refine (C1.out _).mono ?_
        rintro e w1 ⟨v1, rfl, hv1, hb⟩
        have hB1 : Below w.heap.size w w1 := hB.trans (hb.mono hB.size)
        have HV1 := Lib.hid hv1
        have HV2 := Lib.hid (own_below HWS.out hb (Nat.le_refl _))
        clear hb hv1
        go_wp2_with fail
        refine (same_c ws v1 u6 _ _ w1 wlen HV1.out HV2.out).mono ?_
        rintro e w3 ⟨rfl, hb⟩
        have hB3 : Below w.heap.size w w3 := hB1.trans (hb.mono hB1.size)
        clear hb HV1 HV2
        go_wp2_with fail
        refine (awake14 _).mono ?_
        rintro e w6 ⟨rfl, hb⟩
        have hB6 : Below w.heap.size w w6 := hB3.trans (hb.mono hB3.size)
        go_wp2_with fail
        go_ret
        exact ⟨rfl, hB6⟩
end Go.Proofs.Ytgbkanbahclnhaa
