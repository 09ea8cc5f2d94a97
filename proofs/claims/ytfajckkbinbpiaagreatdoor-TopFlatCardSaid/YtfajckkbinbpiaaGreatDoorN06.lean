/- Walks: HasPrefix, CutPrefix, Cut at one byte, over lists of bytes. Walks: digits, counts, codes and decimal numbers. Walks: discs that may be, and turns that move. -/
import Derived.Laws.ResultCell
import Derived.Laws.StandIn
import Derived.Lib.Bytealg
import Derived.Outline
import Derived.OwnWalk
import Derived.Test.YtfajckkbinbpiaaGreatDoorN01
namespace Go.Proofs.YtfajckkbinbpiaaGreatDoor
set_option maxRecDepth 100000
set_option maxHeartbeats 32000000
set_option linter.unusedVariables false
set_option linter.unusedSimpArgs false
open Go.RowKit
theorem bs_ne {a b : List UInt8} (h : a ≠ b) : ((bs a).toList == (bs b).toList) = false := by
  rw [bs_toList, bs_toList, beq_eq_false_iff_ne]; exact h
theorem hasP_yes (m r : List UInt8) (w : World) (hl : (m ++ r).length ≤ 1000000) : Calls Tryz.prog 194 #[.string (bs (m ++ r)), .string (bs m)] w fun e w' => e = .returned (.bool true) ∧ w = w' := by
  have x1 : (bs (m ++ r)).extract 0 m.length = bs m := by rw [bs_take]; simp
  have z1 : (bs (m ++ r)).size = m.length + r.length := by rw [bs_size, List.length_append]
  have z2 : (bs m).size = m.length := bs_size m
  rw [List.length_append] at hl
  obtain ⟨M, eM⟩ : ∃ M, m.length = M := ⟨_, rfl⟩
  obtain ⟨K, eK⟩ : ∃ K, r.length = K := ⟨_, rfl⟩
  obtain ⟨S, eS⟩ : ∃ S, bs (m ++ r) = S := ⟨_, rfl⟩
  obtain ⟨T, eT⟩ : ∃ S, bs m = S := ⟨_, rfl⟩
  rw [eM] at x1 z1 z2 hl
  rw [eK] at z1 hl
  rw [eS] at x1 z1 ⊢
  rw [eT] at x1 z2 ⊢
  clear eM eK eS eT
  go_enter Tryz.func194, Tryz.ntmps194
  go_wp2
  go_ret
  exact ⟨rfl, rfl⟩
theorem hasP_no (l m : List UInt8) (w : World) (hl : l.length ≤ 1000000) (hm : m.length ≤ 1000000) (h : l.take m.length ≠ m) : Calls Tryz.prog 194 #[.string (bs l), .string (bs m)] w fun e w' => e = .returned (.bool false) ∧ w = w' := by
  have x1 : (bs l).extract 0 m.length = bs (l.take m.length) := bs_take l m.length
  have x2 := bs_ne h
  have z1 : (bs l).size = l.length := bs_size l
  have z2 : (bs m).size = m.length := bs_size m
  obtain ⟨M, eM⟩ : ∃ M, m.length = M := ⟨_, rfl⟩
  obtain ⟨K, eK⟩ : ∃ K, l.length = K := ⟨_, rfl⟩
  obtain ⟨S, eS⟩ : ∃ S, bs l = S := ⟨_, rfl⟩
  obtain ⟨T, eT⟩ : ∃ S, bs m = S := ⟨_, rfl⟩
  rw [eM] at x1 x2 z2 hm
  obtain ⟨U, eU⟩ : ∃ S, bs (l.take M) = S := ⟨_, rfl⟩
  rw [eK] at z1 hl
  rw [eU] at x1 x2
  rw [eS] at x1 z1 ⊢
  rw [eT] at x2 z2 ⊢
  clear eM eK eS eT eU h
  by_cases hk : M ≤ K
  · have d1 : decide (M ≤ K) = true := by simp; omega
    go_enter Tryz.func194, Tryz.ntmps194
    go_wp2
    go_ret
    exact ⟨rfl, rfl⟩
  · have d1 : decide (M ≤ K) = false := by simp; omega
    go_enter Tryz.func194, Tryz.ntmps194
    go_wp2
    go_ret
    exact ⟨rfl, rfl⟩
theorem cutP_yes (m r : List UInt8) (w : World) (hl : (m ++ r).length ≤ 1000000) : Calls Tryz.prog 93 #[.string (bs (m ++ r)), .string (bs m)] w fun e w' => e = .returned (.tuple #[.string (bs r), .bool true]) ∧ w = w' := by
  have h1 := fun w => hasP_yes m r w hl
  have x1 : (bs (m ++ r)).extract m.length (m ++ r).length = bs r := by rw [bs_drop]; simp
  have z1 : (bs (m ++ r)).size = m.length + r.length := by rw [bs_size, List.length_append]
  have z2 : (bs m).size = m.length := bs_size m
  rw [List.length_append] at hl x1
  obtain ⟨M, eM⟩ : ∃ M, m.length = M := ⟨_, rfl⟩
  obtain ⟨K, eK⟩ : ∃ K, r.length = K := ⟨_, rfl⟩
  obtain ⟨S, eS⟩ : ∃ S, bs (m ++ r) = S := ⟨_, rfl⟩
  obtain ⟨T, eT⟩ : ∃ S, bs m = S := ⟨_, rfl⟩
  obtain ⟨U, eU⟩ : ∃ S, bs r = S := ⟨_, rfl⟩
  rw [eM] at x1 z1 z2 hl
  rw [eK] at x1 z1 hl
  rw [eS] at x1 z1 h1 ⊢
  rw [eT] at z2 h1 ⊢
  rw [eU] at x1 ⊢
  have H1 := Lib.hid h1
  clear eM eK eS eT h1
  go_enter Tryz.func93, Tryz.ntmps93
  go_wp2_with (first | (go_at_call 145; go_in) | (go_at_call 194; refine (H1.out _).mono ?_; rintro e w' ⟨rfl, rfl⟩))
  go_ret2
  exact ⟨rfl, rfl⟩
theorem cutP_no (l m : List UInt8) (w : World) (hl : l.length ≤ 1000000) (hm : m.length ≤ 1000000) (h : l.take m.length ≠ m) : Calls Tryz.prog 93 #[.string (bs l), .string (bs m)] w fun e w' => e = .returned (.tuple #[.string (bs l), .bool false]) ∧ w = w' := by
  have h1 := fun w => hasP_no l m w hl hm h
  obtain ⟨S, eS⟩ : ∃ S, bs l = S := ⟨_, rfl⟩
  obtain ⟨T, eT⟩ : ∃ S, bs m = S := ⟨_, rfl⟩
  rw [eS] at h1 ⊢
  rw [eT] at h1 ⊢
  have H1 := Lib.hid h1
  clear eS eT h1 h
  go_enter Tryz.func93, Tryz.ntmps93
  go_wp2_with (first | (go_at_call 145; go_in) | (go_at_call 194; refine (H1.out _).mono ?_; rintro e w' ⟨rfl, rfl⟩))
  go_ret2
  exact ⟨rfl, rfl⟩
open Lib in
theorem indexB_at (a r : List UInt8) (c : UInt8) (h : c ∉ a) : indexByte (a ++ c :: r) c = a.length := by
  induction a with
  | nil => simp [indexByte]
  | cons b a ih =>
    have h1 : (b == c) = false := by rw [beq_eq_false_iff_ne]; rintro rfl; exact h (by simp)
    have h2 := ih (fun e => h (by simp [e]))
    rw [List.cons_append, indexByte, h1, h2]
    simp
open Lib in
theorem indexB_none (l : List UInt8) (c : UInt8) (h : c ∉ l) : indexByte l c = -1 := by
  induction l with
  | nil => rfl
  | cons b a ih =>
    have h1 : (b == c) = false := by rw [beq_eq_false_iff_ne]; rintro rfl; exact h (by simp)
    have h2 := ih (fun e => h (by simp [e]))
    rw [indexByte, h1, h2]; simp
theorem run_idx (s : ByteArray) (c : Int) (w : World) : (callFunc 261 #[.string s, .int .u8 c]).run Tryz.prog w = .ok (.value (.int .i64 (Lib.indexByte s.data.toList c.toNat.toUInt8))) w := by
  rw [run_callFunc_indexByte Tryz.func261 (by kernel_rfl) (by kernel_rfl) (by kernel_rfl) (by kernel_rfl), Lib.run_indexByteString]
  rfl
theorem idx_yes (a r : List UInt8) (c : UInt8) (w : World) (hl : (a ++ c :: r).length ≤ 1000000) (h : c ∉ a) (ha : a ≠ []) :
    Calls Tryz.prog 272 #[.string (bs (a ++ c :: r)), .string (bs [c])] w fun e w' => e = .returned (.int .i64 (a.length : Int)) ∧ w = w' := by
  have hi : ∀ w, (callFunc 261 #[.string (bs (a ++ c :: r)), .int .u8 (c.toNat : Int)]).run Tryz.prog w = .ok (.value (.int .i64 (a.length : Int))) w := by
    intro w
    rw [run_idx]
    have e : ((c.toNat : Int).toNat.toUInt8) = c := by simp
    rw [e, show (bs (a ++ c :: r)).data.toList = a ++ c :: r from rfl, indexB_at a r c h]
  have hTS : ((bs [c]).toList == (bs (a ++ c :: r)).toList) = false := bs_ne (by
    intro e
    have := congrArg List.length e
    simp at this
    cases a with
    | nil => exact ha rfl
    | cons x a => simp at this; omega)
  obtain ⟨M, eM⟩ : ∃ M, a.length = M := ⟨_, rfl⟩
  obtain ⟨S, eS⟩ : ∃ S, bs (a ++ c :: r) = S := ⟨_, rfl⟩
  obtain ⟨T, eT, z2, z3⟩ : ∃ T, bs [c] = T ∧ T.size = 1 ∧ ∀ h : 0 < T.size, (T[0]'h).toNat = c.toNat := ⟨_, rfl, rfl, fun h => rfl⟩
  obtain ⟨n, en⟩ : ∃ n, c.toNat = n := ⟨_, rfl⟩
  rw [eS, eT] at hTS
  rw [eS] at hi ⊢
  rw [eT]
  rw [eM] at hi ⊢
  rw [en] at hi
  simp only [en] at z3
  clear eM eS eT en h hl ha
  go_enter Tryz.func272, Tryz.ntmps272
  go_wp2_with (go_at_call 222; go_in)
  go_ret
  exact ⟨rfl, rfl⟩
theorem idx_none (l : List UInt8) (c : UInt8) (w : World) (hl : l.length ≤ 1000000) (h : c ∉ l) :
    Calls Tryz.prog 272 #[.string (bs l), .string (bs [c])] w fun e w' => e = .returned (.int .i64 (-1)) ∧ w = w' := by
  have hi : ∀ w, (callFunc 261 #[.string (bs l), .int .u8 (c.toNat : Int)]).run Tryz.prog w = .ok (.value (.int .i64 (-1))) w := by
    intro w
    rw [run_idx]
    have e : ((c.toNat : Int).toNat.toUInt8) = c := by simp
    rw [e, show (bs l).data.toList = l from rfl, indexB_none l c h]
  have hTS : ((bs [c]).toList == (bs l).toList) = false := bs_ne (by rintro rfl; exact h (by simp))
  obtain ⟨S, eS⟩ : ∃ S, bs l = S := ⟨_, rfl⟩
  obtain ⟨T, eT, z2, z3⟩ : ∃ T, bs [c] = T ∧ T.size = 1 ∧ ∀ h : 0 < T.size, (T[0]'h).toNat = c.toNat := ⟨_, rfl, rfl, fun h => rfl⟩
  obtain ⟨n, en⟩ : ∃ n, c.toNat = n := ⟨_, rfl⟩
  rw [eS, eT] at hTS
  rw [eS] at hi ⊢
  rw [eT]
  rw [en] at hi
  simp only [en] at z3
  clear eS eT en h hl
  go_enter Tryz.func272, Tryz.ntmps272
  go_wp2_with (go_at_call 222; go_in)
  go_ret
  exact ⟨rfl, rfl⟩
theorem cut_yes (a r : List UInt8) (c : UInt8) (w : World) (hl : (a ++ c :: r).length ≤ 1000000) (h : c ∉ a) (ha : a ≠ []) :
    Calls Tryz.prog 196 #[.string (bs (a ++ c :: r)), .string (bs [c])] w fun e w' => e = .returned (.tuple #[.string (bs a), .string (bs r), .bool true]) ∧ Below w.heap.size w w' := by
  have hi := fun w => idx_yes a r c w hl h ha
  have x1 : (bs (a ++ c :: r)).extract 0 a.length = bs a := by rw [bs_take]; simp
  have x2 : (bs (a ++ c :: r)).extract (a.length + 1) (a ++ c :: r).length = bs r := by rw [bs_drop]; simp
  have z1 : (bs (a ++ c :: r)).size = a.length + 1 + r.length := by rw [bs_size, List.length_append]; simp; omega
  have hl' : a.length + 1 + r.length ≤ 1000000 := by rw [List.length_append] at hl; simp at hl; omega
  have e3 : (a ++ c :: r).length = a.length + 1 + r.length := by rw [List.length_append]; simp; omega
  rw [e3] at x2
  obtain ⟨M, eM⟩ : ∃ M, a.length = M := ⟨_, rfl⟩
  obtain ⟨K, eK⟩ : ∃ K, r.length = K := ⟨_, rfl⟩
  obtain ⟨S, eS⟩ : ∃ S, bs (a ++ c :: r) = S := ⟨_, rfl⟩
  obtain ⟨T, eT⟩ : ∃ T, bs [c] = T := ⟨_, rfl⟩
  obtain ⟨U, eU⟩ : ∃ S, bs a = S := ⟨_, rfl⟩
  obtain ⟨V, eV⟩ : ∃ S, bs r = S := ⟨_, rfl⟩
  have z2 : T.size = 1 := by rw [← eT]; rfl
  rw [eS] at hi x1 x2 z1 ⊢
  rw [eT] at hi ⊢
  rw [eU] at x1 ⊢
  rw [eV] at x2 ⊢
  rw [eM] at hi x1 x2 z1 hl'
  rw [eK] at x2 z1 hl'
  have HI := Lib.hid hi
  have v1 : IntKind.i64.wrap ((M : Int) + 1) = (M : Int) + 1 := by rw [IntKind.wrap_i64]; omega
  have v2 : 0 ≤ (M : Int) + 1 := by omega
  have v3 : ((M : Int) + 1).toNat = M + 1 := by omega
  have v4 : M + 1 ≤ M + 1 + K := by omega
  have v5 : M ≤ M + 1 + K := by omega
  clear eM eK eS eT eU eV h hl e3 hi
  go_enter Tryz.func196, Tryz.ntmps196
  go_wp2_with (first | (go_at_call 231; go_in) | (go_at_call 272; refine (HI.out _).mono ?_; rintro e w' ⟨rfl, rfl⟩))
  go_quiet (fail)
  go_wp2_with fail
  go_ret3
  exact ⟨rfl, by exact blw⟩
theorem cut_no (l : List UInt8) (c : UInt8) (w : World) (hl : l.length ≤ 1000000) (h : c ∉ l) :
    Calls Tryz.prog 196 #[.string (bs l), .string (bs [c])] w fun e w' => e = .returned (.tuple #[.string (bs l), .string (bs []), .bool false]) ∧ Below w.heap.size w w' := by
  have hi := fun w => idx_none l c w hl h
  obtain ⟨S, eS⟩ : ∃ S, bs l = S := ⟨_, rfl⟩
  obtain ⟨T, eT⟩ : ∃ T, bs [c] = T := ⟨_, rfl⟩
  rw [eS] at hi ⊢
  rw [eT] at hi ⊢
  have HI := Lib.hid hi
  clear eS eT h hl hi
  go_enter Tryz.func196, Tryz.ntmps196
  go_wp2_with (first | (go_at_call 231; go_in) | (go_at_call 272; refine (HI.out _).mono ?_; rintro e w' ⟨rfl, rfl⟩))
  go_ret3
  exact ⟨rfl, by exact blw⟩
def NoDigit (r : List UInt8) : Prop := ∀ c, r.head? = some c → c.toNat < 48 ∨ 57 < c.toNat
theorem at_front (d r : List UInt8) (k : Nat) (h : k < d.length) : (d ++ r)[k]? = some d[k] := by rw [List.getElem?_append_left h, List.getElem?_eq_getElem h]
theorem at_behind (d r : List UInt8) : (d ++ r)[d.length]? = r.head? := by rw [List.getElem?_append_right (Nat.le_refl _), Nat.sub_self, List.head?_eq_getElem?]
theorem digits_c (d r : List UInt8) (w : World) (hl : (d ++ r).length ≤ 1000000) (hd : Digits d) (hr : NoDigit r) :
    Calls Tryz.prog 195 #[.string (bs (d ++ r))] w fun e w' => e = .returned (.int .i64 (d.length : Int)) ∧ w = w' := by
  obtain ⟨N, eN⟩ : ∃ N, (d ++ r).length = N := ⟨_, rfl⟩
  have hsz : (bs (d ++ r)).size = N := by rw [bs_size, eN]
  obtain ⟨M, eM⟩ : ∃ M, d.length = M := ⟨_, rfl⟩
  have hMN : M ≤ N := by rw [← eN, ← eM, List.length_append]; omega
  have hAt := fun k c h w => bs_at (d ++ r) k c h w
  have HAt := Lib.hid hAt
  have HD := Lib.hid hd
  have HR := Lib.hid hr
  have HM := Lib.hid eM
  have HN := Lib.hid eN
  obtain ⟨S, eS⟩ : ∃ x, bs (d ++ r) = x := ⟨_, rfl⟩
  rw [eS] at hsz HAt ⊢
  rw [eN] at hl
  rw [eM]
  clear hAt hd hr eM eN eS
  go_enter Tryz.func195, Tryz.ntmps195
  go_wp2
  go_loop [3] (fun i => ∃ k : Nat, k ≤ M ∧ i = .int .i64 (k : Int)) (fun i => N - (intOf i).toNat)
  case atStart => exact ⟨0, by omega, rfl⟩
  case round =>
  obtain ⟨k, hk, rfl⟩ := hrel
  by_cases hkM : k < M
  · have hkd : k < d.length := by have := HM.out; omega
    have hx := HAt.out k d[k] (at_front d r k hkd)
    have hdg := digits_get HD.out k hkd
    obtain ⟨c, ec⟩ : ∃ c, d[k].toNat = c := ⟨_, rfl⟩
    rw [ec] at hx hdg
    have r1 : decide ((k : Int) < (N : Int)) = true := by simp; omega
    have r2 : decide (48 ≤ (c : Int)) = true := by simp; omega
    have r3 : decide ((c : Int) ≤ 57) = true := by simp; omega
    have r4 : (k : Int) < (N : Int) := by omega
    clear ec
    go_wp2
    go_round
    case rel => exact ⟨k + 1, by omega, by go_num⟩
    case measure => simp [intOf]; omega
  · obtain rfl : M = k := by omega
    by_cases hMN' : M < N
    · have hb := at_behind d r
      rw [HM.out] at hb
      have hlt : M < (d ++ r).length := by have := HN.out; omega
      rw [List.getElem?_eq_getElem hlt] at hb
      have hx := HAt.out M _ (List.getElem?_eq_getElem hlt)
      have hnd := HR.out _ hb.symm
      obtain ⟨c, ec⟩ : ∃ c, ((d ++ r)[M]).toNat = c := ⟨_, rfl⟩
      rw [ec] at hx hnd
      have r1 : decide ((M : Int) < (N : Int)) = true := by simp; omega
      have r4 : (M : Int) < (N : Int) := by omega
      clear ec hb
      rcases hnd with hnd | hnd
      · have r2 : decide (48 ≤ (c : Int)) = false := by simp; omega
        go_wp2
        go_ret
        exact ⟨rfl, rfl⟩
      · have r2 : decide (48 ≤ (c : Int)) = true := by simp; omega
        have r3 : decide ((c : Int) ≤ 57) = false := by simp; omega
        go_wp2
        go_ret
        exact ⟨rfl, rfl⟩
    · have r1 : decide ((M : Int) < (N : Int)) = false := by simp; omega
      go_wp2
      go_ret
      exact ⟨rfl, rfl⟩
theorem digits_all (d : List UInt8) (w : World) (hl : d.length ≤ 1000000) (hd : Digits d) :
    Calls Tryz.prog 195 #[.string (bs d)] w fun e w' => e = .returned (.int .i64 (d.length : Int)) ∧ w = w' := by
  have h := digits_c d [] w (by simpa using hl) hd (by intro c h; simp at h)
  rw [List.append_nil] at h
  exact h
theorem count_c (d : List UInt8) (w : World) (h1 : 1 ≤ d.length) (h4 : d.length ≤ 4) (hd : Digits d) :
    Calls Tryz.prog 154 #[.string (bs d)] w fun e w' => e = .returned (.tuple #[.int .i64 (numV d : Int), .bool true]) ∧ w = w' := by
  have hg := fun w => digits_all d w (by omega) hd
  obtain ⟨N, eN⟩ : ∃ N, d.length = N := ⟨_, rfl⟩
  have hsz : (bs d).size = N := by rw [bs_size, eN]
  have hAt := fun k c h w => bs_at d k c h w
  have HAt := Lib.hid hAt
  have HD := Lib.hid hd
  have HN := Lib.hid eN
  have HMM := Lib.hid (fun k => numV_le (d.take k) (digits_take hd k) (by rw [List.length_take]; omega))
  obtain ⟨S, eS⟩ : ∃ x, bs d = x := ⟨_, rfl⟩
  rw [eS] at hsz HAt hg ⊢
  rw [eN] at h1 h4 hg
  have HG := Lib.hid hg
  have q1 : decide ((N : Int) < 1) = false := by simp; omega
  have q2 : decide (4 < (N : Int)) = false := by simp; omega
  clear hAt hd eN eS hg
  go_enter Tryz.func154, Tryz.ntmps154
  go_wp2_with (go_at_call 195; refine (HG.out _).mono ?_; rintro e w' ⟨rfl, rfl⟩)
  go_loop [4, 23] (fun v i => ∃ k : Nat, k ≤ N ∧ i = .int .i64 (k : Int) ∧ v = .int .i64 (numV (d.take k) : Int)) (fun _ i => N - (intOf i).toNat)
  case atStart => exact ⟨0, by omega, rfl, rfl⟩
  case round =>
  obtain ⟨k, hk, rfl, rfl⟩ := hrel
  by_cases hkN : k < N
  · have r1 : decide ((k : Int) < (N : Int)) = true := by simp; omega
    have r2 : (k : Int) < (N : Int) := by omega
    have hkl : k < d.length := by have := HN.out; omega
    have hx := HAt.out k d[k] (List.getElem?_eq_getElem hkl)
    have hdg := digits_get HD.out k hkl
    have hnx := numV_take d k hkl
    have hbd := HMM.out k
    obtain ⟨c, ec⟩ : ∃ c, d[k].toNat = c := ⟨_, rfl⟩
    rw [ec] at hx hdg hnx
    obtain ⟨u, eu⟩ : ∃ u, numV (d.take k) = u := ⟨_, rfl⟩
    rw [eu] at hnx hbd ⊢
    have hs48 := sub48 c hdg.1 hdg.2
    have HX := Lib.hid hnx
    have b1 : (c : Int) ≤ 57 := by omega
    have b2 : 48 ≤ (c : Int) := by omega
    have b3 : (u : Int) ≤ 999999 := by omega
    clear hnx ec eu hdg hbd
    go_wp2
    go_round
    case rel => exact ⟨k + 1, by omega, by go_num, by rw [HX.out]; simp; try omega⟩
    case measure => simp [intOf]; omega
  · obtain rfl : N = k := by omega
    have htk : d.take N = d := List.take_of_length_le (by rw [HN.out]; exact Nat.le_refl _)
    rw [htk]
    go_wp2
    go_ret2
    exact ⟨rfl, rfl⟩
theorem code_c (d : List UInt8) (w : World) (h2 : 2 ≤ d.length) (h4 : d.length ≤ 4) (hd : Digits d) (hz : d.head? ≠ some 48) :
    Calls Tryz.prog 98 #[.string (bs d)] w fun e w' => e = .returned (.tuple #[.int .i64 (numV d : Int), .bool true]) ∧ w = w' := by
  have hg := fun w => count_c d w (by omega) h4 hd
  have h1 : 0 < d.length := by omega
  obtain ⟨c0, hc0, hx0⟩ : ∃ c0 : Nat, ¬ c0 = 48 ∧ ∀ h : 0 < (bs d).size, ((bs d)[0]'h).toNat = c0 := ⟨d[0].toNat, by
    intro e
    apply hz
    rw [List.head?_eq_getElem?, List.getElem?_eq_getElem h1]
    exact congrArg some (UInt8.toNat_inj.1 e), fun h => bs_head d d[0] (by rw [List.head?_eq_getElem?]; exact List.getElem?_eq_getElem h1) h⟩
  obtain ⟨N, eN⟩ : ∃ N, d.length = N := ⟨_, rfl⟩
  have hsz : (bs d).size = N := by rw [bs_size, eN]
  obtain ⟨S, eS⟩ : ∃ x, bs d = x := ⟨_, rfl⟩
  obtain ⟨V, eV⟩ : ∃ v, numV d = v := ⟨_, rfl⟩
  rw [eV] at hg ⊢
  rw [eS] at hsz hg hx0 ⊢
  rw [eN] at h1 h2 h4
  have HG := Lib.hid hg
  have q1 : decide ((N : Int) < 2) = false := by simp; omega
  have q2 : ((c0 : Int) == 48) = false := by simp; omega
  clear hd eN eS hg hz eV
  go_enter Tryz.func98, Tryz.ntmps98
  go_wp2_with (go_at_call 154; refine (HG.out _).mono ?_; rintro e w' ⟨rfl, rfl⟩)
  go_ret2
  exact ⟨rfl, rfl⟩
theorem ddigits_c (d r : List UInt8) (w : World) (hl : (d ++ r).length ≤ 1000000) (hd : Digits d) (hr : NoDigit r) (h6 : d.length ≤ 6) :
    Calls Tryz.prog 197 #[.string (bs (d ++ r))] w fun e w' => e = .returned (.tuple #[.int .i64 (numV d : Int), .int .i64 (d.length : Int)]) ∧ w = w' := by
  obtain ⟨N, eN⟩ : ∃ N, (d ++ r).length = N := ⟨_, rfl⟩
  have hsz : (bs (d ++ r)).size = N := by rw [bs_size, eN]
  obtain ⟨M, eM⟩ : ∃ M, d.length = M := ⟨_, rfl⟩
  have hMN : M ≤ N := by rw [← eN, ← eM, List.length_append]; omega
  have hAt := fun k c h w => bs_at (d ++ r) k c h w
  have HAt := Lib.hid hAt
  have HD := Lib.hid hd
  have HR := Lib.hid hr
  have HM := Lib.hid eM
  have HN := Lib.hid eN
  obtain ⟨S, eS⟩ : ∃ x, bs (d ++ r) = x := ⟨_, rfl⟩
  rw [eS] at hsz HAt ⊢
  rw [eN] at hl
  have HMM := Lib.hid (fun k => numV_le (d.take k) (digits_take hd k) (by rw [List.length_take]; omega))
  rw [eM] at h6 ⊢
  clear hAt hd hr eM eN eS
  go_enter Tryz.func197, Tryz.ntmps197
  go_wp2
  go_loop [4, 5] (fun v i => ∃ k : Nat, k ≤ M ∧ i = .int .i64 (k : Int) ∧ v = .int .i64 (numV (d.take k) : Int)) (fun _ i => N - (intOf i).toNat)
  case atStart => exact ⟨0, by omega, rfl, rfl⟩
  case round =>
  obtain ⟨k, hk, rfl, rfl⟩ := hrel
  by_cases hkM : k < M
  · have hkd : k < d.length := by have := HM.out; omega
    have hx := HAt.out k d[k] (at_front d r k hkd)
    have hdg := digits_get HD.out k hkd
    have hnx := numV_take d k hkd
    have hbd := HMM.out k
    obtain ⟨c, ec⟩ : ∃ c, d[k].toNat = c := ⟨_, rfl⟩
    rw [ec] at hx hdg hnx
    obtain ⟨u, eu⟩ : ∃ u, numV (d.take k) = u := ⟨_, rfl⟩
    rw [eu] at hnx hbd ⊢
    have hs48 := sub48 c hdg.1 hdg.2
    have HX := Lib.hid hnx
    have b1 : (c : Int) ≤ 57 := by omega
    have b2 : 48 ≤ (c : Int) := by omega
    have b3 : (u : Int) ≤ 999999 := by omega
    have r1 : decide ((k : Int) < (N : Int)) = true := by simp; omega
    have r2 : decide (48 ≤ (c : Int)) = true := by simp; omega
    have r3 : decide ((c : Int) ≤ 57) = true := by simp; omega
    have r4 : (k : Int) < (N : Int) := by omega
    have r5 : decide ((k : Int) < 6) = true := by simp; omega
    clear hnx ec eu hdg hbd
    go_wp2
    go_round
    case rel => exact ⟨k + 1, by omega, by go_num, by rw [HX.out]; simp; try omega⟩
    case measure => simp [intOf]; omega
  · obtain rfl : M = k := by omega
    have htk : d.take M = d := List.take_of_length_le (by rw [HM.out]; exact Nat.le_refl _)
    rw [htk]
    by_cases hMN' : M < N
    · have hb := at_behind d r
      rw [HM.out] at hb
      have hlt : M < (d ++ r).length := by have := HN.out; omega
      rw [List.getElem?_eq_getElem hlt] at hb
      have hx := HAt.out M _ (List.getElem?_eq_getElem hlt)
      have hnd := HR.out _ hb.symm
      obtain ⟨c, ec⟩ : ∃ c, ((d ++ r)[M]).toNat = c := ⟨_, rfl⟩
      rw [ec] at hx hnd
      have r1 : decide ((M : Int) < (N : Int)) = true := by simp; omega
      have r4 : (M : Int) < (N : Int) := by omega
      clear ec hb htk
      by_cases h66 : M < 6
      · have r5 : decide ((M : Int) < 6) = true := by simp; omega
        rcases hnd with hnd | hnd
        · have r2 : decide (48 ≤ (c : Int)) = false := by simp; omega
          go_wp2
          go_ret2
          exact ⟨rfl, rfl⟩
        · have r2 : decide (48 ≤ (c : Int)) = true := by simp; omega
          have r3 : decide ((c : Int) ≤ 57) = false := by simp; omega
          go_wp2
          go_ret2
          exact ⟨rfl, rfl⟩
      · have r5 : decide ((M : Int) < 6) = false := by simp; omega
        go_wp2
        go_ret2
        exact ⟨rfl, rfl⟩
    · have r1 : decide ((M : Int) < (N : Int)) = false := by simp; omega
      clear htk
      go_wp2
      go_ret2
      exact ⟨rfl, rfl⟩
theorem parse_int (d : List UInt8) (w : World) (h1 : 0 < d.length) (h6 : d.length ≤ 6) (hd : Digits d) :
    Calls Tryz.prog 152 #[.string (bs d)] w fun e w' => e = .returned (.tuple #[.int .i64 ((numV d * 1000000 : Nat) : Int), .bool true]) ∧ w = w' := by
  have hg := fun w => ddigits_c d [] w (by simp; omega) hd (by intro c h; simp at h) h6
  simp only [List.append_nil] at hg
  have hne : (bs d).toList.isEmpty = false := by
    rw [bs_toList]
    cases d with
    | nil => simp at h1
    | cons a l => rfl
  obtain ⟨c0, hc0, hx0⟩ : ∃ c0 : Nat, (48 ≤ c0 ∧ c0 ≤ 57) ∧ ∀ h : 0 < (bs d).size, ((bs d)[0]'h).toNat = c0 := ⟨d[0].toNat, digits_get hd 0 h1, fun h => bs_head d d[0] (by rw [List.head?_eq_getElem?]; exact List.getElem?_eq_getElem h1) h⟩
  have hle := numV_le d hd h6
  have p1 : ((c0 : Int) == 43) = false := by simp; omega
  have p2 : ((c0 : Int) == 45) = false := by simp; omega
  have x1 : (bs d).extract d.length d.length = bs [] := by rw [bs_drop]; simp
  obtain ⟨E, eE, hE⟩ : ∃ E, bs [] = E ∧ E.toList.isEmpty = true := ⟨_, rfl, by rw [bs_toList]; rfl⟩
  obtain ⟨N, eN⟩ : ∃ N, d.length = N := ⟨_, rfl⟩
  have hsz : (bs d).size = N := by rw [bs_size, eN]
  obtain ⟨S, eS⟩ : ∃ x, bs d = x := ⟨_, rfl⟩
  obtain ⟨V, eV⟩ : ∃ v, numV d = v := ⟨_, rfl⟩
  rw [eV] at hg hle ⊢
  rw [eS] at hsz hg hx0 hne x1 ⊢
  rw [eN] at h1 h6 x1 hg
  rw [eE] at x1
  have HG := Lib.hid hg
  have q1 : ((N : Int) == 0) = false := by simp; omega
  have e2 : ((V * 1000000 : Nat) : Int) = (V : Int) * 1000000 := by omega
  rw [e2]
  clear hd eN eS hg eV eE e2
  go_enter Tryz.func152, Tryz.ntmps152
  go_wp2_with (go_at_call 197; refine (HG.out _).mono ?_; rintro e w' ⟨rfl, rfl⟩)
  go_ret2
  exact ⟨rfl, rfl⟩
abbrev discC (x y r : Int) : Array Value := #[.int .i64 1, .int .i64 x, .int .i64 y, .int .i64 0, .int .i64 0, .int .i64 0, .int .i64 0, .int .i64 r, .slice none 0 0, .slice none 0 0]
theorem near_c (x y : Int) (w : World) (x0 : -536870912 ≤ x) (x1 : x ≤ 536870912) (y0 : -536870912 ≤ y) (y1 : y ≤ 536870912) :
    Calls Tryz.prog 243 #[.agg #[.int .i64 x, .int .i64 y]] w fun e w' => e = .returned (.bool true) ∧ Below w.heap.size w w' := by
  go_enter Tryz.func243, Tryz.ntmps243
  go_wp2
  go_ret
  exact ⟨rfl, by go_grown⟩
theorem width_c (r : Int) (w : World) (r0 : 1 ≤ r) (r1 : r ≤ 536870912) :
    Calls Tryz.prog 244 #[.int .i64 r] w fun e w' => e = .returned (.bool true) ∧ Below w.heap.size w w' := by
  go_enter Tryz.func244, Tryz.ntmps244
  go_wp2
  go_ret
  exact ⟨rfl, by go_grown⟩
theorem bare_disc (x y r : Int) (w : World) :
    Calls Tryz.prog 242 #[.agg #[.int .i64 1, .int .i64 x, .int .i64 y, .int .i64 0, .int .i64 0, .int .i64 0, .int .i64 0, .int .i64 r, .slice none 0 0, .slice none 0 0]] w fun e w' => e = .returned (.bool true) ∧ Below w.heap.size w w' := by
  go_enter Tryz.func242, Tryz.ntmps242
  go_wp2
  go_ret
  exact ⟨rfl, by go_grown⟩
theorem valid_disc (x y r : Int) (p B : Nat) (w : World) (x0 : -536870912 ≤ x) (x1 : x ≤ 536870912) (y0 : -536870912 ≤ y) (y1 : y ≤ 536870912) (r0 : 1 ≤ r) (r1 : r ≤ 536870912)
    (hc : w.cell? ⟨p, 0, none⟩ = some (.int .i64 1000)) (hf : w.frozen? ⟨p, 0, none⟩ = false) (hB : B ≤ w.heap.size) (hp : B ≤ p) :
    Calls Tryz.prog 210 #[.agg #[.int .i64 1, .int .i64 x, .int .i64 y, .int .i64 0, .int .i64 0, .int .i64 0, .int .i64 0, .int .i64 r, .slice none 0 0, .slice none 0 0], .int .i64 0, .pointer (some ⟨p, 0, none⟩)] w fun e w' => e = .returned (.bool true) ∧ Below B w w' := by
  have hpl := blk_of_cell hc
  go_enter Tryz.func210, Tryz.ntmps210
  go_wp2_with fail
  refine (bare_disc _ _ _ _).mono ?_
  rintro e w1 ⟨rfl, hb⟩
  have hB1 : Below B w w1 := Below.trans (by exact blw) (hb.mono (by first | omega | (simp; done) | (simp; omega)))
  have k1_0 : Blk w1 (w.heap.size) 62 #[.int .i64 1, .int .i64 x, .int .i64 y, .int .i64 0, .int .i64 0, .int .i64 0, .int .i64 0, .int .i64 r, .slice none 0 0, .slice none 0 0] := Blk.below (by exact bkw) hb (by first | omega | (simp; done) | (simp; omega))
  have c1_0 := k1_0.cell
  have f1_0 := k1_0.frozen
  have l1_0 := k1_0.lt
  have l1 := hB1.size
  clear hb
  clear hc hf
  as_aux_lemma =>
    go_wp2_with fail
    refine (near_c _ _ _ (by omega) (by omega) (by omega) (by omega)).mono ?_
    rintro e w2 ⟨rfl, hb⟩
    have hB2 : Below B w w2 := Below.trans (by exact blw) (hb.mono (by first | omega | (simp; done) | (simp; omega)))
    have k2_0 : Blk w2 (w.heap.size) 62 #[.int .i64 1, .int .i64 x, .int .i64 y, .int .i64 0, .int .i64 0, .int .i64 0, .int .i64 0, .int .i64 r, .slice none 0 0, .slice none 0 0] := Blk.below (by exact bkw) hb (by first | omega | (simp; done) | (simp; omega))
    have c2_0 := k2_0.cell
    have f2_0 := k2_0.frozen
    have l2_0 := k2_0.lt
    have l2 := hB2.size
    clear hb
    clear k1_0 c1_0 f1_0 l1_0
    as_aux_lemma =>
      go_wp2_with fail
      refine (width_c _ _ (by omega) (by omega)).mono ?_
      rintro e w3 ⟨rfl, hb⟩
      have hB3 : Below B w w3 := Below.trans (by exact blw) (hb.mono (by first | omega | (simp; done) | (simp; omega)))
      have l3 := hB3.size
      clear hb
      as_aux_lemma =>
        go_wp2_with fail
        go_ret
        exact ⟨rfl, hB3⟩
theorem ok_disc (x y r : Int) (w : World) (x0 : -536870912 ≤ x) (x1 : x ≤ 536870912) (y0 : -536870912 ≤ y) (y1 : y ≤ 536870912) (r0 : 1 ≤ r) (r1 : r ≤ 536870912) :
    Calls Tryz.prog 171 #[.agg #[.int .i64 1, .int .i64 x, .int .i64 y, .int .i64 0, .int .i64 0, .int .i64 0, .int .i64 0, .int .i64 r, .slice none 0 0, .slice none 0 0]] w fun e w' => e = .returned (.bool true) ∧ Below w.heap.size w w' := by
  go_enter Tryz.func171, Tryz.ntmps171
  go_wp2_with fail
  refine (valid_disc _ _ _ _ w.heap.size _ x0 x1 y0 y1 r0 r1 (by simp) (by simp) (by simp; omega) (by omega)).mono ?_
  rintro e w1 ⟨rfl, hb⟩
  have hB : Below w.heap.size w w1 := Below.trans (by exact blw) hb
  go_wp2_with fail
  go_ret
  exact ⟨rfl, hB⟩
theorem quarters_c (w : World) : Calls Tryz.prog 335 #[.int .i64 0] w fun e w' => e = .returned (.int .i64 0) ∧ w = w' := by
  have b0 : bits .and .i64 0 3 = 0 := by kernel_rfl
  go_enter Tryz.func335, Tryz.ntmps335
  go_wp2
  go_ret
  exact ⟨rfl, rfl⟩
theorem pt_c (x y a b : Int) (w : World) (x0 : -536870912 ≤ x) (x1 : x ≤ 536870912) (y0 : -536870912 ≤ y) (y1 : y ≤ 536870912) (a0 : -536870912 ≤ a) (a1 : a ≤ 536870912) (b0 : -536870912 ≤ b) (b1 : b ≤ 536870912) :
    Calls Tryz.prog 281 #[.agg #[.int .i64 x, .int .i64 y], .agg #[.bool false, .bool false, .int .i64 0, .int .i64 a, .int .i64 b]] w fun e w' => e = .returned (.agg #[.int .i64 (x + a), .int .i64 (y + b)]) ∧ Below w.heap.size w w' := by
  go_enter Tryz.func281, Tryz.ntmps281
  go_wp2_with fail
  go_quiet (fail)
  go_wp2_with (go_at_call 335; refine (quarters_c _).mono ?_; rintro e w' ⟨rfl, rfl⟩)
  exact bodyPost_ret (v := .agg #[.int .i64 (x + a), .int .i64 (y + b)]) (by simp [results, Tryz.results281, go_sem]) rfl ⟨rfl, by exact blw⟩
theorem results_row_tmp {fn : Func} {p u : Tmp} {ty : TypeId} (h : fn.results = #[.cell p ty, .tmp u]) (tmps : Array Value) (w : World) (g : Nat) (cs : Array Value)
    (hp : tmps.getD p undef = .pointer (some ⟨g, 0, none⟩)) (hl : (loadVar ty ⟨g, 0, none⟩).run Tryz.prog w = .ok (.agg cs) w) :
    (results fn tmps).run Tryz.prog w = .ok (.tuple #[.agg cs, tmps.getD u undef]) w := by
  rw [results_cell_tmp h, hp]
  simp [asAddr, hl]
end Go.Proofs.YtfajckkbinbpiaaGreatDoor
