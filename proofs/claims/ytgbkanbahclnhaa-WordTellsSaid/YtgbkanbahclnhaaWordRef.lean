/- A walk: the reference's Words returns what the plain law says. -/
import Derived.Test.YtgbkanbahclnhaaWordWords
import Derived.Laws.AppendOwnNone
namespace Go.Proofs.Ytgbkanbahclnhaa
open Go.RowKit
set_option linter.unusedVariables false

/-- What the reference's loop holds: a reader, in variables of its own. -/
def RefHeld (s : List UInt8) (N : Nat) (w : World) (out text at_ ext first i : Value) (wr : World) : Prop :=
  ∃ (k : Nat) (r : Rd) (f : Bool), i = .int .i64 (k : Int) ∧ at_ = .int .i64 (r.at_ : Int) ∧ ext = .bool r.group ∧ first = .bool f ∧ k ≤ N ∧ (r.group = true → f = (r.inner == 0)) ∧
    wr.ownsRow w.heap.size 28 4 out r.words.length (wcells r.words) ∧ wr.ownsRow w.heap.size 5 1 text r.text.length (tcells r.text) ∧ (r.text = [] → text = .slice none 0 0) ∧ r.Ok ∧ run (s.drop k) k r = run s 0 Rd.start ∧ Below w.heap.size w wr
theorem refHeld_ok {s : List UInt8} {N k : Nat} {r r' : Rd} {c : UInt8} {w wr : World} {out text : Value} {f : Bool} (hk : k < N) (hN : N ≤ 1000000) (hok : r.Ok) (hrun : run (c :: s.drop (k + 1)) k r = run s 0 Rd.start) (ht : take r c k = .ok r')
    (hf : r'.group = true → f = (r'.inner == 0)) (hw : wr.ownsRow w.heap.size 28 4 out r'.words.length (wcells r'.words)) (hx : wr.ownsRow w.heap.size 5 1 text r'.text.length (tcells r'.text)) (h0 : r'.text = [] → text = .slice none 0 0) (hB : Below w.heap.size w wr) :
    RefHeld s N w out text (.int .i64 (r'.at_ : Int)) (.bool r'.group) (.bool f) (.int .i64 ((k : Int) + 1)) wr := by
  refine ⟨k + 1, r', f, by simp, rfl, rfl, rfl, by omega, hf, hw, hx, h0, take_ok hok (by omega) ht, ?_, hB⟩
  rw [← hrun, run_cons ht]

set_option maxRecDepth 100000 in
set_option maxHeartbeats 8000000 in
theorem wordsR_c (s : List UInt8) (w : World) (hs : s.length ≤ 9223372036854775807) : Calls Try.prog 14 #[.string (bs s)] w (WordsIs s w) := by
  obtain ⟨N, eN⟩ : ∃ N, s.length = N := ⟨_, rfl⟩
  have hsz : (bs s).size = N := by rw [bs_size, eN]
  rw [eN] at hs
  by_cases hlong : 1000000 < N
  · have hW := words_long (s := s) (by omega)
    have fin : ∀ w', Below w.heap.size w w' → WordsIs s w (.returned (.tuple #[.slice none 0 0, .int .i64 0, .int .i64 6])) w' := fun w' hb => wordsIs_none hW hb
    have FIN := Lib.hid fin
    clear fin hW
    obtain ⟨b, eb⟩ : ∃ b, bs s = b := ⟨_, rfl⟩
    rw [eb] at hsz ⊢
    have d0 : decide (1000000 < (N : Int)) = true := by simp; omega
    go_enter Try.func14, Try.ntmps14
    go_wp2_with fail
    refine bodyPost_ret (results_tmp3 rfl _ _ _) rfl ?_
    first | exact FIN.out _ (by go_grown) | (simp; exact FIN.out _ (by go_grown))
  have d0 : decide (1000000 < (N : Int)) = false := by simp; omega
  have hshort : ¬ 1000000 < s.length := by rw [eN]; exact hlong
  have fStop : ∀ (i x : Nat) w', run s 0 Rd.start = .error (i, x) → Below w.heap.size w w' → WordsIs s w (.returned (.tuple #[.slice none 0 0, .int .i64 (i : Int), .int .i64 (x : Int)])) w' := fun i x w' hr hb => wordsIs_none (words_stop hshort hr) hb
  have fOpen : ∀ (r : Rd) w', run s 0 Rd.start = .ok r → (r.text ≠ [] ∨ r.group = true) → Below w.heap.size w w' → WordsIs s w (.returned (.tuple #[.slice none 0 0, .int .i64 (N : Int), .int .i64 2])) w' := fun r w' hr ho hb => wordsIs_none (by rw [words_open hshort hr ho, eN]) hb
  have fDone : ∀ (r : Rd) v w', run s 0 Rd.start = .ok r → ¬ (r.text ≠ [] ∨ r.group = true) → w'.ownsRow w.heap.size 28 4 v r.words.length (wcells r.words) → Below w.heap.size w w' → WordsIs s w (.returned (.tuple #[v, .int .i64 0, .int .i64 0])) w' := by
    intro r v w' hr ho hv hb; unfold WordsIs; rw [words_done hshort hr ho]; exact ⟨v, rfl, hv, hb⟩
  have hAt := fun k c h w => bs_at s k c h w
  have FStop := Lib.hid fStop
  have FOpen := Lib.hid fOpen
  have FDone := Lib.hid fDone
  have HAt := Lib.hid hAt
  have HS := Lib.hid eN
  clear fStop fOpen fDone hAt hshort eN
  obtain ⟨b, eb⟩ : ∃ b, bs s = b := ⟨_, rfl⟩
  rw [eb] at hsz ⊢
  rw [eb] at HAt
  clear eb
  go_enter Try.func14, Try.ntmps14
  go_wp2_with fail
  go_loopw [5, 6, 7, 8, 9, 10] (RefHeld s N w) (fun _ _ _ _ _ i _ => N - (intOf i).toNat)
  case atStart =>
    refine ⟨0, Rd.start, true, rfl, rfl, rfl, rfl, by omega, by simp [Rd.start], World.ownsRow_nil _ _ _ _, World.ownsRow_nil _ _ _ _, fun _ => rfl, Rd.start_ok, rfl, by (repeat' (first | (with_reducible exact Below.refl _ _) | (with_reducible assumption) | (with_reducible refine below_drewN ?_ _) | (with_reducible refine Below.drew ?_) | (with_reducible refine Below.alloc ?_ ?_ _) | (with_reducible refine Below.setCell ?_ ?_ _) | omega | (simp; done) | (simp; omega)))⟩
  case round =>
  obtain ⟨k, r, f, rfl, rfl, rfl, rfl, hk, hfi, hws, hts, hnil, hok, hrun, hB⟩ := hrel
  have hRun := Lib.hid hrun
  have lB := hB.size
  clear hrun
  by_cases hkN : k < N
  · have hkS : k < s.length := by have := HS.out; omega
    have hx := HAt.out k (s[k]) (List.getElem?_eq_getElem hkS)
    have d1 : decide ((k : Int) < (N : Int)) = true := by simp; omega
    obtain ⟨c, ec⟩ : ∃ c, s[k] = c := ⟨_, rfl⟩
    have hd := drop_at hkS
    rw [ec] at hx hd
    have hrun := hRun.out
    rw [hd] at hrun
    have fin := fun r' out text f' wr' (ht : take r c k = .ok r') => refHeld_ok (N := N) (w := w) (wr := wr') (out := out) (text := text) (f := f') hkN (by omega) hok hrun ht
    have ferr : ∀ (x : Nat) w', take r c k = .error x → Below w.heap.size w w' → WordsIs s w (.returned (.tuple #[.slice none 0 0, .int .i64 (k : Int), .int .i64 (x : Int)])) w' := fun x w' ht hb => FStop.out k x w' (by rw [← hrun, run_stop ht]) hb
    have FIN := Lib.hid fin
    have FERR := Lib.hid ferr
    have HOK := Lib.hid hok
    clear hd ec HAt hrun fin ferr FStop FOpen FDone hRun hkS
    obtain ⟨n, en⟩ : ∃ n, c.toNat = n := ⟨_, rfl⟩
    rw [en] at hx
    obtain ⟨A, cap, rfl⟩ : ∃ A cap, u6 = .slice A r.text.length cap := by
      rcases hts.2 with ⟨rfl, h0⟩ | ⟨g', cap, cur, rfl, _⟩
      · exact ⟨none, 0, by rw [h0]⟩
      · exact ⟨_, cap, rfl⟩
    obtain ⟨wds, txt, at_, grp, inn⟩ := r
    simp only at hfi hws hts hnil ⊢
    have hokk := HOK.out
    obtain ⟨b1, b2, b3, b4, b5, b6⟩ := hokk
    simp only at b1 b2 b3 b4 b5 b6
    obtain ⟨wA, wcap, rfl⟩ : ∃ A cap, u5 = .slice A wds.length cap := by
      rcases hws.2 with ⟨rfl, h0⟩ | ⟨g', cap, cur, rfl, _⟩
      · exact ⟨none, 0, by rw [h0]⟩
      · exact ⟨_, cap, rfl⟩
    clear HOK
    by_cases h10 : n = 10
    · have R := FIN.out _ (.slice wA wds.length wcap) (.slice A txt.length cap) f wr (take_nl (.inr (by rw [en]; exact h10))) hfi hws hts hnil hB
      have RR := Lib.hid R
      clear R FIN FERR en hws hts hnil hfi b2 b6
      subst h10
      as_aux_lemma =>
      go_wp2_with fail
      go_roundw
      case rel => exact RR.out
      case measure => simp [intOf]; omega
    by_cases h13 : n = 13
    · have R := FIN.out _ (.slice wA wds.length wcap) (.slice A txt.length cap) f wr (take_nl (.inl (by rw [en]; exact h13))) hfi hws hts hnil hB
      have RR := Lib.hid R
      clear R FIN FERR en hws hts hnil hfi b2 b6
      subst h13
      as_aux_lemma =>
      go_wp2_with fail
      go_roundw
      case rel => exact RR.out
      case measure => simp [intOf]; omega
    have hnn : ¬ (c.toNat = 13 ∨ c.toNat = 10) := by omega
    have e10 : ((n : Int) == 10) = false := by simp; omega
    have e13 : ((n : Int) == 13) = false := by simp; omega
    by_cases hlo : n < 32
    · have FE := Lib.hid (FERR.out 2 wr (take_bad hnn (by omega)) hB)
      have e1 : decide ((n : Int) < 32) = true := by simp; omega
      clear FIN FERR en hws hts hnil hfi hnn b2 b6
      as_aux_lemma =>
      go_wp2_with fail
      refine bodyPost_ret (results_tmp3 rfl _ _ _) rfl ?_
      exact FE.out
    have e32 : decide ((n : Int) < 32) = false := by simp; omega
    by_cases hhi : 126 < n
    · have FE := Lib.hid (FERR.out 2 wr (take_bad hnn (by omega)) hB)
      have e1 : decide (126 < (n : Int)) = true := by simp; omega
      clear FIN FERR en hws hts hnil hfi hnn b2 b6
      as_aux_lemma =>
      go_wp2_with fail
      refine bodyPost_ret (results_tmp3 rfl _ _ _) rfl ?_
      exact FE.out
    have e126 : decide (126 < (n : Int)) = false := by simp; omega
    by_cases h42 : n = 42
    · have hT := take_star (r := ⟨wds, txt, at_, grp, inn⟩) (i := k) (by rw [en]; exact h42 : c.toNat = 42)
      by_cases hne : txt = []
      · rw [if_pos hne] at hT
        have FE := Lib.hid (FERR.out 2 wr hT hB)
        have em : txt.length = 0 := by rw [hne]; rfl
        rw [em]
        clear FIN FERR en hws hts hnil hfi hnn b2 b6 hT hne
        subst h42
        as_aux_lemma =>
        go_wp2_with fail
        refine bodyPost_ret (results_tmp3 rfl _ _ _) rfl ?_
        exact FE.out
      · rw [if_neg hne] at hT
        have hlen := List.length_pos_iff.2 hne
        have b7 := b2 hne
        obtain ⟨gt, cap', hAe, hgt, hgt'⟩ := hts.form hlen
        obtain ⟨rfl, rfl⟩ : A = some ⟨gt, 0, none⟩ ∧ cap = cap' := by simpa using hAe
        have hcv := conv_text hts
        have em : ((txt.length : Int) == 0) = false := by simp; omega
        clear hAe
        obtain ⟨i28, hi28, hz0, hz1, hz2⟩ := info_parts info28
        have HI := Lib.hid (And.intro hi28 (And.intro hz0 (And.intro hz1 hz2)))
        have hZ : Hid ((Value.agg #[.int .i64 0, .bool false, .bool false, .string ByteArray.empty]).cells.size = 4) := Lib.hid (by kernel_rfl)
        have b8 : wds.length + 1 ≤ maxLen := by unfold maxLen; omega
        have b9 : (wds.length + 1) * 32 ≤ 140737488355328 := by omega
        clear hi28 hz0 hz1 hz2
        rcases grp with _ | _
        · rcases f with _ | _
          · have hfst : (inn == 0) = true := by rw [b6 rfl]; rfl
            rw [hfst] at hT
            have fin2 : ∀ g2 cap2 w1, World.ownsRow w1 w.heap.size 28 4 (.slice (some ⟨g2, 0, none⟩) (wds.length + 1) cap2) (wds.length + 1) (wcells wds ++ [.int .i64 (at_ : Int), .bool false, .bool true, .string (bs txt)]) → (wr.alloc (.cells #[.int .i64 (at_ : Int), .bool false, .bool true, .string (bs txt)] 28)).grownBy w1 (Value.slice wA wds.length wcap).ownBlock →
                RefHeld s N w (.slice (some ⟨g2, 0, none⟩) (wds.length + 1) cap2) (.slice none 0 0) (.int .i64 (at_ : Int)) (.bool false) (.bool false) (.int .i64 ((k : Int) + 1)) w1 := by
              intro g2 cap2 w1 hown hgrow
              refine FIN.out _ _ _ false w1 hT ?_ ?_ (World.ownsRow_nil _ _ _ _) (fun _ => rfl) ?_
              · intro hg; first | (cases hg; done) | simp
              · simp only [List.length_append, List.length_cons, List.length_nil, wcells_append, wcells_one]; exact hown
              · exact Below.grown (Below.alloc hB lB _) hgrow (Nat.le_trans lB (by simp)) (fun q hq => (hws.lt q hq).1)
            have ha : ∀ o, (wr.alloc o).ownsRow w.heap.size 28 4 (.slice wA wds.length wcap) wds.length (wcells wds) := fun o => hws.alloc o
            have hs : ∀ o, w.heap.size ≤ (wr.alloc o).heap.size := fun o => Nat.le_trans lB (by simp)
            have hN : ∀ j u, ([.int .i64 (at_ : Int), .bool false, .bool true, .string (bs txt)] : List Value)[j]? = some u → (wr.alloc (.cells #[.int .i64 (at_ : Int), .bool false, .bool true, .string (bs txt)] 28)).cell? ((⟨wr.heap.size, 0, none⟩ : Addr).add j) = some u :=
              World.news_of_block (cs := #[.int .i64 (at_ : Int), .bool false, .bool true, .string (bs txt)]) (Blk.newAt (w := wr) rfl)
            have hO : ∀ u ∈ ([.int .i64 (at_ : Int), .bool false, .bool true, .string (bs txt)] : List Value), u.oneCell' = true := by
              intro u hu
              simp only [List.mem_cons, List.not_mem_nil, or_false] at hu
              rcases hu with rfl | rfl | rfl | rfl <;> rfl
            have FIN2 := Lib.hid fin2
            have HA := Lib.hid ha
            have HSZ := Lib.hid hs
            have HN := Lib.hid hN
            have HO := Lib.hid hO
            clear fin2 ha hs hN hO FIN FERR en hws hts hnil hfi hnn b2 b6 hT hne hfst
            subst h42
            go_wp2_with (at_builtin; refine wpList_append_lies _ rfl (.tmp 85) (.tmp 96) 23 rfl w.heap.size 28 i28 _ 4 32 Try.underlying23 HI.out.1 HI.out.2.1 HI.out.2.2.1 HI.out.2.2.2 hZ.out (by decide) (.slice wA wds.length wcap) wds.length (wcells wds) (by simp [Act.eval]) (HA.out _) ⟨wr.heap.size, 0, none⟩ 1 1 [.int .i64 (at_ : Int), .bool false, .bool true, .string (bs txt)] (by simp [Act.eval]) rfl HN.out HO.out (by decide) b8 b9 (HSZ.out _) _ rfl ?_)
            intro g2 cap2 w1 hown hgrow hat hlt
            have RR := FIN2.out g2 cap2 w1 hown hgrow
            clear hown hgrow hat
            go_wp2_with fail
            go_roundw
            case rel => exact RR
            case measure => simp [intOf]; omega
          · have hfst : (inn == 0) = true := by rw [b6 rfl]; rfl
            rw [hfst] at hT
            have fin2 : ∀ g2 cap2 w1, World.ownsRow w1 w.heap.size 28 4 (.slice (some ⟨g2, 0, none⟩) (wds.length + 1) cap2) (wds.length + 1) (wcells wds ++ [.int .i64 (at_ : Int), .bool false, .bool true, .string (bs txt)]) → (wr.alloc (.cells #[.int .i64 (at_ : Int), .bool false, .bool true, .string (bs txt)] 28)).grownBy w1 (Value.slice wA wds.length wcap).ownBlock →
                RefHeld s N w (.slice (some ⟨g2, 0, none⟩) (wds.length + 1) cap2) (.slice none 0 0) (.int .i64 (at_ : Int)) (.bool false) (.bool false) (.int .i64 ((k : Int) + 1)) w1 := by
              intro g2 cap2 w1 hown hgrow
              refine FIN.out _ _ _ false w1 hT ?_ ?_ (World.ownsRow_nil _ _ _ _) (fun _ => rfl) ?_
              · intro hg; first | (cases hg; done) | simp
              · simp only [List.length_append, List.length_cons, List.length_nil, wcells_append, wcells_one]; exact hown
              · exact Below.grown (Below.alloc hB lB _) hgrow (Nat.le_trans lB (by simp)) (fun q hq => (hws.lt q hq).1)
            have ha : ∀ o, (wr.alloc o).ownsRow w.heap.size 28 4 (.slice wA wds.length wcap) wds.length (wcells wds) := fun o => hws.alloc o
            have hs : ∀ o, w.heap.size ≤ (wr.alloc o).heap.size := fun o => Nat.le_trans lB (by simp)
            have hN : ∀ j u, ([.int .i64 (at_ : Int), .bool false, .bool true, .string (bs txt)] : List Value)[j]? = some u → (wr.alloc (.cells #[.int .i64 (at_ : Int), .bool false, .bool true, .string (bs txt)] 28)).cell? ((⟨wr.heap.size, 0, none⟩ : Addr).add j) = some u :=
              World.news_of_block (cs := #[.int .i64 (at_ : Int), .bool false, .bool true, .string (bs txt)]) (Blk.newAt (w := wr) rfl)
            have hO : ∀ u ∈ ([.int .i64 (at_ : Int), .bool false, .bool true, .string (bs txt)] : List Value), u.oneCell' = true := by
              intro u hu
              simp only [List.mem_cons, List.not_mem_nil, or_false] at hu
              rcases hu with rfl | rfl | rfl | rfl <;> rfl
            have FIN2 := Lib.hid fin2
            have HA := Lib.hid ha
            have HSZ := Lib.hid hs
            have HN := Lib.hid hN
            have HO := Lib.hid hO
            clear fin2 ha hs hN hO FIN FERR en hws hts hnil hfi hnn b2 b6 hT hne hfst
            subst h42
            go_wp2_with (at_builtin; refine wpList_append_lies _ rfl (.tmp 85) (.tmp 96) 23 rfl w.heap.size 28 i28 _ 4 32 Try.underlying23 HI.out.1 HI.out.2.1 HI.out.2.2.1 HI.out.2.2.2 hZ.out (by decide) (.slice wA wds.length wcap) wds.length (wcells wds) (by simp [Act.eval]) (HA.out _) ⟨wr.heap.size, 0, none⟩ 1 1 [.int .i64 (at_ : Int), .bool false, .bool true, .string (bs txt)] (by simp [Act.eval]) rfl HN.out HO.out (by decide) b8 b9 (HSZ.out _) _ rfl ?_)
            intro g2 cap2 w1 hown hgrow hat hlt
            have RR := FIN2.out g2 cap2 w1 hown hgrow
            clear hown hgrow hat
            go_wp2_with fail
            go_roundw
            case rel => exact RR
            case measure => simp [intOf]; omega
        · rcases f with _ | _
          · have hfst : (inn == 0) = false := by exact (hfi rfl).symm
            rw [hfst] at hT
            have fin2 : ∀ g2 cap2 w1, World.ownsRow w1 w.heap.size 28 4 (.slice (some ⟨g2, 0, none⟩) (wds.length + 1) cap2) (wds.length + 1) (wcells wds ++ [.int .i64 (at_ : Int), .bool true, .bool false, .string (bs txt)]) → (wr.alloc (.cells #[.int .i64 (at_ : Int), .bool true, .bool false, .string (bs txt)] 28)).grownBy w1 (Value.slice wA wds.length wcap).ownBlock →
                RefHeld s N w (.slice (some ⟨g2, 0, none⟩) (wds.length + 1) cap2) (.slice none 0 0) (.int .i64 (at_ : Int)) (.bool true) (.bool false) (.int .i64 ((k : Int) + 1)) w1 := by
              intro g2 cap2 w1 hown hgrow
              refine FIN.out _ _ _ false w1 hT ?_ ?_ (World.ownsRow_nil _ _ _ _) (fun _ => rfl) ?_
              · intro hg; first | (cases hg; done) | simp
              · simp only [List.length_append, List.length_cons, List.length_nil, wcells_append, wcells_one]; exact hown
              · exact Below.grown (Below.alloc hB lB _) hgrow (Nat.le_trans lB (by simp)) (fun q hq => (hws.lt q hq).1)
            have ha : ∀ o, (wr.alloc o).ownsRow w.heap.size 28 4 (.slice wA wds.length wcap) wds.length (wcells wds) := fun o => hws.alloc o
            have hs : ∀ o, w.heap.size ≤ (wr.alloc o).heap.size := fun o => Nat.le_trans lB (by simp)
            have hN : ∀ j u, ([.int .i64 (at_ : Int), .bool true, .bool false, .string (bs txt)] : List Value)[j]? = some u → (wr.alloc (.cells #[.int .i64 (at_ : Int), .bool true, .bool false, .string (bs txt)] 28)).cell? ((⟨wr.heap.size, 0, none⟩ : Addr).add j) = some u :=
              World.news_of_block (cs := #[.int .i64 (at_ : Int), .bool true, .bool false, .string (bs txt)]) (Blk.newAt (w := wr) rfl)
            have hO : ∀ u ∈ ([.int .i64 (at_ : Int), .bool true, .bool false, .string (bs txt)] : List Value), u.oneCell' = true := by
              intro u hu
              simp only [List.mem_cons, List.not_mem_nil, or_false] at hu
              rcases hu with rfl | rfl | rfl | rfl <;> rfl
            have FIN2 := Lib.hid fin2
            have HA := Lib.hid ha
            have HSZ := Lib.hid hs
            have HN := Lib.hid hN
            have HO := Lib.hid hO
            clear fin2 ha hs hN hO FIN FERR en hws hts hnil hfi hnn b2 b6 hT hne hfst
            subst h42
            go_wp2_with (at_builtin; refine wpList_append_lies _ rfl (.tmp 85) (.tmp 96) 23 rfl w.heap.size 28 i28 _ 4 32 Try.underlying23 HI.out.1 HI.out.2.1 HI.out.2.2.1 HI.out.2.2.2 hZ.out (by decide) (.slice wA wds.length wcap) wds.length (wcells wds) (by simp [Act.eval]) (HA.out _) ⟨wr.heap.size, 0, none⟩ 1 1 [.int .i64 (at_ : Int), .bool true, .bool false, .string (bs txt)] (by simp [Act.eval]) rfl HN.out HO.out (by decide) b8 b9 (HSZ.out _) _ rfl ?_)
            intro g2 cap2 w1 hown hgrow hat hlt
            have RR := FIN2.out g2 cap2 w1 hown hgrow
            clear hown hgrow hat
            go_wp2_with fail
            go_roundw
            case rel => exact RR
            case measure => simp [intOf]; omega
          · have hfst : (inn == 0) = true := by exact (hfi rfl).symm
            rw [hfst] at hT
            have fin2 : ∀ g2 cap2 w1, World.ownsRow w1 w.heap.size 28 4 (.slice (some ⟨g2, 0, none⟩) (wds.length + 1) cap2) (wds.length + 1) (wcells wds ++ [.int .i64 (at_ : Int), .bool true, .bool true, .string (bs txt)]) → (wr.alloc (.cells #[.int .i64 (at_ : Int), .bool true, .bool true, .string (bs txt)] 28)).grownBy w1 (Value.slice wA wds.length wcap).ownBlock →
                RefHeld s N w (.slice (some ⟨g2, 0, none⟩) (wds.length + 1) cap2) (.slice none 0 0) (.int .i64 (at_ : Int)) (.bool true) (.bool false) (.int .i64 ((k : Int) + 1)) w1 := by
              intro g2 cap2 w1 hown hgrow
              refine FIN.out _ _ _ false w1 hT ?_ ?_ (World.ownsRow_nil _ _ _ _) (fun _ => rfl) ?_
              · intro hg; first | (cases hg; done) | simp
              · simp only [List.length_append, List.length_cons, List.length_nil, wcells_append, wcells_one]; exact hown
              · exact Below.grown (Below.alloc hB lB _) hgrow (Nat.le_trans lB (by simp)) (fun q hq => (hws.lt q hq).1)
            have ha : ∀ o, (wr.alloc o).ownsRow w.heap.size 28 4 (.slice wA wds.length wcap) wds.length (wcells wds) := fun o => hws.alloc o
            have hs : ∀ o, w.heap.size ≤ (wr.alloc o).heap.size := fun o => Nat.le_trans lB (by simp)
            have hN : ∀ j u, ([.int .i64 (at_ : Int), .bool true, .bool true, .string (bs txt)] : List Value)[j]? = some u → (wr.alloc (.cells #[.int .i64 (at_ : Int), .bool true, .bool true, .string (bs txt)] 28)).cell? ((⟨wr.heap.size, 0, none⟩ : Addr).add j) = some u :=
              World.news_of_block (cs := #[.int .i64 (at_ : Int), .bool true, .bool true, .string (bs txt)]) (Blk.newAt (w := wr) rfl)
            have hO : ∀ u ∈ ([.int .i64 (at_ : Int), .bool true, .bool true, .string (bs txt)] : List Value), u.oneCell' = true := by
              intro u hu
              simp only [List.mem_cons, List.not_mem_nil, or_false] at hu
              rcases hu with rfl | rfl | rfl | rfl <;> rfl
            have FIN2 := Lib.hid fin2
            have HA := Lib.hid ha
            have HSZ := Lib.hid hs
            have HN := Lib.hid hN
            have HO := Lib.hid hO
            clear fin2 ha hs hN hO FIN FERR en hws hts hnil hfi hnn b2 b6 hT hne hfst
            subst h42
            go_wp2_with (at_builtin; refine wpList_append_lies _ rfl (.tmp 85) (.tmp 96) 23 rfl w.heap.size 28 i28 _ 4 32 Try.underlying23 HI.out.1 HI.out.2.1 HI.out.2.2.1 HI.out.2.2.2 hZ.out (by decide) (.slice wA wds.length wcap) wds.length (wcells wds) (by simp [Act.eval]) (HA.out _) ⟨wr.heap.size, 0, none⟩ 1 1 [.int .i64 (at_ : Int), .bool true, .bool true, .string (bs txt)] (by simp [Act.eval]) rfl HN.out HO.out (by decide) b8 b9 (HSZ.out _) _ rfl ?_)
            intro g2 cap2 w1 hown hgrow hat hlt
            have RR := FIN2.out g2 cap2 w1 hown hgrow
            clear hown hgrow hat
            go_wp2_with fail
            go_roundw
            case rel => exact RR
            case measure => simp [intOf]; omega
    by_cases h37 : n = 37
    · have hT := take_pct (r := ⟨wds, txt, at_, grp, inn⟩) (i := k) (by rw [en]; exact h37 : c.toNat = 37)
      by_cases hne : txt = []
      · have em : txt.length = 0 := by rw [hne]; rfl
        rcases grp with _ | _
        · rw [if_neg (by rintro (h | h); exact h hne; exact absurd h.1 (by simp))] at hT
          have R := FIN.out _ (.slice wA wds.length wcap) (.slice A txt.length cap) true wr hT (fun _ => rfl) hws hts hnil hB
          rw [em] at R ⊢
          have RR := Lib.hid R
          clear R FIN FERR en hws hts hnil hfi b2 b6 hT hne hnn
          subst h37
          as_aux_lemma =>
          go_wp2_with fail
          go_roundw
          case rel => exact RR.out
          case measure => simp [intOf]; omega
        · rcases f with _ | _
          · have hin : inn ≠ 0 := by intro h; have := hfi rfl; rw [h] at this; cases this
            rw [if_neg (by rintro (h | h); exact h hne; exact hin h.2)] at hT
            have R := FIN.out _ (.slice wA wds.length wcap) (.slice A txt.length cap) true wr hT (fun h => by cases h) hws hts hnil hB
            rw [em] at R ⊢
            have RR := Lib.hid R
            clear R FIN FERR en hws hts hnil hfi b2 b6 hT hne hnn hin
            subst h37
            as_aux_lemma =>
            go_wp2_with fail
            go_roundw
            case rel => exact RR.out
            case measure => simp [intOf]; omega
          · have hin : inn = 0 := by have := hfi rfl; simpa using this.symm
            rw [if_pos (.inr ⟨rfl, hin⟩)] at hT
            have FE := Lib.hid (FERR.out 2 wr hT hB)
            rw [em]
            clear FIN FERR en hws hts hnil hfi hnn b2 b6 hT hne hin
            subst h37
            as_aux_lemma =>
            go_wp2_with fail
            refine bodyPost_ret (results_tmp3 rfl _ _ _) rfl ?_
            exact FE.out
      · rw [if_pos (.inl hne)] at hT
        have FE := Lib.hid (FERR.out 2 wr hT hB)
        have em : decide (0 < (txt.length : Int)) = true := by have := List.length_pos_iff.2 hne; simp; omega
        have em' : 0 < txt.length := List.length_pos_iff.2 hne
        clear FIN FERR en hws hts hnil hfi hnn b2 b6 hT hne
        subst h37
        as_aux_lemma =>
        go_wp2_with fail
        refine bodyPost_ret (results_tmp3 rfl _ _ _) rfl ?_
        exact FE.out
    have e42 : ((n : Int) == 42) = false := by simp; omega
    have e37 : ((n : Int) == 37) = false := by simp; omega
    have hT := take_plain (r := ⟨wds, txt, at_, grp, inn⟩) (i := k) (by omega : ¬ (c.toNat < 32 ∨ 126 < c.toNat)) (by omega) (by omega)
    simp only at hT
    by_cases hte : txt = []
    · have em : txt.length = 0 := by rw [hte]; rfl
      have htv := hnil hte
      obtain ⟨rfl, rfl⟩ : A = none ∧ cap = 0 := by rw [em] at htv; simpa using htv
      rw [em]
      by_cases hwe : wds.length = 20000
      · rw [if_pos ⟨hte, hwe⟩] at hT
        have FE := Lib.hid (FERR.out 6 wr hT hB)
        rw [hwe]
        clear FIN FERR en hws hts hnil hfi hnn b2 b6 hT hte htv hwe
        as_aux_lemma =>
        go_wp2_with fail
        refine bodyPost_ret (results_tmp3 rfl _ _ _) rfl ?_
        exact FE.out
      · rw [if_neg (fun h => hwe h.2), if_neg (by omega), if_pos hte] at hT
        have e20 : ((wds.length : Int) == 20000) = false := by simp; omega
        obtain ⟨i5, hi5, hz0, hz1, hz2⟩ := info_parts info5
        have HI := Lib.hid (And.intro hi5 (And.intro hz0 (And.intro hz1 hz2)))
        clear hi5 hz0 hz1 hz2
        have hDest : (wr.alloc (.cells #[] 5)).ownsRow w.heap.size 5 1 (.slice (some ⟨wr.heap.size, 0, none⟩) 0 0) 0 [] := World.ownsRow_lit wr #[] 0 lB (by unfold maxLen; omega) (by simp)
        have fin2 : ∀ g2 cap2 w1, World.ownsRow w1 w.heap.size 5 1 (.slice (some ⟨g2, 0, none⟩) (0 + 1) cap2) (0 + 1) ([] ++ [.int .u8 (n : Int)]) → ((wr.alloc (.cells #[] 5)).alloc (.cells #[.int .u8 (n : Int)] 5)).grownBy w1 (some wr.heap.size) →
            RefHeld s N w (.slice wA wds.length wcap) (.slice (some ⟨g2, 0, none⟩) (0 + 1) cap2) (.int .i64 (k : Int)) (.bool grp) (.bool f) (.int .i64 ((k : Int) + 1)) w1 := by
          intro g2 cap2 w1 hown hgrow
          refine FIN.out _ _ _ f w1 hT hfi ?_ ?_ (fun h => by simp at h) ?_
          · refine ((hws.alloc _).alloc _).kept hgrow ?_
            rcases hws.2 with ⟨he, _⟩ | ⟨g', cap', cur, he, _⟩
            · left; rw [he]; rfl
            · right; rw [he]; intro hh
              have h1 := (hws.lt g' (by rw [he]; rfl)).2
              simp [Value.ownBlock] at hh; omega
          · have e1 : (txt ++ [c]).length = 0 + 1 := by rw [hte]; rfl
            have e2 : tcells (txt ++ [c]) = [] ++ [.int .u8 (n : Int)] := by rw [hte]; simp [tcells, en]
            show World.ownsRow _ _ 5 1 _ (txt ++ [c]).length (tcells (txt ++ [c]))
            rw [e1, e2]; exact hown
          · exact Below.grown (Below.alloc (Below.alloc hB lB _) (Nat.le_trans lB (by simp)) _) hgrow (Nat.le_trans lB (by simp; omega)) (fun q hq => by injection hq with hq; omega)
        have hs : ∀ o, w.heap.size ≤ ((wr.alloc (.cells #[] 5)).alloc o).heap.size := fun o => Nat.le_trans lB (by simp; omega)
        have hN : ∀ j u, ([.int .u8 (n : Int)] : List Value)[j]? = some u → ((wr.alloc (.cells #[] 5)).alloc (.cells #[.int .u8 (n : Int)] 5)).cell? ((⟨wr.heap.size + 1, 0, none⟩ : Addr).add j) = some u :=
          World.news_of_block (cs := #[.int .u8 (n : Int)]) (Blk.newAt (w := wr.alloc (.cells #[] 5)) (by simp))
        have hO : ∀ u ∈ ([.int .u8 (n : Int)] : List Value), u.oneCell' = true := by
          intro u hu
          simp only [List.mem_cons, List.not_mem_nil, or_false] at hu
          subst hu; rfl
        have FIN2 := Lib.hid fin2
        have HD := Lib.hid hDest
        have HSZ := Lib.hid hs
        have HN := Lib.hid hN
        have HO := Lib.hid hO
        have b8 : 0 + 1 ≤ maxLen := by unfold maxLen; omega
        have HB8 := Lib.hid b8
        clear fin2 hDest hs hN hO b8 FIN FERR en hws hts hnil hfi hnn b2 b6 hT hte htv hwe
        go_wp2_with (first
          | (at_builtin; refine wpList_append_own_none rfl (.tmp 37) (.tmp 38) 22 rfl w.heap.size 5 i5 1 Try.underlying22 HI.out.1 (.slice (some ⟨wr.heap.size, 0, none⟩) 0 0) 0 [] (by simp [Act.eval]) HD.out (by simp [Act.eval]) ?_)
          | (at_builtin; refine wpList_append_lies _ rfl (.tmp 39) (.tmp 41) 22 rfl w.heap.size 5 i5 _ 1 1 Try.underlying22 HI.out.1 HI.out.2.1 HI.out.2.2.1 HI.out.2.2.2 rfl (by decide) (.slice (some ⟨wr.heap.size, 0, none⟩) 0 0) 0 [] (by simp [Act.eval]) (HD.out.alloc _) ⟨wr.heap.size + 1, 0, none⟩ 1 1 [.int .u8 (n : Int)] (by simp [Act.eval]) rfl HN.out HO.out (by decide) HB8.out (by omega) (HSZ.out _) _ rfl ?_))
        intro g2 cap2 w1 hown hgrow hat hlt
        have RR := FIN2.out g2 cap2 w1 hown hgrow
        clear hown hgrow hat
        go_wp2_with fail
        go_roundw
        case rel => exact RR
        case measure => simp [intOf]; omega
    · have hlen := List.length_pos_iff.2 hte
      have e0 : ((txt.length : Int) == 0) = false := by simp; omega
      have b7 := b2 hte
      have e20 : ((wds.length : Int) == 20000) = false := by simp; omega
      by_cases hle1 : txt.length = 10000
      · rw [if_neg (fun h => hte h.1), if_pos hle1] at hT
        have FE := Lib.hid (FERR.out 6 wr hT hB)
        rw [hle1] at e0 ⊢
        clear FIN FERR en hws hts hnil hfi hnn b2 b6 hT hte hle1 hlen
        as_aux_lemma =>
        go_wp2_with fail
        refine bodyPost_ret (results_tmp3 rfl _ _ _) rfl ?_
        exact FE.out
      · rw [if_neg (fun h => hte h.1), if_neg hle1, if_neg hte] at hT
        have e10k : ((txt.length : Int) == 10000) = false := by simp; omega
        obtain ⟨gt, cap', hAe, hgt, hgt'⟩ := hts.form hlen
        obtain ⟨rfl, rfl⟩ : A = some ⟨gt, 0, none⟩ ∧ cap = cap' := by simpa using hAe
        clear hAe
        obtain ⟨i5, hi5, hz0, hz1, hz2⟩ := info_parts info5
        have HI := Lib.hid (And.intro hi5 (And.intro hz0 (And.intro hz1 hz2)))
        clear hi5 hz0 hz1 hz2
        have hDest : (wr.alloc (.cells #[] 5)).ownsRow w.heap.size 5 1 (.slice (some ⟨wr.heap.size, 0, none⟩) 0 0) 0 [] := World.ownsRow_lit wr #[] 0 lB (by unfold maxLen; omega) (by simp)
        have hN1 : ∀ j u, (tcells txt)[j]? = some u → (wr.alloc (.cells #[] 5)).cell? ((⟨gt, 0, none⟩ : Addr).add j) = some u := (hts.alloc _).cells rfl
        have hO1 : ∀ u ∈ tcells txt, u.oneCell' = true := by
          intro u hu
          simp only [tcells, List.mem_map] at hu
          obtain ⟨x, _, rfl⟩ := hu; rfl
        have hl1 : (tcells txt).length = txt.length * 1 := by rw [tcells_length]; omega
        have b8 : 0 + txt.length ≤ maxLen := by unfold maxLen; omega
        have b8' : txt.length + 1 ≤ maxLen := by unfold maxLen; omega
        have hs0 : w.heap.size ≤ (wr.alloc (.cells #[] 5)).heap.size := Nat.le_trans lB (by simp)
        have hO : ∀ u ∈ ([.int .u8 (n : Int)] : List Value), u.oneCell' = true := by
          intro u hu
          simp only [List.mem_cons, List.not_mem_nil, or_false] at hu
          subst hu; rfl
        have fin2 : ∀ g1 cap1 w1 g2 cap2 w2, (wr.alloc (.cells #[] 5)).grownBy w1 (some wr.heap.size) → World.ownsRow w1 w.heap.size 5 1 (.slice (some ⟨g1, 0, none⟩) txt.length cap1) txt.length (tcells txt) →
            World.ownsRow w2 w.heap.size 5 1 (.slice (some ⟨g2, 0, none⟩) (txt.length + 1) cap2) (txt.length + 1) (tcells txt ++ [.int .u8 (n : Int)]) → (w1.alloc (.cells #[.int .u8 (n : Int)] 5)).grownBy w2 (some g1) →
            RefHeld s N w (.slice wA wds.length wcap) (.slice (some ⟨g2, 0, none⟩) (txt.length + 1) cap2) (.int .i64 (at_ : Int)) (.bool grp) (.bool f) (.int .i64 ((k : Int) + 1)) w2 := by
          intro g1 cap1 w1 g2 cap2 w2 hgrow1 hown1 hown hgrow
          have hws1 := (hws.alloc (.cells #[] 5)).kept hgrow1 (by
            rcases hws.2 with ⟨he, _⟩ | ⟨g', cap', cur, he, _⟩
            · left; rw [he]; rfl
            · right; rw [he]; intro hh
              have h1 := (hws.lt g' (by rw [he]; rfl)).2
              simp [Value.ownBlock] at hh; omega)
          have hws2 := (hws1.alloc (.cells #[.int .u8 (n : Int)] 5)).kept hgrow (own_own_ne hws1 hown1 (by decide))
          have hb1 : Below w.heap.size w w1 := Below.grown (Below.alloc hB lB _) hgrow1 hs0 (fun q hq => by injection hq with hq; omega)
          refine FIN.out _ _ _ f w2 hT hfi hws2 ?_ (fun h => by simp at h) ?_
          · have e1 : (txt ++ [c]).length = txt.length + 1 := by simp
            have e2 : tcells (txt ++ [c]) = tcells txt ++ [.int .u8 (n : Int)] := by rw [tcells_append]; simp [tcells, en]
            show World.ownsRow _ _ 5 1 _ (txt ++ [c]).length (tcells (txt ++ [c]))
            rw [e1, e2]; exact hown
          · exact Below.grown (Below.alloc hb1 hb1.size _) hgrow (Nat.le_trans hb1.size (by simp)) (fun q hq => by injection hq with hq; have := (hown1.lt g1 rfl).1; omega)
        have FIN2 := Lib.hid fin2
        have HD := Lib.hid hDest
        have HN1 := Lib.hid hN1
        have HO1 := Lib.hid hO1
        have HL1 := Lib.hid hl1
        have HSZ := Lib.hid hs0
        have HO := Lib.hid hO
        have HB8 := Lib.hid (And.intro b8 b8')
        clear fin2 hDest hN1 hO1 hl1 hs0 hO b8 b8' FIN FERR en hws hts hnil hfi hnn b2 b6 hT hte
        go_wp2_with (at_builtin; refine wpList_append_lies _ rfl (.tmp 37) (.tmp 38) 22 rfl w.heap.size 5 i5 _ 1 1 Try.underlying22 HI.out.1 HI.out.2.1 HI.out.2.2.1 HI.out.2.2.2 rfl (by decide) (.slice (some ⟨wr.heap.size, 0, none⟩) 0 0) 0 [] (by simp [Act.eval]) HD.out ⟨gt, 0, none⟩ txt.length cap (tcells txt) (by simp [Act.eval]) HL1.out HN1.out HO1.out hlen HB8.out.1 (by omega) HSZ.out _ rfl ?_)
        intro g1 cap1 w1 hown1 hgrow1 hat hlt
        try simp only [Nat.zero_add, List.nil_append] at hown1
        have hs1 : w.heap.size ≤ w1.heap.size := Nat.le_trans HSZ.out hgrow1.size
        have hN : ∀ j u, ([.int .u8 (n : Int)] : List Value)[j]? = some u → (w1.alloc (.cells #[.int .u8 (n : Int)] 5)).cell? ((⟨w1.heap.size, 0, none⟩ : Addr).add j) = some u :=
          World.news_of_block (cs := #[.int .u8 (n : Int)]) (Blk.newAt (w := w1) rfl)
        have HG1 := Lib.hid hgrow1
        have HD1 := Lib.hid hown1
        have HN := Lib.hid hN
        clear hown1 hgrow1 hat hN
        go_wp2_with (at_builtin; refine wpList_append_lies _ rfl (.tmp 39) (.tmp 41) 22 rfl w.heap.size 5 i5 _ 1 1 Try.underlying22 HI.out.1 HI.out.2.1 HI.out.2.2.1 HI.out.2.2.2 rfl (by decide) (.slice (some ⟨g1, 0, none⟩) txt.length cap1) txt.length (tcells txt) (by simp [Act.eval]) (HD1.out.alloc _) ⟨w1.heap.size, 0, none⟩ 1 1 [.int .u8 (n : Int)] (by simp [Act.eval]) rfl HN.out HO.out (by decide) HB8.out.2 (by omega) (Nat.le_trans hs1 (by simp)) _ rfl ?_)
        intro g2 cap2 w2 hown hgrow hat2 hlt2
        have RR := FIN2.out g1 cap1 w1 g2 cap2 w2 HG1.out HD1.out hown hgrow
        clear hown hgrow hat2
        go_wp2_with fail
        go_roundw
        case rel => exact RR
        case measure => simp [intOf]; omega
  · obtain rfl : N = k := by omega
    have d1 : decide ((N : Int) < (N : Int)) = false := by simp
    have hE : run s 0 Rd.start = .ok r := by rw [← hRun.out, List.drop_eq_nil_of_le (by have := HS.out; omega)]; rfl
    obtain ⟨A, cap, rfl⟩ : ∃ A cap, u6 = .slice A r.text.length cap := by
      rcases hts.2 with ⟨rfl, h0⟩ | ⟨g', cap, cur, rfl, _⟩
      · exact ⟨none, 0, by rw [h0]⟩
      · exact ⟨_, cap, rfl⟩
    by_cases h1 : r.text = []
    · have e1 : r.text.length = 0 := by rw [h1]; rfl
      rw [e1]
      obtain ⟨gr, eg⟩ : ∃ b, r.group = b := ⟨_, rfl⟩
      rw [eg]
      rcases gr with _ | _
      · have R := FDone.out r u5 wr hE (by rintro (h2 | h2); exact h2 h1; rw [eg] at h2; cases h2) hws hB
        have FE := Lib.hid R
        clear R hE h1 e1 eg hws hts hnil hfi hok HAt
        as_aux_lemma =>
        go_wp2_with fail
        refine bodyPost_ret (results_tmp3 rfl _ _ _) rfl ?_
        exact FE.out
      · have R := FOpen.out r wr hE (.inr eg) hB
        have FE := Lib.hid R
        clear R hE h1 e1 eg hws hts hnil hfi hok HAt
        as_aux_lemma =>
        go_wp2_with fail
        refine bodyPost_ret (results_tmp3 rfl _ _ _) rfl ?_
        exact FE.out
    · have d2 : decide (0 < (r.text.length : Int)) = true := by have := List.length_pos_iff.2 h1; simp; omega
      have d3 : 0 < r.text.length := List.length_pos_iff.2 h1
      have R := FOpen.out r wr hE (.inl h1) hB
      have FE := Lib.hid R
      clear R hE h1 hws hts hnil hfi hok HAt
      as_aux_lemma =>
      go_wp2_with fail
      refine bodyPost_ret (results_tmp3 rfl _ _ _) rfl ?_
      exact FE.out
end Go.Proofs.Ytgbkanbahclnhaa
