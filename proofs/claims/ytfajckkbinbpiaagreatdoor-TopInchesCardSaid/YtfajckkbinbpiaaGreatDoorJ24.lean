/- Walk: the commands of a text of ours. -/
import Derived.Deep.AppendLies
import Derived.Laws.OwnMore
import Derived.LoopTactic
import Derived.Test.YtfajckkbinbpiaaGreatDoorJ22
import Derived.Test.YtfajckkbinbpiaaGreatDoorJ23
namespace Go.Proofs.YtfajckkbinbpiaaGreatDoor
set_option maxRecDepth 100000
set_option maxHeartbeats 32000000
set_option linter.unusedVariables false
set_option linter.unusedSimpArgs false
open Go.RowKit
inductive CmdsOf (w : World) (B : Nat) : List Gr → List (List Value) → Prop
  | nil : CmdsOf w B [] []
  | snoc {gs : List Gr} {cs : List (List Value)} {g : Gr} {at_ : Int} {nv : Value} : CmdsOf w B gs cs → Numz w B nv g.nums → CmdsOf w B (gs ++ [g]) (cs ++ [g.cells at_ nv])
theorem CmdsOf.turn {w w' : World} {B B' : Nat} {gs : List Gr} {cs : List (List Value)} (h : CmdsOf w B gs cs) (ht : ∀ nv l, Numz w B nv l → Numz w' B' nv l) : CmdsOf w' B' gs cs := by
  induction h with
  | nil => exact .nil
  | snoc _ h2 ih => exact .snoc ih (ht _ _ h2)
theorem CmdsOf.length {w : World} {B : Nat} {gs : List Gr} {cs : List (List Value)} (h : CmdsOf w B gs cs) : cs.length = gs.length := by
  induction h with
  | nil => rfl
  | snoc _ _ ih => simp [ih]
theorem CmdsOf.at {w : World} {B : Nat} {gs : List Gr} {cs : List (List Value)} (h : CmdsOf w B gs cs) (k : Nat) (hk : k < gs.length) (hc : k < cs.length) : ∃ at_ nv, cs[k] = (gs[k]).cells at_ nv ∧ Numz w B nv (gs[k]).nums := by
  induction h with
  | nil => simp at hk
  | @snoc gs cs g at_ nv h1 h2 ih =>
    have hl := h1.length
    by_cases hlt : k < gs.length
    · obtain ⟨a, v, e1, e2⟩ := ih hlt (by omega)
      refine ⟨a, v, ?_, ?_⟩
      · rw [List.getElem_append_left (by omega), List.getElem_append_left hlt]; exact e1
      · rw [List.getElem_append_left hlt]; exact e2
    · have hk2 : k = gs.length := by simp at hk; omega
      subst hk2
      refine ⟨at_, nv, ?_, ?_⟩
      · rw [List.getElem_append_right (by omega), List.getElem_append_right (by omega)]; simp [hl]
      · rw [List.getElem_append_right (by omega)]; simpa using h2
theorem cmds_snoc {w : World} {B : Nat} {v : Value} {cs : List (List Value)} {c : List Value} (h : ∀ x ∈ cs, x.length = 12) (hc : c.length = 12) (hw : w.ownsRow B 103 12 v (cs.length + 1) (cs.flatten ++ c)) : Cmds w B v (cs ++ [c]) := by
  refine ⟨fun x hx => ?_, by simpa using hw⟩
  rcases List.mem_append.1 hx with hx | hx
  · exact h x hx
  · simp at hx; subst hx; exact hc
def sliceLen : Value → Nat
  | .slice _ n _ => n
  | _ => 0
theorem parse_c (gs : List Gr) (hne : gs ≠ []) (ho : ∀ g ∈ gs, g.Ok) (hn : gs.length ≤ 20000) (hl : (texts gs).length ≤ 1000000) (w : World) :
    Calls Tryz.prog 34 #[.string (bs (texts gs))] w fun e w' => ∃ v cs, e = .returned (.tuple #[v, .int .i64 0, .int .i64 0]) ∧ Cmds w' w.heap.size v cs ∧ CmdsOf w' w.heap.size gs cs ∧ Below w.heap.size w w' := by
  obtain ⟨ds, hds, hws⟩ := words_grs gs ho hn hl
  have hlen := hds.length
  have hx : Calls Tryz.prog 60 #[.string (bs (texts gs))] w fun e w' => ∃ v, e = .returned (.tuple #[v, .int .i64 0, .int .i64 0]) ∧ w'.ownsRow w.heap.size 146 4 v ds.length (wcells ds) ∧ Below w.heap.size w w' := by
    refine (words_c (texts gs) w (by omega)).mono ?_
    rintro e w' ⟨v, he, h2, h3⟩
    rw [hws] at he h2
    exact ⟨v, he, h2, h3⟩
  obtain ⟨T, eT⟩ : ∃ T, bs (texts gs) = T := ⟨_, rfl⟩
  rw [eT] at hx ⊢
  obtain ⟨K, eK⟩ : ∃ K, gs.length = K := ⟨_, rfl⟩
  have hK : 0 < K := by rw [← eK]; exact List.length_pos_iff.2 hne
  have hdK : ds.length = K := by omega
  rw [hdK] at hx
  have HX := Lib.hid hx
  have HO := Lib.hid ho
  have HD := Lib.hid hds
  have HK := Lib.hid eK
  have HdK := Lib.hid hdK
  have hKn : K ≤ 20000 := by omega
  clear hx ho hds hws hlen eT hne hn hl hdK eK
  obtain ⟨i40, hi40, hz0, hz1, hz2⟩ := info_parts info40
  have HI := Lib.hid (And.intro hi40 (And.intro hz0 (And.intro hz1 hz2)))
  have hZ : Hid ((Value.agg #[.int .i64 0, .int .i64 0, .int .i64 0, .int .i64 0, .bool false, .string { data := #[] }, .string { data := #[] }, .string { data := #[] }, .string { data := #[] }, .string { data := #[] }, .slice none 0 0, .slice none 0 0]).cells.size = 12) := Lib.hid (by kernel_rfl)
  clear hi40 hz0 hz1 hz2
  go_enter Tryz.func34, Tryz.ntmps34
  go_wp2_with fail
  refine (HX.out).mono ?_
  rintro e w1 ⟨v, rfl, hv, hb⟩
  obtain ⟨wg, wcap, rfl, hwg0, hwg1⟩ := World.ownsRow.form hv hK
  have HV := Lib.hid hv
  have HB := Lib.hid hb
  have l1 := hb.size
  clear hv hb HX
  go_wp2_with fail
  go_loopw [5, 8] (fun a v wr => ∃ (k off cap : Nat) (cs : List (List Value)), a = .slice (some ⟨wg, off, none⟩) (K - k) cap ∧ k ≤ K ∧ (k < K → off = k * 4) ∧ K - k ≤ cap ∧ Cmds wr w1.heap.size v cs ∧ CmdsOf wr w1.heap.size (gs.take k) cs ∧ Below w1.heap.size w1 wr) (fun a _ wr => sliceLen a)
  case atStart => exact ⟨0, 0, wcap, [], by simp, Nat.zero_le _, by simp, (own_cap HV.out).2, ⟨by simp, World.ownsRow_nil _ _ _ _⟩, by simpa using CmdsOf.nil, Below.refl _ _⟩
  case round =>
  obtain ⟨k, off, cap, cs, rfl, hk, hoff, hcap, hC, hG, hB⟩ := hrel
  obtain ⟨V8, eV8⟩ : ∃ x, u8 = x := ⟨_, rfl⟩
  rw [eV8] at hC ⊢
  clear eV8
  have HC := Lib.hid hC
  have HG := Lib.hid hG
  have HBr := Lib.hid hB
  have hlr := hB.size
  clear hC hG hB
  by_cases hlt : k < K
  · obtain ⟨g0, e0⟩ : ∃ x, gs[k]'(by have := HK.out; omega) = x := ⟨_, rfl⟩
    obtain ⟨d0, f0⟩ : ∃ x, ds[k]'(by have := HdK.out; omega) = x := ⟨_, rfl⟩
    have hw0 := HD.out.at k (by have := HK.out; omega) (by have := HdK.out; omega)
    rw [e0, f0] at hw0
    obtain ⟨w1e, w1f, w1t⟩ := hw0
    have hcell : ∀ j u, j < K * 4 → (wcells ds)[j]? = some u → wr.cell? ⟨wg, j, none⟩ = some u := fun j u hj hu => by
      rw [HBr.out.cell (p := ⟨wg, j, none⟩) hwg1, HV.out.cellAt j hj, hu]
    have hcw : ∀ i (hi : i < ds.length) j u, j < 4 → (ds[i]).cells[j]? = some u → wr.cell? ⟨wg, i * 4 + j, none⟩ = some u := fun i hi j u hj hu =>
      hcell _ _ (by have := HdK.out; omega) (by rw [wcells_at ds i hi j hj, hu])
    have hkd : k < ds.length := by have := HdK.out; omega
    have ho0 : g0.Ok := by rw [← e0]; exact HO.out _ (List.getElem_mem _)
    have hoff' := hoff hlt
    subst hoff'
    have h0 := hcw k hkd 0 (.int .i64 (d0.at_ : Int)) (by omega) (by rw [f0]; rfl)
    have h1 := hcw k hkd 1 (.bool g0.ext) (by omega) (by rw [f0, ← w1e]; rfl)
    have h2 := hcw k hkd 2 (.bool true) (by omega) (by rw [f0, ← w1f]; rfl)
    have h3 := hcw k hkd 3 (.string (bs g0.word)) (by omega) (by rw [f0, ← w1t]; rfl)
    have h4 : k + 1 < K → wr.cell? ⟨wg, k * 4 + 4 + 2, none⟩ = some (.bool true) := fun h => by
      have hkd' : k + 1 < ds.length := by have := HdK.out; omega
      have hh := HD.out.at (k + 1) (by have := HK.out; omega) hkd'
      have := hcw (k + 1) hkd' 2 (.bool true) (by omega) (by rw [← hh.2.1]; rfl)
      rw [show (k + 1) * 4 + 2 = k * 4 + 4 + 2 by omega] at this
      exact this
    have htake : gs.take (k + 1) = gs.take k ++ [g0] := by rw [List.take_succ_eq_append_getElem (by have := HK.out; omega), e0]
    have HT := Lib.hid htake
    have hgl : wg < wr.heap.size := by omega
    obtain ⟨O, eO⟩ : ∃ O, k * 4 = O := ⟨_, rfl⟩
    rw [eO] at h0 h1 h2 h3 h4 ⊢
    rw [Nat.add_zero] at h0
    obtain ⟨R, eR⟩ : ∃ R, K - k = R := ⟨_, rfl⟩
    have hR : 0 < R := by omega
    have hkR : K = k + R := by omega
    have HKR := Lib.hid hkR
    have HeO := Lib.hid eO
    obtain ⟨A, eA⟩ : ∃ A : Int, (d0.at_ : Int) = A := ⟨_, rfl⟩
    rw [eA] at h0
    have hG0 : g0.ext = true → Calls Tryz.prog 61 #[.slice (some ⟨wg, O, none⟩) 1 cap] wr fun e w' => ∃ v nv, e = .returned (.tuple #[v, .int .i64 0, .int .i64 0]) ∧ Numz w' wr.heap.size nv g0.nums ∧ Cmds w' wr.heap.size v [g0.cells 0 nv] ∧ Below wr.heap.size wr w' := fun he =>
      group_c g0 he ho0 wr wg O cap A h0 (by rw [h1, he]) h2 h3 hgl
    have hP0 : g0.ext = false → Calls Tryz.prog 62 #[.string (bs g0.word)] wr fun e w' => ∃ v nv, e = .returned (.tuple #[v, .int .i64 0]) ∧ Numz w' wr.heap.size nv g0.nums ∧ Cmds w' wr.heap.size v [g0.cells 0 nv] ∧ Below wr.heap.size wr w' := fun he => plain_c g0 he ho0 wr
    obtain ⟨T0, eT0⟩ : ∃ x, bs g0.word = x := ⟨_, rfl⟩
    rw [eT0] at h3 hP0
    have HG0 := Lib.hid hG0
    have HP0 := Lib.hid hP0
    have HT0 := Lib.hid eT0
    rw [eR] at hcap ⊢
    clear hG0 hP0 hcw hcell htake e0 f0 w1e w1f w1t ho0 hkd hkR eO eR eA eT0 hk hlt hoff
    by_cases hlast : R = 1
    · subst hlast
      clear h4
      by_cases he : g0.ext = true
      · rw [he] at h1
        have hG1 := HG0.out he
        have HG1 := Lib.hid hG1
        clear he hG1 HG0 HP0
        go_wp2_with fail
        refine wp_loop_rounds 1 ?_
        rw [rounds_succ]
        go_wp2_with fail
        refine (HG1.out).mono ?_
        rintro e w2 ⟨v, nv, rfl, hnum, hcm, hb⟩
        obtain ⟨gm, capm, rfl, hgm0, hgm1⟩ := World.ownsRow.form hcm.2 (by simp)
        obtain ⟨np, nn, nc, rfl⟩ := numz_form hnum
        have hb2 := hb.size
        have h02 : w2.cell? ⟨wg, O, none⟩ = some (.int .i64 A) := (hb.cell (p := ⟨wg, O, none⟩) hgl).trans h0
        have hcc : ∀ j u, j < 12 → (g0.cells 0 (.slice np nn nc))[j]? = some u → w2.cell? ⟨gm, j, none⟩ = some u := fun j u hj hu => by
          rw [hcm.2.cellAt j (by simpa using hj)]; simpa using hu
        have m0 := hcc 0 (.int .i64 0) (by omega) rfl
        have m1 := hcc 1 (.int .i64 g0.kind) (by omega) rfl
        have m2 := hcc 2 (.int .i64 g0.n) (by omega) rfl
        have m3 := hcc 3 (.int .i64 g0.m) (by omega) rfl
        have m4 := hcc 4 (.bool g0.on) (by omega) rfl
        have m5 := hcc 5 (.string (bs g0.name)) (by omega) rfl
        have m6 := hcc 6 (.string (bs g0.x)) (by omega) rfl
        have m7 := hcc 7 (.string (bs g0.y)) (by omega) rfl
        have m8 := hcc 8 (.string (bs [])) (by omega) rfl
        have m9 := hcc 9 (.string (bs [])) (by omega) rfl
        have m10 := hcc 10 (.slice np nn nc) (by omega) rfl
        have m11 := hcc 11 (.slice none 0 0) (by omega) rfl
        have hgl2 : wg < w2.heap.size := by omega
        have HNUM := Lib.hid hnum
        have HCM := Lib.hid hcm
        have HB2 := Lib.hid hb
        clear hnum hcm hcc hb h0 h1 h2 h3 HG1
        obtain ⟨G1, eG1⟩ : ∃ x, g0.kind = x := ⟨_, rfl⟩
        rw [eG1] at m1
        have HEG := Lib.hid eG1
        clear eG1
        have hs2 : w1.heap.size ≤ ((w2.alloc (.cells #[.int .i64 A, .int .i64 G1, .int .i64 g0.n, .int .i64 g0.m, .bool g0.on, .string (bs g0.name), .string (bs g0.x), .string (bs g0.y), .string (bs []), .string (bs []), .slice np nn nc, .slice none 0 0] 103)).alloc (.cells #[.int .i64 A, .int .i64 G1, .int .i64 g0.n, .int .i64 g0.m, .bool g0.on, .string (bs g0.name), .string (bs g0.x), .string (bs g0.y), .string (bs []), .string (bs []), .slice np nn nc, .slice none 0 0] 103)).heap.size := by simp; omega
        have hown0 : ((w2.alloc (.cells #[.int .i64 A, .int .i64 G1, .int .i64 g0.n, .int .i64 g0.m, .bool g0.on, .string (bs g0.name), .string (bs g0.x), .string (bs g0.y), .string (bs []), .string (bs []), .slice np nn nc, .slice none 0 0] 103)).alloc (.cells #[.int .i64 A, .int .i64 G1, .int .i64 g0.n, .int .i64 g0.m, .bool g0.on, .string (bs g0.name), .string (bs g0.x), .string (bs g0.y), .string (bs []), .string (bs []), .slice np nn nc, .slice none 0 0] 103)).ownsRow w1.heap.size 103 12 V8 cs.length cs.flatten := ((own_below HC.out.2 HB2.out (Nat.le_refl _)).alloc _).alloc _
        have hN : ∀ j u, ([.int .i64 A, .int .i64 G1, .int .i64 g0.n, .int .i64 g0.m, .bool g0.on, .string (bs g0.name), .string (bs g0.x), .string (bs g0.y), .string (bs []), .string (bs []), .slice np nn nc, .slice none 0 0] : List Value)[j]? = some u → ((w2.alloc (.cells #[.int .i64 A, .int .i64 G1, .int .i64 g0.n, .int .i64 g0.m, .bool g0.on, .string (bs g0.name), .string (bs g0.x), .string (bs g0.y), .string (bs []), .string (bs []), .slice np nn nc, .slice none 0 0] 103)).alloc (.cells #[.int .i64 A, .int .i64 G1, .int .i64 g0.n, .int .i64 g0.m, .bool g0.on, .string (bs g0.name), .string (bs g0.x), .string (bs g0.y), .string (bs []), .string (bs []), .slice np nn nc, .slice none 0 0] 103)).cell? ((⟨w2.heap.size + 1, 0, none⟩ : Addr).add j) = some u :=
          World.news_of_block (cs := #[.int .i64 A, .int .i64 G1, .int .i64 g0.n, .int .i64 g0.m, .bool g0.on, .string (bs g0.name), .string (bs g0.x), .string (bs g0.y), .string (bs []), .string (bs []), .slice np nn nc, .slice none 0 0]) (Blk.newAt (w := w2.alloc (.cells #[.int .i64 A, .int .i64 G1, .int .i64 g0.n, .int .i64 g0.m, .bool g0.on, .string (bs g0.name), .string (bs g0.x), .string (bs g0.y), .string (bs []), .string (bs []), .slice np nn nc, .slice none 0 0] 103)) (by simp))
        have hO : ∀ u ∈ ([.int .i64 A, .int .i64 G1, .int .i64 g0.n, .int .i64 g0.m, .bool g0.on, .string (bs g0.name), .string (bs g0.x), .string (bs g0.y), .string (bs []), .string (bs []), .slice np nn nc, .slice none 0 0] : List Value), u.oneCell' = true := by
          intro u hu
          simp only [List.mem_cons, List.not_mem_nil, or_false] at hu
          rcases hu with rfl | rfl | rfl | rfl | rfl | rfl | rfl | rfl | rfl | rfl | rfl | rfl <;> rfl
        have hcl : cs.length + 1 ≤ maxLen ∧ (cs.length + 1) * 168 ≤ 140737488355328 := by
          have h1 := HG.out.length
          have h2 := List.length_take_le k gs
          have h3 := HK.out
          have h4 := HKR.out
          unfold maxLen
          omega
        have HS2 := Lib.hid hs2
        have HOWN := Lib.hid hown0
        have HN := Lib.hid hN
        have HOO := Lib.hid hO
        have HCL := Lib.hid hcl
        clear hs2 hown0 hN hO hcl
        go_wp2_with fail
        refine wp_loop_rounds 2 ?_
        rw [rounds_succ]
        go_wp2_with (at_builtin; refine wpList_append_lies _ rfl (.tmp 79) (.tmp 81) 97 rfl w1.heap.size 103 i40 _ 12 168 Tryz.underlying97 HI.out.1 HI.out.2.1 HI.out.2.2.1 HI.out.2.2.2 hZ.out (by decide) V8 cs.length cs.flatten (by simp [Act.eval]) HOWN.out ⟨w2.heap.size + 1, 0, none⟩ 1 1 [.int .i64 A, .int .i64 G1, .int .i64 g0.n, .int .i64 g0.m, .bool g0.on, .string (bs g0.name), .string (bs g0.x), .string (bs g0.y), .string (bs []), .string (bs []), .slice np nn nc, .slice none 0 0] (by simp [Act.eval]) rfl HN.out HOO.out (by decide) HCL.out.1 HCL.out.2 HS2.out _ rfl ?_)
        intro gc cap3 w3 hown hgrow hat hlt3
        go_wp2_with fail
        rw [rounds_succ]
        go_wp2_with fail
        have hk1 := HKR.out
        have hO1 := HeO.out
        have hn3 : ∀ nv l, Numz w2 w1.heap.size nv l → Numz w3 w1.heap.size nv l := fun nv l h =>
          ⟨World.ownsRow.kept (World.ownsRow.alloc (World.ownsRow.alloc h.1 _) _) hgrow (own_own_ne (World.ownsRow.alloc (World.ownsRow.alloc h.1 _) _) HOWN.out (by decide)), h.2⟩
        have hcs3 : CmdsOf w3 w1.heap.size (gs.take (k + 1)) (cs ++ [[.int .i64 A, .int .i64 G1, .int .i64 g0.n, .int .i64 g0.m, .bool g0.on, .string (bs g0.name), .string (bs g0.x), .string (bs g0.y), .string (bs []), .string (bs []), .slice np nn nc, .slice none 0 0]]) := by
          rw [HT.out]
          have h1 : [.int .i64 A, .int .i64 G1, .int .i64 g0.n, .int .i64 g0.m, .bool g0.on, .string (bs g0.name), .string (bs g0.x), .string (bs g0.y), .string (bs []), .string (bs []), .slice np nn nc, .slice none 0 0] = g0.cells A (.slice np nn nc) := by rw [← HEG.out]; rfl
          rw [h1]
          exact .snoc (HG.out.turn fun nv l h => hn3 nv l (numz_below h HB2.out (Nat.le_refl _))) (hn3 _ _ (numz_mono HNUM.out hlr))
        have hb3 : Below w1.heap.size w1 w3 := Below.grown ((HBr.out.trans (HB2.out.mono hlr)).alloc (by omega) _ |>.alloc (by simp; omega) _) hgrow HS2.out (fun b hb => own_ge HOWN.out hb)
        refine ⟨⟨k + 1, if cap = 1 then O else O + 4, cap - 1, cs ++ [[.int .i64 A, .int .i64 G1, .int .i64 g0.n, .int .i64 g0.m, .bool g0.on, .string (bs g0.name), .string (bs g0.x), .string (bs g0.y), .string (bs []), .string (bs []), .slice np nn nc, .slice none 0 0]], ?_, by omega, ?_, by omega, cmds_snoc HC.out.1 rfl hown, hcs3, hb3⟩, by simp [sliceLen]⟩
        · have e : K - (k + 1) = 0 := by omega
          rw [e]
          by_cases hc1 : cap = 1 <;> simp [hc1]
        · intro h; omega
      · have he : g0.ext = false := by simpa using he
        rw [he] at h1
        have hG1 := HP0.out he
        have HG1 := Lib.hid hG1
        clear he hG1 HG0 HP0
        go_wp2_with fail
        refine wp_loop_rounds 1 ?_
        rw [rounds_succ]
        go_wp2_with fail
        refine (HG1.out).mono ?_
        rintro e w2 ⟨v, nv, rfl, hnum, hcm, hb⟩
        obtain ⟨gm, capm, rfl, hgm0, hgm1⟩ := World.ownsRow.form hcm.2 (by simp)
        obtain ⟨np, nn, nc, rfl⟩ := numz_form hnum
        have hb2 := hb.size
        have h02 : w2.cell? ⟨wg, O, none⟩ = some (.int .i64 A) := (hb.cell (p := ⟨wg, O, none⟩) hgl).trans h0
        have hcc : ∀ j u, j < 12 → (g0.cells 0 (.slice np nn nc))[j]? = some u → w2.cell? ⟨gm, j, none⟩ = some u := fun j u hj hu => by
          rw [hcm.2.cellAt j (by simpa using hj)]; simpa using hu
        have m0 := hcc 0 (.int .i64 0) (by omega) rfl
        have m1 := hcc 1 (.int .i64 g0.kind) (by omega) rfl
        have m2 := hcc 2 (.int .i64 g0.n) (by omega) rfl
        have m3 := hcc 3 (.int .i64 g0.m) (by omega) rfl
        have m4 := hcc 4 (.bool g0.on) (by omega) rfl
        have m5 := hcc 5 (.string (bs g0.name)) (by omega) rfl
        have m6 := hcc 6 (.string (bs g0.x)) (by omega) rfl
        have m7 := hcc 7 (.string (bs g0.y)) (by omega) rfl
        have m8 := hcc 8 (.string (bs [])) (by omega) rfl
        have m9 := hcc 9 (.string (bs [])) (by omega) rfl
        have m10 := hcc 10 (.slice np nn nc) (by omega) rfl
        have m11 := hcc 11 (.slice none 0 0) (by omega) rfl
        have hgl2 : wg < w2.heap.size := by omega
        have HNUM := Lib.hid hnum
        have HCM := Lib.hid hcm
        have HB2 := Lib.hid hb
        clear hnum hcm hcc hb h0 h1 h2 h3 HG1
        obtain ⟨G1, eG1⟩ : ∃ x, g0.kind = x := ⟨_, rfl⟩
        rw [eG1] at m1
        have HEG := Lib.hid eG1
        clear eG1
        have hs2 : w1.heap.size ≤ ((w2.alloc (.cells #[.int .i64 A, .int .i64 G1, .int .i64 g0.n, .int .i64 g0.m, .bool g0.on, .string (bs g0.name), .string (bs g0.x), .string (bs g0.y), .string (bs []), .string (bs []), .slice np nn nc, .slice none 0 0] 103)).alloc (.cells #[.int .i64 A, .int .i64 G1, .int .i64 g0.n, .int .i64 g0.m, .bool g0.on, .string (bs g0.name), .string (bs g0.x), .string (bs g0.y), .string (bs []), .string (bs []), .slice np nn nc, .slice none 0 0] 103)).heap.size := by simp; omega
        have hown0 : ((w2.alloc (.cells #[.int .i64 A, .int .i64 G1, .int .i64 g0.n, .int .i64 g0.m, .bool g0.on, .string (bs g0.name), .string (bs g0.x), .string (bs g0.y), .string (bs []), .string (bs []), .slice np nn nc, .slice none 0 0] 103)).alloc (.cells #[.int .i64 A, .int .i64 G1, .int .i64 g0.n, .int .i64 g0.m, .bool g0.on, .string (bs g0.name), .string (bs g0.x), .string (bs g0.y), .string (bs []), .string (bs []), .slice np nn nc, .slice none 0 0] 103)).ownsRow w1.heap.size 103 12 V8 cs.length cs.flatten := ((own_below HC.out.2 HB2.out (Nat.le_refl _)).alloc _).alloc _
        have hN : ∀ j u, ([.int .i64 A, .int .i64 G1, .int .i64 g0.n, .int .i64 g0.m, .bool g0.on, .string (bs g0.name), .string (bs g0.x), .string (bs g0.y), .string (bs []), .string (bs []), .slice np nn nc, .slice none 0 0] : List Value)[j]? = some u → ((w2.alloc (.cells #[.int .i64 A, .int .i64 G1, .int .i64 g0.n, .int .i64 g0.m, .bool g0.on, .string (bs g0.name), .string (bs g0.x), .string (bs g0.y), .string (bs []), .string (bs []), .slice np nn nc, .slice none 0 0] 103)).alloc (.cells #[.int .i64 A, .int .i64 G1, .int .i64 g0.n, .int .i64 g0.m, .bool g0.on, .string (bs g0.name), .string (bs g0.x), .string (bs g0.y), .string (bs []), .string (bs []), .slice np nn nc, .slice none 0 0] 103)).cell? ((⟨w2.heap.size + 1, 0, none⟩ : Addr).add j) = some u :=
          World.news_of_block (cs := #[.int .i64 A, .int .i64 G1, .int .i64 g0.n, .int .i64 g0.m, .bool g0.on, .string (bs g0.name), .string (bs g0.x), .string (bs g0.y), .string (bs []), .string (bs []), .slice np nn nc, .slice none 0 0]) (Blk.newAt (w := w2.alloc (.cells #[.int .i64 A, .int .i64 G1, .int .i64 g0.n, .int .i64 g0.m, .bool g0.on, .string (bs g0.name), .string (bs g0.x), .string (bs g0.y), .string (bs []), .string (bs []), .slice np nn nc, .slice none 0 0] 103)) (by simp))
        have hO : ∀ u ∈ ([.int .i64 A, .int .i64 G1, .int .i64 g0.n, .int .i64 g0.m, .bool g0.on, .string (bs g0.name), .string (bs g0.x), .string (bs g0.y), .string (bs []), .string (bs []), .slice np nn nc, .slice none 0 0] : List Value), u.oneCell' = true := by
          intro u hu
          simp only [List.mem_cons, List.not_mem_nil, or_false] at hu
          rcases hu with rfl | rfl | rfl | rfl | rfl | rfl | rfl | rfl | rfl | rfl | rfl | rfl <;> rfl
        have hcl : cs.length + 1 ≤ maxLen ∧ (cs.length + 1) * 168 ≤ 140737488355328 := by
          have h1 := HG.out.length
          have h2 := List.length_take_le k gs
          have h3 := HK.out
          have h4 := HKR.out
          unfold maxLen
          omega
        have HS2 := Lib.hid hs2
        have HOWN := Lib.hid hown0
        have HN := Lib.hid hN
        have HOO := Lib.hid hO
        have HCL := Lib.hid hcl
        clear hs2 hown0 hN hO hcl
        go_wp2_with fail
        refine wp_loop_rounds 2 ?_
        rw [rounds_succ]
        go_wp2_with (at_builtin; refine wpList_append_lies _ rfl (.tmp 79) (.tmp 81) 97 rfl w1.heap.size 103 i40 _ 12 168 Tryz.underlying97 HI.out.1 HI.out.2.1 HI.out.2.2.1 HI.out.2.2.2 hZ.out (by decide) V8 cs.length cs.flatten (by simp [Act.eval]) HOWN.out ⟨w2.heap.size + 1, 0, none⟩ 1 1 [.int .i64 A, .int .i64 G1, .int .i64 g0.n, .int .i64 g0.m, .bool g0.on, .string (bs g0.name), .string (bs g0.x), .string (bs g0.y), .string (bs []), .string (bs []), .slice np nn nc, .slice none 0 0] (by simp [Act.eval]) rfl HN.out HOO.out (by decide) HCL.out.1 HCL.out.2 HS2.out _ rfl ?_)
        intro gc cap3 w3 hown hgrow hat hlt3
        go_wp2_with fail
        rw [rounds_succ]
        go_wp2_with fail
        have hk1 := HKR.out
        have hO1 := HeO.out
        have hn3 : ∀ nv l, Numz w2 w1.heap.size nv l → Numz w3 w1.heap.size nv l := fun nv l h =>
          ⟨World.ownsRow.kept (World.ownsRow.alloc (World.ownsRow.alloc h.1 _) _) hgrow (own_own_ne (World.ownsRow.alloc (World.ownsRow.alloc h.1 _) _) HOWN.out (by decide)), h.2⟩
        have hcs3 : CmdsOf w3 w1.heap.size (gs.take (k + 1)) (cs ++ [[.int .i64 A, .int .i64 G1, .int .i64 g0.n, .int .i64 g0.m, .bool g0.on, .string (bs g0.name), .string (bs g0.x), .string (bs g0.y), .string (bs []), .string (bs []), .slice np nn nc, .slice none 0 0]]) := by
          rw [HT.out]
          have h1 : [.int .i64 A, .int .i64 G1, .int .i64 g0.n, .int .i64 g0.m, .bool g0.on, .string (bs g0.name), .string (bs g0.x), .string (bs g0.y), .string (bs []), .string (bs []), .slice np nn nc, .slice none 0 0] = g0.cells A (.slice np nn nc) := by rw [← HEG.out]; rfl
          rw [h1]
          exact .snoc (HG.out.turn fun nv l h => hn3 nv l (numz_below h HB2.out (Nat.le_refl _))) (hn3 _ _ (numz_mono HNUM.out hlr))
        have hb3 : Below w1.heap.size w1 w3 := Below.grown ((HBr.out.trans (HB2.out.mono hlr)).alloc (by omega) _ |>.alloc (by simp; omega) _) hgrow HS2.out (fun b hb => own_ge HOWN.out hb)
        refine ⟨⟨k + 1, if cap = 1 then O else O + 4, cap - 1, cs ++ [[.int .i64 A, .int .i64 G1, .int .i64 g0.n, .int .i64 g0.m, .bool g0.on, .string (bs g0.name), .string (bs g0.x), .string (bs g0.y), .string (bs []), .string (bs []), .slice np nn nc, .slice none 0 0]], ?_, by omega, ?_, by omega, cmds_snoc HC.out.1 rfl hown, hcs3, hb3⟩, by simp [sliceLen]⟩
        · have e : K - (k + 1) = 0 := by omega
          rw [e]
          by_cases hc1 : cap = 1 <;> simp [hc1]
        · intro h; omega
    · have hR1 : 1 < R := by omega
      have h4 := h4 (by have := HKR.out; omega)
      have hc1 : ¬ cap = 1 := by omega
      clear hlast
      by_cases he : g0.ext = true
      · rw [he] at h1
        have hG1 := HG0.out he
        have HG1 := Lib.hid hG1
        clear he hG1 HG0 HP0
        go_wp2_with fail
        refine wp_loop_rounds 1 ?_
        rw [rounds_succ]
        go_wp2_with fail
        refine (HG1.out).mono ?_
        rintro e w2 ⟨v, nv, rfl, hnum, hcm, hb⟩
        obtain ⟨gm, capm, rfl, hgm0, hgm1⟩ := World.ownsRow.form hcm.2 (by simp)
        obtain ⟨np, nn, nc, rfl⟩ := numz_form hnum
        have hb2 := hb.size
        have h02 : w2.cell? ⟨wg, O, none⟩ = some (.int .i64 A) := (hb.cell (p := ⟨wg, O, none⟩) hgl).trans h0
        have hcc : ∀ j u, j < 12 → (g0.cells 0 (.slice np nn nc))[j]? = some u → w2.cell? ⟨gm, j, none⟩ = some u := fun j u hj hu => by
          rw [hcm.2.cellAt j (by simpa using hj)]; simpa using hu
        have m0 := hcc 0 (.int .i64 0) (by omega) rfl
        have m1 := hcc 1 (.int .i64 g0.kind) (by omega) rfl
        have m2 := hcc 2 (.int .i64 g0.n) (by omega) rfl
        have m3 := hcc 3 (.int .i64 g0.m) (by omega) rfl
        have m4 := hcc 4 (.bool g0.on) (by omega) rfl
        have m5 := hcc 5 (.string (bs g0.name)) (by omega) rfl
        have m6 := hcc 6 (.string (bs g0.x)) (by omega) rfl
        have m7 := hcc 7 (.string (bs g0.y)) (by omega) rfl
        have m8 := hcc 8 (.string (bs [])) (by omega) rfl
        have m9 := hcc 9 (.string (bs [])) (by omega) rfl
        have m10 := hcc 10 (.slice np nn nc) (by omega) rfl
        have m11 := hcc 11 (.slice none 0 0) (by omega) rfl
        have hgl2 : wg < w2.heap.size := by omega
        have HNUM := Lib.hid hnum
        have HCM := Lib.hid hcm
        have HB2 := Lib.hid hb
        clear hnum hcm hcc hb h0 h1 h2 h3 HG1
        obtain ⟨G1, eG1⟩ : ∃ x, g0.kind = x := ⟨_, rfl⟩
        rw [eG1] at m1
        have HEG := Lib.hid eG1
        clear eG1
        have hs2 : w1.heap.size ≤ ((w2.alloc (.cells #[.int .i64 A, .int .i64 G1, .int .i64 g0.n, .int .i64 g0.m, .bool g0.on, .string (bs g0.name), .string (bs g0.x), .string (bs g0.y), .string (bs []), .string (bs []), .slice np nn nc, .slice none 0 0] 103)).alloc (.cells #[.int .i64 A, .int .i64 G1, .int .i64 g0.n, .int .i64 g0.m, .bool g0.on, .string (bs g0.name), .string (bs g0.x), .string (bs g0.y), .string (bs []), .string (bs []), .slice np nn nc, .slice none 0 0] 103)).heap.size := by simp; omega
        have hown0 : ((w2.alloc (.cells #[.int .i64 A, .int .i64 G1, .int .i64 g0.n, .int .i64 g0.m, .bool g0.on, .string (bs g0.name), .string (bs g0.x), .string (bs g0.y), .string (bs []), .string (bs []), .slice np nn nc, .slice none 0 0] 103)).alloc (.cells #[.int .i64 A, .int .i64 G1, .int .i64 g0.n, .int .i64 g0.m, .bool g0.on, .string (bs g0.name), .string (bs g0.x), .string (bs g0.y), .string (bs []), .string (bs []), .slice np nn nc, .slice none 0 0] 103)).ownsRow w1.heap.size 103 12 V8 cs.length cs.flatten := ((own_below HC.out.2 HB2.out (Nat.le_refl _)).alloc _).alloc _
        have hN : ∀ j u, ([.int .i64 A, .int .i64 G1, .int .i64 g0.n, .int .i64 g0.m, .bool g0.on, .string (bs g0.name), .string (bs g0.x), .string (bs g0.y), .string (bs []), .string (bs []), .slice np nn nc, .slice none 0 0] : List Value)[j]? = some u → ((w2.alloc (.cells #[.int .i64 A, .int .i64 G1, .int .i64 g0.n, .int .i64 g0.m, .bool g0.on, .string (bs g0.name), .string (bs g0.x), .string (bs g0.y), .string (bs []), .string (bs []), .slice np nn nc, .slice none 0 0] 103)).alloc (.cells #[.int .i64 A, .int .i64 G1, .int .i64 g0.n, .int .i64 g0.m, .bool g0.on, .string (bs g0.name), .string (bs g0.x), .string (bs g0.y), .string (bs []), .string (bs []), .slice np nn nc, .slice none 0 0] 103)).cell? ((⟨w2.heap.size + 1, 0, none⟩ : Addr).add j) = some u :=
          World.news_of_block (cs := #[.int .i64 A, .int .i64 G1, .int .i64 g0.n, .int .i64 g0.m, .bool g0.on, .string (bs g0.name), .string (bs g0.x), .string (bs g0.y), .string (bs []), .string (bs []), .slice np nn nc, .slice none 0 0]) (Blk.newAt (w := w2.alloc (.cells #[.int .i64 A, .int .i64 G1, .int .i64 g0.n, .int .i64 g0.m, .bool g0.on, .string (bs g0.name), .string (bs g0.x), .string (bs g0.y), .string (bs []), .string (bs []), .slice np nn nc, .slice none 0 0] 103)) (by simp))
        have hO : ∀ u ∈ ([.int .i64 A, .int .i64 G1, .int .i64 g0.n, .int .i64 g0.m, .bool g0.on, .string (bs g0.name), .string (bs g0.x), .string (bs g0.y), .string (bs []), .string (bs []), .slice np nn nc, .slice none 0 0] : List Value), u.oneCell' = true := by
          intro u hu
          simp only [List.mem_cons, List.not_mem_nil, or_false] at hu
          rcases hu with rfl | rfl | rfl | rfl | rfl | rfl | rfl | rfl | rfl | rfl | rfl | rfl <;> rfl
        have hcl : cs.length + 1 ≤ maxLen ∧ (cs.length + 1) * 168 ≤ 140737488355328 := by
          have h1 := HG.out.length
          have h2 := List.length_take_le k gs
          have h3 := HK.out
          have h4 := HKR.out
          unfold maxLen
          omega
        have HS2 := Lib.hid hs2
        have HOWN := Lib.hid hown0
        have HN := Lib.hid hN
        have HOO := Lib.hid hO
        have HCL := Lib.hid hcl
        clear hs2 hown0 hN hO hcl
        go_wp2_with fail
        refine wp_loop_rounds 2 ?_
        rw [rounds_succ]
        go_wp2_with (at_builtin; refine wpList_append_lies _ rfl (.tmp 79) (.tmp 81) 97 rfl w1.heap.size 103 i40 _ 12 168 Tryz.underlying97 HI.out.1 HI.out.2.1 HI.out.2.2.1 HI.out.2.2.2 hZ.out (by decide) V8 cs.length cs.flatten (by simp [Act.eval]) HOWN.out ⟨w2.heap.size + 1, 0, none⟩ 1 1 [.int .i64 A, .int .i64 G1, .int .i64 g0.n, .int .i64 g0.m, .bool g0.on, .string (bs g0.name), .string (bs g0.x), .string (bs g0.y), .string (bs []), .string (bs []), .slice np nn nc, .slice none 0 0] (by simp [Act.eval]) rfl HN.out HOO.out (by decide) HCL.out.1 HCL.out.2 HS2.out _ rfl ?_)
        intro gc cap3 w3 hown hgrow hat hlt3
        go_wp2_with fail
        rw [rounds_succ]
        go_wp2_with fail
        have hk1 := HKR.out
        have hO1 := HeO.out
        have hn3 : ∀ nv l, Numz w2 w1.heap.size nv l → Numz w3 w1.heap.size nv l := fun nv l h =>
          ⟨World.ownsRow.kept (World.ownsRow.alloc (World.ownsRow.alloc h.1 _) _) hgrow (own_own_ne (World.ownsRow.alloc (World.ownsRow.alloc h.1 _) _) HOWN.out (by decide)), h.2⟩
        have hcs3 : CmdsOf w3 w1.heap.size (gs.take (k + 1)) (cs ++ [[.int .i64 A, .int .i64 G1, .int .i64 g0.n, .int .i64 g0.m, .bool g0.on, .string (bs g0.name), .string (bs g0.x), .string (bs g0.y), .string (bs []), .string (bs []), .slice np nn nc, .slice none 0 0]]) := by
          rw [HT.out]
          have h1 : [.int .i64 A, .int .i64 G1, .int .i64 g0.n, .int .i64 g0.m, .bool g0.on, .string (bs g0.name), .string (bs g0.x), .string (bs g0.y), .string (bs []), .string (bs []), .slice np nn nc, .slice none 0 0] = g0.cells A (.slice np nn nc) := by rw [← HEG.out]; rfl
          rw [h1]
          exact .snoc (HG.out.turn fun nv l h => hn3 nv l (numz_below h HB2.out (Nat.le_refl _))) (hn3 _ _ (numz_mono HNUM.out hlr))
        have hb3 : Below w1.heap.size w1 w3 := Below.grown ((HBr.out.trans (HB2.out.mono hlr)).alloc (by omega) _ |>.alloc (by simp; omega) _) hgrow HS2.out (fun b hb => own_ge HOWN.out hb)
        refine ⟨⟨k + 1, if cap = 1 then O else O + 4, cap - 1, cs ++ [[.int .i64 A, .int .i64 G1, .int .i64 g0.n, .int .i64 g0.m, .bool g0.on, .string (bs g0.name), .string (bs g0.x), .string (bs g0.y), .string (bs []), .string (bs []), .slice np nn nc, .slice none 0 0]], ?_, by omega, ?_, by omega, cmds_snoc HC.out.1 rfl hown, hcs3, hb3⟩, by simp [sliceLen]; omega⟩
        · have e : K - (k + 1) = R - 1 := by omega
          rw [e]
          simp [hc1]
        · intro h; rw [if_neg hc1]; omega
      · have he : g0.ext = false := by simpa using he
        rw [he] at h1
        have hG1 := HP0.out he
        have HG1 := Lib.hid hG1
        clear he hG1 HG0 HP0
        go_wp2_with fail
        refine wp_loop_rounds 1 ?_
        rw [rounds_succ]
        go_wp2_with fail
        refine (HG1.out).mono ?_
        rintro e w2 ⟨v, nv, rfl, hnum, hcm, hb⟩
        obtain ⟨gm, capm, rfl, hgm0, hgm1⟩ := World.ownsRow.form hcm.2 (by simp)
        obtain ⟨np, nn, nc, rfl⟩ := numz_form hnum
        have hb2 := hb.size
        have h02 : w2.cell? ⟨wg, O, none⟩ = some (.int .i64 A) := (hb.cell (p := ⟨wg, O, none⟩) hgl).trans h0
        have hcc : ∀ j u, j < 12 → (g0.cells 0 (.slice np nn nc))[j]? = some u → w2.cell? ⟨gm, j, none⟩ = some u := fun j u hj hu => by
          rw [hcm.2.cellAt j (by simpa using hj)]; simpa using hu
        have m0 := hcc 0 (.int .i64 0) (by omega) rfl
        have m1 := hcc 1 (.int .i64 g0.kind) (by omega) rfl
        have m2 := hcc 2 (.int .i64 g0.n) (by omega) rfl
        have m3 := hcc 3 (.int .i64 g0.m) (by omega) rfl
        have m4 := hcc 4 (.bool g0.on) (by omega) rfl
        have m5 := hcc 5 (.string (bs g0.name)) (by omega) rfl
        have m6 := hcc 6 (.string (bs g0.x)) (by omega) rfl
        have m7 := hcc 7 (.string (bs g0.y)) (by omega) rfl
        have m8 := hcc 8 (.string (bs [])) (by omega) rfl
        have m9 := hcc 9 (.string (bs [])) (by omega) rfl
        have m10 := hcc 10 (.slice np nn nc) (by omega) rfl
        have m11 := hcc 11 (.slice none 0 0) (by omega) rfl
        have hgl2 : wg < w2.heap.size := by omega
        have HNUM := Lib.hid hnum
        have HCM := Lib.hid hcm
        have HB2 := Lib.hid hb
        clear hnum hcm hcc hb h0 h1 h2 h3 HG1
        obtain ⟨G1, eG1⟩ : ∃ x, g0.kind = x := ⟨_, rfl⟩
        rw [eG1] at m1
        have HEG := Lib.hid eG1
        clear eG1
        have hs2 : w1.heap.size ≤ ((w2.alloc (.cells #[.int .i64 A, .int .i64 G1, .int .i64 g0.n, .int .i64 g0.m, .bool g0.on, .string (bs g0.name), .string (bs g0.x), .string (bs g0.y), .string (bs []), .string (bs []), .slice np nn nc, .slice none 0 0] 103)).alloc (.cells #[.int .i64 A, .int .i64 G1, .int .i64 g0.n, .int .i64 g0.m, .bool g0.on, .string (bs g0.name), .string (bs g0.x), .string (bs g0.y), .string (bs []), .string (bs []), .slice np nn nc, .slice none 0 0] 103)).heap.size := by simp; omega
        have hown0 : ((w2.alloc (.cells #[.int .i64 A, .int .i64 G1, .int .i64 g0.n, .int .i64 g0.m, .bool g0.on, .string (bs g0.name), .string (bs g0.x), .string (bs g0.y), .string (bs []), .string (bs []), .slice np nn nc, .slice none 0 0] 103)).alloc (.cells #[.int .i64 A, .int .i64 G1, .int .i64 g0.n, .int .i64 g0.m, .bool g0.on, .string (bs g0.name), .string (bs g0.x), .string (bs g0.y), .string (bs []), .string (bs []), .slice np nn nc, .slice none 0 0] 103)).ownsRow w1.heap.size 103 12 V8 cs.length cs.flatten := ((own_below HC.out.2 HB2.out (Nat.le_refl _)).alloc _).alloc _
        have hN : ∀ j u, ([.int .i64 A, .int .i64 G1, .int .i64 g0.n, .int .i64 g0.m, .bool g0.on, .string (bs g0.name), .string (bs g0.x), .string (bs g0.y), .string (bs []), .string (bs []), .slice np nn nc, .slice none 0 0] : List Value)[j]? = some u → ((w2.alloc (.cells #[.int .i64 A, .int .i64 G1, .int .i64 g0.n, .int .i64 g0.m, .bool g0.on, .string (bs g0.name), .string (bs g0.x), .string (bs g0.y), .string (bs []), .string (bs []), .slice np nn nc, .slice none 0 0] 103)).alloc (.cells #[.int .i64 A, .int .i64 G1, .int .i64 g0.n, .int .i64 g0.m, .bool g0.on, .string (bs g0.name), .string (bs g0.x), .string (bs g0.y), .string (bs []), .string (bs []), .slice np nn nc, .slice none 0 0] 103)).cell? ((⟨w2.heap.size + 1, 0, none⟩ : Addr).add j) = some u :=
          World.news_of_block (cs := #[.int .i64 A, .int .i64 G1, .int .i64 g0.n, .int .i64 g0.m, .bool g0.on, .string (bs g0.name), .string (bs g0.x), .string (bs g0.y), .string (bs []), .string (bs []), .slice np nn nc, .slice none 0 0]) (Blk.newAt (w := w2.alloc (.cells #[.int .i64 A, .int .i64 G1, .int .i64 g0.n, .int .i64 g0.m, .bool g0.on, .string (bs g0.name), .string (bs g0.x), .string (bs g0.y), .string (bs []), .string (bs []), .slice np nn nc, .slice none 0 0] 103)) (by simp))
        have hO : ∀ u ∈ ([.int .i64 A, .int .i64 G1, .int .i64 g0.n, .int .i64 g0.m, .bool g0.on, .string (bs g0.name), .string (bs g0.x), .string (bs g0.y), .string (bs []), .string (bs []), .slice np nn nc, .slice none 0 0] : List Value), u.oneCell' = true := by
          intro u hu
          simp only [List.mem_cons, List.not_mem_nil, or_false] at hu
          rcases hu with rfl | rfl | rfl | rfl | rfl | rfl | rfl | rfl | rfl | rfl | rfl | rfl <;> rfl
        have hcl : cs.length + 1 ≤ maxLen ∧ (cs.length + 1) * 168 ≤ 140737488355328 := by
          have h1 := HG.out.length
          have h2 := List.length_take_le k gs
          have h3 := HK.out
          have h4 := HKR.out
          unfold maxLen
          omega
        have HS2 := Lib.hid hs2
        have HOWN := Lib.hid hown0
        have HN := Lib.hid hN
        have HOO := Lib.hid hO
        have HCL := Lib.hid hcl
        clear hs2 hown0 hN hO hcl
        go_wp2_with fail
        refine wp_loop_rounds 2 ?_
        rw [rounds_succ]
        go_wp2_with (at_builtin; refine wpList_append_lies _ rfl (.tmp 79) (.tmp 81) 97 rfl w1.heap.size 103 i40 _ 12 168 Tryz.underlying97 HI.out.1 HI.out.2.1 HI.out.2.2.1 HI.out.2.2.2 hZ.out (by decide) V8 cs.length cs.flatten (by simp [Act.eval]) HOWN.out ⟨w2.heap.size + 1, 0, none⟩ 1 1 [.int .i64 A, .int .i64 G1, .int .i64 g0.n, .int .i64 g0.m, .bool g0.on, .string (bs g0.name), .string (bs g0.x), .string (bs g0.y), .string (bs []), .string (bs []), .slice np nn nc, .slice none 0 0] (by simp [Act.eval]) rfl HN.out HOO.out (by decide) HCL.out.1 HCL.out.2 HS2.out _ rfl ?_)
        intro gc cap3 w3 hown hgrow hat hlt3
        go_wp2_with fail
        rw [rounds_succ]
        go_wp2_with fail
        have hk1 := HKR.out
        have hO1 := HeO.out
        have hn3 : ∀ nv l, Numz w2 w1.heap.size nv l → Numz w3 w1.heap.size nv l := fun nv l h =>
          ⟨World.ownsRow.kept (World.ownsRow.alloc (World.ownsRow.alloc h.1 _) _) hgrow (own_own_ne (World.ownsRow.alloc (World.ownsRow.alloc h.1 _) _) HOWN.out (by decide)), h.2⟩
        have hcs3 : CmdsOf w3 w1.heap.size (gs.take (k + 1)) (cs ++ [[.int .i64 A, .int .i64 G1, .int .i64 g0.n, .int .i64 g0.m, .bool g0.on, .string (bs g0.name), .string (bs g0.x), .string (bs g0.y), .string (bs []), .string (bs []), .slice np nn nc, .slice none 0 0]]) := by
          rw [HT.out]
          have h1 : [.int .i64 A, .int .i64 G1, .int .i64 g0.n, .int .i64 g0.m, .bool g0.on, .string (bs g0.name), .string (bs g0.x), .string (bs g0.y), .string (bs []), .string (bs []), .slice np nn nc, .slice none 0 0] = g0.cells A (.slice np nn nc) := by rw [← HEG.out]; rfl
          rw [h1]
          exact .snoc (HG.out.turn fun nv l h => hn3 nv l (numz_below h HB2.out (Nat.le_refl _))) (hn3 _ _ (numz_mono HNUM.out hlr))
        have hb3 : Below w1.heap.size w1 w3 := Below.grown ((HBr.out.trans (HB2.out.mono hlr)).alloc (by omega) _ |>.alloc (by simp; omega) _) hgrow HS2.out (fun b hb => own_ge HOWN.out hb)
        refine ⟨⟨k + 1, if cap = 1 then O else O + 4, cap - 1, cs ++ [[.int .i64 A, .int .i64 G1, .int .i64 g0.n, .int .i64 g0.m, .bool g0.on, .string (bs g0.name), .string (bs g0.x), .string (bs g0.y), .string (bs []), .string (bs []), .slice np nn nc, .slice none 0 0]], ?_, by omega, ?_, by omega, cmds_snoc HC.out.1 rfl hown, hcs3, hb3⟩, by simp [sliceLen]; omega⟩
        · have e : K - (k + 1) = R - 1 := by omega
          rw [e]
          simp [hc1]
        · intro h; rw [if_neg hc1]; omega
  · have hkK : k = K := by omega
    subst hkK
    have hz : k - k = 0 := by omega
    rw [hz]
    go_wp2_with fail
    go_ret3
    have h1 := HG.out
    rw [List.take_of_length_le (by have := HK.out; omega)] at h1
    exact ⟨V8, cs, rfl, cmds_mono HC.out (by omega), h1.turn (fun nv l h => numz_mono h (by omega)), HB.out.trans (HBr.out.mono (by omega))⟩
end Go.Proofs.YtfajckkbinbpiaaGreatDoor
