/- Walks: package plot: a command is executed by its method. Walks: package plot: a block is opened. -/
import Derived.Test.YtfajckkbinbpiaaGreatDoorM16
import Derived.Test.YtfajckkbinbpiaaGreatDoorM22
import Derived.Deep.RegionLaw
import Derived.Deep.AppendLies
namespace Go.Proofs.YtfajckkbinbpiaaGreatDoor
open Go.RowKit
set_option linter.unusedVariables false
set_option linter.unusedSimpArgs false

set_option maxRecDepth 100000 in
set_option maxHeartbeats 4000000 in
theorem do_8 (P : Nat) (A cn cm : Int) (con : Bool) (ct cx cy ce : ByteArray) (np : Option Addr) (nn nc : Nat) {v0 v1 v2 v3 v4 v5 v6 v7 v8 v9 v10 v11 v12 v13 v14 v15 v16 v17 v18 v20 v21 v22 v23 : Value} (w : World) (R : World → Prop) (hP : Blk w P 159 #[v0, v1, v2, v3, v4, v5, v6, v7, v8, v9, v10, v11, v12, v13, v14, v15, v16, v17, v18, .bool false, v20, v21, v22, v23, .bool false]) (h : Calls Tryz.prog 100 #[.pointer (some ⟨P, 0, none⟩), .agg #[.int .i64 A, .int .i64 8, .int .i64 cn, .int .i64 cm, .bool con, .string ct, .string cx, .string cy, .string ce, .string ce, .slice np nn nc, .slice none 0 0]] (w.alloc (.cells #[.int .i64 A, .int .i64 8, .int .i64 cn, .int .i64 cm, .bool con, .string ct, .string cx, .string cy, .string ce, .string ce, .slice np nn nc, .slice none 0 0] 103)) fun e w' => e = .returned (.int .i64 0) ∧ R w') :
    Calls Tryz.prog 63 #[.pointer (some ⟨P, 0, none⟩), .agg #[.int .i64 A, .int .i64 8, .int .i64 cn, .int .i64 cm, .bool con, .string ct, .string cx, .string cy, .string ce, .string ce, .slice np nn nc, .slice none 0 0]] w fun e w' => e = .returned (.int .i64 0) ∧ R w' := by
  have c := hP.cell
  have l := hP.lt
  have H := Lib.hid h
  clear h hP
  go_enter Tryz.func63, Tryz.ntmps63
  go_wp2_with (go_at_call 100; refine (H.out).mono ?_; rintro e w1 ⟨rfl, hR⟩)
  have HR := Lib.hid hR
  clear hR
  go_wp2_with fail
  go_ret
  exact ⟨rfl, HR.out⟩
set_option maxRecDepth 100000 in
set_option maxHeartbeats 4000000 in
theorem do_9 (P : Nat) (A cn cm : Int) (con : Bool) (ct cx cy ce : ByteArray) (np : Option Addr) (nn nc : Nat) {v0 v1 v2 v3 v4 v5 v6 v7 v8 v9 v10 v11 v12 v13 v14 v15 v16 v17 v18 v20 v21 v22 v23 : Value} (w : World) (R : World → Prop) (hP : Blk w P 159 #[v0, v1, v2, v3, v4, v5, v6, v7, v8, v9, v10, v11, v12, v13, v14, v15, v16, v17, v18, .bool false, v20, v21, v22, v23, .bool false]) (h : Calls Tryz.prog 100 #[.pointer (some ⟨P, 0, none⟩), .agg #[.int .i64 A, .int .i64 9, .int .i64 cn, .int .i64 cm, .bool con, .string ct, .string cx, .string cy, .string ce, .string ce, .slice np nn nc, .slice none 0 0]] (w.alloc (.cells #[.int .i64 A, .int .i64 9, .int .i64 cn, .int .i64 cm, .bool con, .string ct, .string cx, .string cy, .string ce, .string ce, .slice np nn nc, .slice none 0 0] 103)) fun e w' => e = .returned (.int .i64 0) ∧ R w') :
    Calls Tryz.prog 63 #[.pointer (some ⟨P, 0, none⟩), .agg #[.int .i64 A, .int .i64 9, .int .i64 cn, .int .i64 cm, .bool con, .string ct, .string cx, .string cy, .string ce, .string ce, .slice np nn nc, .slice none 0 0]] w fun e w' => e = .returned (.int .i64 0) ∧ R w' := by
  have c := hP.cell
  have l := hP.lt
  have H := Lib.hid h
  clear h hP
  go_enter Tryz.func63, Tryz.ntmps63
  go_wp2_with (go_at_call 100; refine (H.out).mono ?_; rintro e w1 ⟨rfl, hR⟩)
  have HR := Lib.hid hR
  clear hR
  go_wp2_with fail
  go_ret
  exact ⟨rfl, HR.out⟩
set_option maxRecDepth 100000 in
set_option maxHeartbeats 4000000 in
theorem do_10 (P : Nat) (A cn cm : Int) (con : Bool) (ct cx cy ce : ByteArray) (np : Option Addr) (nn nc : Nat) {v0 v1 v2 v3 v4 v5 v6 v7 v8 v9 v10 v11 v12 v13 v14 v15 v16 v17 v18 v20 v21 v22 v23 : Value} (w : World) (R : World → Prop) (hP : Blk w P 159 #[v0, v1, v2, v3, v4, v5, v6, v7, v8, v9, v10, v11, v12, v13, v14, v15, v16, v17, v18, .bool false, v20, v21, v22, v23, .bool false]) (h : Calls Tryz.prog 100 #[.pointer (some ⟨P, 0, none⟩), .agg #[.int .i64 A, .int .i64 10, .int .i64 cn, .int .i64 cm, .bool con, .string ct, .string cx, .string cy, .string ce, .string ce, .slice np nn nc, .slice none 0 0]] (w.alloc (.cells #[.int .i64 A, .int .i64 10, .int .i64 cn, .int .i64 cm, .bool con, .string ct, .string cx, .string cy, .string ce, .string ce, .slice np nn nc, .slice none 0 0] 103)) fun e w' => e = .returned (.int .i64 0) ∧ R w') :
    Calls Tryz.prog 63 #[.pointer (some ⟨P, 0, none⟩), .agg #[.int .i64 A, .int .i64 10, .int .i64 cn, .int .i64 cm, .bool con, .string ct, .string cx, .string cy, .string ce, .string ce, .slice np nn nc, .slice none 0 0]] w fun e w' => e = .returned (.int .i64 0) ∧ R w' := by
  have c := hP.cell
  have l := hP.lt
  have H := Lib.hid h
  clear h hP
  go_enter Tryz.func63, Tryz.ntmps63
  go_wp2_with (go_at_call 100; refine (H.out).mono ?_; rintro e w1 ⟨rfl, hR⟩)
  have HR := Lib.hid hR
  clear hR
  go_wp2_with fail
  go_ret
  exact ⟨rfl, HR.out⟩
set_option maxRecDepth 100000 in
set_option maxHeartbeats 4000000 in
theorem do_6 (P : Nat) (A cn cm : Int) (con : Bool) (ct cx cy ce : ByteArray) (np : Option Addr) (nn nc : Nat) {v0 v1 v2 v3 v4 v5 v6 v7 v8 v9 v10 v11 v12 v13 v14 v15 v16 v17 v18 v20 v21 v22 v23 : Value} (w : World) (R : World → Prop) (hP : Blk w P 159 #[v0, v1, v2, v3, v4, v5, v6, v7, v8, v9, v10, v11, v12, v13, v14, v15, v16, v17, v18, .bool false, v20, v21, v22, v23, .bool false]) (h : Calls Tryz.prog 101 #[.pointer (some ⟨P, 0, none⟩), .agg #[.int .i64 A, .int .i64 6, .int .i64 cn, .int .i64 cm, .bool con, .string ct, .string cx, .string cy, .string ce, .string ce, .slice np nn nc, .slice none 0 0]] (w.alloc (.cells #[.int .i64 A, .int .i64 6, .int .i64 cn, .int .i64 cm, .bool con, .string ct, .string cx, .string cy, .string ce, .string ce, .slice np nn nc, .slice none 0 0] 103)) fun e w' => e = .returned (.int .i64 0) ∧ R w') :
    Calls Tryz.prog 63 #[.pointer (some ⟨P, 0, none⟩), .agg #[.int .i64 A, .int .i64 6, .int .i64 cn, .int .i64 cm, .bool con, .string ct, .string cx, .string cy, .string ce, .string ce, .slice np nn nc, .slice none 0 0]] w fun e w' => e = .returned (.int .i64 0) ∧ R w' := by
  have c := hP.cell
  have l := hP.lt
  have H := Lib.hid h
  clear h hP
  go_enter Tryz.func63, Tryz.ntmps63
  go_wp2_with (go_at_call 101; refine (H.out).mono ?_; rintro e w1 ⟨rfl, hR⟩)
  have HR := Lib.hid hR
  clear hR
  go_wp2_with fail
  go_ret
  exact ⟨rfl, HR.out⟩
set_option maxRecDepth 100000 in
set_option maxHeartbeats 4000000 in
theorem do_15 (P : Nat) (A cn cm : Int) (con : Bool) (ct cx cy ce : ByteArray) (np : Option Addr) (nn nc : Nat) {v0 v1 v2 v3 v4 v5 v6 v7 v8 v9 v10 v11 v12 v13 v14 v15 v16 v17 v18 v20 v21 v22 v23 : Value} (w : World) (R : World → Prop) (hP : Blk w P 159 #[v0, v1, v2, v3, v4, v5, v6, v7, v8, v9, v10, v11, v12, v13, v14, v15, v16, v17, v18, .bool false, v20, v21, v22, v23, .bool false]) (h : Calls Tryz.prog 101 #[.pointer (some ⟨P, 0, none⟩), .agg #[.int .i64 A, .int .i64 15, .int .i64 cn, .int .i64 cm, .bool con, .string ct, .string cx, .string cy, .string ce, .string ce, .slice np nn nc, .slice none 0 0]] (w.alloc (.cells #[.int .i64 A, .int .i64 15, .int .i64 cn, .int .i64 cm, .bool con, .string ct, .string cx, .string cy, .string ce, .string ce, .slice np nn nc, .slice none 0 0] 103)) fun e w' => e = .returned (.int .i64 0) ∧ R w') :
    Calls Tryz.prog 63 #[.pointer (some ⟨P, 0, none⟩), .agg #[.int .i64 A, .int .i64 15, .int .i64 cn, .int .i64 cm, .bool con, .string ct, .string cx, .string cy, .string ce, .string ce, .slice np nn nc, .slice none 0 0]] w fun e w' => e = .returned (.int .i64 0) ∧ R w' := by
  have c := hP.cell
  have l := hP.lt
  have H := Lib.hid h
  clear h hP
  go_enter Tryz.func63, Tryz.ntmps63
  go_wp2_with (go_at_call 101; refine (H.out).mono ?_; rintro e w1 ⟨rfl, hR⟩)
  have HR := Lib.hid hR
  clear hR
  go_wp2_with fail
  go_ret
  exact ⟨rfl, HR.out⟩
set_option maxRecDepth 100000 in
set_option maxHeartbeats 4000000 in
theorem do_7 (P : Nat) (A cn cm : Int) (con : Bool) (ct cx cy ce : ByteArray) (np : Option Addr) (nn nc : Nat) {v0 v1 v2 v3 v4 v5 v6 v7 v8 v9 v10 v11 v12 v13 v14 v15 v16 v17 v18 v20 v21 v22 v23 : Value} (w : World) (R : World → Prop) (hP : Blk w P 159 #[v0, v1, v2, v3, v4, v5, v6, v7, v8, v9, v10, v11, v12, v13, v14, v15, v16, v17, v18, .bool false, v20, v21, v22, v23, .bool false]) (h : Calls Tryz.prog 103 #[.pointer (some ⟨P, 0, none⟩), .agg #[.int .i64 A, .int .i64 7, .int .i64 cn, .int .i64 cm, .bool con, .string ct, .string cx, .string cy, .string ce, .string ce, .slice np nn nc, .slice none 0 0]] (w.alloc (.cells #[.int .i64 A, .int .i64 7, .int .i64 cn, .int .i64 cm, .bool con, .string ct, .string cx, .string cy, .string ce, .string ce, .slice np nn nc, .slice none 0 0] 103)) fun e w' => e = .returned (.int .i64 0) ∧ R w') :
    Calls Tryz.prog 63 #[.pointer (some ⟨P, 0, none⟩), .agg #[.int .i64 A, .int .i64 7, .int .i64 cn, .int .i64 cm, .bool con, .string ct, .string cx, .string cy, .string ce, .string ce, .slice np nn nc, .slice none 0 0]] w fun e w' => e = .returned (.int .i64 0) ∧ R w' := by
  have c := hP.cell
  have l := hP.lt
  have H := Lib.hid h
  clear h hP
  go_enter Tryz.func63, Tryz.ntmps63
  go_wp2_with (go_at_call 103; refine (H.out).mono ?_; rintro e w1 ⟨rfl, hR⟩)
  have HR := Lib.hid hR
  clear hR
  go_wp2_with fail
  go_ret
  exact ⟨rfl, HR.out⟩
set_option maxRecDepth 100000 in
set_option maxHeartbeats 4000000 in
theorem do_11 (P : Nat) (A cn cm : Int) (con : Bool) (ct cx cy ce : ByteArray) (np : Option Addr) (nn nc : Nat) {v0 v1 v2 v3 v4 v5 v6 v7 v8 v9 v10 v11 v12 v13 v14 v15 v16 v17 v18 v20 v21 v22 v23 : Value} (w : World) (R : World → Prop) (hP : Blk w P 159 #[v0, v1, v2, v3, v4, v5, v6, v7, v8, v9, v10, v11, v12, v13, v14, v15, v16, v17, v18, .bool false, v20, v21, v22, v23, .bool false]) (h : Calls Tryz.prog 104 #[.pointer (some ⟨P, 0, none⟩), .agg #[.int .i64 A, .int .i64 11, .int .i64 cn, .int .i64 cm, .bool con, .string ct, .string cx, .string cy, .string ce, .string ce, .slice np nn nc, .slice none 0 0]] (w.alloc (.cells #[.int .i64 A, .int .i64 11, .int .i64 cn, .int .i64 cm, .bool con, .string ct, .string cx, .string cy, .string ce, .string ce, .slice np nn nc, .slice none 0 0] 103)) fun e w' => e = .returned (.int .i64 0) ∧ R w') :
    Calls Tryz.prog 63 #[.pointer (some ⟨P, 0, none⟩), .agg #[.int .i64 A, .int .i64 11, .int .i64 cn, .int .i64 cm, .bool con, .string ct, .string cx, .string cy, .string ce, .string ce, .slice np nn nc, .slice none 0 0]] w fun e w' => e = .returned (.int .i64 0) ∧ R w' := by
  have c := hP.cell
  have l := hP.lt
  have H := Lib.hid h
  clear h hP
  go_enter Tryz.func63, Tryz.ntmps63
  go_wp2_with (go_at_call 104; refine (H.out).mono ?_; rintro e w1 ⟨rfl, hR⟩)
  have HR := Lib.hid hR
  clear hR
  go_wp2_with fail
  go_ret
  exact ⟨rfl, HR.out⟩
set_option maxRecDepth 100000 in
set_option maxHeartbeats 4000000 in
theorem do_13 (P : Nat) (A cn cm : Int) (con : Bool) (ct cx cy ce : ByteArray) (np : Option Addr) (nn nc : Nat) {v0 v1 v2 v3 v4 v5 v6 v7 v8 v9 v10 v11 v12 v13 v14 v15 v16 v17 v18 v20 v21 v22 v23 : Value} (w : World) (R : World → Prop) (hP : Blk w P 159 #[v0, v1, v2, v3, v4, v5, v6, v7, v8, v9, v10, v11, v12, v13, v14, v15, v16, v17, v18, .bool false, v20, v21, v22, v23, .bool false]) (h : Calls Tryz.prog 105 #[.pointer (some ⟨P, 0, none⟩), .agg #[.int .i64 A, .int .i64 13, .int .i64 cn, .int .i64 cm, .bool con, .string ct, .string cx, .string cy, .string ce, .string ce, .slice np nn nc, .slice none 0 0]] (w.alloc (.cells #[.int .i64 A, .int .i64 13, .int .i64 cn, .int .i64 cm, .bool con, .string ct, .string cx, .string cy, .string ce, .string ce, .slice np nn nc, .slice none 0 0] 103)) fun e w' => e = .returned (.int .i64 0) ∧ R w') :
    Calls Tryz.prog 63 #[.pointer (some ⟨P, 0, none⟩), .agg #[.int .i64 A, .int .i64 13, .int .i64 cn, .int .i64 cm, .bool con, .string ct, .string cx, .string cy, .string ce, .string ce, .slice np nn nc, .slice none 0 0]] w fun e w' => e = .returned (.int .i64 0) ∧ R w' := by
  have c := hP.cell
  have l := hP.lt
  have H := Lib.hid h
  clear h hP
  go_enter Tryz.func63, Tryz.ntmps63
  go_wp2_with (go_at_call 105; refine (H.out).mono ?_; rintro e w1 ⟨rfl, hR⟩)
  have HR := Lib.hid hR
  clear hR
  go_wp2_with fail
  go_ret
  exact ⟨rfl, HR.out⟩
set_option maxRecDepth 100000 in
set_option maxHeartbeats 4000000 in
theorem do_12 (P : Nat) (A cn cm : Int) (con : Bool) (ct cx cy ce : ByteArray) (np : Option Addr) (nn nc : Nat) {v0 v1 v2 v3 v4 v5 v6 v7 v8 v9 v10 v11 v12 v13 v14 v15 v16 v17 v18 v20 v21 v22 v23 : Value} (w : World) (R : World → Prop) (hP : Blk w P 159 #[v0, v1, v2, v3, v4, v5, v6, v7, v8, v9, v10, v11, v12, v13, v14, v15, v16, v17, v18, .bool false, v20, v21, v22, v23, .bool false]) (h : Calls Tryz.prog 106 #[.pointer (some ⟨P, 0, none⟩)] (w.alloc (.cells #[.int .i64 A, .int .i64 12, .int .i64 cn, .int .i64 cm, .bool con, .string ct, .string cx, .string cy, .string ce, .string ce, .slice np nn nc, .slice none 0 0] 103)) fun e w' => e = .returned (.int .i64 0) ∧ R w') :
    Calls Tryz.prog 63 #[.pointer (some ⟨P, 0, none⟩), .agg #[.int .i64 A, .int .i64 12, .int .i64 cn, .int .i64 cm, .bool con, .string ct, .string cx, .string cy, .string ce, .string ce, .slice np nn nc, .slice none 0 0]] w fun e w' => e = .returned (.int .i64 0) ∧ R w' := by
  have c := hP.cell
  have l := hP.lt
  have H := Lib.hid h
  clear h hP
  go_enter Tryz.func63, Tryz.ntmps63
  go_wp2_with (go_at_call 106; refine (H.out).mono ?_; rintro e w1 ⟨rfl, hR⟩)
  have HR := Lib.hid hR
  clear hR
  go_wp2_with fail
  go_ret
  exact ⟨rfl, HR.out⟩
set_option maxRecDepth 100000 in
set_option maxHeartbeats 4000000 in
theorem do_14 (P : Nat) (A cn cm : Int) (con : Bool) (ct cx cy ce : ByteArray) (np : Option Addr) (nn nc : Nat) {v0 v1 v2 v3 v4 v5 v6 v7 v8 v9 v10 v11 v12 v13 v14 v15 v16 v17 v18 v20 v21 v22 v23 : Value} (w : World) (R : World → Prop) (hP : Blk w P 159 #[v0, v1, v2, v3, v4, v5, v6, v7, v8, v9, v10, v11, v12, v13, v14, v15, v16, v17, v18, .bool false, v20, v21, v22, v23, .bool false]) (h : Calls Tryz.prog 107 #[.pointer (some ⟨P, 0, none⟩)] (w.alloc (.cells #[.int .i64 A, .int .i64 14, .int .i64 cn, .int .i64 cm, .bool con, .string ct, .string cx, .string cy, .string ce, .string ce, .slice np nn nc, .slice none 0 0] 103)) fun e w' => e = .returned (.int .i64 0) ∧ R w') :
    Calls Tryz.prog 63 #[.pointer (some ⟨P, 0, none⟩), .agg #[.int .i64 A, .int .i64 14, .int .i64 cn, .int .i64 cm, .bool con, .string ct, .string cx, .string cy, .string ce, .string ce, .slice np nn nc, .slice none 0 0]] w fun e w' => e = .returned (.int .i64 0) ∧ R w' := by
  have c := hP.cell
  have l := hP.lt
  have H := Lib.hid h
  clear h hP
  go_enter Tryz.func63, Tryz.ntmps63
  go_wp2_with (go_at_call 107; refine (H.out).mono ?_; rintro e w1 ⟨rfl, hR⟩)
  have HR := Lib.hid hR
  clear hR
  go_wp2_with fail
  go_ret
  exact ⟨rfl, HR.out⟩
set_option maxRecDepth 100000 in
set_option maxHeartbeats 4000000 in
theorem do_5 (P : Nat) (A cn cm : Int) (con : Bool) (ct cx cy ce : ByteArray) (np : Option Addr) (nn nc : Nat) (gL capL : Nat) {v0 v1 v2 v3 v4 v5 v6 v7 v8 v9 v10 v11 v12 v13 v14 v15 v16 v17 v18 v20 v22 v23 : Value} (w : World) (hP : Blk w P 159 #[v0, v1, v2, v3, v4, v5, v6, v7, v8, v9, v10, v11, v12, v13, v14, v15, v16, v17, v18, .bool false, v20, .slice (some ⟨gL, 0, none⟩) 1 capL, v22, v23, .bool false]) :
    Calls Tryz.prog 63 #[.pointer (some ⟨P, 0, none⟩), .agg #[.int .i64 A, .int .i64 5, .int .i64 cn, .int .i64 cm, .bool con, .string ct, .string cx, .string cy, .string ce, .string ce, .slice np nn nc, .slice none 0 0]] w fun e w' => e = .returned (.int .i64 0) ∧ Blk w' P 159 #[v0, v1, v2, v3, v4, v5, v6, v7, v8, v9, v10, v11, v12, v13, v14, v15, v16, v17, v18, .bool false, v20, .slice (some ⟨gL, 0, none⟩) 1 capL, v22, v23, .bool true] ∧ Only [P] w w' := by
  have c := hP.cell
  have f := hP.frozen
  have l := hP.lt
  have HP := Lib.hid hP
  clear hP
  go_enter Tryz.func63, Tryz.ntmps63
  go_wp2_with fail
  go_ret
  exact ⟨rfl, (HP.out.set_ 24 _ rfl).alloc _, by (repeat' (first | (with_reducible exact Only.refl _ _) | (with_reducible assumption) | (with_reducible refine Only.drewN ?_ _) | (with_reducible refine Only.drew ?_) | (with_reducible refine Only.alloc ?_ _) | (with_reducible refine Only.setCell ?_ ?_ _) | (left; simp; done) | (right; omega) | (right; simp; done) | (right; simp; omega)))⟩
end Go.Proofs.YtfajckkbinbpiaaGreatDoor
namespace Go.Proofs.YtfajckkbinbpiaaGreatDoor
open Go.RowKit
set_option linter.unusedVariables false
set_option linter.unusedSimpArgs false

theorem info85 : (Tryz.prog.info? 162).map (fun i => (i.zero, i.size, i.bytes)) = some (some (.agg #[.bool false, .int .i64 0, .int .i64 0, .int .i64 0, .int .i64 0, .int .i64 0, .slice none 0 0]), 7, 72) := by kernel_rfl
/-- What a level opened leaves. -/
def Opened (P B gL : Nat) (pc : Value → Array Value) (lcs : Array Value) (new : List Value) (w w' : World) : Prop :=
  ∃ g cap lcs', Blk w' P 159 (pc (.slice (some ⟨g, 0, none⟩) 2 cap)) ∧ Blk w' g 162 lcs' ∧ lcs'.size = cap * 7 ∧ 2 ≤ cap ∧ cap ≤ maxLen ∧ B ≤ g ∧ lcs'.toList.take 14 = lcs.toList.take 7 ++ new ∧ Only [P, gL] w w' ∧ (g = gL ∨ w.heap.size ≤ g)
theorem own_of_levels {w : World} {gL B capL : Nat} {lcs : Array Value} (hL : Blk w gL 162 lcs) (hsz : lcs.size = capL * 7) (hcap : 1 ≤ capL) (hmx : capL ≤ maxLen) (hB : B ≤ gL) : w.ownsRow B 162 7 (.slice (some ⟨gL, 0, none⟩) 1 capL) 1 (lcs.toList.take 7) :=
  ⟨by rw [List.length_take, Array.length_toList, hsz]; omega, .inr ⟨gL, capL, lcs, rfl, hB, hL, hcap, hmx, hsz, rfl⟩⟩
theorem opened_of {P B gL capL : Nat} {pc : Value → Array Value} {lcs : Array Value} {new : List Value} {w u w3 : World} {g cap : Nat} (hpc : ∀ a b, (pc a).setIfInBounds 21 b = pc b) (u1 : Blk u P 159 (pc (.slice (some ⟨gL, 0, none⟩) 1 capL))) (u2 : Blk u gL 162 lcs) (hown : u.ownsRow B 162 7 (.slice (some ⟨gL, 0, none⟩) 1 capL) 1 (lcs.toList.take 7)) (u5 : Only [] w u)
    (h3 : w3.ownsRow B 162 7 (.slice (some ⟨g, 0, none⟩) 2 cap) 2 (lcs.toList.take 7 ++ new)) (hgrow : u.grownBy w3 (some gL)) (hat : some gL = some g ∨ g = u.heap.size) :
    w3.cell? ⟨P, 21, none⟩ = (pc (.slice (some ⟨gL, 0, none⟩) 1 capL))[21]? ∧ w3.frozen? ⟨P, 21, none⟩ = false ∧ Opened P B gL pc lcs new w (w3.setCell ⟨P, 21, none⟩ (.slice (some ⟨g, 0, none⟩) 2 cap)) := by
  have hne : P ≠ gL := u1.ne_ u2 (by decide)
  have k3 := u1.grown hgrow (by simpa using hne)
  refine ⟨k3.cell 21, k3.frozen 21, ?_⟩
  rcases h3.2 with ⟨h, _⟩ | ⟨g', cap', cur, he, hb, hh, h5, h6, h7, h8⟩
  · cases h
  · simp only [Value.slice.injEq, Option.some.injEq, Addr.mk.injEq, and_true, true_and] at he
    obtain ⟨rfl, rfl⟩ := he
    have hgP : g ≠ P := fun e => by subst e; unfold Blk at k3; rw [hh] at k3; cases k3
    have hO : Only [P, gL] w w3 := (u5.mono (by simp)).grown hgrow (by intro b hb; injection hb with hb; simp [hb])
    refine ⟨g, cap, cur, k3.set_ 21 _ (hpc _ _), Blk.far hh (by simpa using hgP) _, h7, h5, h6, hb, by simpa using h8, hO.setCell (by simp) _, ?_⟩
    rcases hat with h | h
    · left; injection h with h; exact h.symm
    · right; rw [h]; exact u5.size
set_option maxRecDepth 100000 in
set_option maxHeartbeats 4000000 in
theorem beginBlock_c (P M gL capL B : Nat) (A : Int) {v0 v1 v2 v3 v4 v5 v7 v8 v9 v10 v11 v12 v13 v14 v15 v16 v17 v18 v19 v20 v22 v23 v24 : Value} {lcs : Array Value} (es : Array MapEntry) (clk : Nat) (w : World) (hP : Blk w P 159 #[v0, v1, v2, v3, v4, v5, .map (some M), v7, v8, v9, v10, v11, v12, v13, v14, v15, v16, v17, v18, v19, v20, .slice (some ⟨gL, 0, none⟩) 1 capL, v22, v23, v24]) (hM : IsMap w M es clk) (hf : Instr.findNow (.int .i64) (.int .i64 20) es.toList 0 = some none) (hL : Blk w gL 162 lcs) (hsz : lcs.size = capL * 7) (hcap : 1 ≤ capL) (hmx : capL ≤ maxLen) (hB : B ≤ gL) :
    Calls Tryz.prog 104 #[.pointer (some ⟨P, 0, none⟩), .agg #[.int .i64 A, .int .i64 11, .int .i64 20, .int .i64 0, .bool false, .string { data := #[] }, .string { data := #[] }, .string { data := #[] }, .string { data := #[] }, .string { data := #[] }, .slice none 0 0, .slice none 0 0]] w fun e w' => e = .returned (.int .i64 0) ∧ Opened P B gL (fun lv => #[v0, v1, v2, v3, v4, v5, .map (some M), v7, v8, v9, v10, v11, v12, v13, v14, v15, v16, v17, v18, v19, v20, lv, v22, v23, v24]) lcs [.bool false, .int .i64 20, .int .i64 0, .int .i64 0, .int .i64 0, .int .i64 0, .slice none 0 0] w w' := by
  have l := hP.lt
  have HP := Lib.hid hP
  have HM := Lib.hid hM
  have HL := Lib.hid hL
  have HF := Lib.hid hf
  clear hP hM hL hf
  go_enter Tryz.func104, Tryz.ntmps104
  go_wp2_with fail
  refine (taken_no P M gL capL 20 es clk _ (HP.out.alloc _) (HM.out.alloc _) HF.out hcap).mono ?_
  rintro e u ⟨rfl, hb⟩
  have u5 : Only [] w u := ((Only.refl _ _).alloc _).below hb (by simp)
  have u1 : Blk u P 159 #[v0, v1, v2, v3, v4, v5, .map (some M), v7, v8, v9, v10, v11, v12, v13, v14, v15, v16, v17, v18, v19, v20, .slice (some ⟨gL, 0, none⟩) 1 capL, v22, v23, v24] := (HP.out.alloc (.cells #[.int .i64 A, .int .i64 11, .int .i64 20, .int .i64 0, .bool false, .string { data := #[] }, .string { data := #[] }, .string { data := #[] }, .string { data := #[] }, .string { data := #[] }, .slice none 0 0, .slice none 0 0] 103)).below hb (by simp; omega)
  have u2 : Blk u gL 162 lcs := u5.blk HL.out (by simp)
  have uC : Blk u w.heap.size 103 #[.int .i64 A, .int .i64 11, .int .i64 20, .int .i64 0, .bool false, .string { data := #[] }, .string { data := #[] }, .string { data := #[] }, .string { data := #[] }, .string { data := #[] }, .slice none 0 0, .slice none 0 0] := (Blk.new w 103 #[.int .i64 A, .int .i64 11, .int .i64 20, .int .i64 0, .bool false, .string { data := #[] }, .string { data := #[] }, .string { data := #[] }, .string { data := #[] }, .string { data := #[] }, .slice none 0 0, .slice none 0 0]).below hb (by simp)
  have p21 : u.cell? ⟨P, 21, none⟩ = some (.slice (some ⟨gL, 0, none⟩) 1 capL) := u1.cell 21
  clear hb
  go_wp2_with fail
  have hown0 : ((u.alloc (.cells #[.bool false, .int .i64 20, .int .i64 0, .int .i64 0, .int .i64 0, .int .i64 0, .slice none 0 0] 162)).drew).ownsRow B 162 7 (.slice (some ⟨gL, 0, none⟩) 1 capL) 1 (lcs.toList.take 7) := ((own_of_levels u2 hsz hcap hmx hB).alloc _).drew
  have hN : ∀ j v, ([.bool false, .int .i64 20, .int .i64 0, .int .i64 0, .int .i64 0, .int .i64 0, .slice none 0 0] : List Value)[j]? = some v → ((u.alloc (.cells #[.bool false, .int .i64 20, .int .i64 0, .int .i64 0, .int .i64 0, .int .i64 0, .slice none 0 0] 162)).drew).cell? ((⟨u.heap.size, 0, none⟩ : Addr).add j) = some v :=
    World.news_of_block (cs := #[.bool false, .int .i64 20, .int .i64 0, .int .i64 0, .int .i64 0, .int .i64 0, .slice none 0 0]) (Blk.newAt (w := u) rfl)
  have hO : ∀ v ∈ ([.bool false, .int .i64 20, .int .i64 0, .int .i64 0, .int .i64 0, .int .i64 0, .slice none 0 0] : List Value), v.oneCell' = true := by
    intro v hv
    simp only [List.mem_cons, List.not_mem_nil, or_false] at hv
    rcases hv with rfl | rfl | rfl | rfl | rfl | rfl | rfl <;> rfl
  have hsz2 : B ≤ ((u.alloc (.cells #[.bool false, .int .i64 20, .int .i64 0, .int .i64 0, .int .i64 0, .int .i64 0, .slice none 0 0] 162)).drew).heap.size := by have := u2.lt; simp; omega
  obtain ⟨i85, hi85, hz0, hz1, hz2⟩ := info_parts info85
  have HI := Lib.hid (And.intro hi85 (And.intro hz0 (And.intro hz1 hz2)))
  have hZ : Hid ((Value.agg #[.bool false, .int .i64 0, .int .i64 0, .int .i64 0, .int .i64 0, .int .i64 0, .slice none 0 0]).cells.size = 7) := Lib.hid (by kernel_rfl)
  have c := u1.cell
  have f := u1.frozen
  have l := u1.lt
  have cC := uC.cell
  have lC := uC.lt
  have HU1 := Lib.hid u1
  have HU2 := Lib.hid u2
  have HU5 := Lib.hid u5
  have HOWN := Lib.hid hown0
  have HN := Lib.hid hN
  have HOO := Lib.hid hO
  have HSZ := Lib.hid hsz2
  clear u1 u2 u5 uC hown0 hN hO hsz2 hi85 hz0 hz1 hz2 hsz hcap hmx
  go_region_law (refine step_append_lies _ rfl (.tmp 19) (.tmp 23) 152 rfl B 162 i85 _ 7 72 Tryz.underlying152 HI.out.1 HI.out.2.1 HI.out.2.2.1 HI.out.2.2.2 hZ.out (by decide) (.slice (some ⟨gL, 0, none⟩) 1 capL) 1 (lcs.toList.take 7) (by simp [Act.eval, Act.put]) HOWN.out ⟨u.heap.size, 0, none⟩ 1 1 [.bool false, .int .i64 20, .int .i64 0, .int .i64 0, .int .i64 0, .int .i64 0, .slice none 0 0] (by simp [Act.eval, Act.put]) rfl HN.out HOO.out (by decide) (by decide) (by decide) HSZ.out _ rfl ?_; intro g cap w3 hown hgrow hat hlt; obtain ⟨cP, fP, hA⟩ := opened_of (w := w) (pc := (fun lv => #[v0, v1, v2, v3, v4, v5, .map (some M), v7, v8, v9, v10, v11, v12, v13, v14, v15, v16, v17, v18, v19, v20, lv, v22, v23, v24])) (fun _ _ => rfl) ((HU1.out.alloc _).drew) ((HU2.out.alloc _).drew) HOWN.out ((HU5.out.alloc _).drew) hown hgrow hat; have HA := Lib.hid hA; simp only [List.getElem?_toArray, List.getElem?_cons_succ, List.getElem?_cons_zero] at cP; clear hown hgrow hat hA)
  all_goals
    go_wp2_with fail
    go_ret
    exact ⟨rfl, HA.out⟩
end Go.Proofs.YtfajckkbinbpiaaGreatDoor
