/- cert.accepted: is a certificate accepted for a map? No condition but that the library's table lies as it should. -/
import Derived.Test.YtibdipfhfaeooaaGreatDoorZT
import Derived.Test.YtibdipfhfaeooaaGreatDoorZO
import Derived.Test.YtibdipfhfaeooaaGreatDoorZP
import Derived.Test.YtibdipfhfaeooaaGreatDoorZK
import Derived.Test.YtibdipfhfaeooaaGreatDoorZD
import Derived.Test.YtibdipfhfaeooaaGreatDoorZM
import Derived.Maps.RangeWalk
set_option linter.unusedVariables false
set_option linter.unusedSimpArgs false
namespace Go.Proofs.YtibdipfhfaeooaaGreatDoor
open Go.RowKit

abbrev o29e96 : Oper := { dst := some 20, op := Go.Op.load 24 (Go.Operand.tmp 2), type := 24, pos := "cert.go:163", after := #[], guard := none }
abbrev o541ab : Oper := { dst := some 22, op := Go.Op.unOp Go.UnOp.not 4 (Go.Operand.tmp 21), type := 4, pos := "cert.go:163", after := #[{ on := 1, ground := Go.Ground.data }], guard := none }
abbrev o41c3e : Oper := { dst := some 23, op := Go.Op.move (Go.Operand.tmp 22), type := 4, pos := "cert.go:163", after := #[{ on := 2, ground := Go.Ground.data }, { on := 1, ground := Go.Ground.chain }], guard := none }
abbrev o7adc1 : Oper := { dst := some 24, op := Go.Op.fieldAddr 24 (Go.Operand.tmp 2) 0, type := 0, pos := "cert.go:163", after := #[{ on := 3, ground := Go.Ground.guard }], guard := some (3, false) }
abbrev o662b3 : Oper := { dst := some 25, op := Go.Op.load 3 (Go.Operand.tmp 24), type := 3, pos := "cert.go:163", after := #[{ on := 4, ground := Go.Ground.data }, { on := 3, ground := Go.Ground.guard }], guard := some (3, false) }
abbrev o38d97 : Oper := { dst := some 26, op := Go.Op.fieldAddr 27 (Go.Operand.tmp 3) 0, type := 0, pos := "cert.go:163", after := #[{ on := 3, ground := Go.Ground.guard }], guard := some (3, false) }
abbrev o2d73c : Oper := { dst := some 27, op := Go.Op.load 3 (Go.Operand.tmp 26), type := 3, pos := "cert.go:163", after := #[{ on := 6, ground := Go.Ground.data }, { on := 3, ground := Go.Ground.guard }], guard := some (3, false) }
abbrev occ9d9 : Oper := { dst := some 29, op := Go.Op.unOp Go.UnOp.not 4 (Go.Operand.tmp 28), type := 4, pos := "cert.go:163", after := #[{ on := 8, ground := Go.Ground.data }, { on := 3, ground := Go.Ground.guard }], guard := some (3, false) }
abbrev o1b119 : Oper := { dst := some 30, op := Go.Op.pick (Go.Operand.tmp 23) (Go.Operand.const (Go.Value.bool true)) (Go.Operand.tmp 29), type := 4, pos := "cert.go:163", after := #[{ on := 3, ground := Go.Ground.data }, { on := 9, ground := Go.Ground.data }], guard := none }
abbrev oa99f7 : Oper := { dst := some 31, op := Go.Op.move (Go.Operand.tmp 30), type := 4, pos := "cert.go:163", after := #[{ on := 10, ground := Go.Ground.data }, { on := 8, ground := Go.Ground.chain }], guard := none }
abbrev oe90e2 : Oper := { dst := some 32, op := Go.Op.load 83 (Go.Operand.tmp 5), type := 83, pos := "cert.go:163", after := #[{ on := 11, ground := Go.Ground.guard }], guard := some (11, false) }
abbrev o20884 : Oper := { dst := some 33, op := Go.Op.call { callee := Go.Callee.value (Go.Operand.func 79), args := #[Go.Operand.tmp 32], argTypes := #[83] }, type := 4, pos := "cert.go:163", after := #[{ on := 12, ground := Go.Ground.data }, { on := 11, ground := Go.Ground.chain }, { on := 11, ground := Go.Ground.guard }], guard := some (11, false) }
abbrev oef991 : Oper := { dst := some 34, op := Go.Op.pick (Go.Operand.tmp 31) (Go.Operand.const (Go.Value.bool true)) (Go.Operand.tmp 33), type := 4, pos := "cert.go:163", after := #[{ on := 11, ground := Go.Ground.data }, { on := 13, ground := Go.Ground.data }], guard := none }
abbrev oefc51 : Oper := { dst := some 35, op := Go.Op.move (Go.Operand.tmp 34), type := 4, pos := "cert.go:163", after := #[{ on := 14, ground := Go.Ground.data }, { on := 13, ground := Go.Ground.chain }], guard := none }
abbrev o3ba3d : Oper := { dst := some 36, op := Go.Op.load 83 (Go.Operand.tmp 5), type := 83, pos := "cert.go:163", after := #[{ on := 15, ground := Go.Ground.guard }], guard := some (15, false) }
abbrev oacbb3 : Oper := { dst := some 37, op := Go.Op.call { callee := Go.Callee.value (Go.Operand.func 58), args := #[Go.Operand.const (Go.Value.int Go.IntKind.i64 20000)], argTypes := #[3] }, type := 83, pos := "cert.go:163", after := #[{ on := 15, ground := Go.Ground.chain }, { on := 15, ground := Go.Ground.guard }], guard := some (15, false) }
abbrev o6ccbc : Oper := { dst := some 38, op := Go.Op.call { callee := Go.Callee.value (Go.Operand.func 57), args := #[Go.Operand.tmp 36, Go.Operand.tmp 37], argTypes := #[83, 83] }, type := 3, pos := "cert.go:163", after := #[{ on := 16, ground := Go.Ground.data }, { on := 17, ground := Go.Ground.data }, { on := 17, ground := Go.Ground.chain }, { on := 15, ground := Go.Ground.guard }], guard := some (15, false) }
abbrev o22d81 : Oper := { dst := some 39, op := Go.Op.binOp Go.BinOp.gtr 3 (Go.Operand.tmp 38) (Go.Operand.const (Go.Value.int Go.IntKind.i64 0)) 3, type := 4, pos := "cert.go:163", after := #[{ on := 18, ground := Go.Ground.data }, { on := 15, ground := Go.Ground.guard }], guard := some (15, false) }
abbrev o2eb12 : Oper := { dst := some 40, op := Go.Op.pick (Go.Operand.tmp 35) (Go.Operand.const (Go.Value.bool true)) (Go.Operand.tmp 39), type := 4, pos := "cert.go:163", after := #[{ on := 15, ground := Go.Ground.data }, { on := 19, ground := Go.Ground.data }], guard := none }
abbrev o175c4 : Oper := { dst := some 41, op := Go.Op.move (Go.Operand.tmp 40), type := 4, pos := "cert.go:163", after := #[{ on := 20, ground := Go.Ground.data }, { on := 18, ground := Go.Ground.chain }], guard := none }
abbrev o2c109 : Oper := { dst := some 42, op := Go.Op.load 24 (Go.Operand.tmp 2), type := 24, pos := "cert.go:163", after := #[{ on := 21, ground := Go.Ground.guard }], guard := some (21, false) }
abbrev o0f1bc : Oper := { dst := some 43, op := Go.Op.fieldAddr 27 (Go.Operand.tmp 3) 2, type := 0, pos := "cert.go:163", after := #[{ on := 21, ground := Go.Ground.guard }], guard := some (21, false) }
abbrev of53a1 : Oper := { dst := some 44, op := Go.Op.load 25 (Go.Operand.tmp 43), type := 25, pos := "cert.go:163", after := #[{ on := 23, ground := Go.Ground.data }, { on := 21, ground := Go.Ground.guard }], guard := some (21, false) }
abbrev ocaaab : Oper := { dst := some 45, op := Go.Op.call { callee := Go.Callee.value (Go.Operand.func 95), args := #[Go.Operand.tmp 42, Go.Operand.tmp 44], argTypes := #[24, 25] }, type := 4, pos := "cert.go:163", after := #[{ on := 22, ground := Go.Ground.data }, { on := 24, ground := Go.Ground.data }, { on := 21, ground := Go.Ground.chain }, { on := 21, ground := Go.Ground.guard }], guard := some (21, false) }
abbrev oe6de8 : Oper := { dst := some 46, op := Go.Op.unOp Go.UnOp.not 4 (Go.Operand.tmp 45), type := 4, pos := "cert.go:163", after := #[{ on := 25, ground := Go.Ground.data }, { on := 21, ground := Go.Ground.guard }], guard := some (21, false) }
abbrev oc6ddd : Oper := { dst := some 47, op := Go.Op.pick (Go.Operand.tmp 41) (Go.Operand.const (Go.Value.bool true)) (Go.Operand.tmp 46), type := 4, pos := "cert.go:163", after := #[{ on := 21, ground := Go.Ground.data }, { on := 26, ground := Go.Ground.data }], guard := none }
attribute [local go_sem] o29e96 o541ab o41c3e o7adc1 o662b3 o38d97 o2d73c occ9d9 o1b119 oa99f7 oe90e2 o20884 oef991 oefc51 o3ba3d oacbb3 o6ccbc o22d81 o2eb12 o175c4 o2c109 o0f1bc of53a1 ocaaab oe6de8 oc6ddd
def nmS (ls : List (List Int)) : List ByteArray := ls.map fun l => tS (gd l 0)
theorem nmS_in {ls : List (List Int)} {z : Int} : tS z ∈ nmS ls ↔ ∃ i, i < ls.length ∧ gd (lpi ls i) 0 = z := by
 unfold nmS
 rw [List.mem_map]
 constructor
 ·rintro ⟨x, hx, e⟩
  obtain ⟨i, hi, rfl⟩ := List.mem_iff_getElem.1 hx
  exact ⟨i, hi, by rw [lpi_lt hi]; exact tS_inj e⟩
 ·rintro ⟨i, hi, e⟩
  exact ⟨_, lpi_mem hi, by rw [e]⟩
theorem nmS_take (ls : List (List Int)) {i : Nat} (h : i < ls.length) : nmS (ls.take i) ++ [tS (gd (lpi ls i) 0)] = nmS (ls.take (i + 1)) := by
 unfold nmS
 rw [List.take_succ_eq_append_getElem h, List.map_append, lpi_lt h]
 rfl
theorem dlN_small {i : Nat} (h : i ≤ 20000) : dlN (i : Int).natAbs ≤ 2000 := by
 have e : (i : Int).natAbs = i := by omega
 rw [e]
 unfold dlN
 rcases Nat.eq_zero_or_pos i with h0 | h0
 ·subst h0; decide
 ·rw [txN_length h0]
  have := digs_len_le (B := 10) (k := 5) (by omega) (show i < 10 ^ 5 by omega)
  omega
/-- The bound reached so far. -/
def AccN (M : Mp) (ls : List (List Int)) (i : Nat) : Prop := ∀ k : Nat, k < i → (flwA M 20001 [] (k : Int)).1 = 0 ∧ ∃ j, j < ls.length ∧ gd (lpi ls j) 0 = gd (flwA M 20001 [] (k : Int)).2.2 0
set_option maxRecDepth 100000 in
set_option maxHeartbeats 32000000 in
theorem accepted_c (M : Mp) (Kz Bz : Int) (ls : List (List Int)) (v : Value) (A : Option Addr) (c : Nat) (w : World) (hM : IsM w v M) (hok : okM M) (hBz : dlN Bz.natAbs ≤ 2000) (hL : LsL w A c ls) (hz : ∀ l ∈ ls, ∀ z ∈ l, dlN z.natAbs ≤ 2000) (ht : Tb w) (B : Bool) (hB : B = true ↔ (1 ≤ Kz ∧ Acc M Kz.toNat Bz ls)) :
  Calls Tryz.prog 49 #[v, .agg #[.int .i64 Kz, .string (tS Bz), .slice A ls.length c]] w fun e w' => e = .returned (.bool B) ∧ Below w.heap.size w w' := by
 obtain ⟨md, Am, nm, cm, A', n', c', rfl, HM⟩ := hM.form
 have HTB := Lib.hid ht
 have HOK := Lib.hid hok
 have HL := Lib.hid hL
 have HZ := Lib.hid hz
 have HBB := Lib.hid hB
 have HBZ := Lib.hid hBz
 have hF : Hid (¬ (1 ≤ Kz ∧ Acc M Kz.toNat Bz ls) → B = false) := fun h => by
  cases e : B with
  | false => rfl
  | true => exact absurd (HBB.out.1 e) h
 have HSL := Lib.hid HM.out.sl
 have hlc : ls.length ≤ 9223372036854775807 := by
  have := hL.1
  rw [List.length_map] at this
  omega
 obtain ⟨n, hn⟩ : ∃ n, ls.length = n := ⟨_, rfl⟩
 have HN := Lib.hid hn
 rw [hn] at hlc ⊢
 clear hM hok hL hz ht hB hn hBz
 go_enter Tryz.func49, Tryz.ntmps49
 go_upto_region 1 with fail
 generalize hW : (w.alloc (Obj.cells #[Value.int .i64 md, Value.slice Am nm cm, Value.slice A' n' c'] 24)).alloc _ = W
 have HB : Below w.heap.size w W := by subst hW; exact below_alloc (below_alloc (Below.refl _ _) _) _
 have V3 : VM W w.heap.size md Am nm cm A' n' c' M := by subst hW; exact (VM.new w 24 HM.out).keep (below_alloc (Below.refl _ _) _)
 have VP : VQ W (w.heap.size + 1) (.int .i64 Kz) (.string (tS Bz)) (.slice A n c) := by
  subst hW
  have := VQ.new (x := .int .i64 Kz) (y := .string (tS Bz)) (z := .slice A n c) (w.alloc (Obj.cells #[Value.int .i64 md, Value.slice Am nm cm, Value.slice A' n' c'] 24)) 27
  rwa [show (w.alloc (Obj.cells #[Value.int .i64 md, Value.slice Am nm cm, Value.slice A' n' c'] 24)).heap.size = w.heap.size + 1 by simp] at this
 clear hW HM
 have p1 := VP.c1
 go_wp2_with fail
 (with_reducible refine (wParse_c Bz _ (by have := HBZ.out; omega)).mono ?_)
 rintro e w2 ⟨v, rfl, hv, hb⟩
 obtain ⟨n2, A2, m2, k2, rfl, H2⟩ := hv.form
 clear hv p1
 replace HB := below_step HB hb
 replace V3 := V3.keep hb
 replace VP := VP.keep hb
 clear hb
 go_upto_region 2 with fail
 have V5 := VX.new w2 83 H2.out
 have hb := below_alloc (Below.refl w2.heap.size w2) (Obj.cells #[Value.bool n2, Value.slice A2 m2 k2] 83)
 replace V3 := V3.keep hb
 replace VP := VP.keep hb
 replace HB := below_step HB hb
 generalize hWa : w2.alloc (Obj.cells #[Value.bool n2, Value.slice A2 m2 k2] 83) = wa at *
 obtain ⟨b5, hb5⟩ : ∃ b, w2.heap.size = b := ⟨_, rfl⟩
 rw [hb5] at V5 ⊢
 clear hWa hb hb5 H2
 replace V3 := V3.drew; replace VP := VP.drew; replace V5 := V5.drew; replace HB := below_drew HB
 generalize hWd : wa.drew = wd at *
 have LB := Lib.hid (lenB64_dl HBZ.out)
 by_cases hri : Rise M
 rotate_left
 ·have HRN := Lib.hid hri
  clear hri
  refine wp_region_F (fun w' => w'.cell? ⟨w.heap.size, 0, none⟩ = some (.int .i64 md) ∧ w'.cell? ⟨w.heap.size, 1, none⟩ = some (.slice Am nm cm) ∧ w'.cell? ⟨w.heap.size, 2, none⟩ = some (.slice A' n' c') ∧ w'.cell? ⟨w.heap.size + 1, 0, none⟩ = some (.int .i64 Kz) ∧ w'.cell? ⟨w.heap.size + 1, 2, none⟩ = some (.slice A n c) ∧ w'.cell? ⟨b5, 0, none⟩ = some (.bool n2) ∧ w'.cell? ⟨b5, 1, none⟩ = some (.slice A2 m2 k2)) [] (by kernel_rfl) (by rw [hWd]; exact ⟨V3.c0, V3.c1, V3.c2, VP.c0, VP.c2, V5.c0, V5.c1⟩) (fun hHeld => ?_)
  rw [hWd] at hHeld ⊢
  refine tF 0 o29e96 hHeld ?_; try go_frame
  refine wpAnyF_one (i := 1) (by kernel_rfl) rfl (fun K hK => ?_)
  go_simp
  (go_at_call 54; (with_reducible refine (rising_c M _ _ V3.im.out false ⟨fun h => (by cases h), fun h => absurd h HRN.out⟩).mono ?_); rintro e w4 ⟨rfl, hb⟩; replace V3 := V3.keep hb; replace VP := VP.keep hb; replace V5 := V5.keep hb; replace HB := below_step HB hb; clear hb)
  refine hK.out _ _ (by exact ⟨V3.c0, V3.c1, V3.c2, VP.c0, VP.c2, V5.c0, V5.c1⟩) (fun hHeld => ?_)
  clear hK K
  try go_frame
  refine tF 2 o541ab hHeld ?_; try go_frame
  refine tF 3 o41c3e hHeld ?_; try go_frame
  refine nF 4 o7adc1 hHeld ?_; try go_frame
  refine nF 5 o662b3 hHeld ?_; try go_frame
  refine nF 6 o38d97 hHeld ?_; try go_frame
  refine nF 7 o2d73c hHeld ?_; try go_frame
  refine nF 8 ({ dst := some 28, op := Go.Op.call { callee := Go.Callee.value (Go.Operand.func 55), args := #[Go.Operand.tmp 25, Go.Operand.tmp 27], argTypes := #[3, 3] }, type := 4, pos := "cert.go:163", after := #[{ on := 5, ground := Go.Ground.data }, { on := 7, ground := Go.Ground.data }, { on := 3, ground := Go.Ground.chain }, { on := 3, ground := Go.Ground.guard }], guard := some (3, false) }) hHeld ?_; try go_frame
  refine nF 9 occ9d9 hHeld ?_; try go_frame
  refine tF 10 o1b119 hHeld ?_; try go_frame
  refine tF 11 oa99f7 hHeld ?_; try go_frame
  refine nF 12 oe90e2 hHeld ?_; try go_frame
  refine nF 13 o20884 hHeld ?_; try go_frame
  refine tF 14 oef991 hHeld ?_; try go_frame
  refine tF 15 oefc51 hHeld ?_; try go_frame
  refine nF 16 o3ba3d hHeld ?_; try go_frame
  refine nF 17 oacbb3 hHeld ?_; try go_frame
  refine nF 18 o6ccbc hHeld ?_; try go_frame
  refine nF 19 o22d81 hHeld ?_; try go_frame
  refine tF 20 o2eb12 hHeld ?_; try go_frame
  refine tF 21 o175c4 hHeld ?_; try go_frame
  refine nF 22 o2c109 hHeld ?_; try go_frame
  refine nF 23 o0f1bc hHeld ?_; try go_frame
  refine nF 24 of53a1 hHeld ?_; try go_frame
  refine nF 25 ocaaab hHeld ?_; try go_frame
  refine nF 26 oe6de8 hHeld ?_; try go_frame
  refine tF 27 oc6ddd hHeld ?_; try go_frame
  refine wpAnyF_done (by kernel_rfl) ?_ _
  clear hHeld hWd
  have HR := Lib.hid (hF.out fun h => HRN.out h.2.rise)
  go_wp2
  go_ret
  exact ⟨by rw [HR.out] <;> rfl, HB⟩
 have HRS := Lib.hid hri
 clear hri
 have hmd : md = M.mod := HSL.out.1
 have hmd0 : 2 ≤ md := by rw [hmd]; exact HOK.out.1
 have hmd1 : md ≤ 12 := by rw [hmd]; exact HOK.out.2.1
 have HMD := Lib.hid hmd
 clear hmd
 by_cases hre : 1 ≤ Kz ∧ md ^ Kz.toNat ≤ 65536
 rotate_left
 ·have HRN := Lib.hid hre
  clear hre
  refine wp_region_F (fun w' => w'.cell? ⟨w.heap.size, 0, none⟩ = some (.int .i64 md) ∧ w'.cell? ⟨w.heap.size, 1, none⟩ = some (.slice Am nm cm) ∧ w'.cell? ⟨w.heap.size, 2, none⟩ = some (.slice A' n' c') ∧ w'.cell? ⟨w.heap.size + 1, 0, none⟩ = some (.int .i64 Kz) ∧ w'.cell? ⟨w.heap.size + 1, 2, none⟩ = some (.slice A n c) ∧ w'.cell? ⟨b5, 0, none⟩ = some (.bool n2) ∧ w'.cell? ⟨b5, 1, none⟩ = some (.slice A2 m2 k2)) [] (by kernel_rfl) (by rw [hWd]; exact ⟨V3.c0, V3.c1, V3.c2, VP.c0, VP.c2, V5.c0, V5.c1⟩) (fun hHeld => ?_)
  rw [hWd] at hHeld ⊢
  refine tF 0 o29e96 hHeld ?_; try go_frame
  refine wpAnyF_one (i := 1) (by kernel_rfl) rfl (fun K hK => ?_)
  go_simp
  (go_at_call 54; (with_reducible refine (rising_c M _ _ V3.im.out true ⟨fun _ => HRS.out, fun _ => rfl⟩).mono ?_); rintro e w4 ⟨rfl, hb⟩; replace V3 := V3.keep hb; replace VP := VP.keep hb; replace V5 := V5.keep hb; replace HB := below_step HB hb; clear hb)
  refine hK.out _ _ (by exact ⟨V3.c0, V3.c1, V3.c2, VP.c0, VP.c2, V5.c0, V5.c1⟩) (fun hHeld => ?_)
  clear hK K
  try go_frame
  refine tF 2 o541ab hHeld ?_; try go_frame
  refine tF 3 o41c3e hHeld ?_; try go_frame
  refine tF 4 o7adc1 hHeld ?_; try go_frame
  refine tF 5 o662b3 hHeld ?_; try go_frame
  refine tF 6 o38d97 hHeld ?_; try go_frame
  refine tF 7 o2d73c hHeld ?_; try go_frame
  refine wpAnyF_one (i := 8) (by kernel_rfl) rfl (fun K hK => ?_)
  go_simp
  (go_at_call 55; (with_reducible refine (rests_c md Kz _ hmd0 hmd1 false ⟨fun h => (by cases h), fun h => absurd h HRN.out⟩).mono ?_); rintro e w4 ⟨rfl, hb⟩; replace V3 := V3.keep hb; replace VP := VP.keep hb; replace V5 := V5.keep hb; replace HB := below_step HB hb; clear hb)
  refine hK.out _ _ (by exact ⟨V3.c0, V3.c1, V3.c2, VP.c0, VP.c2, V5.c0, V5.c1⟩) (fun hHeld => ?_)
  clear hK K
  try go_frame
  refine tF 9 occ9d9 hHeld ?_; try go_frame
  refine tF 10 o1b119 hHeld ?_; try go_frame
  refine tF 11 oa99f7 hHeld ?_; try go_frame
  refine nF 12 oe90e2 hHeld ?_; try go_frame
  refine nF 13 o20884 hHeld ?_; try go_frame
  refine tF 14 oef991 hHeld ?_; try go_frame
  refine tF 15 oefc51 hHeld ?_; try go_frame
  refine nF 16 o3ba3d hHeld ?_; try go_frame
  refine nF 17 oacbb3 hHeld ?_; try go_frame
  refine nF 18 o6ccbc hHeld ?_; try go_frame
  refine nF 19 o22d81 hHeld ?_; try go_frame
  refine tF 20 o2eb12 hHeld ?_; try go_frame
  refine tF 21 o175c4 hHeld ?_; try go_frame
  refine nF 22 o2c109 hHeld ?_; try go_frame
  refine nF 23 o0f1bc hHeld ?_; try go_frame
  refine nF 24 of53a1 hHeld ?_; try go_frame
  refine nF 25 ocaaab hHeld ?_; try go_frame
  refine nF 26 oe6de8 hHeld ?_; try go_frame
  refine tF 27 oc6ddd hHeld ?_; try go_frame
  refine wpAnyF_done (by kernel_rfl) ?_ _
  clear hHeld hWd
  have HR := Lib.hid (hF.out fun h => HRN.out ⟨h.1, by rw [HMD.out]; exact h.2.rests⟩)
  go_wp2
  go_ret
  exact ⟨by rw [HR.out] <;> rfl, HB⟩
 have HRE := Lib.hid hre
 obtain ⟨hk1, hrq⟩ := hre
 rw [HMD.out] at hrq
 have HRQ := Lib.hid hrq
 clear hrq
 by_cases hng : Bz < 0
 ·have HNE : Hid (decide (Bz < 0) = true) := decide_eq_true hng
  have HNG := Lib.hid hng
  clear hng
  refine wp_region_F (fun w' => w'.cell? ⟨w.heap.size, 0, none⟩ = some (.int .i64 md) ∧ w'.cell? ⟨w.heap.size, 1, none⟩ = some (.slice Am nm cm) ∧ w'.cell? ⟨w.heap.size, 2, none⟩ = some (.slice A' n' c') ∧ w'.cell? ⟨w.heap.size + 1, 0, none⟩ = some (.int .i64 Kz) ∧ w'.cell? ⟨w.heap.size + 1, 2, none⟩ = some (.slice A n c) ∧ w'.cell? ⟨b5, 0, none⟩ = some (.bool n2) ∧ w'.cell? ⟨b5, 1, none⟩ = some (.slice A2 m2 k2)) [] (by kernel_rfl) (by rw [hWd]; exact ⟨V3.c0, V3.c1, V3.c2, VP.c0, VP.c2, V5.c0, V5.c1⟩) (fun hHeld => ?_)
  rw [hWd] at hHeld ⊢
  refine tF 0 o29e96 hHeld ?_; try go_frame
  refine wpAnyF_one (i := 1) (by kernel_rfl) rfl (fun K hK => ?_)
  go_simp
  (go_at_call 54; (with_reducible refine (rising_c M _ _ V3.im.out true ⟨fun _ => HRS.out, fun _ => rfl⟩).mono ?_); rintro e w4 ⟨rfl, hb⟩; replace V3 := V3.keep hb; replace VP := VP.keep hb; replace V5 := V5.keep hb; replace HB := below_step HB hb; clear hb)
  refine hK.out _ _ (by exact ⟨V3.c0, V3.c1, V3.c2, VP.c0, VP.c2, V5.c0, V5.c1⟩) (fun hHeld => ?_)
  clear hK K
  try go_frame
  refine tF 2 o541ab hHeld ?_; try go_frame
  refine tF 3 o41c3e hHeld ?_; try go_frame
  refine tF 4 o7adc1 hHeld ?_; try go_frame
  refine tF 5 o662b3 hHeld ?_; try go_frame
  refine tF 6 o38d97 hHeld ?_; try go_frame
  refine tF 7 o2d73c hHeld ?_; try go_frame
  refine wpAnyF_one (i := 8) (by kernel_rfl) rfl (fun K hK => ?_)
  go_simp
  (go_at_call 55; (with_reducible refine (rests_c md Kz _ hmd0 hmd1 true ⟨fun _ => HRE.out, fun _ => rfl⟩).mono ?_); rintro e w4 ⟨rfl, hb⟩; replace V3 := V3.keep hb; replace VP := VP.keep hb; replace V5 := V5.keep hb; replace HB := below_step HB hb; clear hb)
  refine hK.out _ _ (by exact ⟨V3.c0, V3.c1, V3.c2, VP.c0, VP.c2, V5.c0, V5.c1⟩) (fun hHeld => ?_)
  clear hK K
  try go_frame
  refine tF 9 occ9d9 hHeld ?_; try go_frame
  refine tF 10 o1b119 hHeld ?_; try go_frame
  refine tF 11 oa99f7 hHeld ?_; try go_frame
  refine tF 12 oe90e2 hHeld ?_; try go_frame
  refine wpAnyF_one (i := 13) (by kernel_rfl) rfl (fun K hK => ?_)
  go_simp
  (go_at_call 79; (with_reducible refine (wNeg_c Bz _ _ V5.iz.out).mono ?_); rintro e w4 ⟨he, hb⟩; obtain rfl : e = .returned (.bool true) := (by rw [he, HNE.out]); clear he; replace V3 := V3.keep hb; replace VP := VP.keep hb; replace V5 := V5.keep hb; replace HB := below_step HB hb; clear hb)
  refine hK.out _ _ (by exact ⟨V3.c0, V3.c1, V3.c2, VP.c0, VP.c2, V5.c0, V5.c1⟩) (fun hHeld => ?_)
  clear hK K
  try go_frame
  refine tF 14 oef991 hHeld ?_; try go_frame
  refine tF 15 oefc51 hHeld ?_; try go_frame
  refine nF 16 o3ba3d hHeld ?_; try go_frame
  refine nF 17 oacbb3 hHeld ?_; try go_frame
  refine nF 18 o6ccbc hHeld ?_; try go_frame
  refine nF 19 o22d81 hHeld ?_; try go_frame
  refine tF 20 o2eb12 hHeld ?_; try go_frame
  refine tF 21 o175c4 hHeld ?_; try go_frame
  refine nF 22 o2c109 hHeld ?_; try go_frame
  refine nF 23 o0f1bc hHeld ?_; try go_frame
  refine nF 24 of53a1 hHeld ?_; try go_frame
  refine nF 25 ocaaab hHeld ?_; try go_frame
  refine nF 26 oe6de8 hHeld ?_; try go_frame
  refine tF 27 oc6ddd hHeld ?_; try go_frame
  refine wpAnyF_done (by kernel_rfl) ?_ _
  clear hHeld hWd
  have HR := Lib.hid (hF.out fun h => by have h1 := h.2.b0; have h2 := HNG.out; omega)
  go_wp2
  go_ret
  exact ⟨by rw [HR.out] <;> rfl, HB⟩
 have HNE : Hid (decide (Bz < 0) = false) := decide_eq_false hng
 have HNG := Lib.hid hng
 clear hng
 by_cases hbg : 20000 < Bz
 ·have hcm : 0 < icmp Bz 20000 := by
   apply Classical.byContradiction
   intro h
   by_cases h2 : icmp Bz 20000 = 0
   ·have := (icmp_eq _ _).1 h2; omega
   ·have := (icmp_lt' Bz 20000).1 (by omega); omega
  have HBG := Lib.hid hbg
  clear hbg
  refine wp_region_F (fun w' => w'.cell? ⟨w.heap.size, 0, none⟩ = some (.int .i64 md) ∧ w'.cell? ⟨w.heap.size, 1, none⟩ = some (.slice Am nm cm) ∧ w'.cell? ⟨w.heap.size, 2, none⟩ = some (.slice A' n' c') ∧ w'.cell? ⟨w.heap.size + 1, 0, none⟩ = some (.int .i64 Kz) ∧ w'.cell? ⟨w.heap.size + 1, 2, none⟩ = some (.slice A n c) ∧ w'.cell? ⟨b5, 0, none⟩ = some (.bool n2) ∧ w'.cell? ⟨b5, 1, none⟩ = some (.slice A2 m2 k2)) [] (by kernel_rfl) (by rw [hWd]; exact ⟨V3.c0, V3.c1, V3.c2, VP.c0, VP.c2, V5.c0, V5.c1⟩) (fun hHeld => ?_)
  rw [hWd] at hHeld ⊢
  refine tF 0 o29e96 hHeld ?_; try go_frame
  refine wpAnyF_one (i := 1) (by kernel_rfl) rfl (fun K hK => ?_)
  go_simp
  (go_at_call 54; (with_reducible refine (rising_c M _ _ V3.im.out true ⟨fun _ => HRS.out, fun _ => rfl⟩).mono ?_); rintro e w4 ⟨rfl, hb⟩; replace V3 := V3.keep hb; replace VP := VP.keep hb; replace V5 := V5.keep hb; replace HB := below_step HB hb; clear hb)
  refine hK.out _ _ (by exact ⟨V3.c0, V3.c1, V3.c2, VP.c0, VP.c2, V5.c0, V5.c1⟩) (fun hHeld => ?_)
  clear hK K
  try go_frame
  refine tF 2 o541ab hHeld ?_; try go_frame
  refine tF 3 o41c3e hHeld ?_; try go_frame
  refine tF 4 o7adc1 hHeld ?_; try go_frame
  refine tF 5 o662b3 hHeld ?_; try go_frame
  refine tF 6 o38d97 hHeld ?_; try go_frame
  refine tF 7 o2d73c hHeld ?_; try go_frame
  refine wpAnyF_one (i := 8) (by kernel_rfl) rfl (fun K hK => ?_)
  go_simp
  (go_at_call 55; (with_reducible refine (rests_c md Kz _ hmd0 hmd1 true ⟨fun _ => HRE.out, fun _ => rfl⟩).mono ?_); rintro e w4 ⟨rfl, hb⟩; replace V3 := V3.keep hb; replace VP := VP.keep hb; replace V5 := V5.keep hb; replace HB := below_step HB hb; clear hb)
  refine hK.out _ _ (by exact ⟨V3.c0, V3.c1, V3.c2, VP.c0, VP.c2, V5.c0, V5.c1⟩) (fun hHeld => ?_)
  clear hK K
  try go_frame
  refine tF 9 occ9d9 hHeld ?_; try go_frame
  refine tF 10 o1b119 hHeld ?_; try go_frame
  refine tF 11 oa99f7 hHeld ?_; try go_frame
  refine tF 12 oe90e2 hHeld ?_; try go_frame
  refine wpAnyF_one (i := 13) (by kernel_rfl) rfl (fun K hK => ?_)
  go_simp
  (go_at_call 79; (with_reducible refine (wNeg_c Bz _ _ V5.iz.out).mono ?_); rintro e w4 ⟨he, hb⟩; obtain rfl : e = .returned (.bool false) := (by rw [he, HNE.out]); clear he; replace V3 := V3.keep hb; replace VP := VP.keep hb; replace V5 := V5.keep hb; replace HB := below_step HB hb; clear hb)
  refine hK.out _ _ (by exact ⟨V3.c0, V3.c1, V3.c2, VP.c0, VP.c2, V5.c0, V5.c1⟩) (fun hHeld => ?_)
  clear hK K
  try go_frame
  refine tF 14 oef991 hHeld ?_; try go_frame
  refine tF 15 oefc51 hHeld ?_; try go_frame
  refine tF 16 o3ba3d hHeld ?_; try go_frame
  refine wpAnyF_one (i := 17) (by kernel_rfl) rfl (fun K hK => ?_)
  go_simp
  (go_at_call 58; (with_reducible refine (Small_c 20000 _ (by decide) (by decide)).mono ?_); rintro e w5 ⟨v, rfl, hv, hb⟩; obtain ⟨n6, A6, m6, k6, rfl, H6⟩ := hv.form; clear hv; replace V3 := V3.keep hb; replace VP := VP.keep hb; replace V5 := V5.keep hb; replace HB := below_step HB hb; clear hb)
  refine hK.out _ _ (by exact ⟨V3.c0, V3.c1, V3.c2, VP.c0, VP.c2, V5.c0, V5.c1⟩) (fun hHeld => ?_)
  clear hK K
  try go_frame
  refine wpAnyF_one (i := 18) (by kernel_rfl) rfl (fun K hK => ?_)
  go_simp
  (go_at_call 57; (with_reducible refine (iCompare_c Bz 20000 _ _ _ V5.iz.out H6.out (by have := LB.out; omega) (by have := dg20; omega)).mono ?_); rintro e w6 ⟨rfl, hb⟩; clear H6; replace V3 := V3.keep hb; replace VP := VP.keep hb; replace V5 := V5.keep hb; replace HB := below_step HB hb; clear hb)
  refine hK.out _ _ (by exact ⟨V3.c0, V3.c1, V3.c2, VP.c0, VP.c2, V5.c0, V5.c1⟩) (fun hHeld => ?_)
  clear hK K
  try go_frame
  refine tF 19 o22d81 hHeld ?_; try go_frame
  refine tF 20 o2eb12 hHeld ?_; try go_frame
  refine tF 21 o175c4 hHeld ?_; try go_frame
  refine nF 22 o2c109 hHeld ?_; try go_frame
  refine nF 23 o0f1bc hHeld ?_; try go_frame
  refine nF 24 of53a1 hHeld ?_; try go_frame
  refine nF 25 ocaaab hHeld ?_; try go_frame
  refine nF 26 oe6de8 hHeld ?_; try go_frame
  refine tF 27 oc6ddd hHeld ?_; try go_frame
  refine wpAnyF_done (by kernel_rfl) ?_ _
  clear hHeld hWd hcm
  have HR := Lib.hid (hF.out fun h => by have h1 := h.2.b1; have h2 := HBG.out; omega)
  go_wp2
  go_ret
  exact ⟨by rw [HR.out] <;> rfl, HB⟩
 have hcm : ¬ 0 < icmp Bz 20000 := by
  intro h
  by_cases h3 : Bz = 20000
  ·have := (icmp_eq Bz 20000).2 h3; omega
  ·have := (icmp_lt' Bz 20000).2 (by omega); omega
 have hcmd : decide (0 < icmp Bz 20000) = false := decide_eq_false hcm
 by_cases hlo : LoopsOK M ls
 rotate_left
 ·have HLN := Lib.hid hlo
  have HLO : Hid (∀ (u : Value) {W : World}, IsM W u M → LsL W A c ls → Tb W → Calls Tryz.prog 95 #[u, .slice A n c] W fun e w' => e = .returned (.bool false) ∧ Below W.heap.size W w') := fun u W h1 h2 h3 => by
   rw [← HN.out]
   exact Loops_c M ls u A c W h1 HOK.out h2 HZ.out h3 false ⟨fun h => (by cases h), fun h => absurd h HLN.out⟩
  clear hlo
  refine wp_region_F (fun w' => w'.cell? ⟨w.heap.size, 0, none⟩ = some (.int .i64 md) ∧ w'.cell? ⟨w.heap.size, 1, none⟩ = some (.slice Am nm cm) ∧ w'.cell? ⟨w.heap.size, 2, none⟩ = some (.slice A' n' c') ∧ w'.cell? ⟨w.heap.size + 1, 0, none⟩ = some (.int .i64 Kz) ∧ w'.cell? ⟨w.heap.size + 1, 2, none⟩ = some (.slice A n c) ∧ w'.cell? ⟨b5, 0, none⟩ = some (.bool n2) ∧ w'.cell? ⟨b5, 1, none⟩ = some (.slice A2 m2 k2)) [] (by kernel_rfl) (by rw [hWd]; exact ⟨V3.c0, V3.c1, V3.c2, VP.c0, VP.c2, V5.c0, V5.c1⟩) (fun hHeld => ?_)
  rw [hWd] at hHeld ⊢
  refine tF 0 o29e96 hHeld ?_; try go_frame
  refine wpAnyF_one (i := 1) (by kernel_rfl) rfl (fun K hK => ?_)
  go_simp
  (go_at_call 54; (with_reducible refine (rising_c M _ _ V3.im.out true ⟨fun _ => HRS.out, fun _ => rfl⟩).mono ?_); rintro e w4 ⟨rfl, hb⟩; replace V3 := V3.keep hb; replace VP := VP.keep hb; replace V5 := V5.keep hb; replace HB := below_step HB hb; clear hb)
  refine hK.out _ _ (by exact ⟨V3.c0, V3.c1, V3.c2, VP.c0, VP.c2, V5.c0, V5.c1⟩) (fun hHeld => ?_)
  clear hK K
  try go_frame
  refine tF 2 o541ab hHeld ?_; try go_frame
  refine tF 3 o41c3e hHeld ?_; try go_frame
  refine tF 4 o7adc1 hHeld ?_; try go_frame
  refine tF 5 o662b3 hHeld ?_; try go_frame
  refine tF 6 o38d97 hHeld ?_; try go_frame
  refine tF 7 o2d73c hHeld ?_; try go_frame
  refine wpAnyF_one (i := 8) (by kernel_rfl) rfl (fun K hK => ?_)
  go_simp
  (go_at_call 55; (with_reducible refine (rests_c md Kz _ hmd0 hmd1 true ⟨fun _ => HRE.out, fun _ => rfl⟩).mono ?_); rintro e w4 ⟨rfl, hb⟩; replace V3 := V3.keep hb; replace VP := VP.keep hb; replace V5 := V5.keep hb; replace HB := below_step HB hb; clear hb)
  refine hK.out _ _ (by exact ⟨V3.c0, V3.c1, V3.c2, VP.c0, VP.c2, V5.c0, V5.c1⟩) (fun hHeld => ?_)
  clear hK K
  try go_frame
  refine tF 9 occ9d9 hHeld ?_; try go_frame
  refine tF 10 o1b119 hHeld ?_; try go_frame
  refine tF 11 oa99f7 hHeld ?_; try go_frame
  refine tF 12 oe90e2 hHeld ?_; try go_frame
  refine wpAnyF_one (i := 13) (by kernel_rfl) rfl (fun K hK => ?_)
  go_simp
  (go_at_call 79; (with_reducible refine (wNeg_c Bz _ _ V5.iz.out).mono ?_); rintro e w4 ⟨he, hb⟩; obtain rfl : e = .returned (.bool false) := (by rw [he, HNE.out]); clear he; replace V3 := V3.keep hb; replace VP := VP.keep hb; replace V5 := V5.keep hb; replace HB := below_step HB hb; clear hb)
  refine hK.out _ _ (by exact ⟨V3.c0, V3.c1, V3.c2, VP.c0, VP.c2, V5.c0, V5.c1⟩) (fun hHeld => ?_)
  clear hK K
  try go_frame
  refine tF 14 oef991 hHeld ?_; try go_frame
  refine tF 15 oefc51 hHeld ?_; try go_frame
  refine tF 16 o3ba3d hHeld ?_; try go_frame
  refine wpAnyF_one (i := 17) (by kernel_rfl) rfl (fun K hK => ?_)
  go_simp
  (go_at_call 58; (with_reducible refine (Small_c 20000 _ (by decide) (by decide)).mono ?_); rintro e w5 ⟨v, rfl, hv, hb⟩; obtain ⟨n6, A6, m6, k6, rfl, H6⟩ := hv.form; clear hv; replace V3 := V3.keep hb; replace VP := VP.keep hb; replace V5 := V5.keep hb; replace HB := below_step HB hb; clear hb)
  refine hK.out _ _ (by exact ⟨V3.c0, V3.c1, V3.c2, VP.c0, VP.c2, V5.c0, V5.c1⟩) (fun hHeld => ?_)
  clear hK K
  try go_frame
  refine wpAnyF_one (i := 18) (by kernel_rfl) rfl (fun K hK => ?_)
  go_simp
  (go_at_call 57; (with_reducible refine (iCompare_c Bz 20000 _ _ _ V5.iz.out H6.out (by have := LB.out; omega) (by have := dg20; omega)).mono ?_); rintro e w6 ⟨rfl, hb⟩; clear H6; replace V3 := V3.keep hb; replace VP := VP.keep hb; replace V5 := V5.keep hb; replace HB := below_step HB hb; clear hb)
  refine hK.out _ _ (by exact ⟨V3.c0, V3.c1, V3.c2, VP.c0, VP.c2, V5.c0, V5.c1⟩) (fun hHeld => ?_)
  clear hK K
  try go_frame
  refine tF 19 o22d81 hHeld ?_; try go_frame
  refine tF 20 o2eb12 hHeld ?_; try go_frame
  refine tF 21 o175c4 hHeld ?_; try go_frame
  refine tF 22 o2c109 hHeld ?_; try go_frame
  refine tF 23 o0f1bc hHeld ?_; try go_frame
  refine tF 24 of53a1 hHeld ?_; try go_frame
  refine wpAnyF_one (i := 25) (by kernel_rfl) rfl (fun K hK => ?_)
  go_simp
  (go_at_call 95; (with_reducible refine (HLO.out _ V3.im.out (HL.out.below HB) (HTB.out.below HB)).mono ?_); rintro e w7 ⟨rfl, hb⟩; replace V3 := V3.keep hb; replace VP := VP.keep hb; replace V5 := V5.keep hb; replace HB := below_step HB hb; clear hb)
  refine hK.out _ _ (by exact ⟨V3.c0, V3.c1, V3.c2, VP.c0, VP.c2, V5.c0, V5.c1⟩) (fun hHeld => ?_)
  clear hK K
  try go_frame
  refine tF 26 oe6de8 hHeld ?_; try go_frame
  refine tF 27 oc6ddd hHeld ?_; try go_frame
  refine wpAnyF_done (by kernel_rfl) ?_ _
  clear hHeld hWd hcm hcmd
  have HR := Lib.hid (hF.out fun h => HLN.out h.2.loops)
  go_wp2
  go_ret
  exact ⟨by rw [HR.out] <;> rfl, HB⟩
 have HLS := Lib.hid hlo
 have HLO : Hid (∀ (u : Value) {W : World}, IsM W u M → LsL W A c ls → Tb W → Calls Tryz.prog 95 #[u, .slice A n c] W fun e w' => e = .returned (.bool true) ∧ Below W.heap.size W w') := fun u W h1 h2 h3 => by
  rw [← HN.out]
  exact Loops_c M ls u A c W h1 HOK.out h2 HZ.out h3 true ⟨fun _ => HLS.out, fun _ => rfl⟩
 clear hlo
 obtain ⟨m, hm⟩ : ∃ m : Nat, Kz.toNat = m := ⟨_, rfl⟩
 have hKm : Kz = (m : Int) := by omega
 have HKM := Lib.hid hm
 have hm1 : 1 ≤ m := by omega
 rw [hm] at HRQ
 obtain ⟨u, hu⟩ : ∃ u : Nat, Bz = (u : Int) := ⟨Bz.toNat, by have := HNG.out; omega⟩
 have hu2 : u ≤ 20000 := by omega
 have HKE := Lib.hid hKm
 have HUE := Lib.hid hu
 clear hm hKm hu
 refine wp_region_F (fun w' => w'.cell? ⟨w.heap.size, 0, none⟩ = some (.int .i64 md) ∧ w'.cell? ⟨w.heap.size, 1, none⟩ = some (.slice Am nm cm) ∧ w'.cell? ⟨w.heap.size, 2, none⟩ = some (.slice A' n' c') ∧ w'.cell? ⟨w.heap.size + 1, 0, none⟩ = some (.int .i64 Kz) ∧ w'.cell? ⟨w.heap.size + 1, 2, none⟩ = some (.slice A n c) ∧ w'.cell? ⟨b5, 0, none⟩ = some (.bool n2) ∧ w'.cell? ⟨b5, 1, none⟩ = some (.slice A2 m2 k2)) [] (by kernel_rfl) (by rw [hWd]; exact ⟨V3.c0, V3.c1, V3.c2, VP.c0, VP.c2, V5.c0, V5.c1⟩) (fun hHeld => ?_)
 rw [hWd] at hHeld ⊢
 refine tF 0 o29e96 hHeld ?_; try go_frame
 refine wpAnyF_one (i := 1) (by kernel_rfl) rfl (fun K hK => ?_)
 go_simp
 (go_at_call 54; (with_reducible refine (rising_c M _ _ V3.im.out true ⟨fun _ => HRS.out, fun _ => rfl⟩).mono ?_); rintro e w4 ⟨rfl, hb⟩; replace V3 := V3.keep hb; replace VP := VP.keep hb; replace V5 := V5.keep hb; replace HB := below_step HB hb; clear hb)
 refine hK.out _ _ (by exact ⟨V3.c0, V3.c1, V3.c2, VP.c0, VP.c2, V5.c0, V5.c1⟩) (fun hHeld => ?_)
 clear hK K
 try go_frame
 refine tF 2 o541ab hHeld ?_; try go_frame
 refine tF 3 o41c3e hHeld ?_; try go_frame
 refine tF 4 o7adc1 hHeld ?_; try go_frame
 refine tF 5 o662b3 hHeld ?_; try go_frame
 refine tF 6 o38d97 hHeld ?_; try go_frame
 refine tF 7 o2d73c hHeld ?_; try go_frame
 refine wpAnyF_one (i := 8) (by kernel_rfl) rfl (fun K hK => ?_)
 go_simp
 (go_at_call 55; (with_reducible refine (rests_c md Kz _ hmd0 hmd1 true ⟨fun _ => HRE.out, fun _ => rfl⟩).mono ?_); rintro e w4 ⟨rfl, hb⟩; replace V3 := V3.keep hb; replace VP := VP.keep hb; replace V5 := V5.keep hb; replace HB := below_step HB hb; clear hb)
 refine hK.out _ _ (by exact ⟨V3.c0, V3.c1, V3.c2, VP.c0, VP.c2, V5.c0, V5.c1⟩) (fun hHeld => ?_)
 clear hK K
 try go_frame
 refine tF 9 occ9d9 hHeld ?_; try go_frame
 refine tF 10 o1b119 hHeld ?_; try go_frame
 refine tF 11 oa99f7 hHeld ?_; try go_frame
 refine tF 12 oe90e2 hHeld ?_; try go_frame
 refine wpAnyF_one (i := 13) (by kernel_rfl) rfl (fun K hK => ?_)
 go_simp
 (go_at_call 79; (with_reducible refine (wNeg_c Bz _ _ V5.iz.out).mono ?_); rintro e w4 ⟨he, hb⟩; obtain rfl : e = .returned (.bool false) := (by rw [he, HNE.out]); clear he; replace V3 := V3.keep hb; replace VP := VP.keep hb; replace V5 := V5.keep hb; replace HB := below_step HB hb; clear hb)
 refine hK.out _ _ (by exact ⟨V3.c0, V3.c1, V3.c2, VP.c0, VP.c2, V5.c0, V5.c1⟩) (fun hHeld => ?_)
 clear hK K
 try go_frame
 refine tF 14 oef991 hHeld ?_; try go_frame
 refine tF 15 oefc51 hHeld ?_; try go_frame
 refine tF 16 o3ba3d hHeld ?_; try go_frame
 refine wpAnyF_one (i := 17) (by kernel_rfl) rfl (fun K hK => ?_)
 go_simp
 (go_at_call 58; (with_reducible refine (Small_c 20000 _ (by decide) (by decide)).mono ?_); rintro e w5 ⟨v, rfl, hv, hb⟩; obtain ⟨n6, A6, m6, k6, rfl, H6⟩ := hv.form; clear hv; replace V3 := V3.keep hb; replace VP := VP.keep hb; replace V5 := V5.keep hb; replace HB := below_step HB hb; clear hb)
 refine hK.out _ _ (by exact ⟨V3.c0, V3.c1, V3.c2, VP.c0, VP.c2, V5.c0, V5.c1⟩) (fun hHeld => ?_)
 clear hK K
 try go_frame
 refine wpAnyF_one (i := 18) (by kernel_rfl) rfl (fun K hK => ?_)
 go_simp
 (go_at_call 57; (with_reducible refine (iCompare_c Bz 20000 _ _ _ V5.iz.out H6.out (by have := LB.out; omega) (by have := dg20; omega)).mono ?_); rintro e w6 ⟨rfl, hb⟩; clear H6; replace V3 := V3.keep hb; replace VP := VP.keep hb; replace V5 := V5.keep hb; replace HB := below_step HB hb; clear hb)
 refine hK.out _ _ (by exact ⟨V3.c0, V3.c1, V3.c2, VP.c0, VP.c2, V5.c0, V5.c1⟩) (fun hHeld => ?_)
 clear hK K
 try go_frame
 refine tF 19 o22d81 hHeld ?_; try go_frame
 refine tF 20 o2eb12 hHeld ?_; try go_frame
 refine tF 21 o175c4 hHeld ?_; try go_frame
 refine tF 22 o2c109 hHeld ?_; try go_frame
 refine tF 23 o0f1bc hHeld ?_; try go_frame
 refine tF 24 of53a1 hHeld ?_; try go_frame
 refine wpAnyF_one (i := 25) (by kernel_rfl) rfl (fun K hK => ?_)
 go_simp
 (go_at_call 95; (with_reducible refine (HLO.out _ V3.im.out (HL.out.below HB) (HTB.out.below HB)).mono ?_); rintro e w7 ⟨rfl, hb⟩; replace V3 := V3.keep hb; replace VP := VP.keep hb; replace V5 := V5.keep hb; replace HB := below_step HB hb; clear hb)
 refine hK.out _ _ (by exact ⟨V3.c0, V3.c1, V3.c2, VP.c0, VP.c2, V5.c0, V5.c1⟩) (fun hHeld => ?_)
 clear hK K
 try go_frame
 refine tF 26 oe6de8 hHeld ?_; try go_frame
 refine tF 27 oc6ddd hHeld ?_; try go_frame
 refine wpAnyF_done (by kernel_rfl) ?_ _
 clear hHeld hWd hcm hcmd HLO HRE HNE
 have hKm := HKE.out
 have hu := HUE.out
 clear HKE HUE
 subst hKm
 subst hu
 obtain ⟨k, hk⟩ : ∃ k, (downP M m).1 = k := ⟨_, rfl⟩
 obtain ⟨T, hT⟩ : ∃ T, (downP M m).2 = T := ⟨_, rfl⟩
 have HDO : Hid (∀ (u : Value) {W : World}, IsM W u M → Calls Tryz.prog 56 #[u, .int .i64 (m : Int)] W fun e w' => ∃ v, e = .returned (.tuple #[.int .i64 (k : Int), v]) ∧ IsI w' v T ∧ Below W.heap.size W w') := fun u W h1 => by
  have := down_c M m u W h1 HOK.out hm1 HRQ.out
  rw [hk, hT] at this
  exact this
 have HTL : Hid ((dg B64 T).length ≤ 1000) := by rw [← hT]; exact szI (Nat.le_trans (downP_le HOK.out HRQ.out) (Nat.le_mul_of_pos_left _ (by omega)))
 have HKD := Lib.hid hk
 have HTD := Lib.hid hT
 clear hk hT
 have m0 := V3.c0; have m1 := V3.c1; have m2_ := V3.c2; have p0 := VP.c0
 go_wp2_with fail
 (with_reducible refine (HDO.out _ V3.im.out).mono ?_)
 rintro e w8 ⟨v, rfl, hv, hb⟩
 obtain ⟨n7, A7, m7, k7, rfl, H7⟩ := hv.form; clear hv
 replace V3 := V3.keep hb; replace VP := VP.keep hb; replace V5 := V5.keep hb
 replace HB := below_step HB hb
 clear hb m0 m1 m2_ p0 HDO
 go_upto_region 5 with fail
 have V7 := VX.new w8 83 H7.out
 have hb := below_alloc (Below.refl w8.heap.size w8) (Obj.cells #[Value.bool n7, Value.slice A7 m7 k7] 83)
 replace V3 := V3.keep hb; replace VP := VP.keep hb; replace V5 := V5.keep hb
 replace HB := below_step HB hb
 generalize hWa : w8.alloc (Obj.cells #[Value.bool n7, Value.slice A7 m7 k7] 83) = w9 at *
 obtain ⟨b7, hb7⟩ : ∃ b, w8.heap.size = b := ⟨_, rfl⟩
 rw [hb7] at V7 ⊢
 clear hWa hb hb7 H7
 by_cases hk0 : k = 0
 ·have hq1 : (k == 0) = true := by simpa using hk0
  have hq2 : ((k : Int) == 0) = true := by simp; omega
  have HK0 := Lib.hid hk0
  clear hk0
  have HR := Lib.hid (hF.out fun h => h.2.down (by rw [Int.toNat_natCast, HKD.out, HK0.out]))
  go_wp2
  go_ret
  exact ⟨by rw [HR.out] <;> rfl, HB⟩
 have hq1 : (k == 0) = false := by simpa using hk0
 have hq2 : ((k : Int) == 0) = false := by simp; omega
 have x0 := V5.c0; have x1 := V5.c1; have x2 := V7.c0; have x3 := V7.c1
 go_wp2_with fail
 (with_reducible refine (iCompare_c T (u : Int) _ _ _ V7.iz.out V5.iz.out (by have := HTL.out; omega) (by have := LB.out; omega)).mono ?_)
 rintro e wb ⟨rfl, hb⟩
 replace V3 := V3.keep hb; replace VP := VP.keep hb
 replace HB := below_step HB hb
 clear hb x0 x1 x2 x3 V5 V7
 by_cases htb : (u : Int) < T
 ·have hcm : 0 < icmp T (u : Int) := by
   apply Classical.byContradiction
   intro h
   by_cases h2 : icmp T (u : Int) = 0
   ·have := (icmp_eq _ _).1 h2; omega
   ·have := (icmp_lt' T (u : Int)).1 (by omega); omega
  have HTN := Lib.hid htb
  clear htb
  have HR := Lib.hid (hF.out fun h => by have h1 := h.2.top; rw [Int.toNat_natCast, HTD.out] at h1; have h2 := HTN.out; omega)
  go_wp2
  go_ret
  exact ⟨by rw [HR.out] <;> rfl, HB⟩
 have hcm : ¬ 0 < icmp T (u : Int) := by
  intro h
  by_cases h3 : T = (u : Int)
  ·have := (icmp_eq T (u : Int)).2 h3; omega
  ·have := (icmp_lt' T (u : Int)).2 (by omega); omega
 have hcmd : decide (0 < icmp T (u : Int)) = false := decide_eq_false hcm
 have HTN := Lib.hid htb
 have HK0 := Lib.hid hk0
 clear htb hk0
 have hmm := @run_makeMap Tryz.prog
 go_upto_region 8 with fail
 clear hq1 hq2 hcm hcmd
 have HS := Lib.hid (OwnSet.made wb)
 have hba := below_alloc (Below.refl wb.heap.size wb) (Obj.map #[] 0)
 have hbM := HB.size
 replace HB := below_step HB hba
 replace V3 := V3.keep hba; replace VP := VP.keep hba
 generalize hW : wb.alloc (Obj.map #[] 0) = W at *
 obtain ⟨bM, hbm⟩ : ∃ bM, wb.heap.size = bM := ⟨_, rfl⟩
 rw [hbm] at HS hbM ⊢
 clear hW hba hbm hmm
 have p2 := VP.c2
 go_wp2_with fail
 clear p2
 go_loopg [67] n (fun g iv wr => ∃ i : Nat, g = n - i ∧ iv = .int .i64 i ∧ i ≤ n ∧ VM wr w.heap.size md Am nm cm A' n' c' M ∧ VQ wr (w.heap.size + 1) (.int .i64 (m : Int)) (.string (tS (u : Int))) (.slice A n c) ∧ Hid (OwnSet wr bM i (nmS (ls.take i))) ∧ Below w.heap.size w wr)
 case atStart => exact ⟨0, rfl, rfl, Nat.zero_le _, V3, VP, HS, HB⟩
 case round =>
  clear V3 VP HS HB
  obtain ⟨i, hgi, rfl, hi, V3, VP, HS, HB⟩ := hrel
  have hi0 : (0 : Int) ≤ (i : Int) := by omega
  by_cases hin : i < n
  ·have hi1 : (i : Int) < (n : Int) := by omega
   have HIL : Hid (i < ls.length) := by show _ < _; rw [HN.out]; exact hin
   have HLK := Lib.hid (HLS.out.1 i HIL.out)
   obtain ⟨bA, oA, rfl⟩ := HL.out.ptr (by rw [List.length_map]; have := HIL.out; omega)
   obtain ⟨A1, c1, CC, hs1⟩ := (HL.out.below HB).atL (j := i) HIL.out
   obtain ⟨x, hx⟩ : ∃ x, lpi ls i = x := ⟨_, rfl⟩
   have HTK := Lib.hid (nmS_take ls HIL.out)
   rw [hx] at CC hs1 HLK HTK
   have HX := Lib.hid hx
   have HZX : Hid (dlN (gd x 0).natAbs ≤ 2000) := by show _ ≤ _; rw [← hx]; exact HZ.out _ (lpi_mem HIL.out) _ (by rw [hx, gd_lt HLK.out.len0]; exact List.getElem_mem HLK.out.len0)
   obtain ⟨n1, hn1⟩ : ∃ n1, x.length = n1 := ⟨_, rfl⟩
   have hn10 : (0 : Int) < (n1 : Int) := by have := HLK.out.len0; omega
   have hn11 : 0 < n1 := by omega
   obtain ⟨b1, o1, rfl, C1⟩ := hs1.head HLK.out.len0
   rw [hn1] at CC
   clear hx hn1 hs1
   have x0 := CC.c
   go_upto_region 11 with fail
   have CX := CL.new1 wr 45 (.slice (some ⟨b1, o1, none⟩) n1 c1)
   have hbx := below_alloc (Below.refl wr.heap.size wr) (Obj.cells #[Value.slice (some ⟨b1, o1, none⟩) n1 c1] 45)
   replace V3 := V3.keep hbx; replace VP := VP.keep hbx; replace C1 := C1.keep hbx; replace HS := Lib.hid (HS.out.below hbx); replace HB := below_step HB hbx
   generalize hW : wr.alloc (Obj.cells #[Value.slice (some ⟨b1, o1, none⟩) n1 c1] 45) = wx at *
   obtain ⟨bx, hbx2⟩ : ∃ bx, wr.heap.size = bx := ⟨_, rfl⟩
   rw [hbx2] at CX ⊢
   clear hW x0 hbx hbx2 CC
   have x0 := CX.c; have x1 := C1.c
   have hLm : i < maxLen := by simp only [maxLen]; omega
   have hsm := tS_maxLen HZX.out
   go_wp2_with (at_mapUpdate; refine upd_set rfl _ _ _ rfl bM i (nmS (ls.take i)) (tS (gd x 0)) rfl HS.out hLm hsm rfl rfl ?_; intro w7 HS7 hg7 hk7)
   have hnc := HS.out.nocells
   replace V3 := V3.grown hg7 (ne_of_cell V3.c0 hnc) hk7
   replace VP := VP.grown hg7 hnc
   replace HB := HB.grown hg7 HB.size (fun r e => by cases e; exact hbM)
   replace HS : Hid (OwnSet w7 bM (i + 1) (nmS (ls.take (i + 1)))) := by show OwnSet _ _ _ _; rw [← HTK.out]; exact HS7
   clear HS7 hg7 hk7 hnc hsm x0 x1 C1 CX HTK
   go_wp2
   go_roundg (n - (i + 1))
   case measure => omega
   case rel => exact ⟨i + 1, rfl, by go_num, by omega, V3, VP, HS, HB⟩
  ·obtain rfl : i = n := by omega
   have hi1 : ¬ (i : Int) < (i : Int) := by omega
   replace HS : Hid (OwnSet wr bM i (nmS ls)) := by
    have h1 := HS.out
    rw [← HN.out, List.take_length, HN.out] at h1
    exact h1
   have p1 := VP.c1
   go_wp2_with fail
   (with_reducible refine (Atoi_c u _ (by omega)).mono ?_)
   rintro e wc ⟨rfl, hb⟩
   replace V3 := V3.keep hb; replace HS := Lib.hid (HS.out.below hb); replace HB := below_step HB hb
   clear hb p1 VP
   obtain ⟨N, hN⟩ : ∃ N, u + 1 = N := ⟨_, rfl⟩
   have HNN := Lib.hid hN
   have hTw : IntKind.i64.wrap ((u : Int) + 1) = (N : Int) := by rw [IntKind.wrap_i64]; omega
   have hN1 : N ≤ 20001 := by omega
   clear hN hgi hi1
   go_wp2_with fail
   go_loopg [85] N (fun g iv wy => ∃ j : Nat, g = N - j ∧ iv = .int .i64 j ∧ j ≤ N ∧ VM wy w.heap.size md Am nm cm A' n' c' M ∧ Hid (OwnSet wy bM i (nmS ls)) ∧ Below w.heap.size w wy ∧ Hid (AccN M ls j))
   case atStart => exact ⟨0, rfl, rfl, Nat.zero_le _, V3, HS, HB, fun k hk => absurd hk (by omega)⟩
   case round =>
    clear V3 HS HB
    obtain ⟨j, hgj, rfl, hj, V3, HS, HB, HI⟩ := hrel
    have hj0 : (0 : Int) ≤ (j : Int) := by omega
    by_cases hjn : j < N
    ·have hj1 : (j : Int) < (N : Int) := by omega
     have hj2 : j ≤ 20000 := by omega
     obtain ⟨R, hR⟩ : ∃ R, flwA M (20000 + 1) [] (j : Int) = R := ⟨_, rfl⟩
     have HF : Hid (∀ (u : Value) {W : World}, IsM W u M → Tb W → Calls Tryz.prog 38 #[u, .string (tS (j : Int)), .int .i64 20000] W fun e w' => ∃ A c, e = .returned (.tuple #[.int .i64 R.2.1, .slice A R.2.2.length c, .int .i64 R.1]) ∧ Hid (LsS w' A c (R.2.2.map tS)) ∧ Below W.heap.size W w') := fun u W h1 h2 => by
      have := Fate_ok M (j : Int) 20000 u W h1 HOK.out (dlN_small hj2) (by omega) h2
      rw [hR] at this
      exact this
     have HC := Lib.hid (flw_cases M (j : Int) 20000)
     have HRF : Hid (flwA M 20001 [] (j : Int) = R) := hR
     rw [hR] at HC
     clear hR
     go_upto_region 17 with fail
     replace V3 := V3.drew; replace HS := Lib.hid (HS.out.below (below_drew (Below.refl _ _))); replace HB := below_drew HB
     generalize hWd : wr.drew = wd at *
     refine wp_region_F (fun w' => w'.cell? ⟨w.heap.size, 0, none⟩ = some (.int .i64 md) ∧ w'.cell? ⟨w.heap.size, 1, none⟩ = some (.slice Am nm cm) ∧ w'.cell? ⟨w.heap.size, 2, none⟩ = some (.slice A' n' c')) [] (by kernel_rfl) (by rw [hWd]; exact ⟨V3.c0, V3.c1, V3.c2⟩) (fun hHeld => ?_)
     rw [hWd] at hHeld ⊢
     refine tF 0 ({ dst := some 89, op := Go.Op.load 24 (Go.Operand.tmp 2), type := 24, pos := "cert.go:175", after := #[], guard := none }) hHeld ?_; try go_frame
     refine tF 1 ({ dst := some 90, op := Go.Op.move (Go.Operand.tmp 13), type := 3, pos := "cert.go:175", after := #[], guard := none }) hHeld ?_; try go_frame
     refine wpAnyF_one (i := 2) (by kernel_rfl) rfl (fun K hK => ?_)
     go_simp
     (go_at_call 96; (with_reducible refine (Itoa_c j _ (by omega) (HTB.out.below HB)).mono ?_); rintro e w5 ⟨rfl, hb⟩; replace V3 := V3.keep hb; replace HS := Lib.hid (HS.out.below hb); replace HB := below_step HB hb; clear hb)
     refine hK.out _ _ (by exact ⟨V3.c0, V3.c1, V3.c2⟩) (fun hHeld => ?_)
     clear hK K
     try go_frame
     refine wpAnyF_one (i := 3) (by kernel_rfl) rfl (fun K hK => ?_)
     go_simp
     (go_at_call 38; (with_reducible refine (HF.out _ V3.im.out (HTB.out.below HB)).mono ?_); rintro e w6 ⟨A9, c9, rfl, HL9, hb⟩; replace V3 := V3.keep hb; replace HS := Lib.hid (HS.out.below hb); replace HB := below_step HB hb; clear hb)
     refine hK.out _ _ (by exact ⟨V3.c0, V3.c1, V3.c2⟩) (fun hHeld => ?_)
     clear hK K
     try go_frame
     refine tF 4 ({ dst := some 88, op := Go.Op.move (Go.Operand.tmp 92), type := 65, pos := "cert.go:175", after := #[{ on := 3, ground := Go.Ground.data }], guard := none }) hHeld ?_; try go_frame
     refine tF 5 ({ dst := some 93, op := Go.Op.extract (Go.Operand.tmp 88) 0, type := 3, pos := "cert.go:175", after := #[{ on := 4, ground := Go.Ground.data }], guard := none }) hHeld ?_; try go_frame
     refine tF 6 ({ dst := some 94, op := Go.Op.extract (Go.Operand.tmp 88) 1, type := 43, pos := "cert.go:175", after := #[{ on := 4, ground := Go.Ground.data }, { on := 8, ground := Go.Ground.gcOnly Go.Departure.lateStores }], guard := none }) hHeld ?_; try go_frame
     refine tF 7 ({ dst := some 95, op := Go.Op.extract (Go.Operand.tmp 88) 2, type := 31, pos := "cert.go:175", after := #[{ on := 4, ground := Go.Ground.data }, { on := 9, ground := Go.Ground.gcOnly Go.Departure.lateStores }], guard := none }) hHeld ?_; try go_frame
     refine tF 8 ({ dst := some 14, op := Go.Op.assign (Go.Operand.tmp 93), type := 3, pos := "cert.go:175", after := #[{ on := 5, ground := Go.Ground.data }, { on := 3, ground := Go.Ground.chain }, { on := 0, ground := Go.Ground.phase }, { on := 1, ground := Go.Ground.phase }, { on := 2, ground := Go.Ground.phase }, { on := 3, ground := Go.Ground.phase }, { on := 4, ground := Go.Ground.phase }, { on := 5, ground := Go.Ground.phase }, { on := 6, ground := Go.Ground.textOnly Go.Departure.lateStores }, { on := 7, ground := Go.Ground.textOnly Go.Departure.lateStores }], guard := none }) hHeld ?_; try go_frame
     refine tF 9 ({ dst := some 15, op := Go.Op.assign (Go.Operand.tmp 94), type := 43, pos := "cert.go:175", after := #[{ on := 6, ground := Go.Ground.data }, { on := 8, ground := Go.Ground.chain }, { on := 0, ground := Go.Ground.phase }, { on := 1, ground := Go.Ground.phase }, { on := 2, ground := Go.Ground.phase }, { on := 3, ground := Go.Ground.phase }, { on := 4, ground := Go.Ground.phase }, { on := 5, ground := Go.Ground.phase }, { on := 6, ground := Go.Ground.phase }, { on := 7, ground := Go.Ground.textOnly Go.Departure.lateStores }, { on := 8, ground := Go.Ground.phase }], guard := none }) hHeld ?_; try go_frame
     refine tF 10 ({ dst := some 16, op := Go.Op.assign (Go.Operand.tmp 95), type := 31, pos := "cert.go:175", after := #[{ on := 7, ground := Go.Ground.data }, { on := 9, ground := Go.Ground.chain }, { on := 0, ground := Go.Ground.phase }, { on := 1, ground := Go.Ground.phase }, { on := 2, ground := Go.Ground.phase }, { on := 3, ground := Go.Ground.phase }, { on := 4, ground := Go.Ground.phase }, { on := 5, ground := Go.Ground.phase }, { on := 6, ground := Go.Ground.phase }, { on := 7, ground := Go.Ground.phase }, { on := 8, ground := Go.Ground.phase }, { on := 9, ground := Go.Ground.phase }], guard := none }) hHeld ?_; try go_frame
     refine wpAnyF_done (by kernel_rfl) ?_ _
     clear hHeld hWd HF
     rcases HC.out with h | h | ⟨t, l, h, h1, h2, h3, h4⟩
     ·subst h
      clear HC
      have HR := Lib.hid (hF.out fun h => by have h1 := (h.2.come j (by have := HNN.out; omega)).1; rw [HRF.out] at h1; cases h1)
      go_wp2
      go_ret
      exact ⟨by rw [HR.out] <;> rfl, HB⟩
     ·subst h
      clear HC
      have HR := Lib.hid (hF.out fun h => by have h1 := (h.2.come j (by have := HNN.out; omega)).1; rw [HRF.out] at h1; cases h1)
      go_wp2
      go_ret
      exact ⟨by rw [HR.out] <;> rfl, HB⟩
     ·subst h
      clear HC h2 h3
      dsimp only at HL9 HRF ⊢
      have HD0 : Hid (dlN (gd l 0).natAbs ≤ 2000) := by
       show _ ≤ _
       rw [← dl_dlN]
       exact h4 _ (by rw [gd_lt h1]; exact List.getElem_mem h1)
      have hlc : l.length ≤ 9223372036854775807 := by have := HL9.out.2; rw [List.length_map] at this; omega
      obtain ⟨b9, o9, rfl, C9⟩ := HL9.out.head h1
      have hl0 : (0 : Int) < (l.length : Int) := by omega
      have hin_ := HS.out.look (s := tS (gd l 0)) (tS_maxLen HD0.out)
      have x0 := C9.c
      clear h4
      by_cases hmem : tS (gd l 0) ∈ nmS ls
      ·rw [inB_iff.2 hmem] at hin_
       have HI2 : Hid (AccN M ls (j + 1)) := fun k hk => by
        rcases Nat.lt_or_ge k j with h | h
        ·exact HI.out k h
        ·obtain rfl : k = j := by omega
         rw [HRF.out]
         exact ⟨rfl, nmS_in.1 hmem⟩
       clear hmem HI
       go_wp2
       go_roundg (N - (j + 1))
       case measure => omega
       case rel => exact ⟨j + 1, rfl, by go_num, by omega, V3, HS, HB, HI2⟩
      ·have hnin : inB (nmS ls) (tS (gd l 0)) = false := by
        cases e : inB (nmS ls) (tS (gd l 0)) with
        | false => rfl
        | true => exact absurd (inB_iff.1 e) hmem
       rw [hnin] at hin_
       have HMM := Lib.hid hmem
       clear hmem hnin
       have HR := Lib.hid (hF.out fun h => HMM.out (nmS_in.2 (by have h1 := (h.2.come j (by have := HNN.out; omega)).2; rw [HRF.out] at h1; exact h1)))
       go_wp2
       go_ret
       exact ⟨by rw [HR.out] <;> rfl, HB⟩
    ·obtain rfl : j = N := by omega
     have hj1 : ¬ (j : Int) < (j : Int) := by omega
     have HR : Hid (B = true) := HBB.out.2 ⟨by omega, by
      rw [Int.toNat_natCast]
      exact ⟨HRS.out, hm1, HRQ.out, by omega, by omega, HLS.out, by rw [HKD.out]; exact HK0.out, by rw [HTD.out]; have := HTN.out; omega, fun q hq => HI.out q (by have := HNN.out; omega)⟩⟩
     clear HI
     go_wp2
     go_ret
     exact ⟨by rw [HR.out] <;> rfl, HB⟩
end Go.Proofs.YtibdipfhfaeooaaGreatDoor

