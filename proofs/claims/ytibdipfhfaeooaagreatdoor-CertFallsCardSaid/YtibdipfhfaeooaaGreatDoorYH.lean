/- law09.CertFalls returns true. No condition but that the library's table lies as it should. -/
import Derived.Test.YtibdipfhfaeooaaGreatDoorYF
import Derived.Test.YtibdipfhfaeooaaGreatDoorYE
import Derived.Test.YtibdipfhfaeooaaGreatDoorYG
import Derived.Maps.RangeWalk
set_option linter.unusedVariables false
set_option linter.unusedSimpArgs false
namespace Go.Proofs.YtibdipfhfaeooaaGreatDoor
open Go.RowKit

abbrev o94bc4 : Oper := { dst := some 12, op := Go.Op.load 24 (Go.Operand.tmp 3), type := 24, pos := "outright.go:66", after := #[], guard := none }
abbrev oc744b : Oper := { dst := some 13, op := Go.Op.load 27 (Go.Operand.tmp 4), type := 27, pos := "outright.go:66", after := #[], guard := none }
abbrev oa3abc : Oper := { dst := some 15, op := Go.Op.unOp Go.UnOp.not 4 (Go.Operand.tmp 14), type := 4, pos := "outright.go:66", after := #[{ on := 2, ground := Go.Ground.data }], guard := none }
abbrev ob7478 : Oper := { dst := some 16, op := Go.Op.move (Go.Operand.tmp 15), type := 4, pos := "outright.go:66", after := #[{ on := 3, ground := Go.Ground.data }, { on := 2, ground := Go.Ground.chain }], guard := none }
abbrev ob8928 : Oper := { dst := some 17, op := Go.Op.move (Go.Operand.tmp 2), type := 9, pos := "outright.go:66", after := #[{ on := 4, ground := Go.Ground.guard }], guard := some (4, false) }
abbrev o7299f : Oper := { dst := some 18, op := Go.Op.call { callee := Go.Callee.value (Go.Operand.func 32), args := #[Go.Operand.tmp 17], argTypes := #[9] }, type := 4, pos := "outright.go:66", after := #[{ on := 5, ground := Go.Ground.data }, { on := 4, ground := Go.Ground.chain }, { on := 4, ground := Go.Ground.guard }], guard := some (4, false) }
abbrev o84c33 : Oper := { dst := some 19, op := Go.Op.unOp Go.UnOp.not 4 (Go.Operand.tmp 18), type := 4, pos := "outright.go:66", after := #[{ on := 6, ground := Go.Ground.data }, { on := 4, ground := Go.Ground.guard }], guard := some (4, false) }
abbrev o17bd7 : Oper := { dst := some 20, op := Go.Op.pick (Go.Operand.tmp 16) (Go.Operand.const (Go.Value.bool true)) (Go.Operand.tmp 19), type := 4, pos := "outright.go:66", after := #[{ on := 4, ground := Go.Ground.data }, { on := 7, ground := Go.Ground.data }], guard := none }
abbrev o0dac7 : Oper := { dst := some 21, op := Go.Op.move (Go.Operand.tmp 20), type := 4, pos := "outright.go:66", after := #[{ on := 8, ground := Go.Ground.data }, { on := 6, ground := Go.Ground.chain }], guard := none }
abbrev o460f4 : Oper := { dst := some 22, op := Go.Op.move (Go.Operand.tmp 2), type := 9, pos := "outright.go:66", after := #[{ on := 9, ground := Go.Ground.guard }], guard := some (9, false) }
abbrev ob2df7 : Oper := { dst := some 23, op := Go.Op.call { callee := Go.Callee.value (Go.Operand.func 15), args := #[Go.Operand.tmp 22], argTypes := #[9] }, type := 35, pos := "outright.go:66", after := #[{ on := 10, ground := Go.Ground.data }, { on := 9, ground := Go.Ground.chain }, { on := 9, ground := Go.Ground.guard }], guard := some (9, false) }
abbrev o0177b : Oper := { dst := some 24, op := Go.Op.fieldAddr 27 (Go.Operand.tmp 4) 1, type := 0, pos := "outright.go:66", after := #[{ on := 9, ground := Go.Ground.guard }], guard := some (9, false) }
abbrev o49d9f : Oper := { dst := some 25, op := Go.Op.load 9 (Go.Operand.tmp 24), type := 9, pos := "outright.go:66", after := #[{ on := 12, ground := Go.Ground.data }, { on := 9, ground := Go.Ground.guard }], guard := some (9, false) }
abbrev o36170 : Oper := { dst := some 26, op := Go.Op.call { callee := Go.Callee.value (Go.Operand.func 15), args := #[Go.Operand.tmp 25], argTypes := #[9] }, type := 35, pos := "outright.go:66", after := #[{ on := 13, ground := Go.Ground.data }, { on := 11, ground := Go.Ground.chain }, { on := 9, ground := Go.Ground.guard }], guard := some (9, false) }
abbrev o64140 : Oper := { dst := some 27, op := Go.Op.call { callee := Go.Callee.value (Go.Operand.func 44), args := #[Go.Operand.tmp 23, Go.Operand.tmp 26], argTypes := #[35, 35] }, type := 3, pos := "outright.go:66", after := #[{ on := 11, ground := Go.Ground.data }, { on := 14, ground := Go.Ground.data }, { on := 14, ground := Go.Ground.chain }, { on := 9, ground := Go.Ground.guard }], guard := some (9, false) }
abbrev o50139 : Oper := { dst := some 28, op := Go.Op.binOp Go.BinOp.leq 3 (Go.Operand.tmp 27) (Go.Operand.const (Go.Value.int Go.IntKind.i64 0)) 3, type := 4, pos := "outright.go:66", after := #[{ on := 15, ground := Go.Ground.data }, { on := 9, ground := Go.Ground.guard }], guard := some (9, false) }
abbrev o42a76 : Oper := { dst := some 29, op := Go.Op.pick (Go.Operand.tmp 21) (Go.Operand.const (Go.Value.bool true)) (Go.Operand.tmp 28), type := 4, pos := "outright.go:66", after := #[{ on := 9, ground := Go.Ground.data }, { on := 16, ground := Go.Ground.data }], guard := none }
attribute [local go_sem] o94bc4 oc744b oa3abc ob7478 ob8928 o7299f o84c33 o17bd7 o0dac7 o460f4 ob2df7 o0177b o49d9f o36170 o64140 o50139 o42a76
set_option maxRecDepth 100000 in
set_option maxHeartbeats 32000000 in
theorem CertFalls_law (M : Mp) (Kz : Int) (S : ByteArray) (A : Option Addr) (c : Nat) (L : List (List ByteArray)) (s : ByteArray) (v : Value) (w : World) (hM : IsM w v M) (hS : S.size ≤ 9223372036854775807) (hL : LsB w A c L) (hsz : ∀ l ∈ L, ∀ s ∈ l, s.size ≤ 9223372036854775807) (hs : s.size ≤ 9223372036854775807) (ht : Tb w) :
  Calls Tryz.prog 10 #[v, .agg #[.int .i64 Kz, .string S, .slice A L.length c], .string s] w fun e w' => e = .returned (.bool true) ∧ Below w.heap.size w w' := by
 obtain ⟨md, Am, nm, cm, A', n', c', rfl, HM⟩ := hM.form
 have HTB := Lib.hid ht
 have HL := Lib.hid hL
 obtain ⟨nl, hnl⟩ : ∃ nl, L.length = nl := ⟨_, rfl⟩
 have HNL := Lib.hid hnl
 have HQK : Hid (∀ (u : Value) {W : World}, IsM W u M → LsB W A c L → Calls Tryz.prog 35 #[u, .agg #[.int .i64 Kz, .string S, .slice A nl c]] W fun e w' => QuickR M S L e ∧ Below W.heap.size W w') := fun u W h1 h2 => by
  rw [← hnl]
  exact quick_c M Kz S L u A c W h1 hS h2 hsz
 rw [hnl]
 clear hM hL hsz ht hnl hS
 go_enter Tryz.func10, Tryz.ntmps10
 go_upto_region 1 with fail
 generalize hW : (w.alloc (Obj.cells #[Value.int .i64 md, Value.slice Am nm cm, Value.slice A' n' c'] 24)).alloc _ = W
 have HB : Below w.heap.size w W := by subst hW; exact below_alloc (below_alloc (Below.refl _ _) _) _
 have V3 : VM W w.heap.size md Am nm cm A' n' c' M := by subst hW; exact (VM.new w 24 HM.out).keep (below_alloc (Below.refl _ _) _)
 have VP : VQ W (w.heap.size + 1) (.int .i64 Kz) (.string S) (.slice A nl c) := by
  subst hW
  have := VQ.new (x := .int .i64 Kz) (y := .string S) (z := .slice A nl c) (w.alloc (Obj.cells #[Value.int .i64 md, Value.slice Am nm cm, Value.slice A' n' c'] 24)) 27
  rwa [show (w.alloc (Obj.cells #[Value.int .i64 md, Value.slice Am nm cm, Value.slice A' n' c'] 24)).heap.size = w.heap.size + 1 by simp] at this
 clear hW HM
 replace V3 := V3.drew; replace VP := VP.drew; replace HB := below_drew HB
 generalize hWd : W.drew = wd at *
 by_cases hv : vldL (codes s) = true
 rotate_left
 ·have HV : Hid (vldL (codes s) = false) := by show _ = _; revert hv; cases vldL (codes s) <;> simp
  clear hv
  refine wp_region_F (fun w' => w'.cell? ⟨w.heap.size, 0, none⟩ = some (.int .i64 md) ∧ w'.cell? ⟨w.heap.size, 1, none⟩ = some (.slice Am nm cm) ∧ w'.cell? ⟨w.heap.size, 2, none⟩ = some (.slice A' n' c') ∧ w'.cell? ⟨w.heap.size + 1, 0, none⟩ = some (.int .i64 Kz) ∧ w'.cell? ⟨w.heap.size + 1, 1, none⟩ = some (.string S) ∧ w'.cell? ⟨w.heap.size + 1, 2, none⟩ = some (.slice A nl c)) [] (by kernel_rfl) (by rw [hWd]; exact ⟨V3.c0, V3.c1, V3.c2, VP.c0, VP.c1, VP.c2⟩) (fun hHeld => ?_)
  rw [hWd] at hHeld ⊢
  refine tF 0 o94bc4 hHeld ?_; try go_frame
  refine tF 1 oc744b hHeld ?_; try go_frame
  refine wpAnyF_one (i := 2) (by kernel_rfl) rfl (fun K hK => ?_)
  go_simp
  (go_at_call 35; (with_reducible refine (HQK.out _ V3.im.out (HL.out.below HB)).mono ?_); rintro e w2 ⟨⟨b, rfl, hbq⟩, hb⟩; replace V3 := V3.keep hb; replace VP := VP.keep hb; replace HB := below_step HB hb; clear hb)
  cases b with
  | false =>
   refine hK.out _ _ (by exact ⟨V3.c0, V3.c1, V3.c2, VP.c0, VP.c1, VP.c2⟩) (fun hHeld => ?_)
   clear hK K
   try go_frame
   refine tF 3 oa3abc hHeld ?_; try go_frame
   refine tF 4 ob7478 hHeld ?_; try go_frame
   refine nF 5 ob8928 hHeld ?_; try go_frame
   refine nF 6 o7299f hHeld ?_; try go_frame
   refine nF 7 o84c33 hHeld ?_; try go_frame
   refine tF 8 o17bd7 hHeld ?_; try go_frame
   refine tF 9 o0dac7 hHeld ?_; try go_frame
   refine nF 10 o460f4 hHeld ?_; try go_frame
   refine nF 11 ob2df7 hHeld ?_; try go_frame
   refine nF 12 o0177b hHeld ?_; try go_frame
   refine nF 13 o49d9f hHeld ?_; try go_frame
   refine nF 14 o36170 hHeld ?_; try go_frame
   refine nF 15 o64140 hHeld ?_; try go_frame
   refine nF 16 o50139 hHeld ?_; try go_frame
   refine tF 17 o42a76 hHeld ?_; try go_frame
   refine wpAnyF_done (by kernel_rfl) ?_ _
   clear hHeld hWd
   go_wp2_with fail
   (with_reducible refine (awake9_c _ (HTB.out.below HB)).mono ?_)
   rintro e wz ⟨rfl, hb⟩
   replace HB := below_step HB hb
   clear hb
   go_wp2
   go_ret
   exact ⟨rfl, HB⟩
  | true =>
   refine hK.out _ _ (by exact ⟨V3.c0, V3.c1, V3.c2, VP.c0, VP.c1, VP.c2⟩) (fun hHeld => ?_)
   clear hK K
   try go_frame
   refine tF 3 oa3abc hHeld ?_; try go_frame
   refine tF 4 ob7478 hHeld ?_; try go_frame
   refine tF 5 ob8928 hHeld ?_; try go_frame
   refine wpAnyF_one (i := 6) (by kernel_rfl) rfl (fun K hK => ?_)
   go_simp
   (go_at_call 32; (with_reducible refine (Valid_c s _ hs).mono ?_); rintro e w3 ⟨he, rfl⟩; obtain rfl : e = .returned (.bool false) := (by rw [he, HV.out]); clear he)
   refine hK.out _ _ (by exact ⟨V3.c0, V3.c1, V3.c2, VP.c0, VP.c1, VP.c2⟩) (fun hHeld => ?_)
   clear hK K
   try go_frame
   refine tF 7 o84c33 hHeld ?_; try go_frame
   refine tF 8 o17bd7 hHeld ?_; try go_frame
   refine tF 9 o0dac7 hHeld ?_; try go_frame
   refine nF 10 o460f4 hHeld ?_; try go_frame
   refine nF 11 ob2df7 hHeld ?_; try go_frame
   refine nF 12 o0177b hHeld ?_; try go_frame
   refine nF 13 o49d9f hHeld ?_; try go_frame
   refine nF 14 o36170 hHeld ?_; try go_frame
   refine nF 15 o64140 hHeld ?_; try go_frame
   refine nF 16 o50139 hHeld ?_; try go_frame
   refine tF 17 o42a76 hHeld ?_; try go_frame
   refine wpAnyF_done (by kernel_rfl) ?_ _
   clear hHeld hWd
   go_wp2_with fail
   (with_reducible refine (awake9_c _ (HTB.out.below HB)).mono ?_)
   rintro e wz ⟨rfl, hb⟩
   replace HB := below_step HB hb
   clear hb
   go_wp2
   go_ret
   exact ⟨rfl, HB⟩
 obtain ⟨z, rfl, hz⟩ := dig_of_valid hv
 have HV := Lib.hid hv
 have HZ := Lib.hid hz
 clear hv hz
 refine wp_region_F (fun w' => w'.cell? ⟨w.heap.size, 0, none⟩ = some (.int .i64 md) ∧ w'.cell? ⟨w.heap.size, 1, none⟩ = some (.slice Am nm cm) ∧ w'.cell? ⟨w.heap.size, 2, none⟩ = some (.slice A' n' c') ∧ w'.cell? ⟨w.heap.size + 1, 0, none⟩ = some (.int .i64 Kz) ∧ w'.cell? ⟨w.heap.size + 1, 1, none⟩ = some (.string S) ∧ w'.cell? ⟨w.heap.size + 1, 2, none⟩ = some (.slice A nl c)) [] (by kernel_rfl) (by rw [hWd]; exact ⟨V3.c0, V3.c1, V3.c2, VP.c0, VP.c1, VP.c2⟩) (fun hHeld => ?_)
 rw [hWd] at hHeld ⊢
 refine tF 0 o94bc4 hHeld ?_; try go_frame
 refine tF 1 oc744b hHeld ?_; try go_frame
 refine wpAnyF_one (i := 2) (by kernel_rfl) rfl (fun K hK => ?_)
 go_simp
 (go_at_call 35; (with_reducible refine (HQK.out _ V3.im.out (HL.out.below HB)).mono ?_); rintro e w2 ⟨⟨b, rfl, hbq⟩, hb⟩; replace V3 := V3.keep hb; replace VP := VP.keep hb; replace HB := below_step HB hb; clear hb)
 cases b with
 | false =>
  refine hK.out _ _ (by exact ⟨V3.c0, V3.c1, V3.c2, VP.c0, VP.c1, VP.c2⟩) (fun hHeld => ?_)
  clear hK K
  try go_frame
  refine tF 3 oa3abc hHeld ?_; try go_frame
  refine tF 4 ob7478 hHeld ?_; try go_frame
  refine nF 5 ob8928 hHeld ?_; try go_frame
  refine nF 6 o7299f hHeld ?_; try go_frame
  refine nF 7 o84c33 hHeld ?_; try go_frame
  refine tF 8 o17bd7 hHeld ?_; try go_frame
  refine tF 9 o0dac7 hHeld ?_; try go_frame
  refine nF 10 o460f4 hHeld ?_; try go_frame
  refine nF 11 ob2df7 hHeld ?_; try go_frame
  refine nF 12 o0177b hHeld ?_; try go_frame
  refine nF 13 o49d9f hHeld ?_; try go_frame
  refine nF 14 o36170 hHeld ?_; try go_frame
  refine nF 15 o64140 hHeld ?_; try go_frame
  refine nF 16 o50139 hHeld ?_; try go_frame
  refine tF 17 o42a76 hHeld ?_; try go_frame
  refine wpAnyF_done (by kernel_rfl) ?_ _
  clear hHeld hWd
  go_wp2_with fail
  (with_reducible refine (awake9_c _ (HTB.out.below HB)).mono ?_)
  rintro e wz ⟨rfl, hb⟩
  replace HB := below_step HB hb
  clear hb
  go_wp2
  go_ret
  exact ⟨rfl, HB⟩
 | true =>
  obtain ⟨hok, hfo⟩ := hbq rfl
  obtain ⟨Bz, ls, rfl, hLe, hBz, hzz⟩ := formB_iff hfo
  have HOM : Hid (okM M) := okB_iff.1 hok
  have HLE := Lib.hid hLe
  have HBZ := Lib.hid hBz
  have HZZ := Lib.hid hzz
  have HNS : Hid (ls.length = nl) := by show _ = _; rw [← HNL.out, HLE.out, List.length_map]
  have HLL : Hid (LsL w A c ls) := by show LsB _ _ _ _; rw [← HLE.out]; exact HL.out
  clear hok hfo hLe hBz hzz HL HLE HNL HQK hbq
  by_cases hbz : Bz < z
  rotate_left
  ·have hcm : icmp z Bz ≤ 0 := by
    by_cases h3 : z = Bz
    ·have := (icmp_eq z Bz).2 h3; omega
    ·have := (icmp_lt' z Bz).2 (by omega); omega
   clear hbz
   refine hK.out _ _ (by exact ⟨V3.c0, V3.c1, V3.c2, VP.c0, VP.c1, VP.c2⟩) (fun hHeld => ?_)
   clear hK K
   try go_frame
   refine tF 3 oa3abc hHeld ?_; try go_frame
   refine tF 4 ob7478 hHeld ?_; try go_frame
   refine tF 5 ob8928 hHeld ?_; try go_frame
   refine wpAnyF_one (i := 6) (by kernel_rfl) rfl (fun K hK => ?_)
   go_simp
   (go_at_call 32; (with_reducible refine (Valid_c (tS z) _ hs).mono ?_); rintro e w3 ⟨he, rfl⟩; obtain rfl : e = .returned (.bool true) := (by rw [he, HV.out]); clear he)
   refine hK.out _ _ (by exact ⟨V3.c0, V3.c1, V3.c2, VP.c0, VP.c1, VP.c2⟩) (fun hHeld => ?_)
   clear hK K
   try go_frame
   refine tF 7 o84c33 hHeld ?_; try go_frame
   refine tF 8 o17bd7 hHeld ?_; try go_frame
   refine tF 9 o0dac7 hHeld ?_; try go_frame
   refine tF 10 o460f4 hHeld ?_; try go_frame
   refine tF 12 o0177b hHeld ?_; try go_frame
   refine tF 13 o49d9f hHeld ?_; try go_frame
   refine wpAnyF_one (i := 11) (by kernel_rfl) rfl (fun K hK => ?_)
   go_simp
   (go_at_call 15; (with_reducible refine (Parse_c z _ (by have := HZ.out; omega)).mono ?_); rintro e w4 ⟨v, rfl, hv, hb⟩; obtain ⟨n4, A4, m4, k4, rfl, H4⟩ := hv.form; clear hv; replace V3 := V3.keep hb; replace VP := VP.keep hb; replace HB := below_step HB hb; clear hb)
   refine hK.out _ _ (by exact ⟨V3.c0, V3.c1, V3.c2, VP.c0, VP.c1, VP.c2⟩) (fun hHeld => ?_)
   clear hK K
   try go_frame
   refine wpAnyF_one (i := 14) (by kernel_rfl) rfl (fun K hK => ?_)
   go_simp
   (go_at_call 15; (with_reducible refine (Parse_c Bz _ (by have := HBZ.out; omega)).mono ?_); rintro e w5 ⟨v, rfl, hv, hb⟩; obtain ⟨n5, A5, m5, k5, rfl, H5⟩ := hv.form; clear hv; replace H4 := Lib.hid (H4.out.below hb); replace V3 := V3.keep hb; replace VP := VP.keep hb; replace HB := below_step HB hb; clear hb)
   refine hK.out _ _ (by exact ⟨V3.c0, V3.c1, V3.c2, VP.c0, VP.c1, VP.c2⟩) (fun hHeld => ?_)
   clear hK K
   try go_frame
   refine wpAnyF_one (i := 15) (by kernel_rfl) rfl (fun K hK => ?_)
   go_simp
   (go_at_call 44; (with_reducible refine (Cmp_c z Bz _ _ _ H4.out H5.out).mono ?_); rintro e w6 ⟨rfl, hb⟩; clear H4 H5; replace V3 := V3.keep hb; replace VP := VP.keep hb; replace HB := below_step HB hb; clear hb)
   refine hK.out _ _ (by exact ⟨V3.c0, V3.c1, V3.c2, VP.c0, VP.c1, VP.c2⟩) (fun hHeld => ?_)
   clear hK K
   try go_frame
   refine tF 16 o50139 hHeld ?_; try go_frame
   refine tF 17 o42a76 hHeld ?_; try go_frame
   refine wpAnyF_done (by kernel_rfl) ?_ _
   clear hHeld hWd
   go_wp2_with fail
   (with_reducible refine (awake9_c _ (HTB.out.below HB)).mono ?_)
   rintro e wz ⟨rfl, hb⟩
   replace HB := below_step HB hb
   clear hb
   go_wp2
   go_ret
   exact ⟨rfl, HB⟩
  have hcm : ¬ icmp z Bz ≤ 0 := by
   intro h
   by_cases h2 : icmp z Bz = 0
   ·have := (icmp_eq _ _).1 h2; omega
   ·have := (icmp_lt' z Bz).1 (by omega); omega
  have hcmd : decide (icmp z Bz ≤ 0) = false := decide_eq_false hcm
  have HBG := Lib.hid hbz
  clear hbz
  refine hK.out _ _ (by exact ⟨V3.c0, V3.c1, V3.c2, VP.c0, VP.c1, VP.c2⟩) (fun hHeld => ?_)
  clear hK K
  try go_frame
  refine tF 3 oa3abc hHeld ?_; try go_frame
  refine tF 4 ob7478 hHeld ?_; try go_frame
  refine tF 5 ob8928 hHeld ?_; try go_frame
  refine wpAnyF_one (i := 6) (by kernel_rfl) rfl (fun K hK => ?_)
  go_simp
  (go_at_call 32; (with_reducible refine (Valid_c (tS z) _ hs).mono ?_); rintro e w3 ⟨he, rfl⟩; obtain rfl : e = .returned (.bool true) := (by rw [he, HV.out]); clear he)
  refine hK.out _ _ (by exact ⟨V3.c0, V3.c1, V3.c2, VP.c0, VP.c1, VP.c2⟩) (fun hHeld => ?_)
  clear hK K
  try go_frame
  refine tF 7 o84c33 hHeld ?_; try go_frame
  refine tF 8 o17bd7 hHeld ?_; try go_frame
  refine tF 9 o0dac7 hHeld ?_; try go_frame
  refine tF 10 o460f4 hHeld ?_; try go_frame
  refine tF 12 o0177b hHeld ?_; try go_frame
  refine tF 13 o49d9f hHeld ?_; try go_frame
  refine wpAnyF_one (i := 11) (by kernel_rfl) rfl (fun K hK => ?_)
  go_simp
  (go_at_call 15; (with_reducible refine (Parse_c z _ (by have := HZ.out; omega)).mono ?_); rintro e w4 ⟨v, rfl, hv, hb⟩; obtain ⟨n4, A4, m4, k4, rfl, H4⟩ := hv.form; clear hv; replace V3 := V3.keep hb; replace VP := VP.keep hb; replace HB := below_step HB hb; clear hb)
  refine hK.out _ _ (by exact ⟨V3.c0, V3.c1, V3.c2, VP.c0, VP.c1, VP.c2⟩) (fun hHeld => ?_)
  clear hK K
  try go_frame
  refine wpAnyF_one (i := 14) (by kernel_rfl) rfl (fun K hK => ?_)
  go_simp
  (go_at_call 15; (with_reducible refine (Parse_c Bz _ (by have := HBZ.out; omega)).mono ?_); rintro e w5 ⟨v, rfl, hv, hb⟩; obtain ⟨n5, A5, m5, k5, rfl, H5⟩ := hv.form; clear hv; replace H4 := Lib.hid (H4.out.below hb); replace V3 := V3.keep hb; replace VP := VP.keep hb; replace HB := below_step HB hb; clear hb)
  refine hK.out _ _ (by exact ⟨V3.c0, V3.c1, V3.c2, VP.c0, VP.c1, VP.c2⟩) (fun hHeld => ?_)
  clear hK K
  try go_frame
  refine wpAnyF_one (i := 15) (by kernel_rfl) rfl (fun K hK => ?_)
  go_simp
  (go_at_call 44; (with_reducible refine (Cmp_c z Bz _ _ _ H4.out H5.out).mono ?_); rintro e w6 ⟨rfl, hb⟩; clear H4 H5; replace V3 := V3.keep hb; replace VP := VP.keep hb; replace HB := below_step HB hb; clear hb)
  refine hK.out _ _ (by exact ⟨V3.c0, V3.c1, V3.c2, VP.c0, VP.c1, VP.c2⟩) (fun hHeld => ?_)
  clear hK K
  try go_frame
  refine tF 16 o50139 hHeld ?_; try go_frame
  refine tF 17 o42a76 hHeld ?_; try go_frame
  refine wpAnyF_done (by kernel_rfl) ?_ _
  clear hHeld hWd
  clear hcm hcmd
  by_cases hac : 1 ≤ Kz ∧ Acc M Kz.toNat Bz ls
  rotate_left
  ·have HCK : Hid (∀ (u : Value) {W : World}, IsM W u M → LsL W A c ls → Tb W → Calls Tryz.prog 14 #[u, .agg #[.int .i64 Kz, .string (tS Bz), .slice A nl c]] W fun e w' => e = .returned (.tuple #[.bool false, .int .i64 0]) ∧ Below W.heap.size W w') := fun u W h1 h2 h3 => by
    rw [← HNS.out]
    exact Check_c M Kz Bz ls u A c W h1 HOM.out HBZ.out h2 HZZ.out h3 false ⟨fun h => (by cases h), fun h => absurd h hac⟩
   clear hac
   have m0 := V3.c0; have m1 := V3.c1; have m2 := V3.c2
   have p0 := VP.c0; have p1 := VP.c1; have p2 := VP.c2
   go_wp2_with fail
   (with_reducible refine (HCK.out _ V3.im.out (HLL.out.below HB) (HTB.out.below HB)).mono ?_)
   rintro e w7 ⟨rfl, hb⟩
   clear m0 m1 m2
   clear p0 p1 p2
   replace V3 := V3.keep hb; replace VP := VP.keep hb; replace HB := below_step HB hb
   clear hb
   clear HCK
   go_wp2_with fail
   (with_reducible refine (awake9_c _ (HTB.out.below HB)).mono ?_)
   rintro e wz ⟨rfl, hb⟩
   replace HB := below_step HB hb
   clear hb
   go_wp2
   go_ret
   exact ⟨rfl, HB⟩
  obtain ⟨hk1, hac⟩ := hac
  have HCK : Hid (∀ (u : Value) {W : World}, IsM W u M → LsL W A c ls → Tb W → Calls Tryz.prog 14 #[u, .agg #[.int .i64 Kz, .string (tS Bz), .slice A nl c]] W fun e w' => e = .returned (.tuple #[.bool true, .int .i64 0]) ∧ Below W.heap.size W w') := fun u W h1 h2 h3 => by
   rw [← HNS.out]
   exact Check_c M Kz Bz ls u A c W h1 HOM.out HBZ.out h2 HZZ.out h3 true ⟨fun _ => ⟨hk1, hac⟩, fun _ => rfl⟩
  have m0 := V3.c0; have m1 := V3.c1; have m2 := V3.c2
  have p0 := VP.c0; have p1 := VP.c1; have p2 := VP.c2
  go_wp2_with fail
  (with_reducible refine (HCK.out _ V3.im.out (HLL.out.below HB) (HTB.out.below HB)).mono ?_)
  rintro e w7 ⟨rfl, hb⟩
  clear m0 m1 m2
  clear p0 p1 p2
  replace V3 := V3.keep hb; replace VP := VP.keep hb; replace HB := below_step HB hb
  clear hb
  clear HCK
  obtain ⟨Kn, hKn⟩ : ∃ Kn : Nat, Kz = (Kn : Int) := ⟨Kz.toNat, by omega⟩
  subst hKn
  rw [Int.toNat_natCast] at hac
  have HAC := Lib.hid hac
  have hkn : Kn ≤ 16 := hac.k1 HOM.out
  have hq1 : ¬ (Kn : Int) < 1 := by omega
  have hq2 : decide ((Kn : Int) < 1) = false := decide_eq_false hq1
  have HFA : Hid (∃ i, 1 ≤ i ∧ i ≤ Kn ∧ itZ M z i < z) := by
   obtain ⟨i, h1, h2, h3⟩ := hac.falls HOM.out HBG.out
   exact ⟨i, h1, h2, h3⟩
  have hk2 : 1 ≤ Kn := by omega
  clear hac
  have m0 := V3.c0; have m1 := V3.c1; have m2 := V3.c2
  have p0 := VP.c0; have p1 := VP.c1; have p2 := VP.c2
  go_wp2_with fail
  (with_reducible refine (Falls_ok M z Kn _ _ V3.im.out HOM.out HZ.out hk2 (by omega) HFA.out (HTB.out.below HB)).mono ?_)
  rintro e w8 ⟨⟨r0, r1, r2, rfl, hR⟩, hb⟩
  clear m0 m1 m2
  clear p0 p1 p2
  replace V3 := V3.keep hb; replace VP := VP.keep hb; replace HB := below_step HB hb
  clear hb
  clear hq1 hq2
  rcases hR with ⟨rfl, rfl, rfl⟩ | ⟨i, h1, h2, h3, h4, rfl, rfl, rfl⟩
  ·have p0 := VP.c0
   go_wp2_with fail
   (with_reducible refine (awake9_c _ (HTB.out.below HB)).mono ?_)
   rintro e wz ⟨rfl, hb⟩
   replace HB := below_step HB hb
   clear hb
   go_wp2
   go_ret
   exact ⟨rfl, HB⟩
  ·have H3 := Lib.hid h3
   have hi1 : (1 : Int) ≤ (i : Int) := by omega
   have hi2 : (i : Int) ≤ (Kn : Int) := by omega
   have HYZ : Hid (dlN (itZ M z i).natAbs ≤ 2000) := by show _ ≤ _; rw [← dl_dlN]; exact h4
   have HVY := Lib.hid (vld_tS HYZ.out)
   have hys := tS_sz HYZ.out
   clear h3 h4
   generalize itZ M z i = y at *
   have p0 := VP.c0
   go_wp2_with fail
   (with_reducible refine (Valid_c (tS y) _ hys).mono ?_)
   rintro e w9 ⟨he, rfl⟩
   obtain rfl : e = .returned (.bool true) := by rw [he, HVY.out]
   clear he
   go_wp2_with fail
   (with_reducible refine (Parse_c y _ (by have := HYZ.out; omega)).mono ?_)
   rintro e wa ⟨v, rfl, hv, hb⟩
   obtain ⟨n6, A6, m6, k6, rfl, H6⟩ := hv.form; clear hv
   replace HB := below_step HB hb
   clear hb p0
   go_wp2_with fail
   (with_reducible refine (Parse_c z _ (by have := HZ.out; omega)).mono ?_)
   rintro e wb ⟨v, rfl, hv, hb⟩
   obtain ⟨n7, A7, m7, k7, rfl, H7⟩ := hv.form; clear hv
   replace H6 := Lib.hid (H6.out.below hb)
   replace HB := below_step HB hb
   clear hb
   go_wp2_with fail
   (with_reducible refine (Cmp_c y z _ _ _ H6.out H7.out).mono ?_)
   rintro e wc ⟨rfl, hb⟩
   replace HB := below_step HB hb
   have hcm : icmp y z < 0 := (icmp_lt' _ _).2 H3.out
   clear hb H6 H7
   go_wp2_with fail
   (with_reducible refine (awake9_c _ (HTB.out.below HB)).mono ?_)
   rintro e wz ⟨rfl, hb⟩
   replace HB := below_step HB hb
   clear hb
   go_wp2
   go_ret
   exact ⟨rfl, HB⟩
end Go.Proofs.YtibdipfhfaeooaaGreatDoor

