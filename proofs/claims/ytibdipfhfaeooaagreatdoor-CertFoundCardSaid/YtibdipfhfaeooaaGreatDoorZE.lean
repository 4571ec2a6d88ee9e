/- What num.Told and step.Step do to memory and what they return. No condition but that the library's table lies as it should. -/
import Derived.Test.YtibdipfhfaeooaaGreatDoorZD
import Derived.Maps.RangeWalk
set_option linter.unusedVariables false
set_option linter.unusedSimpArgs false
namespace Go.Proofs.YtibdipfhfaeooaaGreatDoor
open Go.RowKit

abbrev o4d89b : Oper := { dst := some 16, op := Go.Op.move (Go.Operand.tmp 20), type := 119, pos := "step.go:87", after := #[{ on := 3, ground := Go.Ground.data }], guard := none }
abbrev ofcf98 : Oper := { dst := some 21, op := Go.Op.extract (Go.Operand.tmp 16) 0, type := 118, pos := "step.go:87", after := #[{ on := 4, ground := Go.Ground.data }], guard := none }
abbrev o2e586 : Oper := { dst := some 22, op := Go.Op.extract (Go.Operand.tmp 16) 1, type := 3, pos := "step.go:87", after := #[{ on := 4, ground := Go.Ground.data }, { on := 8, ground := Go.Ground.gcOnly Go.Departure.lateStores }], guard := none }
attribute [local go_sem] o4d89b ofcf98 o2e586
/-- A number told as a result: the string and the error. -/
def toldS (z : Int) : ByteArray := if 2000 < dl z then ⟨#[]⟩ else tS z
def toldE (z : Int) : Int := if 2000 < dl z then 3 else 0
set_option maxHeartbeats 1000000 in
theorem Told_c (z : Int) (v : Value) (w : World) (h : IsH w v z) (ht : Tb w) (sz : (dg B9 z).length ≤ 1000000000) :
  Calls Tryz.prog 82 #[v] w fun e w' => e = .returned (.tuple #[.string (toldS z), .int .i64 (toldE z)]) ∧ Below w.heap.size w w' := by
 obtain ⟨nz, Az, mz, kz, rfl, HZ⟩ := h.form
 have V1 := VX.new w 118 HZ.out
 have HB := below_alloc (Below.refl w.heap.size w) (Obj.cells #[Value.bool nz, Value.slice Az mz kz] 118)
 have HT := Lib.hid ht
 clear ht h
 by_cases hd : 2000 < dl z
 ·have hd2 : (2000 : Int) < (dl z : Int) := by omega
  have HR : Hid (toldS z = ⟨#[]⟩ ∧ toldE z = 3) := by refine ⟨?_, ?_⟩ <;> (first | unfold toldS | unfold toldE) <;> rw [if_pos hd]
  clear hd
  go_enter Tryz.func82, Tryz.ntmps82
  have m0 := V1.c0; have m1 := V1.c1
  go_wp2_with fail
  (with_reducible refine (hDigits_c z _ _ V1.iz.out (HT.out.below HB) sz).mono ?_)
  rintro e w2 ⟨rfl, hb⟩
  replace HB := below_step HB hb
  clear hb m0 m1
  go_wp2
  go_ret2
  exact ⟨by rw [HR.out.1, HR.out.2] <;> rfl, HB⟩
 ·have hd2 : ¬ (2000 : Int) < (dl z : Int) := by omega
  have HR : Hid (toldS z = tS z ∧ toldE z = 0) := by refine ⟨?_, ?_⟩ <;> (first | unfold toldS | unfold toldE) <;> rw [if_neg hd]
  clear hd
  go_enter Tryz.func82, Tryz.ntmps82
  have m0 := V1.c0; have m1 := V1.c1
  go_wp2_with fail
  (with_reducible refine (hDigits_c z _ _ V1.iz.out (HT.out.below HB) sz).mono ?_)
  rintro e w2 ⟨rfl, hb⟩
  replace HB := below_step HB hb
  replace V1 := V1.keep hb
  clear hb m0 m1
  have m0 := V1.c0; have m1 := V1.c1
  go_wp2_with fail
  (with_reducible refine (hStr_c z _ _ V1.iz.out (HT.out.below HB) sz).mono ?_)
  rintro e w3 ⟨rfl, hb⟩
  replace HB := below_step HB hb
  clear hb m0 m1
  go_wp2
  go_ret2
  exact ⟨by rw [HR.out.1, HR.out.2] <;> rfl, HB⟩
set_option maxRecDepth 100000 in
set_option maxHeartbeats 8000000 in
theorem Stp_ok (M : Mp) (z : Int) (v : Value) (w : World) (hM : IsM w v M) (hok : okM M) (hz : dlN z.natAbs ≤ 2000) (ht : Tb w) :
  Calls Tryz.prog 37 #[v, .string (tS z)] w fun e w' => e = .returned (.tuple #[.string (toldS (stepZ M z)), .int .i64 (toldE (stepZ M z))]) ∧ Below w.heap.size w w' := by
 obtain ⟨md, A, n, c, A', n', c', rfl, HM⟩ := hM.form
 have V3 := VM.new w 24 HM.out
 have HB := below_alloc (Below.refl w.heap.size w) (Obj.cells #[Value.int .i64 md, Value.slice A n c, Value.slice A' n' c'] 24)
 have HT := Lib.hid ht
 have HOKM := Lib.hid hok
 have HOK : Hid (okB M = true) := okB_iff.2 hok
 have HV := Lib.hid (vld_tS hz)
 have hs := Lib.hid (tS_sz hz)
 have HZ := Lib.hid hz
 have HL : Hid ((dg B9 z).length ≤ 2000) := len_dlN hz
 have HLS : Hid ((dg B9 (stepZ M z)).length ≤ 1000000000) := by have := step_len hok z; have := HL.out; show _ ≤ _; omega
 clear hM hok hz ht
 go_enter Tryz.func37, Tryz.ntmps37
 go_wp2_with fail
 (with_reducible refine (SValid_c M _ _ V3.im.out).mono ?_)
 rintro e w4 ⟨he, hb⟩
 replace HB := below_step HB hb
 replace V3 := V3.keep hb
 clear hb
 obtain rfl : e = .returned (.bool true) := by rw [he, HOK.out] <;> rfl
 clear he
 go_wp2_with fail
 (with_reducible refine (nValid_c (tS z) _ hs.out).mono ?_)
 rintro e w5 ⟨he, hb⟩
 replace HB := below_step HB hb
 replace V3 := V3.keep hb
 clear hb
 obtain rfl : e = .returned (.bool true) := by rw [he, HV.out] <;> rfl
 clear he

 have m0 := V3.c0; have m1 := V3.c1; have m2 := V3.c2
 go_wp2_with fail
 clear m0 m1 m2
 replace V3 := V3.drew
 replace HB := below_drew HB
 generalize hWd : w5.drew = wd at *
 refine wp_region_F (fun w' => w'.cell? ⟨w.heap.size, 0, none⟩ = some (.int .i64 md) ∧ w'.cell? ⟨w.heap.size, 1, none⟩ = some (.slice A n c) ∧ w'.cell? ⟨w.heap.size, 2, none⟩ = some (.slice A' n' c')) [8, 9] (by kernel_rfl) (by rw [hWd]; exact ⟨V3.c0, V3.c1, V3.c2⟩) (fun hHeld => ?_)
 rw [hWd] at hHeld ⊢
 refine tF 0 ({ dst := some 17, op := Go.Op.load 24 (Go.Operand.tmp 2), type := 24, pos := "step.go:87", after := #[], guard := none }) hHeld ?_; try go_frame
 refine tF 1 ({ dst := some 18, op := Go.Op.move (Go.Operand.tmp 1), type := 9, pos := "step.go:87", after := #[], guard := none }) hHeld ?_; try go_frame
 refine wpAnyF_two (i := 2) (j := 7) (by kernel_rfl) rfl rfl (fun K hK => ?_) (fun K hK => ?_)
 ·go_simp
  (go_at_call 81; (with_reducible refine (hParse_c z _ (by have := HZ.out; omega)).mono ?_); rintro e w8 ⟨v, rfl, hv, hb8⟩; obtain ⟨n8, A8, m8, k8, rfl, H8⟩ := hv.form; clear hv; replace V3 := V3.keep hb8; replace HB := below_step HB hb8)
  clear hb8
  refine hK.out _ _ (by exact ⟨V3.c0, V3.c1, V3.c2⟩) (fun hHeld => ?_)
  clear hK K
  try go_frame
  refine wpAnyF_two (i := 3) (j := 7) (by kernel_rfl) rfl rfl (fun K hK => ?_) (fun K hK => ?_)
  ·go_simp
   (go_at_call 80; (with_reducible refine (Next_c M z _ _ _ V3.im.out H8.out HOKM.out (by have := HL.out; omega)).mono ?_); rintro e w9 ⟨v, r9, rfl, hv, hr9, hb9⟩; clear hr9; obtain ⟨n9, A9, m9, k9, rfl, H9⟩ := hv.form; clear hv; replace V3 := V3.keep hb9; replace HB := below_step HB hb9)
   clear hb9
   refine hK.out _ _ (by exact ⟨V3.c0, V3.c1, V3.c2⟩) (fun hHeld => ?_)
   clear hK K
   try go_frame
   refine tF 4 o4d89b hHeld ?_; try go_frame
   refine tF 5 ofcf98 hHeld ?_; try go_frame
   refine pF 6 o2e586 hHeld ?_; try go_frame
   refine wpAnyF_one (i := 7) (by kernel_rfl) rfl (fun K hK => ?_)
   go_simp
   refine hK.out _ _ (by replace V3 := V3.keep (below_alloc (Below.refl w9.heap.size w9) (Obj.cells #[Value.bool false, Value.slice none 0 0] 118)); exact ⟨V3.c0, V3.c1, V3.c2⟩) (fun hHeld => ?_)
   clear hK K
   try go_frame
   have hba1 := HB.size
   have ltV3 := V3.lt
   have RA := newRes w9 118
   replace V3 := V3.keep (below_alloc (Below.refl w9.heap.size w9) (Obj.cells #[Value.bool false, Value.slice none 0 0] 118))
   replace HB := below_alloc HB (Obj.cells #[Value.bool false, Value.slice none 0 0] 118)
   replace H9 := Lib.hid (H9.out.below (below_alloc (Below.refl w9.heap.size w9) (Obj.cells #[Value.bool false, Value.slice none 0 0] 118)))
   generalize hWa : w9.alloc (Obj.cells #[Value.bool false, Value.slice none 0 0] 118) = wa at *
   generalize hba : w9.heap.size = ba at *
   refine wpAnyF_st (i := 8) (by kernel_rfl) (by kernel_rfl) rfl (fun K hK => ?_)
   obtain ⟨⟨u1_, r1_⟩, ⟨u2_, u3_, u4_, r2_⟩, r3_, r4_, r5_⟩ := RA
   have RA : Res2 _ ba := ⟨⟨u1_, r1_⟩, ⟨u2_, u3_, u4_, r2_⟩, r3_, r4_, r5_⟩
   go_simp
   refine hK.out _ _ ?_
   clear hK K r1_ r2_ r3_ r4_ r5_
   try go_frame
   refine wpAnyF_st (i := 9) (by kernel_rfl) (by kernel_rfl) rfl (fun K hK => ?_)
   obtain ⟨⟨u1_, r1_⟩, ⟨u2_, u3_, u4_, r2_⟩, r3_, r4_, r5_⟩ := RA
   have RA : Res2 _ ba := ⟨⟨u1_, r1_⟩, ⟨u2_, u3_, u4_, r2_⟩, r3_, r4_, r5_⟩
   go_simp
   refine hK.out _ _ ?_
   clear hK K r1_ r2_ r3_ r4_ r5_
   try go_frame
   refine wpAnyF_done (by kernel_rfl) ?_ _
   clear hHeld
   have V6 := VX.store RA H9.out
   replace HB := below_set2 (b := ba) HB (by omega) (.bool n9) (.slice A9 m9 k9)
   generalize hW9 : (wa.setCell ⟨ba, 0, none⟩ (.bool n9)).setCell ⟨ba, 1, none⟩ (.slice A9 m9 k9) = W9 at *
   clear hW9 RA V3
   have m0 := V6.c0; have m1 := V6.c1
   go_wp2_with fail
   (with_reducible refine (Told_c (stepZ M z) _ _ V6.iz.out (HT.out.below HB) HLS.out).mono ?_)
   rintro e w11 ⟨rfl, hb⟩
   replace HB := below_step HB hb
   clear hb m0 m1
   go_wp2
   go_ret2
   exact ⟨rfl, HB⟩
  ·go_simp
   refine hK.out _ _ (by replace V3 := V3.keep (below_alloc (Below.refl w8.heap.size w8) (Obj.cells #[Value.bool false, Value.slice none 0 0] 118)); exact ⟨V3.c0, V3.c1, V3.c2⟩) (fun hHeld => ?_)
   clear hK K
   try go_frame
   have hba1 := HB.size
   have ltV3 := V3.lt
   have RA := newRes w8 118
   replace V3 := V3.keep (below_alloc (Below.refl w8.heap.size w8) (Obj.cells #[Value.bool false, Value.slice none 0 0] 118))
   replace HB := below_alloc HB (Obj.cells #[Value.bool false, Value.slice none 0 0] 118)
   replace H8 := Lib.hid (H8.out.below (below_alloc (Below.refl w8.heap.size w8) (Obj.cells #[Value.bool false, Value.slice none 0 0] 118)))
   generalize hWa : w8.alloc (Obj.cells #[Value.bool false, Value.slice none 0 0] 118) = wa at *
   generalize hba : w8.heap.size = ba at *
   refine wpAnyF_one (i := 3) (by kernel_rfl) rfl (fun K hK => ?_)
   go_simp
   (go_at_call 80; (with_reducible refine (Next_c M z _ _ _ V3.im.out H8.out HOKM.out (by have := HL.out; omega)).mono ?_); rintro e w9 ⟨v, r9, rfl, hv, hr9, hb9⟩; clear hr9; obtain ⟨n9, A9, m9, k9, rfl, H9⟩ := hv.form; clear hv; replace V3 := V3.keep hb9; replace HB := below_step HB hb9)
   replace RA := RA.keep hb9
   clear hb9
   refine hK.out _ _ (by exact ⟨V3.c0, V3.c1, V3.c2⟩) (fun hHeld => ?_)
   clear hK K
   try go_frame
   refine tF 4 o4d89b hHeld ?_; try go_frame
   refine tF 5 ofcf98 hHeld ?_; try go_frame
   refine pF 6 o2e586 hHeld ?_; try go_frame
   refine wpAnyF_st (i := 8) (by kernel_rfl) (by kernel_rfl) rfl (fun K hK => ?_)
   obtain ⟨⟨u1_, r1_⟩, ⟨u2_, u3_, u4_, r2_⟩, r3_, r4_, r5_⟩ := RA
   have RA : Res2 _ ba := ⟨⟨u1_, r1_⟩, ⟨u2_, u3_, u4_, r2_⟩, r3_, r4_, r5_⟩
   go_simp
   refine hK.out _ _ ?_
   clear hK K r1_ r2_ r3_ r4_ r5_
   try go_frame
   refine wpAnyF_st (i := 9) (by kernel_rfl) (by kernel_rfl) rfl (fun K hK => ?_)
   obtain ⟨⟨u1_, r1_⟩, ⟨u2_, u3_, u4_, r2_⟩, r3_, r4_, r5_⟩ := RA
   have RA : Res2 _ ba := ⟨⟨u1_, r1_⟩, ⟨u2_, u3_, u4_, r2_⟩, r3_, r4_, r5_⟩
   go_simp
   refine hK.out _ _ ?_
   clear hK K r1_ r2_ r3_ r4_ r5_
   try go_frame
   refine wpAnyF_done (by kernel_rfl) ?_ _
   clear hHeld
   have V6 := VX.store RA H9.out
   replace HB := below_set2 (b := ba) HB (by omega) (.bool n9) (.slice A9 m9 k9)
   generalize hW9 : (w9.setCell ⟨ba, 0, none⟩ (.bool n9)).setCell ⟨ba, 1, none⟩ (.slice A9 m9 k9) = W9 at *
   clear hW9 RA V3
   have m0 := V6.c0; have m1 := V6.c1
   go_wp2_with fail
   (with_reducible refine (Told_c (stepZ M z) _ _ V6.iz.out (HT.out.below HB) HLS.out).mono ?_)
   rintro e w11 ⟨rfl, hb⟩
   replace HB := below_step HB hb
   clear hb m0 m1
   go_wp2
   go_ret2
   exact ⟨rfl, HB⟩
 ·go_simp
  refine hK.out _ _ (by replace V3 := V3.keep (below_alloc (Below.refl wd.heap.size wd) (Obj.cells #[Value.bool false, Value.slice none 0 0] 118)); exact ⟨V3.c0, V3.c1, V3.c2⟩) (fun hHeld => ?_)
  clear hK K
  try go_frame
  have hba1 := HB.size
  have ltV3 := V3.lt
  have RA := newRes wd 118
  replace V3 := V3.keep (below_alloc (Below.refl wd.heap.size wd) (Obj.cells #[Value.bool false, Value.slice none 0 0] 118))
  replace HB := below_alloc HB (Obj.cells #[Value.bool false, Value.slice none 0 0] 118)
  generalize hWa : wd.alloc (Obj.cells #[Value.bool false, Value.slice none 0 0] 118) = wa at *
  generalize hba : wd.heap.size = ba at *
  refine wpAnyF_one (i := 2) (by kernel_rfl) rfl (fun K hK => ?_)
  go_simp
  (go_at_call 81; (with_reducible refine (hParse_c z _ (by have := HZ.out; omega)).mono ?_); rintro e w8 ⟨v, rfl, hv, hb8⟩; obtain ⟨n8, A8, m8, k8, rfl, H8⟩ := hv.form; clear hv; replace V3 := V3.keep hb8; replace HB := below_step HB hb8)
  replace RA := RA.keep hb8
  clear hb8
  refine hK.out _ _ (by exact ⟨V3.c0, V3.c1, V3.c2⟩) (fun hHeld => ?_)
  clear hK K
  try go_frame
  refine wpAnyF_one (i := 3) (by kernel_rfl) rfl (fun K hK => ?_)
  go_simp
  (go_at_call 80; (with_reducible refine (Next_c M z _ _ _ V3.im.out H8.out HOKM.out (by have := HL.out; omega)).mono ?_); rintro e w9 ⟨v, r9, rfl, hv, hr9, hb9⟩; clear hr9; obtain ⟨n9, A9, m9, k9, rfl, H9⟩ := hv.form; clear hv; replace V3 := V3.keep hb9; replace HB := below_step HB hb9)
  replace RA := RA.keep hb9
  clear hb9
  refine hK.out _ _ (by exact ⟨V3.c0, V3.c1, V3.c2⟩) (fun hHeld => ?_)
  clear hK K
  try go_frame
  refine tF 4 o4d89b hHeld ?_; try go_frame
  refine tF 5 ofcf98 hHeld ?_; try go_frame
  refine pF 6 o2e586 hHeld ?_; try go_frame
  refine wpAnyF_st (i := 8) (by kernel_rfl) (by kernel_rfl) rfl (fun K hK => ?_)
  obtain ⟨⟨u1_, r1_⟩, ⟨u2_, u3_, u4_, r2_⟩, r3_, r4_, r5_⟩ := RA
  have RA : Res2 _ ba := ⟨⟨u1_, r1_⟩, ⟨u2_, u3_, u4_, r2_⟩, r3_, r4_, r5_⟩
  go_simp
  refine hK.out _ _ ?_
  clear hK K r1_ r2_ r3_ r4_ r5_
  try go_frame
  refine wpAnyF_st (i := 9) (by kernel_rfl) (by kernel_rfl) rfl (fun K hK => ?_)
  obtain ⟨⟨u1_, r1_⟩, ⟨u2_, u3_, u4_, r2_⟩, r3_, r4_, r5_⟩ := RA
  have RA : Res2 _ ba := ⟨⟨u1_, r1_⟩, ⟨u2_, u3_, u4_, r2_⟩, r3_, r4_, r5_⟩
  go_simp
  refine hK.out _ _ ?_
  clear hK K r1_ r2_ r3_ r4_ r5_
  try go_frame
  refine wpAnyF_done (by kernel_rfl) ?_ _
  clear hHeld
  have V6 := VX.store RA H9.out
  replace HB := below_set2 (b := ba) HB (by omega) (.bool n9) (.slice A9 m9 k9)
  generalize hW9 : (w9.setCell ⟨ba, 0, none⟩ (.bool n9)).setCell ⟨ba, 1, none⟩ (.slice A9 m9 k9) = W9 at *
  clear hW9 RA V3
  have m0 := V6.c0; have m1 := V6.c1
  go_wp2_with fail
  (with_reducible refine (Told_c (stepZ M z) _ _ V6.iz.out (HT.out.below HB) HLS.out).mono ?_)
  rintro e w11 ⟨rfl, hb⟩
  replace HB := below_step HB hb
  clear hb m0 m1
  go_wp2
  go_ret2
  exact ⟨rfl, HB⟩
end Go.Proofs.YtibdipfhfaeooaaGreatDoor

