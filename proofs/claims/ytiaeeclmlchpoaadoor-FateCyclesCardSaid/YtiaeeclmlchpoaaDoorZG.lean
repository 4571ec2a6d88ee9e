/- What num.Told and step.Step do to memory and what they return. No condition but that the library's table lies as it should. -/
import Derived.Test.YtiaeeclmlchpoaaDoorZ9
import Derived.Maps.RangeWalk
import Derived.Test.YtiaeeclmlchpoaaDoorZD
import Derived.Test.YtiaeeclmlchpoaaDoorZC
set_option linter.unusedVariables false
set_option linter.unusedSimpArgs false
namespace Go.Proofs.YtiaeeclmlchpoaaDoor
open Go.RowKit

abbrev op45124e83 : Oper := { dst := some 16, op := Go.Op.move (Go.Operand.tmp 20), type := 90, pos := "step.go:87", after := #[{ on := 3, ground := Go.Ground.data }], guard := none }
abbrev op150cdec4 : Oper := { dst := some 21, op := Go.Op.extract (Go.Operand.tmp 16) 0, type := 76, pos := "step.go:87", after := #[{ on := 4, ground := Go.Ground.data }], guard := none }
abbrev op2e586350 : Oper := { dst := some 22, op := Go.Op.extract (Go.Operand.tmp 16) 1, type := 3, pos := "step.go:87", after := #[{ on := 4, ground := Go.Ground.data }, { on := 8, ground := Go.Ground.gcOnly Go.Departure.lateStores }], guard := none }
attribute [local go_sem] op45124e83 op150cdec4 op2e586350
/-- A number told as a result: the string and the error. -/
def toldS (z : Int) : ByteArray := if 2000 < dl z then ⟨#[]⟩ else tS z
def toldE (z : Int) : Int := if 2000 < dl z then 3 else 0
set_option maxHeartbeats 1000000 in
theorem Told_c (z : Int) (v : Value) (w : World) (h : IsH w v z) (ht : Tb w) (sz : (dg B9 z).length ≤ 1000000000) :
    Calls Tryd.prog 49 #[v] w fun e w' => e = .returned (.tuple #[.string (toldS z), .int .i64 (toldE z)]) ∧ Below w.heap.size w w' := by
  obtain ⟨nz, Az, mz, kz, rfl, HZ⟩ := h.form
  have V1 := VX.new w 76 HZ.out
  have HB := below_alloc (Below.refl w.heap.size w) (Obj.cells #[Value.bool nz, Value.slice Az mz kz] 76)
  have HT := Lib.hid ht
  clear ht h
  by_cases hd : 2000 < dl z
  · have hd2 : (2000 : Int) < (dl z : Int) := by omega
    have HR : Hid (toldS z = ⟨#[]⟩ ∧ toldE z = 3) := by refine ⟨?_, ?_⟩ <;> (first | unfold toldS | unfold toldE) <;> rw [if_pos hd]
    clear hd
    go_enter Tryd.func49, Tryd.ntmps49
    have m0 := V1.c0; have m1 := V1.c1
    go_wp2_with fail
    (with_reducible refine (hDigits_c z _ _ V1.iz.out (HT.out.below HB) sz).mono ?_)
    rintro e w2 ⟨rfl, hb⟩
    replace HB := below_step HB hb
    clear hb m0 m1
    go_wp2
    go_ret2
    exact ⟨by rw [HR.out.1, HR.out.2] <;> rfl, HB⟩
  · have hd2 : ¬ (2000 : Int) < (dl z : Int) := by omega
    have HR : Hid (toldS z = tS z ∧ toldE z = 0) := by refine ⟨?_, ?_⟩ <;> (first | unfold toldS | unfold toldE) <;> rw [if_neg hd]
    clear hd
    go_enter Tryd.func49, Tryd.ntmps49
    have m0 := V1.c0; have m1 := V1.c1
    go_wp2_with fail
    (with_reducible refine (hDigits_c z _ _ V1.iz.out (HT.out.below HB) sz).mono ?_)
    rintro e w2 ⟨rfl, hb⟩
    replace HB := below_step HB hb
    replace V1 := V1.keep hb
    clear hb m0 m1
    have m0 := V1.c0; have m1 := V1.c1
    go_wp2_with fail
    (with_reducible refine (hStr_c z _ _ V1.iz.out (HT.out.below HB) sz).mono ?_)
    rintro e w3 ⟨rfl, hb⟩
    replace HB := below_step HB hb
    clear hb m0 m1
    go_wp2
    go_ret2
    exact ⟨by rw [HR.out.1, HR.out.2] <;> rfl, HB⟩
set_option maxRecDepth 100000 in
set_option maxHeartbeats 8000000 in
theorem Stp_ok (M : Mp) (z : Int) (v : Value) (w : World) (hM : IsM w v M) (hok : okM M) (hz : dlN z.natAbs ≤ 2000) (ht : Tb w) :
    Calls Tryd.prog 28 #[v, .string (tS z)] w fun e w' => e = .returned (.tuple #[.string (toldS (stepZ M z)), .int .i64 (toldE (stepZ M z))]) ∧ Below w.heap.size w w' := by
  obtain ⟨md, A, n, c, A', n', c', rfl, HM⟩ := hM.form
  have V3 := VM.new w 24 HM.out
  have HB := below_alloc (Below.refl w.heap.size w) (Obj.cells #[Value.int .i64 md, Value.slice A n c, Value.slice A' n' c'] 24)
  have HT := Lib.hid ht
  have HOKM := Lib.hid hok
  have HOK : Hid (okB M = true) := okB_iff.2 hok
  have HV := Lib.hid (vld_tS hz)
  have hs := Lib.hid (tS_sz hz)
  have HZ := Lib.hid hz
  have HL : Hid ((dg B9 z).length ≤ 2000) := len_dlN hz
  have HLS : Hid ((dg B9 (stepZ M z)).length ≤ 1000000000) := by have := step_len hok z; have := HL.out; show _ ≤ _; omega
  clear hM hok hz ht
  go_enter Tryd.func28, Tryd.ntmps28
  go_wp2_with fail
  (with_reducible refine (SValid_c M _ _ V3.im.out).mono ?_)
  rintro e w4 ⟨he, hb⟩
  replace HB := below_step HB hb
  replace V3 := V3.keep hb
  clear hb
  obtain rfl : e = .returned (.bool true) := by rw [he, HOK.out] <;> rfl
  clear he
  go_wp2_with fail
  (with_reducible refine (nValid_c (tS z) _ hs.out).mono ?_)
  rintro e w5 ⟨he, hb⟩
  replace HB := below_step HB hb
  replace V3 := V3.keep hb
  clear hb
  obtain rfl : e = .returned (.bool true) := by rw [he, HV.out] <;> rfl
  clear he

  have m0 := V3.c0; have m1 := V3.c1; have m2 := V3.c2
  go_wp2_with fail
  clear m0 m1 m2
  replace V3 := V3.drew
  replace HB := below_drew HB
  generalize hWd : w5.drew = wd at *
  refine wp_region_F (fun w' => w'.cell? ⟨w.heap.size, 0, none⟩ = some (.int .i64 md) ∧ w'.cell? ⟨w.heap.size, 1, none⟩ = some (.slice A n c) ∧ w'.cell? ⟨w.heap.size, 2, none⟩ = some (.slice A' n' c')) [8, 9] (by kernel_rfl) (by rw [hWd]; exact ⟨V3.c0, V3.c1, V3.c2⟩) (fun hHeld => ?_)
  rw [hWd] at hHeld ⊢
  refine wpF_t (i := 0) (oi := { dst := some 17, op := Go.Op.load 24 (Go.Operand.tmp 2), type := 24, pos := "step.go:87", after := #[], guard := none }) (v := ?_) rfl (by kernel_rfl) (fun _ _ _ h => h) (Or.inl ⟨by rfl, ?_⟩) hHeld ?_; rotate_left
  · intro w_ hSw_; (try dsimp only at hSw_); go_simp; (try with_reducible rfl)
  try go_frame
  refine wpF_t (i := 1) (oi := { dst := some 18, op := Go.Op.move (Go.Operand.tmp 1), type := 9, pos := "step.go:87", after := #[], guard := none }) (v := ?_) rfl (by kernel_rfl) (fun _ _ _ h => h) (Or.inl ⟨by rfl, ?_⟩) hHeld ?_; rotate_left
  · intro w_ hSw_; (try dsimp only at hSw_); go_simp; (try with_reducible rfl)
  try go_frame
  refine wpAnyF_two (i := 2) (j := 7) (by kernel_rfl) rfl rfl (fun K hK => ?_) (fun K hK => ?_)
  · go_simp
    (go_at_call 37; (with_reducible refine (hParse_c z _ (by have := HZ.out; omega)).mono ?_); rintro e w8 ⟨v, rfl, hv, hb8⟩; obtain ⟨n8, A8, m8, k8, rfl, H8⟩ := hv.form; clear hv; replace V3 := V3.keep hb8; replace HB := below_step HB hb8)
    clear hb8
    refine hK.out _ _ (by exact ⟨V3.c0, V3.c1, V3.c2⟩) (fun hHeld => ?_)
    clear hK K
    try go_frame
    refine wpAnyF_two (i := 3) (j := 7) (by kernel_rfl) rfl rfl (fun K hK => ?_) (fun K hK => ?_)
    · go_simp
      (go_at_call 48; (with_reducible refine (Next_c M z _ _ _ V3.im.out H8.out HOKM.out (by have := HL.out; omega)).mono ?_); rintro e w9 ⟨v, r9, rfl, hv, hr9, hb9⟩; clear hr9; obtain ⟨n9, A9, m9, k9, rfl, H9⟩ := hv.form; clear hv; replace V3 := V3.keep hb9; replace HB := below_step HB hb9)
      clear hb9
      refine hK.out _ _ (by exact ⟨V3.c0, V3.c1, V3.c2⟩) (fun hHeld => ?_)
      clear hK K
      try go_frame
      refine wpF_t (i := 4) (oi := op45124e83) (v := ?_) rfl (by kernel_rfl) (fun _ _ _ h => h) (Or.inl ⟨by rfl, ?_⟩) hHeld ?_; rotate_left
      · intro w_ hSw_; (try dsimp only at hSw_); go_simp; (try with_reducible rfl)
      try go_frame
      refine wpF_t (i := 5) (oi := op150cdec4) (v := ?_) rfl (by kernel_rfl) (fun _ _ _ h => h) (Or.inl ⟨by rfl, ?_⟩) hHeld ?_; rotate_left
      · intro w_ hSw_; (try dsimp only at hSw_); go_simp; (try with_reducible rfl)
      try go_frame
      refine wpF_p (i := 6) (oi := op2e586350) (v := ?_) rfl (by kernel_rfl) (fun _ _ _ h => h) (Or.inl ⟨by rfl, ?_⟩) hHeld ?_; rotate_left
      · intro w_ hSw_; (try dsimp only at hSw_); go_simp; (try with_reducible rfl)
      try go_frame
      refine wpAnyF_one (i := 7) (by kernel_rfl) rfl (fun K hK => ?_)
      go_simp
      refine hK.out _ _ (by replace V3 := V3.keep (below_alloc (Below.refl w9.heap.size w9) (Obj.cells #[Value.bool false, Value.slice none 0 0] 76)); exact ⟨V3.c0, V3.c1, V3.c2⟩) (fun hHeld => ?_)
      clear hK K
      try go_frame
      have hba1 := HB.size
      have ltV3 := V3.lt
      have RA := newRes w9 76
      replace V3 := V3.keep (below_alloc (Below.refl w9.heap.size w9) (Obj.cells #[Value.bool false, Value.slice none 0 0] 76))
      replace HB := below_alloc HB (Obj.cells #[Value.bool false, Value.slice none 0 0] 76)
      replace H9 := Lib.hid (H9.out.below (below_alloc (Below.refl w9.heap.size w9) (Obj.cells #[Value.bool false, Value.slice none 0 0] 76)))
      generalize hWa : w9.alloc (Obj.cells #[Value.bool false, Value.slice none 0 0] 76) = wa at *
      generalize hba : w9.heap.size = ba at *
      refine wpAnyF_st (i := 8) (by kernel_rfl) (by kernel_rfl) rfl (fun K hK => ?_)
      obtain ⟨⟨u1_, r1_⟩, ⟨u2_, u3_, u4_, r2_⟩, r3_, r4_, r5_⟩ := RA
      have RA : Res2 _ ba := ⟨⟨u1_, r1_⟩, ⟨u2_, u3_, u4_, r2_⟩, r3_, r4_, r5_⟩
      go_simp
      refine hK.out _ _ ?_
      clear hK K r1_ r2_ r3_ r4_ r5_
      try go_frame
      refine wpAnyF_st (i := 9) (by kernel_rfl) (by kernel_rfl) rfl (fun K hK => ?_)
      obtain ⟨⟨u1_, r1_⟩, ⟨u2_, u3_, u4_, r2_⟩, r3_, r4_, r5_⟩ := RA
      have RA : Res2 _ ba := ⟨⟨u1_, r1_⟩, ⟨u2_, u3_, u4_, r2_⟩, r3_, r4_, r5_⟩
      go_simp
      refine hK.out _ _ ?_
      clear hK K r1_ r2_ r3_ r4_ r5_
      try go_frame
      refine wpAnyF_done (by kernel_rfl) ?_ _
      clear hHeld
      have V6 := VX.store RA H9.out
      replace HB := below_set2 (b := ba) HB (by omega) (.bool n9) (.slice A9 m9 k9)
      generalize hW9 : (wa.setCell ⟨ba, 0, none⟩ (.bool n9)).setCell ⟨ba, 1, none⟩ (.slice A9 m9 k9) = W9 at *
      clear hW9 RA V3
      have m0 := V6.c0; have m1 := V6.c1
      go_wp2_with fail
      (with_reducible refine (Told_c (stepZ M z) _ _ V6.iz.out (HT.out.below HB) HLS.out).mono ?_)
      rintro e w11 ⟨rfl, hb⟩
      replace HB := below_step HB hb
      clear hb m0 m1
      go_wp2
      go_ret2
      exact ⟨rfl, HB⟩
    · go_simp
      refine hK.out _ _ (by replace V3 := V3.keep (below_alloc (Below.refl w8.heap.size w8) (Obj.cells #[Value.bool false, Value.slice none 0 0] 76)); exact ⟨V3.c0, V3.c1, V3.c2⟩) (fun hHeld => ?_)
      clear hK K
      try go_frame
      have hba1 := HB.size
      have ltV3 := V3.lt
      have RA := newRes w8 76
      replace V3 := V3.keep (below_alloc (Below.refl w8.heap.size w8) (Obj.cells #[Value.bool false, Value.slice none 0 0] 76))
      replace HB := below_alloc HB (Obj.cells #[Value.bool false, Value.slice none 0 0] 76)
      replace H8 := Lib.hid (H8.out.below (below_alloc (Below.refl w8.heap.size w8) (Obj.cells #[Value.bool false, Value.slice none 0 0] 76)))
      generalize hWa : w8.alloc (Obj.cells #[Value.bool false, Value.slice none 0 0] 76) = wa at *
      generalize hba : w8.heap.size = ba at *
      refine wpAnyF_one (i := 3) (by kernel_rfl) rfl (fun K hK => ?_)
      go_simp
      (go_at_call 48; (with_reducible refine (Next_c M z _ _ _ V3.im.out H8.out HOKM.out (by have := HL.out; omega)).mono ?_); rintro e w9 ⟨v, r9, rfl, hv, hr9, hb9⟩; clear hr9; obtain ⟨n9, A9, m9, k9, rfl, H9⟩ := hv.form; clear hv; replace V3 := V3.keep hb9; replace HB := below_step HB hb9)
      replace RA := RA.keep hb9
      clear hb9
      refine hK.out _ _ (by exact ⟨V3.c0, V3.c1, V3.c2⟩) (fun hHeld => ?_)
      clear hK K
      try go_frame
      refine wpF_t (i := 4) (oi := op45124e83) (v := ?_) rfl (by kernel_rfl) (fun _ _ _ h => h) (Or.inl ⟨by rfl, ?_⟩) hHeld ?_; rotate_left
      · intro w_ hSw_; (try dsimp only at hSw_); go_simp; (try with_reducible rfl)
      try go_frame
      refine wpF_t (i := 5) (oi := op150cdec4) (v := ?_) rfl (by kernel_rfl) (fun _ _ _ h => h) (Or.inl ⟨by rfl, ?_⟩) hHeld ?_; rotate_left
      · intro w_ hSw_; (try dsimp only at hSw_); go_simp; (try with_reducible rfl)
      try go_frame
      refine wpF_p (i := 6) (oi := op2e586350) (v := ?_) rfl (by kernel_rfl) (fun _ _ _ h => h) (Or.inl ⟨by rfl, ?_⟩) hHeld ?_; rotate_left
      · intro w_ hSw_; (try dsimp only at hSw_); go_simp; (try with_reducible rfl)
      try go_frame
      refine wpAnyF_st (i := 8) (by kernel_rfl) (by kernel_rfl) rfl (fun K hK => ?_)
      obtain ⟨⟨u1_, r1_⟩, ⟨u2_, u3_, u4_, r2_⟩, r3_, r4_, r5_⟩ := RA
      have RA : Res2 _ ba := ⟨⟨u1_, r1_⟩, ⟨u2_, u3_, u4_, r2_⟩, r3_, r4_, r5_⟩
      go_simp
      refine hK.out _ _ ?_
      clear hK K r1_ r2_ r3_ r4_ r5_
      try go_frame
      refine wpAnyF_st (i := 9) (by kernel_rfl) (by kernel_rfl) rfl (fun K hK => ?_)
      obtain ⟨⟨u1_, r1_⟩, ⟨u2_, u3_, u4_, r2_⟩, r3_, r4_, r5_⟩ := RA
      have RA : Res2 _ ba := ⟨⟨u1_, r1_⟩, ⟨u2_, u3_, u4_, r2_⟩, r3_, r4_, r5_⟩
      go_simp
      refine hK.out _ _ ?_
      clear hK K r1_ r2_ r3_ r4_ r5_
      try go_frame
      refine wpAnyF_done (by kernel_rfl) ?_ _
      clear hHeld
      have V6 := VX.store RA H9.out
      replace HB := below_set2 (b := ba) HB (by omega) (.bool n9) (.slice A9 m9 k9)
      generalize hW9 : (w9.setCell ⟨ba, 0, none⟩ (.bool n9)).setCell ⟨ba, 1, none⟩ (.slice A9 m9 k9) = W9 at *
      clear hW9 RA V3
      have m0 := V6.c0; have m1 := V6.c1
      go_wp2_with fail
      (with_reducible refine (Told_c (stepZ M z) _ _ V6.iz.out (HT.out.below HB) HLS.out).mono ?_)
      rintro e w11 ⟨rfl, hb⟩
      replace HB := below_step HB hb
      clear hb m0 m1
      go_wp2
      go_ret2
      exact ⟨rfl, HB⟩
  · go_simp
    refine hK.out _ _ (by replace V3 := V3.keep (below_alloc (Below.refl wd.heap.size wd) (Obj.cells #[Value.bool false, Value.slice none 0 0] 76)); exact ⟨V3.c0, V3.c1, V3.c2⟩) (fun hHeld => ?_)
    clear hK K
    try go_frame
    have hba1 := HB.size
    have ltV3 := V3.lt
    have RA := newRes wd 76
    replace V3 := V3.keep (below_alloc (Below.refl wd.heap.size wd) (Obj.cells #[Value.bool false, Value.slice none 0 0] 76))
    replace HB := below_alloc HB (Obj.cells #[Value.bool false, Value.slice none 0 0] 76)
    generalize hWa : wd.alloc (Obj.cells #[Value.bool false, Value.slice none 0 0] 76) = wa at *
    generalize hba : wd.heap.size = ba at *
    refine wpAnyF_one (i := 2) (by kernel_rfl) rfl (fun K hK => ?_)
    go_simp
    (go_at_call 37; (with_reducible refine (hParse_c z _ (by have := HZ.out; omega)).mono ?_); rintro e w8 ⟨v, rfl, hv, hb8⟩; obtain ⟨n8, A8, m8, k8, rfl, H8⟩ := hv.form; clear hv; replace V3 := V3.keep hb8; replace HB := below_step HB hb8)
    replace RA := RA.keep hb8
    clear hb8
    refine hK.out _ _ (by exact ⟨V3.c0, V3.c1, V3.c2⟩) (fun hHeld => ?_)
    clear hK K
    try go_frame
    refine wpAnyF_one (i := 3) (by kernel_rfl) rfl (fun K hK => ?_)
    go_simp
    (go_at_call 48; (with_reducible refine (Next_c M z _ _ _ V3.im.out H8.out HOKM.out (by have := HL.out; omega)).mono ?_); rintro e w9 ⟨v, r9, rfl, hv, hr9, hb9⟩; clear hr9; obtain ⟨n9, A9, m9, k9, rfl, H9⟩ := hv.form; clear hv; replace V3 := V3.keep hb9; replace HB := below_step HB hb9)
    replace RA := RA.keep hb9
    clear hb9
    refine hK.out _ _ (by exact ⟨V3.c0, V3.c1, V3.c2⟩) (fun hHeld => ?_)
    clear hK K
    try go_frame
    refine wpF_t (i := 4) (oi := op45124e83) (v := ?_) rfl (by kernel_rfl) (fun _ _ _ h => h) (Or.inl ⟨by rfl, ?_⟩) hHeld ?_; rotate_left
    · intro w_ hSw_; (try dsimp only at hSw_); go_simp; (try with_reducible rfl)
    try go_frame
    refine wpF_t (i := 5) (oi := op150cdec4) (v := ?_) rfl (by kernel_rfl) (fun _ _ _ h => h) (Or.inl ⟨by rfl, ?_⟩) hHeld ?_; rotate_left
    · intro w_ hSw_; (try dsimp only at hSw_); go_simp; (try with_reducible rfl)
    try go_frame
    refine wpF_p (i := 6) (oi := op2e586350) (v := ?_) rfl (by kernel_rfl) (fun _ _ _ h => h) (Or.inl ⟨by rfl, ?_⟩) hHeld ?_; rotate_left
    · intro w_ hSw_; (try dsimp only at hSw_); go_simp; (try with_reducible rfl)
    try go_frame
    refine wpAnyF_st (i := 8) (by kernel_rfl) (by kernel_rfl) rfl (fun K hK => ?_)
    obtain ⟨⟨u1_, r1_⟩, ⟨u2_, u3_, u4_, r2_⟩, r3_, r4_, r5_⟩ := RA
    have RA : Res2 _ ba := ⟨⟨u1_, r1_⟩, ⟨u2_, u3_, u4_, r2_⟩, r3_, r4_, r5_⟩
    go_simp
    refine hK.out _ _ ?_
    clear hK K r1_ r2_ r3_ r4_ r5_
    try go_frame
    refine wpAnyF_st (i := 9) (by kernel_rfl) (by kernel_rfl) rfl (fun K hK => ?_)
    obtain ⟨⟨u1_, r1_⟩, ⟨u2_, u3_, u4_, r2_⟩, r3_, r4_, r5_⟩ := RA
    have RA : Res2 _ ba := ⟨⟨u1_, r1_⟩, ⟨u2_, u3_, u4_, r2_⟩, r3_, r4_, r5_⟩
    go_simp
    refine hK.out _ _ ?_
    clear hK K r1_ r2_ r3_ r4_ r5_
    try go_frame
    refine wpAnyF_done (by kernel_rfl) ?_ _
    clear hHeld
    have V6 := VX.store RA H9.out
    replace HB := below_set2 (b := ba) HB (by omega) (.bool n9) (.slice A9 m9 k9)
    generalize hW9 : (w9.setCell ⟨ba, 0, none⟩ (.bool n9)).setCell ⟨ba, 1, none⟩ (.slice A9 m9 k9) = W9 at *
    clear hW9 RA V3
    have m0 := V6.c0; have m1 := V6.c1
    go_wp2_with fail
    (with_reducible refine (Told_c (stepZ M z) _ _ V6.iz.out (HT.out.below HB) HLS.out).mono ?_)
    rintro e w11 ⟨rfl, hb⟩
    replace HB := below_step HB hb
    clear hb m0 m1
    go_wp2
    go_ret2
    exact ⟨rfl, HB⟩
set_option maxRecDepth 100000 in
set_option maxHeartbeats 4000000 in
theorem Stp_bad (M : Mp) (s : ByteArray) (v : Value) (w : World) (hM : IsM w v M) (hs : s.size ≤ 9223372036854775807) (hbad : okB M = false ∨ vldL (codes s) = false) :
    Calls Tryd.prog 28 #[v, .string s] w fun e w' => e = .returned (.tuple #[.string ⟨#[]⟩, .int .i64 1]) ∧ Below w.heap.size w w' := by
  obtain ⟨md, A, n, c, A', n', c', rfl, HM⟩ := hM.form
  have V3 := VM.new w 24 HM.out
  have HB := below_alloc (Below.refl w.heap.size w) (Obj.cells #[Value.int .i64 md, Value.slice A n c, Value.slice A' n' c'] 24)
  by_cases hok : okB M = true
  · have hv := hbad.resolve_left (by rw [hok]; simp)
    have HOK := Lib.hid hok
    have HV := Lib.hid hv
    clear hok hv hbad hM
    go_enter Tryd.func28, Tryd.ntmps28
    go_wp2_with fail
    (with_reducible refine (SValid_c M _ _ V3.im.out).mono ?_)
    rintro e w4 ⟨he, hb⟩
    replace HB := below_step HB hb
    replace V3 := V3.keep hb
    clear hb
    obtain rfl : e = .returned (.bool true) := by rw [he, HOK.out] <;> rfl
    clear he
    go_wp2_with fail
    (with_reducible refine (nValid_c s _ hs).mono ?_)
    rintro e w5 ⟨he, hb⟩
    replace HB := below_step HB hb
    replace V3 := V3.keep hb
    clear hb
    obtain rfl : e = .returned (.bool false) := by rw [he, HV.out] <;> rfl
    clear he

    go_wp2
    go_ret2
    exact ⟨rfl, HB⟩
  · have HOK : Hid (okB M = false) := by show _ = _; revert hok; cases okB M <;> simp
    clear hok hbad hM
    go_enter Tryd.func28, Tryd.ntmps28
    go_wp2_with fail
    (with_reducible refine (SValid_c M _ _ V3.im.out).mono ?_)
    rintro e w4 ⟨he, hb⟩
    replace HB := below_step HB hb
    replace V3 := V3.keep hb
    clear hb
    obtain rfl : e = .returned (.bool false) := by rw [he, HOK.out] <;> rfl
    clear he

    go_wp2
    go_ret2
    exact ⟨rfl, HB⟩
end Go.Proofs.YtiaeeclmlchpoaaDoor

set_option linter.unusedVariables false
set_option linter.unusedSimpArgs false
namespace Go.Proofs.YtiaeeclmlchpoaaDoor
open Go.RowKit

abbrev op23591eb1 : Oper := { dst := some 19, op := Go.Op.move (Go.Operand.tmp 0), type := 26, pos := "law.go:184", after := #[], guard := none }
abbrev opb4c372f6 : Oper := { dst := some 20, op := Go.Op.move (Go.Operand.tmp 5), type := 3, pos := "law.go:184", after := #[], guard := none }
abbrev op6fe6c45d : Oper := { dst := some 21, op := Go.Op.indexAddr 26 (Go.Operand.tmp 19) (Go.Operand.tmp 20), type := 0, pos := "law.go:184", after := #[{ on := 0, ground := Go.Ground.data }, { on := 1, ground := Go.Ground.data }], guard := none }
abbrev op0f1993f4 : Oper := { dst := some 22, op := Go.Op.load 9 (Go.Operand.tmp 21), type := 9, pos := "law.go:184", after := #[{ on := 2, ground := Go.Ground.data }], guard := none }
abbrev op512b7575 : Oper := { dst := some 23, op := Go.Op.move (Go.Operand.tmp 1), type := 26, pos := "law.go:184", after := #[], guard := none }
abbrev opb892caea : Oper := { dst := some 24, op := Go.Op.move (Go.Operand.tmp 6), type := 3, pos := "law.go:184", after := #[], guard := none }
abbrev op46b4523d : Oper := { dst := some 25, op := Go.Op.indexAddr 26 (Go.Operand.tmp 23) (Go.Operand.tmp 24), type := 0, pos := "law.go:184", after := #[{ on := 4, ground := Go.Ground.data }, { on := 5, ground := Go.Ground.data }], guard := none }
abbrev op7d4714ad : Oper := { dst := some 26, op := Go.Op.load 9 (Go.Operand.tmp 25), type := 9, pos := "law.go:184", after := #[{ on := 6, ground := Go.Ground.data }], guard := none }
abbrev oped5b3ce7 : Oper := { dst := some 27, op := Go.Op.binOp Go.BinOp.eql 9 (Go.Operand.tmp 22) (Go.Operand.tmp 26) 9, type := 4, pos := "law.go:184", after := #[{ on := 3, ground := Go.Ground.data }, { on := 7, ground := Go.Ground.data }], guard := none }
attribute [local go_sem] op23591eb1 opb4c372f6 op6fe6c45d op0f1993f4 op512b7575 opb892caea op46b4523d op7d4714ad oped5b3ce7
/-- Is a string of one list in another? -/
def amongB (a b : List ByteArray) : Bool := a.any fun x => b.any fun y => decide (x = y)
theorem amongB_true {a b : List ByteArray} : amongB a b = true ↔ ∃ x, x ∈ a ∧ x ∈ b := by
  unfold amongB
  simp only [List.any_eq_true, decide_eq_true_eq]
  constructor
  · rintro ⟨x, h1, y, h2, rfl⟩; exact ⟨x, h1, h2⟩
  · rintro ⟨x, h1, h2⟩; exact ⟨x, h1, x, h2, rfl⟩
theorem amongB_false {a b : List ByteArray} (h : ¬ ∃ x, x ∈ a ∧ x ∈ b) : amongB a b = false := by
  cases hc : amongB a b with
  | false => rfl
  | true => exact absurd (amongB_true.1 hc) h
theorem gs_mem {l : List ByteArray} {i : Nat} (h : i < l.length) : gs l i ∈ l := by rw [gs_lt h]; exact List.getElem_mem h
theorem mem_gs {l : List ByteArray} {x : ByteArray} (h : x ∈ l) : ∃ i, i < l.length ∧ gs l i = x := by
  obtain ⟨i, hi, rfl⟩ := List.getElem_of_mem h
  exact ⟨i, hi, gs_lt hi⟩
set_option maxRecDepth 100000 in
set_option maxHeartbeats 4000000 in
theorem among_c (A A' : Option Addr) (c c' : Nat) (a b : List ByteArray) (w : World) (h : LsS w A c a) (h' : LsS w A' c' b) :
    Calls Tryd.prog 29 #[.slice A a.length c, .slice A' b.length c'] w fun e w' => e = .returned (.bool (amongB a b)) ∧ Below w.heap.size w w' := by
  have HB : Below w.heap.size w w := Below.refl _ _
  have hcl := h.2
  have hcl' := h'.2
  have H1 := Lib.hid h
  have H2 := Lib.hid h'
  clear h h'
  go_enter Tryd.func29, Tryd.ntmps29
  go_wp2_with fail
  go_loopg [5] a.length (fun g iv wr => ∃ (i : Nat), g = a.length - i ∧ iv = .int .i64 i ∧ i ≤ a.length ∧ Below w.heap.size w wr ∧ Hid (∀ j, j < i → ∀ k, k < b.length → gs a j ≠ gs b k))
  case atStart => exact ⟨0, rfl, rfl, by omega, HB, fun j h => absurd h (by omega)⟩
  case round =>
    clear HB
    obtain ⟨i, hgk, rfl, hi, HB, HI⟩ := hrel
    have hi0 : (0 : Int) ≤ (i : Int) := by omega
    by_cases hia : i < a.length
    · have hi1 : (i : Int) < (a.length : Int) := by omega
      have HBi := HB
      go_wp2_with fail
      go_loopg [6] b.length (fun g kv wr2 => ∃ (k : Nat), g = b.length - k ∧ kv = .int .i64 k ∧ k ≤ b.length ∧ Below w.heap.size w wr2 ∧ Hid (∀ q, q < k → gs a i ≠ gs b q))
      case atStart => exact ⟨0, rfl, rfl, by omega, HBi, fun j h => absurd h (by omega)⟩
      case round =>
        clear HBi HB
        obtain ⟨k, hgk2, rfl, hk, HB, HK⟩ := hrel
        have hk0 : (0 : Int) ≤ (k : Int) := by omega
        by_cases hkb : k < b.length
        · have hk1 : (k : Int) < (b.length : Int) := by omega
          obtain ⟨b1, o1, rfl, k1⟩ := (H1.out.below HB).el (j := i) hia
          obtain ⟨b2, o2, rfl, k2⟩ := (H2.out.below HB).el (j := k) hkb
          obtain ⟨x, hx⟩ : ∃ x, gs a i = x := ⟨_, rfl⟩
          obtain ⟨y, hy⟩ : ∃ y, gs b k = y := ⟨_, rfl⟩
          rw [hx] at k1
          rw [hy] at k2
          have HX := Lib.hid hx
          have HY := Lib.hid hy
          clear hx hy
          by_cases he : x = y
          · subst he
            have HR : Hid (amongB a b = true) := amongB_true.2 ⟨_, gs_mem hia, by rw [HX.out, ← HY.out]; exact gs_mem hkb⟩
            go_wp2_with fail
            replace HB := below_drew HB
            replace k1 := k1.drew; replace k2 := k2.drew
            generalize hWd : wr.drew = wd at *
            refine wp_region_F (fun w' => w'.cell? ⟨b1, o1 + i, none⟩ = some (.string x) ∧ w'.cell? ⟨b2, o2 + k, none⟩ = some (.string x)) [] (by kernel_rfl) (by rw [hWd]; exact ⟨k1.c, k2.c⟩) (fun hHeld => ?_)
            rw [hWd] at hHeld ⊢
            refine wpF_t (i := 0) (oi := op23591eb1) (v := ?_) rfl (by kernel_rfl) (fun _ _ _ h => h) (Or.inl ⟨by rfl, ?_⟩) hHeld ?_; rotate_left
            · intro w_ hSw_; (try dsimp only at hSw_); go_simp; (try with_reducible rfl)
            try go_frame
            refine wpF_t (i := 1) (oi := opb4c372f6) (v := ?_) rfl (by kernel_rfl) (fun _ _ _ h => h) (Or.inl ⟨by rfl, ?_⟩) hHeld ?_; rotate_left
            · intro w_ hSw_; (try dsimp only at hSw_); go_simp; (try with_reducible rfl)
            try go_frame
            refine wpF_t (i := 2) (oi := op6fe6c45d) (v := ?_) rfl (by kernel_rfl) (fun _ _ _ h => h) (Or.inl ⟨by rfl, ?_⟩) hHeld ?_; rotate_left
            · intro w_ hSw_; (try dsimp only at hSw_); go_simp; (try with_reducible rfl)
            try go_frame
            refine wpF_t (i := 3) (oi := op0f1993f4) (v := ?_) rfl (by kernel_rfl) (fun _ _ _ h => h) (Or.inl ⟨by rfl, ?_⟩) hHeld ?_; rotate_left
            · intro w_ hSw_; (try dsimp only at hSw_); go_simp; (try with_reducible rfl)
            try go_frame
            refine wpF_t (i := 4) (oi := op512b7575) (v := ?_) rfl (by kernel_rfl) (fun _ _ _ h => h) (Or.inl ⟨by rfl, ?_⟩) hHeld ?_; rotate_left
            · intro w_ hSw_; (try dsimp only at hSw_); go_simp; (try with_reducible rfl)
            try go_frame
            refine wpF_t (i := 5) (oi := opb892caea) (v := ?_) rfl (by kernel_rfl) (fun _ _ _ h => h) (Or.inl ⟨by rfl, ?_⟩) hHeld ?_; rotate_left
            · intro w_ hSw_; (try dsimp only at hSw_); go_simp; (try with_reducible rfl)
            try go_frame
            refine wpF_t (i := 6) (oi := op46b4523d) (v := ?_) rfl (by kernel_rfl) (fun _ _ _ h => h) (Or.inl ⟨by rfl, ?_⟩) hHeld ?_; rotate_left
            · intro w_ hSw_; (try dsimp only at hSw_); go_simp; (try with_reducible rfl)
            try go_frame
            refine wpF_t (i := 7) (oi := op7d4714ad) (v := ?_) rfl (by kernel_rfl) (fun _ _ _ h => h) (Or.inl ⟨by rfl, ?_⟩) hHeld ?_; rotate_left
            · intro w_ hSw_; (try dsimp only at hSw_); go_simp; (try with_reducible rfl)
            try go_frame
            refine wpF_t (i := 8) (oi := oped5b3ce7) (v := ?_) rfl (by kernel_rfl) (fun _ _ _ h => h) (Or.inl ⟨by rfl, ?_⟩) hHeld ?_; rotate_left
            · intro w_ hSw_; (try dsimp only at hSw_); go_simp; (try with_reducible rfl)
            try go_frame
            refine wpAnyF_done (by kernel_rfl) ?_ _
            clear hHeld
            go_wp2
            go_ret
            exact ⟨by rw [HR.out] <;> rfl, HB⟩
          · have hb : (x.toList == y.toList) = false := by rw [bs_beq]; exact decide_eq_false he
            have HK2 : Hid (∀ q, q < k + 1 → gs a i ≠ gs b q) := fun q hq => by
              rcases Nat.lt_or_ge q k with h2 | h2
              · exact HK.out q h2
              · obtain rfl : q = k := by omega
                rw [HX.out, HY.out]; exact he
            clear he
            go_wp2_with fail
            replace HB := below_drew HB
            replace k1 := k1.drew; replace k2 := k2.drew
            generalize hWd : wr.drew = wd at *
            refine wp_region_F (fun w' => w'.cell? ⟨b1, o1 + i, none⟩ = some (.string x) ∧ w'.cell? ⟨b2, o2 + k, none⟩ = some (.string y)) [] (by kernel_rfl) (by rw [hWd]; exact ⟨k1.c, k2.c⟩) (fun hHeld => ?_)
            rw [hWd] at hHeld ⊢
            refine wpF_t (i := 0) (oi := op23591eb1) (v := ?_) rfl (by kernel_rfl) (fun _ _ _ h => h) (Or.inl ⟨by rfl, ?_⟩) hHeld ?_; rotate_left
            · intro w_ hSw_; (try dsimp only at hSw_); go_simp; (try with_reducible rfl)
            try go_frame
            refine wpF_t (i := 1) (oi := opb4c372f6) (v := ?_) rfl (by kernel_rfl) (fun _ _ _ h => h) (Or.inl ⟨by rfl, ?_⟩) hHeld ?_; rotate_left
            · intro w_ hSw_; (try dsimp only at hSw_); go_simp; (try with_reducible rfl)
            try go_frame
            refine wpF_t (i := 2) (oi := op6fe6c45d) (v := ?_) rfl (by kernel_rfl) (fun _ _ _ h => h) (Or.inl ⟨by rfl, ?_⟩) hHeld ?_; rotate_left
            · intro w_ hSw_; (try dsimp only at hSw_); go_simp; (try with_reducible rfl)
            try go_frame
            refine wpF_t (i := 3) (oi := op0f1993f4) (v := ?_) rfl (by kernel_rfl) (fun _ _ _ h => h) (Or.inl ⟨by rfl, ?_⟩) hHeld ?_; rotate_left
            · intro w_ hSw_; (try dsimp only at hSw_); go_simp; (try with_reducible rfl)
            try go_frame
            refine wpF_t (i := 4) (oi := op512b7575) (v := ?_) rfl (by kernel_rfl) (fun _ _ _ h => h) (Or.inl ⟨by rfl, ?_⟩) hHeld ?_; rotate_left
            · intro w_ hSw_; (try dsimp only at hSw_); go_simp; (try with_reducible rfl)
            try go_frame
            refine wpF_t (i := 5) (oi := opb892caea) (v := ?_) rfl (by kernel_rfl) (fun _ _ _ h => h) (Or.inl ⟨by rfl, ?_⟩) hHeld ?_; rotate_left
            · intro w_ hSw_; (try dsimp only at hSw_); go_simp; (try with_reducible rfl)
            try go_frame
            refine wpF_t (i := 6) (oi := op46b4523d) (v := ?_) rfl (by kernel_rfl) (fun _ _ _ h => h) (Or.inl ⟨by rfl, ?_⟩) hHeld ?_; rotate_left
            · intro w_ hSw_; (try dsimp only at hSw_); go_simp; (try with_reducible rfl)
            try go_frame
            refine wpF_t (i := 7) (oi := op7d4714ad) (v := ?_) rfl (by kernel_rfl) (fun _ _ _ h => h) (Or.inl ⟨by rfl, ?_⟩) hHeld ?_; rotate_left
            · intro w_ hSw_; (try dsimp only at hSw_); go_simp; (try with_reducible rfl)
            try go_frame
            refine wpF_t (i := 8) (oi := oped5b3ce7) (v := ?_) rfl (by kernel_rfl) (fun _ _ _ h => h) (Or.inl ⟨by rfl, ?_⟩) hHeld ?_; rotate_left
            · intro w_ hSw_; (try dsimp only at hSw_); go_simp; (try with_reducible rfl)
            try go_frame
            refine wpAnyF_done (by kernel_rfl) ?_ _
            clear hHeld
            go_wp2
            go_roundg (b.length - (k + 1))
            case measure => omega
            case rel => exact ⟨k + 1, rfl, by go_num, by omega, HB, HK2⟩
        · have hk1 : ¬ (k : Int) < (b.length : Int) := by omega
          have HI2 : Hid (∀ j, j < i + 1 → ∀ q, q < b.length → gs a j ≠ gs b q) := fun j hj q hq => by
            rcases Nat.lt_or_ge j i with h2 | h2
            · exact HI.out j h2 q hq
            · obtain rfl : j = i := by omega
              exact HK.out q (by omega)
          go_wp2
          go_roundg (a.length - (i + 1))
          case measure => omega
          case rel => exact ⟨i + 1, rfl, by go_num, by omega, HB, HI2⟩
    · have hi1 : ¬ (i : Int) < (a.length : Int) := by omega
      have HR : Hid (amongB a b = false) := amongB_false (by
        rintro ⟨x, hxa, hxb⟩
        obtain ⟨j, hj, rfl⟩ := mem_gs hxa
        obtain ⟨k, hk, e⟩ := mem_gs hxb
        exact HI.out j (by omega) k hk e.symm)
      go_wp2
      go_ret
      exact ⟨by rw [HR.out] <;> rfl, HB⟩
end Go.Proofs.YtiaeeclmlchpoaaDoor

set_option linter.unusedVariables false
set_option linter.unusedSimpArgs false
namespace Go.Proofs.YtiaeeclmlchpoaaDoor
open Go.RowKit Go.Shelf Go.Maps

attribute [local go_sem] Oper.semAt_some

/-- The numbers of an orbit, or that one is too long. -/
def orbF (M : Mp) : Nat → List Int → Int → Int × List Int
  | 0, pre, z => if 2000 < dl z then (3, []) else (0, pre ++ [z])
  | f + 1, pre, z => if 2000 < dl z then (3, []) else orbF M f (pre ++ [z]) (stepZ M z)
section
variable {A B : World} {row : Option Nat} {base : Nat} {e : TypeId} {v : Value} {l : List ByteArray}
theorem OwS.grown (h : OwS A base e v l) (hg : A.grownBy B row) (hne : v.ownBlock = none ∨ v.ownBlock ≠ row) : OwS B base e v l := by
  refine ⟨h.1.kept hg hne, ?_⟩
  intro g cur e' fz hgo hcur
  have hlt := (h.1.lt g hgo).2
  have hn : some g ≠ row := by
    rcases hne with h | h
    · rw [h] at hgo; cases hgo
    · rw [hgo] at h; exact h
  rw [hg.block g hlt hn] at hcur
  exact h.2 g cur e' fz hgo hcur
theorem OwS.row_ge (h : OwS A base e v l) {r : Nat} (hr : r < base) : v.ownBlock = none ∨ v.ownBlock ≠ some r := by
  cases ho : v.ownBlock with
  | none => exact .inl rfl
  | some g =>
    have := (h.1.lt g ho).1
    exact .inr (by intro he; injection he with he; omega)
theorem OwS.row_cells (h : OwS A base e v l) (hr : ∀ r, row = some r → ∃ o : Obj, A.heap[r]? = some o ∧ o.isCells = false) : v.ownBlock = none ∨ v.ownBlock ≠ row := by
  cases ho : v.ownBlock with
  | none => exact .inl rfl
  | some g =>
    right
    intro he
    obtain ⟨cur, e1, fz, hc⟩ := own_cells h.1 g ho
    obtain ⟨o, h3, h4⟩ := hr g he.symm
    rw [hc] at h3
    cases h3
    cases h4
end
section
variable (w : World) (b5 b6 b7 b8 D K : Nat) (M : Mp) (z : Int)
/-- What holds between two rounds of Orbit. -/
def OI (k : Nat) (W : World) : Prop :=
  Boxed W b5 3 (.int .i64 K) ∧ Boxed W b6 26 (.slice none 0 0) ∧ Boxed W b7 27 (.int .i64 0) ∧
  (∃ lv pre, Boxed W b8 26 lv ∧ OwS W D 9 lv (pre.map tS) ∧ pre.length = k ∧ k ≤ K ∧ orbF M K [] z = orbF M (K - k) pre (itZ M z k)) ∧ Below w.heap.size w W ∧ D ≤ W.heap.size
/-- What holds when a round of Orbit has left. -/
def OX (c : Code) (W : World) : Prop :=
  Below w.heap.size w W ∧
  ((c = .ret ∧ Boxed W b6 26 (.slice none 0 0) ∧ Boxed W b7 27 (.int .i64 3) ∧ orbF M K [] z = (3, [])) ∨
   (c = .exit 1 ∧ ∃ lv pre, Boxed W b6 26 (.slice none 0 0) ∧ Boxed W b7 27 (.int .i64 0) ∧ Boxed W b8 26 lv ∧ OwS W D 9 lv (pre.map tS) ∧ orbF M K [] z = (0, pre)))
variable {w b5 b6 b7 b8 D K M z}
theorem OI.kept {bn k : Nat} {A B : World} {row : Option Nat} (h : OI w b5 b6 b7 b8 D K M z k A) (hg : A.grownBy B row) (hD : bn < D) (hw : w.heap.size ≤ bn)
    (h5 : b5 < bn) (h6 : b6 < bn) (h7 : b7 < bn) (h8 : b8 < bn)
    (hr : ∀ r, row = some r → r = bn ∨ (D ≤ r ∧ ∃ o : Obj, A.heap[r]? = some o ∧ o.isCells = false)) : OI w b5 b6 b7 b8 D K M z k B := by
  have ne : ∀ b, b < bn → some b ≠ row := fun b hb e => by
    rcases hr b e.symm with h | ⟨h, -⟩ <;> omega
  have wr : ∀ r, row = some r → w.heap.size ≤ r := fun r e => by
    rcases hr r e with h | ⟨h, -⟩ <;> omega
  obtain ⟨c5, c6, c7, ⟨lv, pre, c8, ho, h1⟩, hb, hsz⟩ := h
  have ro : lv.ownBlock = none ∨ lv.ownBlock ≠ row := by
    cases hrow : row with
    | none => cases lv.ownBlock <;> simp
    | some r =>
      rcases hr r hrow with rfl | ⟨-, ho2⟩
      · exact ho.row_ge hD
      · exact ho.row_cells (row := some r) (fun r' e => by cases e; exact ho2)
  exact ⟨c5.kept hg (ne _ h5), c6.kept hg (ne _ h6), c7.kept hg (ne _ h7), ⟨lv, pre, c8.kept hg (ne _ h8), ho.grown hg ro, h1⟩, hb.grown hg hb.size wr, Nat.le_trans hsz hg.size⟩
theorem OI.below {k : Nat} {A B : World} (h : OI w b5 b6 b7 b8 D K M z k A) (hb : Below A.heap.size A B) : OI w b5 b6 b7 b8 D K M z k B := by
  have hg : A.grownBy B none := ⟨hb.os, hb.tape, hb.output, hb.size, fun i hi _ => hb.block i hi⟩
  obtain ⟨c5, c6, c7, ⟨lv, pre, c8, ho, h1⟩, hb', hsz⟩ := h
  exact ⟨c5.kept hg (by simp), c6.kept hg (by simp), c7.kept hg (by simp), ⟨lv, pre, c8.kept hg (by simp), ho.below hb, h1⟩, below_step hb' hb, Nat.le_trans hsz hb.size⟩
theorem OX.kept {c : Code} {A B : World} {row : Option Nat} (h : OX w b6 b7 b8 D K M z c A) (hg : A.grownBy B row) (hw : w.heap.size ≤ D)
    (hr : ∀ r, row = some r → D ≤ r ∧ ∃ o : Obj, A.heap[r]? = some o ∧ o.isCells = false) : OX w b6 b7 b8 D K M z c B := by
  have hr2 := fun r e => (hr r e).2
  have bk : ∀ {b t v}, Boxed A b t v → Boxed B b t v := fun hb => hb.kept hg (ne_of_cell hb.cell hr2)
  obtain ⟨hb, h⟩ := h
  refine ⟨hb.grown hg hb.size (fun r e => by have := (hr r e).1; omega), ?_⟩
  rcases h with ⟨h1, h2, h3, h4⟩ | ⟨h1, lv, pre, h2, h3, h4, h5, h6⟩
  · exact .inl ⟨h1, bk h2, bk h3, h4⟩
  · exact .inr ⟨h1, lv, pre, bk h2, bk h3, bk h4, h5.grown hg (h5.row_cells hr2), h6⟩
end
section
variable {F : Fence} {nF : Nat} {P : Program} {ops : Array Oper} {rest : List Oper} {o : Oper} {a : Act} {Q : Exit → Act → World → Prop} {K : Act → World → Prop}
/-- One string more at the end of a list of the call's own, in a round. -/
theorem opIn_T {W : World} (base : Nat) (s x : Operand) (t e : TypeId) (bytes : Nat)
    (ho : o.op = .call { callee := .builtin .append, args := #[s, x], argTypes := #[t, t] })
    (ht : P.underlying t = some (.slice e)) (hinfo : (P.info? e).map (fun i => (i.zero, i.size, i.bytes)) = some (some (.string ByteArray.empty), 1, bytes)) (hb0 : 0 < bytes)
    (v : Value) (l : List ByteArray) (y : ByteArray) (HO : OwS W base e v l) (hs : a.eval s = v) (hx : a.eval x = .slice (some ⟨W.heap.size, 0, none⟩) 1 1) (hbase : base ≤ W.heap.size) (hl : (l.length + 1) * bytes ≤ 140737488355328)
    (h : ∀ v1 w1, OwS w1 base e v1 (l ++ [y]) → Below base W w1 → Kp W w1 → KeepsOthers W w1 → base ≤ w1.heap.size → K (a.put o.dst v1) w1) :
    Oper.wpIn F nF P o a (W.alloc (.cells #[.string y] e)) K Q := by
  obtain ⟨i0, hi, hzz⟩ := Option.map_eq_some_iff.1 hinfo
  simp only [Prod.mk.injEq] at hzz
  obtain ⟨hz0, hz1, hz2⟩ := hzz
  have hlen : l.length + 1 ≤ 140737488355328 := Nat.le_trans (Nat.le_mul_of_pos_right _ hb0) hl
  have hba : Below W.heap.size W (W.alloc (.cells #[.string y] e)) := below_alloc (Below.refl _ _) _
  have hP2 : OwP (W.alloc (.cells #[.string y] e)) base e 1 v l.length (strs l) := OwP.below HO hba
  obtain ⟨v1, w1, hr, hown, hg⟩ := run_append_P (P := P) (W.alloc (.cells #[.string y] e)) base t o.type e i0 (.string ByteArray.empty) 1 bytes ht hi hz0 hz1 hz2 rfl (by omega) (by
      intro u hu
      simp [Value.cells] at hu
      subst hu
      exact fun _ _ h => by cases h) v l.length (strs l) hP2 ⟨W.heap.size, 0, none⟩ 1 1 [.string y] rfl (cell_one_new _ _ _) (by simp [Value.oneCell']) (by
      intro u hu
      simp at hu
      subst hu
      exact fun _ _ h => by cases h) (by omega) (by simp only [maxLen]; omega) hl (by simp; omega)
  have hk : Kp W w1 := (Kp.of hba).trans (Kp.grown hg hP2.2 (own_cells hP2.1))
  have hko : KeepsOthers W w1 := (KeepsOthers.alloc _ _).trans (KeepsOthers.of_grownBy hg (fun j ob e hob => by
    obtain ⟨cur, e1, fz, hc⟩ := own_cells hP2.1 j e
    rw [hc] at hob
    cases hob
    rfl))
  have hown2 : OwS w1 base e v1 (l ++ [y]) := by
    unfold OwS
    rw [strs_append, List.length_append]
    exact hown
  unfold Oper.wpIn
  refine ⟨by simp [Oper.about, ho, resolve, Target.leads, Sem.run_pure], ?_⟩
  rw [Oper.semAt_plain F _ _ (by rw [ho]; intro c hc'; cases hc')]
  simp [execOp, ho, resolve, invoke, builtin, hs, hx, hr, Result.andThen]
  exact h _ _ hown2 (((Below.refl base W).alloc hbase _).grown hg (by simp; omega) (ownsRow_base hP2.1)) hk hko (by have := hg.size; simp at this; omega)
end
set_option maxRecDepth 100000 in
set_option maxHeartbeats 8000000 in
theorem Orb_ok (M : Mp) (z : Int) (K : Nat) (v : Value) (w : World) (hM : IsM w v M) (hok : okM M) (hz : dlN z.natAbs ≤ 2000) (hK : K ≤ 1000) (ht : Tb w) :
    Calls Tryd.prog 26 #[v, .string (tS z), .int .i64 K] w fun e w' => ∃ A c, e = .returned (.tuple #[.slice A (orbF M K [] z).2.length c, .int .i64 (orbF M K [] z).1]) ∧ Hid (LsS w' A c ((orbF M K [] z).2.map tS)) ∧ Below w.heap.size w w' := by
  obtain ⟨md, A, n, c, A', n', c', rfl, HM⟩ := hM.form
  have HT := Lib.hid ht
  have HOKM := Lib.hid hok
  have HOK : Hid (okB M = true) := okB_iff.2 hok
  have HV := Lib.hid (vld_tS hz)
  have hs := Lib.hid (tS_sz hz)
  have HZ := Lib.hid hz
  have hk0 : (0 : Int) ≤ (K : Int) := by omega
  have hk1 : (K : Int) ≤ 1000 := by omega
  have hkd1 : decide ((K : Int) < 0) = false := decide_eq_false (by omega)
  have hkd2 : decide ((1000 : Int) < (K : Int)) = false := decide_eq_false (by omega)
  have SZ : Hid (∀ k, k < K + 1 → (dg B9 (itZ M z k)).length ≤ 900000000) := fun k hk => by have := itZ_len hok z k; have := len_dlN hz; omega
  clear hM hz ht hok
  refine (callsIn_wide (n := 9)).1 (callsIn_of_wp_marks Tryd.func26 rfl trivial ?_ rfl)
  simp only [Tryd.ntmps26, List.size_toArray, List.length_cons, List.length_nil, Nat.reduceAdd, Nat.reduceSub, Array.replicate_succ, Array.replicate_zero, List.push_toArray, List.append_toArray, List.nil_append, List.cons_append]
  refine wpIn_wide.2 ?_
  go_wp2_with fail
  generalize hW : (((w.alloc (Obj.cells #[Value.int .i64 md, Value.slice A n c, Value.slice A' n' c'] 24)).alloc (Obj.cells #[Value.int .i64 (K : Int)] 3)).alloc (Obj.cells #[Value.slice none 0 0] 26)).alloc (Obj.cells #[Value.int .i64 0] 27) = W
  obtain ⟨V3, c5, c6, c7, hs4, HB⟩ := startR w _ _ _ _ _ _ _ W HM.out hW
  clear hW
  obtain ⟨b7, e7⟩ : ∃ b, w.heap.size + 1 + 1 + 1 = b := ⟨_, rfl⟩
  obtain ⟨b6, e6⟩ : ∃ b, w.heap.size + 1 + 1 = b := ⟨_, rfl⟩
  obtain ⟨b5, e5⟩ : ∃ b, w.heap.size + 1 = b := ⟨_, rfl⟩
  rw [e7] at c7 ⊢
  rw [e6] at c6 ⊢
  rw [e5] at c5 ⊢
  have n5 : w.heap.size ≤ b5 := by omega
  have n6 : w.heap.size ≤ b6 := by omega
  have n7 : w.heap.size ≤ b7 := by omega
  have o67 : b6 ≠ b7 := by omega
  have l7 : b7 < W.heap.size := by omega
  have l6 : b6 < W.heap.size := by omega
  have l5 : b5 < W.heap.size := by omega
  clear e5 e6 e7 hs4 HM
  (with_reducible refine (SValid_c M _ _ V3.im.out).mono ?_)
  rintro e w2 ⟨he, hb⟩
  replace V3 := V3.keep hb; replace c5 := boxed_below c5 hb c5.lt; replace c6 := boxed_below c6 hb c6.lt; replace c7 := boxed_below c7 hb c7.lt; have zz := hb.size; replace l5 := Nat.lt_of_lt_of_le l5 zz; replace l6 := Nat.lt_of_lt_of_le l6 zz; replace l7 := Nat.lt_of_lt_of_le l7 zz; clear zz
  replace HB := below_step HB hb
  clear hb
  obtain rfl : e = .returned (.bool true) := by rw [he, HOK.out] <;> rfl
  clear he
  go_wp2_with fail
  (with_reducible refine (nValid_c (tS z) _ hs.out).mono ?_)
  rintro e w3 ⟨he, hb⟩
  replace V3 := V3.keep hb; replace c5 := boxed_below c5 hb c5.lt; replace c6 := boxed_below c6 hb c6.lt; replace c7 := boxed_below c7 hb c7.lt; have zz := hb.size; replace l5 := Nat.lt_of_lt_of_le l5 zz; replace l6 := Nat.lt_of_lt_of_le l6 zz; replace l7 := Nat.lt_of_lt_of_le l7 zz; clear zz
  replace HB := below_step HB hb
  clear hb
  obtain rfl : e = .returned (.bool true) := by rw [he, HV.out] <;> rfl
  clear he
  have m5 := c5.cell
  have m0 := V3.c0; have m1 := V3.c1; have m2 := V3.c2
  go_wp2_with fail
  clear m0 m1 m2 m5
  have c8 := Boxed.new w3 26 (.slice none 0 0)
  have hb := below_alloc (Below.refl w3.heap.size w3) (Obj.cells #[Value.slice none 0 0] 26)
  have n8 := HB.size
  have o85 : b5 < w3.heap.size ∧ b6 < w3.heap.size ∧ b7 < w3.heap.size := ⟨l5, l6, l7⟩
  have l8 : w3.heap.size < (w3.alloc (Obj.cells #[Value.slice none 0 0] 26)).heap.size := by simp
  replace V3 := V3.keep hb; replace c5 := boxed_below c5 hb c5.lt; replace c6 := boxed_below c6 hb c6.lt; replace c7 := boxed_below c7 hb c7.lt; have zz := hb.size; replace l5 := Nat.lt_of_lt_of_le l5 zz; replace l6 := Nat.lt_of_lt_of_le l6 zz; replace l7 := Nat.lt_of_lt_of_le l7 zz; clear zz
  replace HB := below_step HB hb
  clear hb
  generalize hb8 : w3.heap.size = b8 at *
  generalize hW8 : w3.alloc (Obj.cells #[Value.slice none 0 0] 26) = W8 at *
  clear hW8 hb8
  have hb := below_drew (Below.refl W8.heap.size W8)
  replace V3 := V3.keep hb; replace c5 := boxed_below c5 hb c5.lt; replace c6 := boxed_below c6 hb c6.lt; replace c7 := boxed_below c7 hb c7.lt; have zz := hb.size; replace l5 := Nat.lt_of_lt_of_le l5 zz; replace l6 := Nat.lt_of_lt_of_le l6 zz; replace l7 := Nat.lt_of_lt_of_le l7 zz; clear zz
  replace c8 := boxed_below c8 hb c8.lt; have zz := hb.size; replace l8 := Nat.lt_of_lt_of_le l8 zz; clear zz
  replace HB := below_drew HB
  clear hb
  generalize hWd : W8.drew = wd at *
  refine Code.wp_mono (Q := Exit.then _ (fun _ _ _ => False)) (fun e a w h => by cases e with | normal => exact h | _ => exact h.elim) ?_
  refine wp_region_held_drew (S := fun w' => w'.cell? ⟨w.heap.size, 0, none⟩ = some (.int .i64 md) ∧ w'.cell? ⟨w.heap.size, 1, none⟩ = some (.slice A n c) ∧ w'.cell? ⟨w.heap.size, 2, none⟩ = some (.slice A' n' c')) (by kernel_rfl) (by rw [hWd]; exact ⟨V3.c0, V3.c1, V3.c2⟩) (fun hHeld => ?_)
  rw [hWd] at hHeld ⊢
  refine wpH_t (i := 0) (oi := { dst := some 27, op := Go.Op.load 24 (Go.Operand.tmp 3), type := 24, pos := "step.go:119", after := #[], guard := none }) (v := ?_) rfl (by kernel_rfl) (fun _ _ _ h => h) (Or.inl ⟨by rfl, ?_⟩) hHeld ?_; rotate_left
  · intro w_ hSw_; (try dsimp only at hSw_); go_simp; (try with_reducible rfl)
  try go_frame
  refine wpH_t (i := 1) (oi := { dst := some 28, op := Go.Op.move (Go.Operand.tmp 1), type := 9, pos := "step.go:119", after := #[], guard := none }) (v := ?_) rfl (by kernel_rfl) (fun _ _ _ h => h) (Or.inl ⟨by rfl, ?_⟩) hHeld ?_; rotate_left
  · intro w_ hSw_; (try dsimp only at hSw_); go_simp; (try with_reducible rfl)
  try go_frame
  refine wpAnyH_ready (rs := [2]) (by kernel_rfl) (by simp) ?_
  refine AllReadyH.cons (o := { dst := some 29, op := Go.Op.call { callee := Go.Callee.value (Go.Operand.func 37), args := #[Go.Operand.tmp 28], argTypes := #[9] }, type := 76, pos := "step.go:119", after := #[{ on := 1, ground := Go.Ground.data }], guard := none }) rfl (fun K hK => ?_) AllReadyH.nil
  go_simp
  (go_at_call 37; (with_reducible refine (hParse_c z _ (by have := HZ.out; omega)).mono ?_); rintro e w4 ⟨v, rfl, hv, hb⟩; obtain ⟨n4, A4, m4, k4, rfl, H4⟩ := hv.form; clear hv; replace V3 := V3.keep hb; replace c5 := boxed_below c5 hb c5.lt; replace c6 := boxed_below c6 hb c6.lt; replace c7 := boxed_below c7 hb c7.lt; have zz := hb.size; replace l5 := Nat.lt_of_lt_of_le l5 zz; replace l6 := Nat.lt_of_lt_of_le l6 zz; replace l7 := Nat.lt_of_lt_of_le l7 zz; clear zz; replace c8 := boxed_below c8 hb c8.lt; have zz := hb.size; replace l8 := Nat.lt_of_lt_of_le l8 zz; clear zz; replace HB := below_step HB hb; clear hb)
  refine hK.out _ _ (by exact ⟨V3.c0, V3.c1, V3.c2⟩) (fun hHeld => ?_)
  clear hK K
  try go_frame
  refine wpAnyH_ready (rs := [3]) (by kernel_rfl) (by simp) ?_
  refine AllReadyH.cons (o := { dst := some 30, op := Go.Op.call { callee := Go.Callee.value (Go.Operand.func 44), args := #[Go.Operand.tmp 27, Go.Operand.tmp 29], argTypes := #[24, 76] }, type := 85, pos := "step.go:119", after := #[{ on := 0, ground := Go.Ground.data }, { on := 2, ground := Go.Ground.data }, { on := 2, ground := Go.Ground.chain }], guard := none }) rfl (fun K hK => ?_) AllReadyH.nil
  go_simp
  (go_at_call 44; (with_reducible refine (Walk_c M z _ _ _ V3.im.out H4.out).mono ?_); rintro e w1 ⟨rfl, ⟨md1, A1, n1, c1, A1', n1', c1', VM1⟩, ⟨nv1, Av1, mv1, kv1, VH1⟩, hb⟩; replace V3 := V3.keep hb; replace c5 := boxed_below c5 hb c5.lt; replace c6 := boxed_below c6 hb c6.lt; replace c7 := boxed_below c7 hb c7.lt; replace c8 := boxed_below c8 hb c8.lt; have lw := HB.size; replace HB := below_step HB hb; generalize hbm : w4.heap.size = bm at *)
  refine hK.out _ _ (by exact ⟨V3.c0, V3.c1, V3.c2⟩) (fun hHeld => ?_)
  clear hK K
  try go_frame
  refine wpAnyH_done (by kernel_rfl) ?_ _
  clear hHeld hWd H4
  obtain ⟨bn, ebn⟩ : ∃ b, bm + 1 = b := ⟨_, rfl⟩
  rw [ebn] at VH1 ⊢
  have lbm : bm < bn := by omega
  have lbn : bn < w1.heap.size := VH1.lt
  clear ebn V3
  go_wp2_with fail
  obtain ⟨D, hD⟩ : ∃ D, w1.heap.size = D := ⟨_, rfl⟩
  rw [hD] at lbn
  have HDw := Lib.hid hD
  have lwD : w.heap.size ≤ D := by omega
  have o58 : b5 ≠ b8 ∧ b6 ≠ b8 ∧ b7 ≠ b8 := by omega
  have hFK : ∀ (k : Nat) (A B : World) (row : Option Nat), OI w b5 b6 b7 b8 D K M z k A → A.grownBy B row → Kp A B → (∀ r, row = some r → r = bn ∨ (D ≤ r ∧ ∃ o : Obj, A.heap[r]? = some o ∧ o.isCells = false)) → OI w b5 b6 b7 b8 D K M z k B :=
    fun k A B row h hg hk hr => h.kept hg lbn (by omega) (by omega) (by omega) (by omega) (by omega) hr
  have HFK := Lib.hid hFK
  clear hFK
  have l5D : b5 < D := by omega
  have l8D : b8 < D := by omega
  refine (wpIn_wide (n := 9)).1 (wpIn_rangeFunc_St (w := w1) (α := XZ) rfl (by omega) (gf := 63) (lb := #[.pointer (some ⟨bn, 0, none⟩), .pointer (some ⟨bm, 0, none⟩)]) rfl trivial (enters_of Tryd.func63 (by kernel_rfl) rfl) (bn := bn) (N := K + 1) (by rw [hD]; exact lbn)
    (Walk1_st M z bm bn (K + 1) _ (by omega) (by omega) HOKM.out SZ.out (by omega)) (fun _ _ => rfl)
    (fun k x => by rw [hD]; exact fun _ A B row h hg hr => h.own hg (fun r e => (hr r e).2)) ⟨(nv1, Av1, mv1, kv1), ⟨_, _, _, _, _, _, _, VM1⟩, VH1⟩
    (OI w b5 b6 b7 b8 D K M z) (OX w b6 b7 b8 D K M z)
    (by rw [hD]; exact fun k A B row h hg hr => HFK.out _ _ _ _ h hg (Kp.own hg (fun r e => (hr r e).2)) (fun r e => .inr (hr r e)))
    (by rw [hD]; exact fun c A B row h hg hr => h.kept hg lwD hr)
    (fun k A B h hst => HFK.out _ _ _ _ h hst.1 hst.2 (fun r e => by cases e; exact .inl rfl))
    (fun W h => by obtain ⟨_, _, _, ⟨_, _, _, _, _, h, _⟩, _⟩ := h; omega)
    ⟨c5, c6, c7, ⟨_, [], c8, OwS.nil _ _ _, rfl, Nat.zero_le _, rfl⟩, HB, by omega⟩
    (fun k x a' W => ∃ Bx, D ≤ Bx ∧ VH W Bx x.1 x.2.1 x.2.2.1 x.2.2.2 (itZ M z k) ∧ a' = { tmps := #[Value.agg #[Value.int IntKind.i64 md, Value.slice A n c, Value.slice A' n' c'], Value.string (tS z), Value.int IntKind.i64 (K : Int), Value.pointer (some ⟨w.heap.size, 0, none⟩), undef, Value.pointer (some ⟨b5, 0, none⟩), Value.pointer (some ⟨b6, 0, none⟩), Value.pointer (some ⟨b7, 0, none⟩), Value.pointer (some ⟨b8, 0, none⟩), Value.int IntKind.i64 (k : Int), Value.pointer (some ⟨Bx, 0, none⟩), Value.bool false, Value.agg #[Value.int IntKind.i64 md, Value.slice A n c, Value.slice A' n' c'], Value.bool true, Value.bool false, Value.bool false, Value.string (tS z), Value.bool true, Value.bool false, Value.bool false, Value.bool false, Value.int IntKind.i64 (K : Int), Value.bool false, Value.bool false, Value.int IntKind.i64 (K : Int), Value.bool false, Value.bool false, Value.agg #[Value.int IntKind.i64 md, Value.slice A n c, Value.slice A' n' c'], Value.string (tS z), Value.agg #[Value.bool n4, Value.slice A4 m4 k4], Value.func (Fn.func 63) #[] #[Value.pointer (some ⟨bn, 0, none⟩), Value.pointer (some ⟨bm, 0, none⟩)], Value.int IntKind.i64 (k : Int), Value.agg #[Value.bool x.1, Value.slice x.2.1 x.2.2.1 x.2.2.2], undef, undef, undef, undef, undef, undef, undef, undef, undef, undef, undef], defers := [] })
    (fun k x a' => by
      rw [hD]
      rintro _ A B row ⟨Bx, h1, h2, h3⟩ hg hr
      have hr2 := fun r e => (hr r e).2
      exact ⟨Bx, h1, h2.grown hg (ne_of_cell h2.c0 hr2) (Kp.own hg hr2), h3⟩)
    ?assign ?body ?stop)
  case assign =>
    intro l k x W K hi hr hK
    gi_wp2
    have hb := below_alloc (Below.refl W.heap.size W) (Obj.cells #[Value.bool x.1, Value.slice x.2.1 x.2.2.1 x.2.2.2] 76)
    exact hK _ _ (KeepsFrom.below hb) (hr.below hb) (hi.below hb) ⟨W.heap.size, hi.2.2.2.2.2, VX.new W _ hr.2.iz.out, rfl⟩
  case body =>
    rintro l k x a' W hfi hr ⟨Bx, hBx, VB, rfl⟩ hkN
    have hfi' := hfi
    obtain ⟨c5', c6', c7', ⟨lv, pre, c8', ho, h1, h2, h3⟩, hb, hsz⟩ := hfi'
    have HT0 := Lib.hid (HT.out.below hb)
    have HSZ := Lib.hid (SZ.out k hkN)
    have v0 := VB.c0; have v1 := VB.c1
    have hlz : (dg B9 (itZ M z k)).length ≤ 1000000000 := by have := HSZ.out; omega
    cases hd : decide (2000 < dl (itZ M z k)) with
    | true =>
      have HD := Lib.hid hd
      have HRES : Hid (orbF M K [] z = (3, [])) := by
        show _ = _
        rw [h3]
        cases hkk : K - k with
        | zero => unfold orbF; rw [if_pos (of_decide_eq_true hd)]
        | succ f => unfold orbF; rw [if_pos (of_decide_eq_true hd)]
      clear hd h3
      gi_wp2_with (refine ⟨trivial, ?_⟩; gi_at_call 45; refine (CallsIn.inRound l (callsIn_wide.2 (long_c (itZ M z k) _ _ VB.iz.out HT0.out hlz))).mono ?_; rw [HD.out]; rintro e w2 ⟨rfl, hb2⟩; have e6 := (hfi.below hb2).2.1; have e7 := (hfi.below hb2).2.2.1; have m6 := e6.cell; have m7 := e7.cell; have f6 := e6.frozen; have f7 := e7.frozen)
      obtain ⟨k5, k6, k7, -, hb', -⟩ := hfi.below hb2
      obtain ⟨e6, e7, eo, eb⟩ := st2 k6 k7 o67 (.slice none 0 0) (.int .i64 3) hb' n6 n7
      exact ⟨(KeepsFrom.below hb2).trans (eo.from _), eb, .inl ⟨rfl, e6, e7, HRES.out⟩⟩
    | false =>
      have HD := Lib.hid hd
      have hd1 := of_decide_eq_false hd
      have HLL : Hid (((pre.map tS).length + 1) * 16 ≤ 140737488355328) := by show _ ≤ _; rw [List.length_map, h1]; omega
      have H3 := Lib.hid h3
      have H1 := Lib.hid h1
      have hmx : Tryd.prog.follows .mixedOrders = true := by kernel_rfl
      have HMX := Lib.hid hmx
      have HD1 := Lib.hid hd1
      clear hd hd1 h3 h1 hmx
      gi_wp2_with (refine ⟨trivial, ?_⟩; gi_at_call 45; refine (CallsIn.inRound l (callsIn_wide.2 (long_c (itZ M z k) _ _ VB.iz.out HT0.out hlz))).mono ?_; rw [HD.out]; rintro e w2 ⟨rfl, hb2⟩; have VB2 := VB.keep hb2; have q0 := (VB2.drew).c0; have q1 := (VB2.drew).c1; have HT2 := Lib.hid (HT0.out.below (below_drew hb2)); have k8 := boxed_below c8' (below_drew hb2) c8'.lt; have m8 := k8.cell; have ho2 := Lib.hid (ho.below (below_drew hb2)))
      rename_i K0 hK0
      refine wpIn_region_any (by kernel_rfl) ?_
      change wpAnyIn _ _ _ _ _ _ _ _ _ (World.drew _)
      refine wpAnyIn_ready (rs := [0, 1]) (by kernel_rfl) (by simp) ?_
      refine AllReadyIn.cons rfl (fun K hK => ?_) (AllReadyIn.cons rfl (fun K hK => ?_) (AllReadyIn.nil))
      · go_simp
        refine hK _ _ ?_
        clear hK K
        try go_frame
        refine wpAnyIn_ready (rs := [1]) (by kernel_rfl) (by simp) ?_
        refine AllReadyIn.cons rfl (fun K hK => ?_) (AllReadyIn.nil)
        go_simp
        refine hK _ _ ?_
        clear hK K
        try go_frame
        refine wpAnyIn_ready (rs := [2]) (by kernel_rfl) (by simp) ?_
        refine AllReadyIn.cons rfl (fun K hK => ?_) (AllReadyIn.nil)
        go_simp
        refine ⟨trivial, ?_⟩
        gi_at_call 38
        refine (CallsIn.inRound l (callsIn_wide.2 (hStr_c (itZ M z k) _ _ VB2.drew.iz.out HT2.out hlz))).mono ?_
        rintro e w3 ⟨rfl, hb3⟩
        have k83 := boxed_below k8 hb3 k8.lt; have m83 := k83.cell; have ho3 := Lib.hid (ho2.out.below hb3); have hs3 : D ≤ w3.heap.size := Nat.le_trans hsz (Nat.le_trans hb2.size hb3.size)
        try dsimp only
        refine hK _ _ ?_
        clear hK K
        try go_frame
        refine wpAnyIn_ready (rs := [3]) (by kernel_rfl) (by simp) ?_
        refine AllReadyIn.cons rfl (fun K hK => ?_) (AllReadyIn.nil)
        go_simp
        have m83a := (boxed_below k83 (below_alloc (Below.refl _ _) (Obj.cells #[Value.string (tS (itZ M z k))] 9)) k83.lt).cell
        refine hK _ _ ?_
        clear hK K
        try go_frame
        refine wpAnyIn_ready (rs := [4]) (by kernel_rfl) (by simp) ?_
        refine AllReadyIn.cons rfl (fun K hK => ?_) (AllReadyIn.nil)
        rw [if_pos (show Region.wanted _ _ = true from rfl)]
        refine opIn_T D _ _ 26 9 16 rfl Tryd.underlying26 info_S (by decide) lv _ (tS (itZ M z k)) ho3.out rfl rfl hs3 HLL.out ?_
        intro v5 w5 HO5 HB5 HK5 HKO5 hb5
        obtain ⟨A5, cc5, rfl, -⟩ := HO5.form
        generalize (pre.map tS ++ [tS (itZ M z k)]).length = L5 at HO5 ⊢
        have k85 := boxed_below k83 HB5 l8D; have m85 := k85.cell; have f85 := k85.frozen
        refine hK _ _ ?_
        clear hK K
        try go_frame
        refine wpAnyIn_ready (rs := [5]) (by kernel_rfl) (by simp) ?_
        refine AllReadyIn.cons rfl (fun K hK => ?_) (AllReadyIn.nil)
        go_simp
        refine hK _ _ ?_
        clear hK K
        try go_frame
        refine wpAnyIn_done (by kernel_rfl) ?_ _
        refine hK0 _ _ ?_
        clear hK0 K0 m83 m83a m85 f85 q0 q1
        have hb23 := below_step (below_drew hb2) hb3
        have hr5 := (hr.below hb23).keepB HB5 (by omega) lbn HK5
        obtain ⟨j5, j6, j7, -, jb, -⟩ := hfi.below hb23
        have hni : NoInt lv := by
          obtain ⟨A6, cc6, rfl, -⟩ := ho.form
          exact fun _ _ h => by cases h
        have hkS := Kp.set k85 hni (.slice A5 L5 cc5)
        have hgS := grownBy_setCell' w5 b8 (.slice A5 L5 cc5)
        have e5 := (boxed_below j5 HB5 l5D).other o58.1 (.slice A5 L5 cc5)
        have e6 := (boxed_below j6 HB5 (by omega)).other o58.2.1 (.slice A5 L5 cc5)
        have e7 := (boxed_below j7 HB5 (by omega)).other o58.2.2 (.slice A5 L5 cc5)
        have e8 := k85.set (.slice A5 L5 cc5)
        have hbS := (jb.trans (HB5.mono lwD)).setCell (p := ⟨b8, 0, none⟩) n8 (.slice A5 L5 cc5)
        have KF : ∀ B, KeepsFrom B W (w5.setCell ⟨b8, 0, none⟩ (.slice A5 L5 cc5)) := fun B => (KeepsFrom.below hb23).trans ((HKO5.from _).trans ((KeepsOthers.setCell _ _ _).from _))
        have HO6 := HO5.grown hgS (HO5.row_ge l8D)
        have hr6 := hr5.kept hgS hkS (by simp; omega) (by simp; omega)
        have hsz6 := Nat.le_trans hb5 hgS.size
        clear hgS hkS HO5 hr5 k85 HB5 HK5 HKO5 jb j5 j6 j7
        generalize w5.setCell ⟨b8, 0, none⟩ (.slice A5 L5 cc5) = w6 at *
        replace HO6 : OwS w6 D 9 (.slice A5 L5 cc5) ((pre ++ [itZ M z k]).map tS) := by rw [List.map_append]; exact HO6
        have m5 := e5.cell
        by_cases hkK : k = K
        · have HRES : Hid (orbF M K [] z = (0, pre ++ [itZ M z k])) := by
            show _ = _
            rw [H3.out, hkK, Nat.sub_self]; unfold orbF; rw [hkK] at HD1; rw [if_neg HD1.out]
          have hkb : ((k : Int) == (K : Int)) = true := by simp; omega
          clear hkK
          gi_wp2
          exact ⟨KF _, hbS, .inr ⟨rfl, _, _, e6, e7, e8, HO6, HRES.out⟩⟩
        · have HRES : Hid (orbF M K [] z = orbF M (K - (k + 1)) (pre ++ [itZ M z k]) (itZ M z (k + 1))) := by
            show _ = _
            rw [H3.out, show K - k = (K - (k + 1)) + 1 by omega]
            conv => lhs; unfold orbF
            rw [if_neg HD1.out]; rfl
          have hkb : ((k : Int) == (K : Int)) = false := by simp; omega
          have HKK : Hid (k + 1 ≤ K) := by show _ ≤ _; omega
          clear hkK
          gi_wp2
          exact ⟨KF _, hr6, e5, e6, e7, ⟨_, _, e8, HO6, by rw [List.length_append, H1.out]; rfl, HKK.out, HRES.out⟩, hbS, hsz6⟩
      · go_simp
        refine hK _ _ ?_
        clear hK K
        try go_frame
        refine wpAnyIn_ready (rs := [0, 2]) (by kernel_rfl) (by simp) ?_
        refine AllReadyIn.cons rfl (fun K hK => ?_) (AllReadyIn.cons rfl (fun K hK => ?_) (AllReadyIn.nil))
        · go_simp
          refine hK _ _ ?_
          clear hK K
          try go_frame
          refine wpAnyIn_ready (rs := [2]) (by kernel_rfl) (by simp) ?_
          refine AllReadyIn.cons rfl (fun K hK => ?_) (AllReadyIn.nil)
          go_simp
          refine ⟨trivial, ?_⟩
          gi_at_call 38
          refine (CallsIn.inRound l (callsIn_wide.2 (hStr_c (itZ M z k) _ _ VB2.drew.iz.out HT2.out hlz))).mono ?_
          rintro e w3 ⟨rfl, hb3⟩
          have k83 := boxed_below k8 hb3 k8.lt; have m83 := k83.cell; have ho3 := Lib.hid (ho2.out.below hb3); have hs3 : D ≤ w3.heap.size := Nat.le_trans hsz (Nat.le_trans hb2.size hb3.size)
          try dsimp only
          refine hK _ _ ?_
          clear hK K
          try go_frame
          refine wpAnyIn_ready (rs := [3]) (by kernel_rfl) (by simp) ?_
          refine AllReadyIn.cons rfl (fun K hK => ?_) (AllReadyIn.nil)
          go_simp
          have m83a := (boxed_below k83 (below_alloc (Below.refl _ _) (Obj.cells #[Value.string (tS (itZ M z k))] 9)) k83.lt).cell
          refine hK _ _ ?_
          clear hK K
          try go_frame
          refine wpAnyIn_ready (rs := [4]) (by kernel_rfl) (by simp) ?_
          refine AllReadyIn.cons rfl (fun K hK => ?_) (AllReadyIn.nil)
          rw [if_pos (show Region.wanted _ _ = true from rfl)]
          refine opIn_T D _ _ 26 9 16 rfl Tryd.underlying26 info_S (by decide) lv _ (tS (itZ M z k)) ho3.out rfl rfl hs3 HLL.out ?_
          intro v5 w5 HO5 HB5 HK5 HKO5 hb5
          obtain ⟨A5, cc5, rfl, -⟩ := HO5.form
          generalize (pre.map tS ++ [tS (itZ M z k)]).length = L5 at HO5 ⊢
          have k85 := boxed_below k83 HB5 l8D; have m85 := k85.cell; have f85 := k85.frozen
          refine hK _ _ ?_
          clear hK K
          try go_frame
          refine wpAnyIn_ready (rs := [5]) (by kernel_rfl) (by simp) ?_
          refine AllReadyIn.cons rfl (fun K hK => ?_) (AllReadyIn.nil)
          go_simp
          refine hK _ _ ?_
          clear hK K
          try go_frame
          refine wpAnyIn_done (by kernel_rfl) ?_ _
          refine hK0 _ _ ?_
          clear hK0 K0 m83 m83a m85 f85 q0 q1
          have hb23 := below_step (below_drew hb2) hb3
          have hr5 := (hr.below hb23).keepB HB5 (by omega) lbn HK5
          obtain ⟨j5, j6, j7, -, jb, -⟩ := hfi.below hb23
          have hni : NoInt lv := by
            obtain ⟨A6, cc6, rfl, -⟩ := ho.form
            exact fun _ _ h => by cases h
          have hkS := Kp.set k85 hni (.slice A5 L5 cc5)
          have hgS := grownBy_setCell' w5 b8 (.slice A5 L5 cc5)
          have e5 := (boxed_below j5 HB5 l5D).other o58.1 (.slice A5 L5 cc5)
          have e6 := (boxed_below j6 HB5 (by omega)).other o58.2.1 (.slice A5 L5 cc5)
          have e7 := (boxed_below j7 HB5 (by omega)).other o58.2.2 (.slice A5 L5 cc5)
          have e8 := k85.set (.slice A5 L5 cc5)
          have hbS := (jb.trans (HB5.mono lwD)).setCell (p := ⟨b8, 0, none⟩) n8 (.slice A5 L5 cc5)
          have KF : ∀ B, KeepsFrom B W (w5.setCell ⟨b8, 0, none⟩ (.slice A5 L5 cc5)) := fun B => (KeepsFrom.below hb23).trans ((HKO5.from _).trans ((KeepsOthers.setCell _ _ _).from _))
          have HO6 := HO5.grown hgS (HO5.row_ge l8D)
          have hr6 := hr5.kept hgS hkS (by simp; omega) (by simp; omega)
          have hsz6 := Nat.le_trans hb5 hgS.size
          clear hgS hkS HO5 hr5 k85 HB5 HK5 HKO5 jb j5 j6 j7
          generalize w5.setCell ⟨b8, 0, none⟩ (.slice A5 L5 cc5) = w6 at *
          replace HO6 : OwS w6 D 9 (.slice A5 L5 cc5) ((pre ++ [itZ M z k]).map tS) := by rw [List.map_append]; exact HO6
          have m5 := e5.cell
          by_cases hkK : k = K
          · have HRES : Hid (orbF M K [] z = (0, pre ++ [itZ M z k])) := by
              show _ = _
              rw [H3.out, hkK, Nat.sub_self]; unfold orbF; rw [hkK] at HD1; rw [if_neg HD1.out]
            have hkb : ((k : Int) == (K : Int)) = true := by simp; omega
            clear hkK
            gi_wp2
            exact ⟨KF _, hbS, .inr ⟨rfl, _, _, e6, e7, e8, HO6, HRES.out⟩⟩
          · have HRES : Hid (orbF M K [] z = orbF M (K - (k + 1)) (pre ++ [itZ M z k]) (itZ M z (k + 1))) := by
              show _ = _
              rw [H3.out, show K - k = (K - (k + 1)) + 1 by omega]
              conv => lhs; unfold orbF
              rw [if_neg HD1.out]; rfl
            have hkb : ((k : Int) == (K : Int)) = false := by simp; omega
            have HKK : Hid (k + 1 ≤ K) := by show _ ≤ _; omega
            clear hkK
            gi_wp2
            exact ⟨KF _, hr6, e5, e6, e7, ⟨_, _, e8, HO6, by rw [List.length_append, H1.out]; rfl, HKK.out, HRES.out⟩, hbS, hsz6⟩
        · go_simp
          refine ⟨trivial, ?_⟩
          gi_at_call 38
          refine (CallsIn.inRound l (callsIn_wide.2 (hStr_c (itZ M z k) _ _ VB2.drew.iz.out HT2.out hlz))).mono ?_
          rintro e w3 ⟨rfl, hb3⟩
          have k83 := boxed_below k8 hb3 k8.lt; have m83 := k83.cell; have ho3 := Lib.hid (ho2.out.below hb3); have hs3 : D ≤ w3.heap.size := Nat.le_trans hsz (Nat.le_trans hb2.size hb3.size)
          try dsimp only
          refine hK _ _ ?_
          clear hK K
          try go_frame
          refine wpAnyIn_ready (rs := [0, 3]) (by kernel_rfl) (by simp) ?_
          refine AllReadyIn.cons rfl (fun K hK => ?_) (AllReadyIn.cons rfl (fun K hK => ?_) (AllReadyIn.nil))
          · go_simp
            refine hK _ _ ?_
            clear hK K
            try go_frame
            refine wpAnyIn_ready (rs := [3]) (by kernel_rfl) (by simp) ?_
            refine AllReadyIn.cons rfl (fun K hK => ?_) (AllReadyIn.nil)
            go_simp
            have m83a := (boxed_below k83 (below_alloc (Below.refl _ _) (Obj.cells #[Value.string (tS (itZ M z k))] 9)) k83.lt).cell
            refine hK _ _ ?_
            clear hK K
            try go_frame
            refine wpAnyIn_ready (rs := [4]) (by kernel_rfl) (by simp) ?_
            refine AllReadyIn.cons rfl (fun K hK => ?_) (AllReadyIn.nil)
            rw [if_pos (show Region.wanted _ _ = true from rfl)]
            refine opIn_T D _ _ 26 9 16 rfl Tryd.underlying26 info_S (by decide) lv _ (tS (itZ M z k)) ho3.out rfl rfl hs3 HLL.out ?_
            intro v5 w5 HO5 HB5 HK5 HKO5 hb5
            obtain ⟨A5, cc5, rfl, -⟩ := HO5.form
            generalize (pre.map tS ++ [tS (itZ M z k)]).length = L5 at HO5 ⊢
            have k85 := boxed_below k83 HB5 l8D; have m85 := k85.cell; have f85 := k85.frozen
            refine hK _ _ ?_
            clear hK K
            try go_frame
            refine wpAnyIn_ready (rs := [5]) (by kernel_rfl) (by simp) ?_
            refine AllReadyIn.cons rfl (fun K hK => ?_) (AllReadyIn.nil)
            go_simp
            refine hK _ _ ?_
            clear hK K
            try go_frame
            refine wpAnyIn_done (by kernel_rfl) ?_ _
            refine hK0 _ _ ?_
            clear hK0 K0 m83 m83a m85 f85 q0 q1
            have hb23 := below_step (below_drew hb2) hb3
            have hr5 := (hr.below hb23).keepB HB5 (by omega) lbn HK5
            obtain ⟨j5, j6, j7, -, jb, -⟩ := hfi.below hb23
            have hni : NoInt lv := by
              obtain ⟨A6, cc6, rfl, -⟩ := ho.form
              exact fun _ _ h => by cases h
            have hkS := Kp.set k85 hni (.slice A5 L5 cc5)
            have hgS := grownBy_setCell' w5 b8 (.slice A5 L5 cc5)
            have e5 := (boxed_below j5 HB5 l5D).other o58.1 (.slice A5 L5 cc5)
            have e6 := (boxed_below j6 HB5 (by omega)).other o58.2.1 (.slice A5 L5 cc5)
            have e7 := (boxed_below j7 HB5 (by omega)).other o58.2.2 (.slice A5 L5 cc5)
            have e8 := k85.set (.slice A5 L5 cc5)
            have hbS := (jb.trans (HB5.mono lwD)).setCell (p := ⟨b8, 0, none⟩) n8 (.slice A5 L5 cc5)
            have KF : ∀ B, KeepsFrom B W (w5.setCell ⟨b8, 0, none⟩ (.slice A5 L5 cc5)) := fun B => (KeepsFrom.below hb23).trans ((HKO5.from _).trans ((KeepsOthers.setCell _ _ _).from _))
            have HO6 := HO5.grown hgS (HO5.row_ge l8D)
            have hr6 := hr5.kept hgS hkS (by simp; omega) (by simp; omega)
            have hsz6 := Nat.le_trans hb5 hgS.size
            clear hgS hkS HO5 hr5 k85 HB5 HK5 HKO5 jb j5 j6 j7
            generalize w5.setCell ⟨b8, 0, none⟩ (.slice A5 L5 cc5) = w6 at *
            replace HO6 : OwS w6 D 9 (.slice A5 L5 cc5) ((pre ++ [itZ M z k]).map tS) := by rw [List.map_append]; exact HO6
            have m5 := e5.cell
            by_cases hkK : k = K
            · have HRES : Hid (orbF M K [] z = (0, pre ++ [itZ M z k])) := by
                show _ = _
                rw [H3.out, hkK, Nat.sub_self]; unfold orbF; rw [hkK] at HD1; rw [if_neg HD1.out]
              have hkb : ((k : Int) == (K : Int)) = true := by simp; omega
              clear hkK
              gi_wp2
              exact ⟨KF _, hbS, .inr ⟨rfl, _, _, e6, e7, e8, HO6, HRES.out⟩⟩
            · have HRES : Hid (orbF M K [] z = orbF M (K - (k + 1)) (pre ++ [itZ M z k]) (itZ M z (k + 1))) := by
                show _ = _
                rw [H3.out, show K - k = (K - (k + 1)) + 1 by omega]
                conv => lhs; unfold orbF
                rw [if_neg HD1.out]; rfl
              have hkb : ((k : Int) == (K : Int)) = false := by simp; omega
              have HKK : Hid (k + 1 ≤ K) := by show _ ≤ _; omega
              clear hkK
              gi_wp2
              exact ⟨KF _, hr6, e5, e6, e7, ⟨_, _, e8, HO6, by rw [List.length_append, H1.out]; rfl, HKK.out, HRES.out⟩, hbS, hsz6⟩
          · go_simp
            have m83a := (boxed_below k83 (below_alloc (Below.refl _ _) (Obj.cells #[Value.string (tS (itZ M z k))] 9)) k83.lt).cell
            refine hK _ _ ?_
            clear hK K
            try go_frame
            refine wpAnyIn_ready (rs := [0]) (by kernel_rfl) (by simp) ?_
            refine AllReadyIn.cons rfl (fun K hK => ?_) (AllReadyIn.nil)
            go_simp
            refine hK _ _ ?_
            clear hK K
            try go_frame
            refine wpAnyIn_ready (rs := [4]) (by kernel_rfl) (by simp) ?_
            refine AllReadyIn.cons rfl (fun K hK => ?_) (AllReadyIn.nil)
            rw [if_pos (show Region.wanted _ _ = true from rfl)]
            refine opIn_T D _ _ 26 9 16 rfl Tryd.underlying26 info_S (by decide) lv _ (tS (itZ M z k)) ho3.out rfl rfl hs3 HLL.out ?_
            intro v5 w5 HO5 HB5 HK5 HKO5 hb5
            obtain ⟨A5, cc5, rfl, -⟩ := HO5.form
            generalize (pre.map tS ++ [tS (itZ M z k)]).length = L5 at HO5 ⊢
            have k85 := boxed_below k83 HB5 l8D; have m85 := k85.cell; have f85 := k85.frozen
            refine hK _ _ ?_
            clear hK K
            try go_frame
            refine wpAnyIn_ready (rs := [5]) (by kernel_rfl) (by simp) ?_
            refine AllReadyIn.cons rfl (fun K hK => ?_) (AllReadyIn.nil)
            go_simp
            refine hK _ _ ?_
            clear hK K
            try go_frame
            refine wpAnyIn_done (by kernel_rfl) ?_ _
            refine hK0 _ _ ?_
            clear hK0 K0 m83 m83a m85 f85 q0 q1
            have hb23 := below_step (below_drew hb2) hb3
            have hr5 := (hr.below hb23).keepB HB5 (by omega) lbn HK5
            obtain ⟨j5, j6, j7, -, jb, -⟩ := hfi.below hb23
            have hni : NoInt lv := by
              obtain ⟨A6, cc6, rfl, -⟩ := ho.form
              exact fun _ _ h => by cases h
            have hkS := Kp.set k85 hni (.slice A5 L5 cc5)
            have hgS := grownBy_setCell' w5 b8 (.slice A5 L5 cc5)
            have e5 := (boxed_below j5 HB5 l5D).other o58.1 (.slice A5 L5 cc5)
            have e6 := (boxed_below j6 HB5 (by omega)).other o58.2.1 (.slice A5 L5 cc5)
            have e7 := (boxed_below j7 HB5 (by omega)).other o58.2.2 (.slice A5 L5 cc5)
            have e8 := k85.set (.slice A5 L5 cc5)
            have hbS := (jb.trans (HB5.mono lwD)).setCell (p := ⟨b8, 0, none⟩) n8 (.slice A5 L5 cc5)
            have KF : ∀ B, KeepsFrom B W (w5.setCell ⟨b8, 0, none⟩ (.slice A5 L5 cc5)) := fun B => (KeepsFrom.below hb23).trans ((HKO5.from _).trans ((KeepsOthers.setCell _ _ _).from _))
            have HO6 := HO5.grown hgS (HO5.row_ge l8D)
            have hr6 := hr5.kept hgS hkS (by simp; omega) (by simp; omega)
            have hsz6 := Nat.le_trans hb5 hgS.size
            clear hgS hkS HO5 hr5 k85 HB5 HK5 HKO5 jb j5 j6 j7
            generalize w5.setCell ⟨b8, 0, none⟩ (.slice A5 L5 cc5) = w6 at *
            replace HO6 : OwS w6 D 9 (.slice A5 L5 cc5) ((pre ++ [itZ M z k]).map tS) := by rw [List.map_append]; exact HO6
            have m5 := e5.cell
            by_cases hkK : k = K
            · have HRES : Hid (orbF M K [] z = (0, pre ++ [itZ M z k])) := by
                show _ = _
                rw [H3.out, hkK, Nat.sub_self]; unfold orbF; rw [hkK] at HD1; rw [if_neg HD1.out]
              have hkb : ((k : Int) == (K : Int)) = true := by simp; omega
              clear hkK
              gi_wp2
              exact ⟨KF _, hbS, .inr ⟨rfl, _, _, e6, e7, e8, HO6, HRES.out⟩⟩
            · have HRES : Hid (orbF M K [] z = orbF M (K - (k + 1)) (pre ++ [itZ M z k]) (itZ M z (k + 1))) := by
                show _ = _
                rw [H3.out, show K - k = (K - (k + 1)) + 1 by omega]
                conv => lhs; unfold orbF
                rw [if_neg HD1.out]; rfl
              have hkb : ((k : Int) == (K : Int)) = false := by simp; omega
              have HKK : Hid (k + 1 ≤ K) := by show _ ≤ _; omega
              clear hkK
              gi_wp2
              exact ⟨KF _, hr6, e5, e6, e7, ⟨_, _, e8, HO6, by rw [List.length_append, H1.out]; rfl, HKK.out, HRES.out⟩, hbS, hsz6⟩
  case stop =>
    rintro D2 cd W hD2 ⟨hb, hx⟩ hK2
    rcases hx with ⟨rfl, c6, c7, hres⟩ | ⟨rfl, lv, pre, c6, c7, c8, ho, hres⟩
    · have HR := Lib.hid hres
      clear hres
      gi_wp2
      try rw [Exit.noGoto_ret]
      have hr2 : ∀ r, some D2 = some r → ∃ o : Obj, W.heap[r]? = some o ∧ o.isCells = false := fun r e => by cases e; exact ⟨_, hK2, rfl⟩
      have hg2 := grownBy_putObj' W D2 (.deferred none)
      have m6 := cell_kept c6.cell hg2 hr2; have m7 := cell_kept c7.cell hg2 hr2
      have hbb := hb.grown hg2 hb.size (fun r e => by cases e; rw [HDw.out] at hD2; omega)
      refine ⟨by simp, .inl ⟨_, _, rfl, run_takeDeferred hK2, ?_⟩⟩
      refine ⟨.tuple #[.slice none 0 0, .int .i64 3], ?_, none, 0, by rw [HR.out] <;> rfl, by rw [HR.out]; exact LsS.nil _, hbb⟩
      simp [results, Tryd.results26, go_sem, m6, m7]
    · have HR := Lib.hid hres
      obtain ⟨Al, cl, rfl, hls⟩ := ho.form
      obtain ⟨np, hnp⟩ : ∃ np, (pre.map tS).length = np := ⟨_, rfl⟩
      rw [hnp] at c8
      have hnp2 : pre.length = np := by rw [← hnp, List.length_map]
      have HNP := Lib.hid hnp2
      clear hres hnp hnp2 hls
      have m8 := c8.cell; have m6 := c6.cell; have m7 := c7.cell; have f6 := c6.frozen; have f7 := c7.frozen
      refine wpIn_wide.2 ?_
      go_wp2_with fail
      obtain ⟨e6, e7, eo, eb⟩ := st2 c6 c7 o67 (.slice Al np cl) (.int .i64 0) hb n6 n7
      have g1 := ho.grown (grownBy_setCell' W b6 (.slice Al np cl)) (ho.row_ge (by omega))
      have g2 := g1.grown (grownBy_setCell' _ b7 (.int .i64 0)) (g1.row_ge (by omega))
      have hK4 := (eo.from 0).same _ _ (Nat.zero_le _) hK2 rfl
      have h8 := (c8.other o58.2.1.symm (.slice Al np cl)).other o58.2.2.symm (.int .i64 0)
      clear c6 c7 c8 m6 m7 m8 f6 f7 g1 ho hK2 hb eo
      generalize (W.setCell ⟨b6, 0, none⟩ (.slice Al np cl)).setCell ⟨b7, 0, none⟩ (.int .i64 0) = W4 at *
      go_wp2
      try rw [Exit.noGoto_ret]
      have hr2 : ∀ r, some D2 = some r → ∃ o : Obj, W4.heap[r]? = some o ∧ o.isCells = false := fun r e => by cases e; exact ⟨_, hK4, rfl⟩
      have hg2 := grownBy_putObj' W4 D2 (.deferred none)
      have m6 := cell_kept e6.cell hg2 hr2; have m7 := cell_kept e7.cell hg2 hr2
      have hbb := eb.grown hg2 eb.size (fun r e => by cases e; rw [HDw.out] at hD2; omega)
      have g4 := g2.grown hg2 (g2.row_cells hr2)
      obtain ⟨A9, c9', e9, hl9⟩ := g4.form
      injection e9 with e91 e92 e93
      subst e91 e93
      refine ⟨by simp, .inl ⟨_, _, rfl, run_takeDeferred hK4, ?_⟩⟩
      refine ⟨.tuple #[.slice Al np cl, .int .i64 0], ?_, Al, cl, by rw [HR.out, HNP.out] <;> rfl, by rw [HR.out]; exact hl9, hbb⟩
      simp [results, Tryd.results26, go_sem, m6, m7]
end Go.Proofs.YtiaeeclmlchpoaaDoor

set_option linter.unusedVariables false
set_option linter.unusedSimpArgs false
namespace Go.Proofs.YtiaeeclmlchpoaaDoor
open Go.RowKit

theorem orbF_fit {M : Mp} (k : Nat) : ∀ pre z, (∀ j, j ≤ k → dl (itZ M z j) ≤ 2000) → orbF M k pre z = (0, pre ++ (List.range (k + 1)).map (itZ M z)) := by
  induction k with
  | zero => intro pre z h; unfold orbF; rw [if_neg (by have := h 0 (Nat.le_refl _); show ¬ _; simp [itZ] at this; omega)]; rfl
  | succ k ih =>
    intro pre z h
    unfold orbF
    rw [if_neg (by have := h 0 (Nat.zero_le _); simp [itZ] at this; omega), ih _ _ (fun j hj => by rw [itZ_shift]; exact h (j + 1) (by omega))]
    congr 1
    rw [List.append_assoc]
    congr 1
    rw [List.range_succ_eq_map (n := k + 1), List.map_cons, List.map_map]
    have e : (List.range (k + 1)).map (itZ M (stepZ M z)) = (List.range (k + 1)).map (itZ M z ∘ Nat.succ) := List.map_congr_left fun i _ => itZ_shift M z i
    rw [e]; rfl
/-- What FateCycles asks of a cycle. -/
structure CyF (M : Mp) (z : Int) (most t : Nat) (l : List Int) : Prop where
  pos : 0 < l.length
  le : t + l.length ≤ most
  fit : ∀ j, dl (itZ M z j) ≤ 2000
  least : ∀ i, 0 < i → i < l.length → gd l 0 < gd l i
  step : ∀ i, i < l.length → stepZ M (gd l i) = gd l ((i + 1) % l.length)
  diff : ∀ k i, k < i → i < l.length → gd l k ≠ gd l i
  before : ∀ i j, i < t → j < l.length → itZ M z i ≠ gd l j
  at_ : ∃ j, j < l.length ∧ gd l j = itZ M z t
  mem : ∀ i, i < l.length → dl (gd l i) ≤ 2000
theorem flw_cyf {M : Mp} {z : Int} {most t : Nat} {l : List Int} (h : flwA M (most + 1) [] z = (0, t, l)) : CyF M z most t l := by
  rcases flwA_FS M z most with ⟨h', -⟩ | ⟨h', -⟩ | ⟨t', s, L, h', h1, h2, h3, h4, h5, h6, h7, h8⟩
  · rw [h] at h'; cases h'
  · rw [h] at h'; cases h'
  · rw [h] at h'
    have e1 : t = t' := by injection h' with _ h'; injection h'
    have e2 : l = (List.range L).map fun i => itZ M z (s + i) := by injection h' with _ h'; injection h'
    subst e1
    clear h'
    have hlen : l.length = L := by rw [e2]; simp
    have hg : ∀ i, i < L → gd l i = itZ M z (s + i) := fun i hi => by rw [e2, gd_range _ _ hi]
    -- each number of the cycle is one of those from t on
    have hred : ∀ i, i < L → ∃ p, t ≤ p ∧ p < t + L ∧ itZ M z (s + i) = itZ M z p ∧ p = t + (s - t + i) % L := fun i hi => by
      have := per_mod (f := itZ M z) h1 (it_per h6) (s - t + i)
      rw [show t + (s - t + i) = s + i by omega] at this
      exact ⟨_, by omega, by have := Nat.mod_lt (s - t + i) h1; omega, this.symm, rfl⟩
    have hinj : ∀ k i, k < i → i < L → itZ M z (s + k) ≠ itZ M z (s + i) := fun k i hk hi he => by
      obtain ⟨p, p1, p2, p3, p4⟩ := hred k (by omega)
      obtain ⟨q, q1, q2, q3, q4⟩ := hred i hi
      have hne : p ≠ q := fun e => by
        rw [p4, q4] at e
        have e' : (s - t + k) % L = (s - t + i) % L := by omega
        have a1 := Nat.mod_add_div (s - t + k) L
        have a2 := Nat.mod_add_div (s - t + i) L
        rw [e'] at a1
        rcases Nat.lt_trichotomy ((s - t + k) / L) ((s - t + i) / L) with d | d | d
        · have : L * ((s - t + k) / L + 1) ≤ L * ((s - t + i) / L) := Nat.mul_le_mul_left _ d
          rw [Nat.mul_add, Nat.mul_one] at this
          omega
        · rw [d] at a1; omega
        · have : L * ((s - t + i) / L + 1) ≤ L * ((s - t + k) / L) := Nat.mul_le_mul_left _ d
          rw [Nat.mul_add, Nat.mul_one] at this
          omega
      rw [p3, q3] at he
      rcases Nat.lt_or_ge p q with d | d
      · exact h7 p q d q2 he
      · exact h7 q p (by omega) p2 he.symm
    refine ⟨by omega, by omega, h5, ?_, ?_, ?_, ?_, ?_, fun i hi => by rw [hg i (by omega)]; exact h5 _⟩
    · intro i h0 hi
      rw [hg 0 (by omega), hg i (by omega)]
      have a := h8 (s + i) (by omega)
      have b := hinj 0 i h0 (by omega)
      simp only [Nat.add_zero] at b ⊢
      omega
    · intro i hi
      rw [hlen] at hi ⊢
      rw [hg i hi, hg _ (Nat.mod_lt _ h1)]
      rcases Nat.lt_or_ge (i + 1) L with d | d
      · rw [Nat.mod_eq_of_lt d]; rfl
      · have e : i + 1 = L := by omega
        rw [e, Nat.mod_self, Nat.add_zero]
        show itZ M z (s + i + 1) = _
        rw [show s + i + 1 = s + L by omega]
        exact it_per' h6 h3
    · intro k i hk hi
      rw [hg k (by omega), hg i (by omega)]
      exact hinj k i hk (by omega)
    · intro i j hi hj he
      rw [hg j (by omega)] at he
      obtain ⟨p, p1, p2, p3, -⟩ := hred j (by omega)
      rw [p3] at he
      exact h7 i p (by omega) p2 he
    · refine ⟨(L - (s - t)) % L, by rw [hlen]; exact Nat.mod_lt _ h1, ?_⟩
      rw [hg _ (Nat.mod_lt _ h1)]
      rcases Nat.eq_zero_or_pos (s - t) with d | d
      · rw [d, Nat.sub_zero, Nat.mod_self, Nat.add_zero, show s = t by omega]
      · rw [Nat.mod_eq_of_lt (by omega), show s + (L - (s - t)) = t + L by omega, h6]
theorem cy_before {M : Mp} {z : Int} {most t : Nat} {l : List Int} (h : CyF M z most t l) : amongB (((List.range t).map (itZ M z)).map tS) (l.map tS) = false := by
  refine amongB_false ?_
  rintro ⟨x, hx, hy⟩
  obtain ⟨a, ha, rfl⟩ := List.mem_map.1 hx
  obtain ⟨i, hi, rfl⟩ := List.mem_map.1 ha
  obtain ⟨b, hb, e⟩ := List.mem_map.1 hy
  obtain ⟨j, hj, rfl⟩ := List.getElem_of_mem hb
  have := tS_inj e
  rw [← gd_lt hj] at this
  exact h.before i j (by simpa using hi) hj this.symm
theorem cy_at {M : Mp} {z : Int} {most t : Nat} {l : List Int} (h : CyF M z most t l) : amongB [tS (itZ M z t)] (l.map tS) = true := by
  obtain ⟨j, hj, e⟩ := h.at_
  refine amongB_true.2 ⟨tS (itZ M z t), by simp, ?_⟩
  rw [← e, gd_lt hj]
  exact List.mem_map.2 ⟨_, List.getElem_mem hj, rfl⟩
theorem flw_long {M : Mp} {z : Int} {most : Nat} (h : flwA M (most + 1) [] z = (3, 0, [])) : runF M most z = (3, ⟨#[]⟩) := by
  rcases flwA_FS M z most with ⟨-, j, h1, h2, h3⟩ | ⟨h', -⟩ | ⟨t', s, L, h', -⟩
  · exact runF_long most z j h1 h2 h3
  · rw [h] at h'; cases h'
  · rw [h] at h'; cases h'
theorem flw_none {M : Mp} {z : Int} {most : Nat} (h : flwA M (most + 1) [] z = (4, 0, [])) : (∀ j, j ≤ most → dl (itZ M z j) ≤ 2000) ∧ ∀ i j, i < j → j ≤ most → itZ M z i ≠ itZ M z j := by
  rcases flwA_FS M z most with ⟨h', -⟩ | ⟨-, h1, h2⟩ | ⟨t', s, L, h', -⟩
  · rw [h] at h'; cases h'
  · exact ⟨h1, h2⟩
  · rw [h] at h'; cases h'
end Go.Proofs.YtiaeeclmlchpoaaDoor
