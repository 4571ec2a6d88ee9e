/- The law FateTells. No condition but that the library's table lies as it should, and the form's own reach. -/
import Derived.Test.YtiaeeclmlchpoaaDoorZ9
import Derived.Maps.RangeWalk
set_option linter.unusedVariables false
set_option linter.unusedSimpArgs false
namespace Go.Proofs.YtiaeeclmlchpoaaDoor
open Go.RowKit

theorem within_yes (a : Int) (w : World) (h0 : 0 ≤ a) (h1 : a ≤ 20000) : Calls Tryd.prog 15 #[.int .i64 a] w fun e w' => e = .returned (.bool true) ∧ Below w.heap.size w w' := by
  have hB := Below.refl w.heap.size w
  go_enter Tryd.func15, Tryd.ntmps15
  go_wp2
  go_ret
  exact ⟨rfl, hB⟩
theorem within_no (a : Int) (w : World) (h : a < 0 ∨ 20000 < a) : Calls Tryd.prog 15 #[.int .i64 a] w fun e w' => e = .returned (.bool false) ∧ Below w.heap.size w w' := by
  have hB := Below.refl w.heap.size w
  by_cases h0 : 0 ≤ a
  · have h1 : ¬ a ≤ 20000 := by omega
    go_enter Tryd.func15, Tryd.ntmps15
    go_wp2
    go_ret
    exact ⟨rfl, hB⟩
  · clear h
    go_enter Tryd.func15, Tryd.ntmps15
    go_wp2
    go_ret
    exact ⟨rfl, hB⟩
set_option maxRecDepth 100000 in
set_option maxHeartbeats 4000000 in
theorem FTells_bad (M : Mp) (s : ByteArray) (most : Int) (v : Value) (w : World) (hM : IsM w v M) (hr : Rch M) (hs : s.size ≤ 9223372036854775807) (ht : Tb w) (hbad : okB M = false ∨ vldL (codes s) = false) :
    Calls Tryd.prog 3 #[v, .string s, .int .i64 most] w fun e w' => e = .returned (.bool true) ∧ Below w.heap.size w w' := by
  obtain ⟨md, A, n, c, A', n', c', rfl, HM⟩ := hM.form
  have V3 := VM.new w 24 HM.out
  have HB := below_alloc (Below.refl w.heap.size w) (Obj.cells #[Value.int .i64 md, Value.slice A n c, Value.slice A' n' c'] 24)
  have HT := Lib.hid ht
  have HR := Lib.hid hr
  have HBAD := Lib.hid hbad
  clear hr ht hM hbad
  go_enter Tryd.func3, Tryd.ntmps3
  go_wp2_with fail
  (with_reducible refine (Twin_c M _ _ V3.im.out HR.out).mono ?_)
  rintro e w4 ⟨v, rfl, hM4, hb⟩
  obtain ⟨md4, A4, n4, c4, A4', n4', c4', rfl, HM4⟩ := hM4.form
  replace HB := below_step HB hb
  replace V3 := V3.keep hb
  clear hb hM4
  have V7 := VM.new w4 24 HM4.out
  have hba := below_alloc (Below.refl w4.heap.size w4) (Obj.cells #[Value.int .i64 md4, Value.slice A4 n4 c4, Value.slice A4' n4' c4'] 24)
  replace V3 := V3.keep hba
  replace HB := below_step HB hba
  go_upto_region 2 with fail
  generalize hb7 : w4.heap.size = b7 at V7 ⊢
  generalize hW5 : w4.alloc (Obj.cells #[Value.int .i64 md4, Value.slice A4 n4 c4, Value.slice A4' n4' c4'] 24) = W5 at *
  clear hW5 hba HM4 HM hb7
  have m0 := V3.c0; have m1 := V3.c1; have m2 := V3.c2
  go_wp2_with fail
  (with_reducible refine (Fate_bad M s most _ _ V3.im.out hs HBAD.out).mono ?_)
  rintro e w6 ⟨rfl, hb⟩
  replace V3 := V3.keep hb; replace V7 := V7.keep hb
  replace HB := below_step HB hb
  clear hb m0 m1 m2
  have m0 := V3.c0; have m1 := V3.c1; have m2 := V3.c2
  have k0 := V7.c0; have k1 := V7.c1; have k2 := V7.c2
  go_wp2_with fail
  (with_reducible refine (Same_c M M _ _ _ V3.im.out V7.im.out).mono ?_)
  rintro e w7 ⟨rfl, hb⟩
  rw [sameB_self]
  replace V3 := V3.keep hb; replace V7 := V7.keep hb
  replace HB := below_step HB hb
  clear hb m0 m1 m2 k0 k1 k2
  by_cases hok : okB M = true
  · have HOK := Lib.hid hok
    have HV : Hid (vldL (codes s) = false) := HBAD.out.resolve_left (by rw [hok]; simp)
    clear hok HBAD
    have m0 := V3.c0; have m1 := V3.c1; have m2 := V3.c2
    go_wp2_with fail
    (with_reducible refine (MValid_c M _ _ V3.im.out).mono ?_)
    rintro e w8 ⟨he, hb⟩
    replace HB := below_step HB hb
    replace V3 := V3.keep hb
    clear hb
    obtain rfl : e = .returned (.bool true) := by rw [he, HOK.out] <;> rfl
    clear he
    clear m0 m1 m2
    go_wp2_with fail
    (with_reducible refine (Valid_c s _ hs).mono ?_)
    rintro e w9 ⟨rfl, rfl⟩
    rw [HV.out]
    go_wp2_with fail
    (with_reducible refine (awake5_c _ (HT.out.below HB)).mono ?_)
    rintro e w20 ⟨he, hb⟩
    replace HB := below_step HB hb
    clear hb
    subst he
    go_wp2
    go_ret
    exact ⟨rfl, HB⟩
  · have HOK : Hid (okB M = false) := by show _ = _; revert hok; cases okB M <;> simp
    clear hok HBAD
    have m0 := V3.c0; have m1 := V3.c1; have m2 := V3.c2
    go_wp2_with fail
    (with_reducible refine (MValid_c M _ _ V3.im.out).mono ?_)
    rintro e w8 ⟨he, hb⟩
    replace HB := below_step HB hb
    replace V3 := V3.keep hb
    clear hb
    obtain rfl : e = .returned (.bool false) := by rw [he, HOK.out] <;> rfl
    clear he
    clear m0 m1 m2
    go_wp2_with fail
    (with_reducible refine (awake5_c _ (HT.out.below HB)).mono ?_)
    rintro e w20 ⟨he, hb⟩
    replace HB := below_step HB hb
    clear hb
    subst he
    go_wp2
    go_ret
    exact ⟨rfl, HB⟩
set_option maxRecDepth 100000 in
set_option maxHeartbeats 4000000 in
theorem FTells_arg (M : Mp) (z most : Int) (v : Value) (w : World) (hM : IsM w v M) (hr : Rch M) (ht : Tb w) (hok : okM M) (hz : dlN z.natAbs ≤ 2000) (hbad : most < 0 ∨ 20000 < most) :
    Calls Tryd.prog 3 #[v, .string (tS z), .int .i64 most] w fun e w' => e = .returned (.bool true) ∧ Below w.heap.size w w' := by
  obtain ⟨md, A, n, c, A', n', c', rfl, HM⟩ := hM.form
  have V3 := VM.new w 24 HM.out
  have HB := below_alloc (Below.refl w.heap.size w) (Obj.cells #[Value.int .i64 md, Value.slice A n c, Value.slice A' n' c'] 24)
  have HT := Lib.hid ht
  have HR := Lib.hid hr
  have HBAD := Lib.hid hbad
  have HOKM := Lib.hid hok
  have HOK : Hid (okB M = true) := okB_iff.2 hok
  have HV := Lib.hid (vld_tS hz)
  have HZ := Lib.hid hz
  have hs := tS_sz hz
  clear hr ht hM hbad hok
  go_enter Tryd.func3, Tryd.ntmps3
  go_wp2_with fail
  (with_reducible refine (Twin_c M _ _ V3.im.out HR.out).mono ?_)
  rintro e w4 ⟨v, rfl, hM4, hb⟩
  obtain ⟨md4, A4, n4, c4, A4', n4', c4', rfl, HM4⟩ := hM4.form
  replace HB := below_step HB hb
  replace V3 := V3.keep hb
  clear hb hM4
  have V7 := VM.new w4 24 HM4.out
  have hba := below_alloc (Below.refl w4.heap.size w4) (Obj.cells #[Value.int .i64 md4, Value.slice A4 n4 c4, Value.slice A4' n4' c4'] 24)
  replace V3 := V3.keep hba
  replace HB := below_step HB hba
  go_upto_region 2 with fail
  generalize hb7 : w4.heap.size = b7 at V7 ⊢
  generalize hW5 : w4.alloc (Obj.cells #[Value.int .i64 md4, Value.slice A4 n4 c4, Value.slice A4' n4' c4'] 24) = W5 at *
  clear hW5 hba HM4 HM hb7
  have m0 := V3.c0; have m1 := V3.c1; have m2 := V3.c2
  go_wp2_with fail
  (with_reducible refine (Fate_arg M z most _ _ V3.im.out HOKM.out HZ.out HBAD.out).mono ?_)
  rintro e w6 ⟨rfl, hb⟩
  replace V3 := V3.keep hb; replace V7 := V7.keep hb
  replace HB := below_step HB hb
  clear hb m0 m1 m2
  have m0 := V3.c0; have m1 := V3.c1; have m2 := V3.c2
  have k0 := V7.c0; have k1 := V7.c1; have k2 := V7.c2
  go_wp2_with fail
  (with_reducible refine (Same_c M M _ _ _ V3.im.out V7.im.out).mono ?_)
  rintro e w7 ⟨rfl, hb⟩
  rw [sameB_self]
  replace V3 := V3.keep hb; replace V7 := V7.keep hb
  replace HB := below_step HB hb
  clear hb m0 m1 m2 k0 k1 k2
  have m0 := V3.c0; have m1 := V3.c1; have m2 := V3.c2
  go_wp2_with fail
  (with_reducible refine (MValid_c M _ _ V3.im.out).mono ?_)
  rintro e w8 ⟨he, hb⟩
  replace HB := below_step HB hb
  replace V3 := V3.keep hb
  clear hb
  obtain rfl : e = .returned (.bool true) := by rw [he, HOK.out] <;> rfl
  clear he
  clear m0 m1 m2
  go_wp2_with fail
  (with_reducible refine (Valid_c (tS z) _ hs).mono ?_)
  rintro e w9 ⟨rfl, rfl⟩
  rw [HV.out]
  go_wp2_with fail
  (with_reducible refine (within_no most _ HBAD.out).mono ?_)
  rintro e w10 ⟨he, hb⟩
  replace HB := below_step HB hb
  clear hb
  subst he
  go_wp2_with fail
  (with_reducible refine (awake5_c _ (HT.out.below HB)).mono ?_)
  rintro e w20 ⟨he, hb⟩
  replace HB := below_step HB hb
  clear hb
  subst he
  go_wp2
  go_ret
  exact ⟨rfl, HB⟩
set_option maxRecDepth 100000 in
set_option maxHeartbeats 8000000 in
theorem FTells_ok (M : Mp) (z : Int) (most : Nat) (v : Value) (w : World) (hM : IsM w v M) (hr : Rch M) (ht : Tb w) (hok : okM M) (hz : dlN z.natAbs ≤ 2000) (hmo : most ≤ 20000) :
    Calls Tryd.prog 3 #[v, .string (tS z), .int .i64 most] w fun e w' => e = .returned (.bool true) ∧ Below w.heap.size w w' := by
  obtain ⟨md, A, n, c, A', n', c', rfl, HM⟩ := hM.form
  have V3 := VM.new w 24 HM.out
  have HB := below_alloc (Below.refl w.heap.size w) (Obj.cells #[Value.int .i64 md, Value.slice A n c, Value.slice A' n' c'] 24)
  have HT := Lib.hid ht
  have HR := Lib.hid hr
  have HOKM := Lib.hid hok
  have HOK : Hid (okB M = true) := okB_iff.2 hok
  have HV := Lib.hid (vld_tS hz)
  have HZ := Lib.hid hz
  have hs := tS_sz hz
  obtain ⟨Rr, hRr⟩ : ∃ R, flwA M (most + 1) [] z = R := ⟨_, rfl⟩
  have HC : Hid (Rr = (3, 0, []) ∨ Rr = (4, 0, []) ∨ ∃ t l, Rr = (0, t, l) ∧ 0 < l.length ∧ l.length ≤ most ∧ t + l.length ≤ most ∧ ∀ x, x ∈ l → dl x ≤ 2000) := by have := flw_cases M z most; rw [hRr] at this; exact this
  have HF : Hid (∀ (W : World) (v : Value), IsM W v M → Tb W → Calls Tryd.prog 10 #[v, .string (tS z), .int .i64 most] W fun e w' => ∃ A c, e = .returned (.tuple #[.int .i64 Rr.2.1, .slice A Rr.2.2.length c, .int .i64 Rr.1]) ∧ Hid (LsS w' A c (Rr.2.2.map tS)) ∧ Below W.heap.size W w') :=
    fun W v h1 h3 => by have := Fate_ok M z most v W h1 hok hz hmo h3; rw [hRr] at this; exact this
  have HF5 : Hid (∀ (u : Value) (W : World) (v : Value), IsM W v M → IsN W u z → Calls Tryd.prog 16 #[v, u, .int .i64 most] W fun e w' => ∃ A c, e = .returned (.tuple #[.int .i64 Rr.2.1, .slice A Rr.2.2.length c, .int .i64 Rr.1]) ∧ Hid (LsZ B9 .i64 w' A c Rr.2.2) ∧ Below W.heap.size W w') :=
    fun u W v h1 h2 => by have := Fate5_c M z most v u W h1 h2 hok (by have := len_dlN hz; omega) (by omega); rw [← flwA_fateL, hRr] at this; exact this
  have hm0 : (0 : Int) ≤ (most : Int) := by omega
  have hm1 : (most : Int) ≤ 20000 := by omega
  clear hr ht hM hok hRr
  go_enter Tryd.func3, Tryd.ntmps3
  go_wp2_with fail
  (with_reducible refine (Twin_c M _ _ V3.im.out HR.out).mono ?_)
  rintro e w4 ⟨v, rfl, hM4, hb⟩
  obtain ⟨md4, A4, n4, c4, A4', n4', c4', rfl, HM4⟩ := hM4.form
  replace HB := below_step HB hb
  replace V3 := V3.keep hb
  clear hb hM4
  have V7 := VM.new w4 24 HM4.out
  have hba := below_alloc (Below.refl w4.heap.size w4) (Obj.cells #[Value.int .i64 md4, Value.slice A4 n4 c4, Value.slice A4' n4' c4'] 24)
  replace V3 := V3.keep hba
  replace HB := below_step HB hba
  go_upto_region 2 with fail
  generalize hb7 : w4.heap.size = b7 at V7 ⊢
  generalize hW5 : w4.alloc (Obj.cells #[Value.int .i64 md4, Value.slice A4 n4 c4, Value.slice A4' n4' c4'] 24) = W5 at *
  clear hW5 hba HM4 HM hb7
  have m0 := V3.c0; have m1 := V3.c1; have m2 := V3.c2
  go_wp2_with fail
  (with_reducible refine (HF.out _ _ V3.im.out (HT.out.below HB)).mono ?_)
  rintro e w6 ⟨A6, c6, rfl, HL, hb⟩
  replace V3 := V3.keep hb; replace V7 := V7.keep hb
  replace HB := below_step HB hb
  clear hb m0 m1 m2 HF
  have m0 := V3.c0; have m1 := V3.c1; have m2 := V3.c2
  have k0 := V7.c0; have k1 := V7.c1; have k2 := V7.c2
  go_wp2_with fail
  (with_reducible refine (Same_c M M _ _ _ V3.im.out V7.im.out).mono ?_)
  rintro e w7 ⟨rfl, hb⟩
  rw [sameB_self]
  replace V3 := V3.keep hb; replace V7 := V7.keep hb
  replace HL := Lib.hid (HL.out.below hb); replace HB := below_step HB hb
  clear hb m0 m1 m2 k0 k1 k2
  have m0 := V3.c0; have m1 := V3.c1; have m2 := V3.c2
  go_wp2_with fail
  (with_reducible refine (MValid_c M _ _ V3.im.out).mono ?_)
  rintro e w8 ⟨he, hb⟩
  replace HL := Lib.hid (HL.out.below hb); replace HB := below_step HB hb
  replace V3 := V3.keep hb
  clear hb
  obtain rfl : e = .returned (.bool true) := by rw [he, HOK.out] <;> rfl
  clear he
  clear m0 m1 m2
  go_wp2_with fail
  (with_reducible refine (Valid_c (tS z) _ hs).mono ?_)
  rintro e w9 ⟨rfl, rfl⟩
  rw [HV.out]
  go_wp2_with fail
  (with_reducible refine (within_yes (most : Int) _ hm0 hm1).mono ?_)
  rintro e w10 ⟨he, hb⟩
  replace HL := Lib.hid (HL.out.below hb); replace V3 := V3.keep hb; replace HB := below_step HB hb
  clear hb
  subst he
  have m0 := V3.c0; have m1 := V3.c1; have m2 := V3.c2
  clear V7
  go_wp2_with fail
  clear m0 m1 m2
  replace V3 := V3.drew
  replace HL := Lib.hid (HL.out.below (below_drew (Below.refl _ _)))
  replace HB := below_drew HB
  generalize hWd : w10.drew = wd at *
  refine wp_region_F (fun w' => w'.cell? ⟨w.heap.size, 0, none⟩ = some (.int .i64 md) ∧ w'.cell? ⟨w.heap.size, 1, none⟩ = some (.slice A n c) ∧ w'.cell? ⟨w.heap.size, 2, none⟩ = some (.slice A' n' c')) [] (by kernel_rfl) (by rw [hWd]; exact ⟨V3.c0, V3.c1, V3.c2⟩) (fun hHeld => ?_)
  rw [hWd] at hHeld ⊢
  refine wpF_t (i := 0) (oi := { dst := some 72, op := Go.Op.load 24 (Go.Operand.tmp 3), type := 24, pos := "law.go:84", after := #[], guard := none }) (v := ?_) rfl (by kernel_rfl) (fun _ _ _ h => h) (Or.inl ⟨by rfl, ?_⟩) hHeld ?_; rotate_left
  · intro w_ hSw_; (try dsimp only at hSw_); go_simp; (try with_reducible rfl)
  try go_frame
  refine wpF_t (i := 1) (oi := { dst := some 73, op := Go.Op.move (Go.Operand.tmp 1), type := 9, pos := "law.go:84", after := #[], guard := none }) (v := ?_) rfl (by kernel_rfl) (fun _ _ _ h => h) (Or.inl ⟨by rfl, ?_⟩) hHeld ?_; rotate_left
  · intro w_ hSw_; (try dsimp only at hSw_); go_simp; (try with_reducible rfl)
  try go_frame
  refine wpF_t (i := 3) (oi := { dst := some 75, op := Go.Op.move (Go.Operand.tmp 2), type := 3, pos := "law.go:84", after := #[], guard := none }) (v := ?_) rfl (by kernel_rfl) (fun _ _ _ h => h) (Or.inl ⟨by rfl, ?_⟩) hHeld ?_; rotate_left
  · intro w_ hSw_; (try dsimp only at hSw_); go_simp; (try with_reducible rfl)
  try go_frame
  refine wpAnyF_one (i := 2) (by kernel_rfl) rfl (fun K hK => ?_)
  go_simp
  (go_at_call 17; (with_reducible refine (Parse_c z _ (by have := HZ.out; omega)).mono ?_); rintro e w11 ⟨v, rfl, hv, hb⟩; obtain ⟨n11, A11, m11, k11, rfl, H11⟩ := hv.form; clear hv; replace V3 := V3.keep hb; replace HL := Lib.hid (HL.out.below hb); replace HB := below_step HB hb; clear hb)
  refine hK.out _ _ (by exact ⟨V3.c0, V3.c1, V3.c2⟩) (fun hHeld => ?_)
  clear hK K
  try go_frame
  refine wpAnyF_one (i := 4) (by kernel_rfl) rfl (fun K hK => ?_)
  go_simp
  (go_at_call 16; (with_reducible refine (HF5.out _ _ _ V3.im.out H11.out).mono ?_); rintro e w12 ⟨A12, c12, rfl, HL12, hb⟩; replace V3 := V3.keep hb; replace HL := Lib.hid (HL.out.below hb); replace HB := below_step HB hb; clear hb)
  refine hK.out _ _ (by exact ⟨V3.c0, V3.c1, V3.c2⟩) (fun hHeld => ?_)
  clear hK K
  try go_frame
  refine wpF_t (i := 5) (oi := { dst := some 71, op := Go.Op.move (Go.Operand.tmp 76), type := 36, pos := "law.go:84", after := #[{ on := 4, ground := Go.Ground.data }], guard := none }) (v := ?_) rfl (by kernel_rfl) (fun _ _ _ h => h) (Or.inl ⟨by rfl, ?_⟩) hHeld ?_; rotate_left
  · intro w_ hSw_; (try dsimp only at hSw_); go_simp; (try with_reducible rfl)
  try go_frame
  refine wpF_t (i := 6) (oi := { dst := some 77, op := Go.Op.extract (Go.Operand.tmp 71) 0, type := 3, pos := "law.go:84", after := #[{ on := 5, ground := Go.Ground.data }], guard := none }) (v := ?_) rfl (by kernel_rfl) (fun _ _ _ h => h) (Or.inl ⟨by rfl, ?_⟩) hHeld ?_; rotate_left
  · intro w_ hSw_; (try dsimp only at hSw_); go_simp; (try with_reducible rfl)
  try go_frame
  refine wpF_t (i := 7) (oi := { dst := some 78, op := Go.Op.extract (Go.Operand.tmp 71) 1, type := 35, pos := "law.go:84", after := #[{ on := 5, ground := Go.Ground.data }, { on := 9, ground := Go.Ground.gcOnly Go.Departure.lateStores }], guard := none }) (v := ?_) rfl (by kernel_rfl) (fun _ _ _ h => h) (Or.inl ⟨by rfl, ?_⟩) hHeld ?_; rotate_left
  · intro w_ hSw_; (try dsimp only at hSw_); go_simp; (try with_reducible rfl)
  try go_frame
  refine wpF_t (i := 8) (oi := { dst := some 79, op := Go.Op.extract (Go.Operand.tmp 71) 2, type := 27, pos := "law.go:84", after := #[{ on := 5, ground := Go.Ground.data }, { on := 10, ground := Go.Ground.gcOnly Go.Departure.lateStores }], guard := none }) (v := ?_) rfl (by kernel_rfl) (fun _ _ _ h => h) (Or.inl ⟨by rfl, ?_⟩) hHeld ?_; rotate_left
  · intro w_ hSw_; (try dsimp only at hSw_); go_simp; (try with_reducible rfl)
  try go_frame
  refine wpF_t (i := 9) (oi := { dst := some 11, op := Go.Op.assign (Go.Operand.tmp 77), type := 3, pos := "law.go:84", after := #[{ on := 6, ground := Go.Ground.data }, { on := 4, ground := Go.Ground.chain }, { on := 0, ground := Go.Ground.phase }, { on := 1, ground := Go.Ground.phase }, { on := 2, ground := Go.Ground.phase }, { on := 3, ground := Go.Ground.phase }, { on := 4, ground := Go.Ground.phase }, { on := 5, ground := Go.Ground.phase }, { on := 6, ground := Go.Ground.phase }, { on := 7, ground := Go.Ground.textOnly Go.Departure.lateStores }, { on := 8, ground := Go.Ground.textOnly Go.Departure.lateStores }], guard := none }) (v := ?_) rfl (by kernel_rfl) (fun _ _ _ h => h) (Or.inl ⟨by rfl, ?_⟩) hHeld ?_; rotate_left
  · intro w_ hSw_; (try dsimp only at hSw_); go_simp; (try with_reducible rfl)
  try go_frame
  refine wpF_t (i := 10) (oi := { dst := some 12, op := Go.Op.assign (Go.Operand.tmp 78), type := 35, pos := "law.go:84", after := #[{ on := 7, ground := Go.Ground.data }, { on := 9, ground := Go.Ground.chain }, { on := 0, ground := Go.Ground.phase }, { on := 1, ground := Go.Ground.phase }, { on := 2, ground := Go.Ground.phase }, { on := 3, ground := Go.Ground.phase }, { on := 4, ground := Go.Ground.phase }, { on := 5, ground := Go.Ground.phase }, { on := 6, ground := Go.Ground.phase }, { on := 7, ground := Go.Ground.phase }, { on := 8, ground := Go.Ground.textOnly Go.Departure.lateStores }, { on := 9, ground := Go.Ground.phase }], guard := none }) (v := ?_) rfl (by kernel_rfl) (fun _ _ _ h => h) (Or.inl ⟨by rfl, ?_⟩) hHeld ?_; rotate_left
  · intro w_ hSw_; (try dsimp only at hSw_); go_simp; (try with_reducible rfl)
  try go_frame
  refine wpF_t (i := 11) (oi := { dst := some 13, op := Go.Op.assign (Go.Operand.tmp 79), type := 27, pos := "law.go:84", after := #[{ on := 8, ground := Go.Ground.data }, { on := 10, ground := Go.Ground.chain }, { on := 0, ground := Go.Ground.phase }, { on := 1, ground := Go.Ground.phase }, { on := 2, ground := Go.Ground.phase }, { on := 3, ground := Go.Ground.phase }, { on := 4, ground := Go.Ground.phase }, { on := 5, ground := Go.Ground.phase }, { on := 6, ground := Go.Ground.phase }, { on := 7, ground := Go.Ground.phase }, { on := 8, ground := Go.Ground.phase }, { on := 9, ground := Go.Ground.phase }, { on := 10, ground := Go.Ground.phase }], guard := none }) (v := ?_) rfl (by kernel_rfl) (fun _ _ _ h => h) (Or.inl ⟨by rfl, ?_⟩) hHeld ?_; rotate_left
  · intro w_ hSw_; (try dsimp only at hSw_); go_simp; (try with_reducible rfl)
  try go_frame
  refine wpAnyF_done (by kernel_rfl) ?_ _
  clear hHeld hWd HF5 V3 H11
  have HLL : Hid (∀ x, x ∈ Rr.2.2 → dl x ≤ 2000) := fun x hx => by
    rcases HC.out with h | h | ⟨t, l, h, -, -, -, h4⟩
    · rw [h] at hx; cases hx
    · rw [h] at hx; cases hx
    · rw [h] at hx; exact h4 x hx
  have hln : Rr.2.2.length ≤ 20000 := by
    rcases HC.out with h | h | ⟨t, l, h, -, h3, -, -⟩
    · rw [h]; exact Nat.zero_le _
    · rw [h]; exact Nat.zero_le _
    · rw [h]; show l.length ≤ 20000; omega
  clear HC
  obtain ⟨er, t, l⟩ := Rr
  dsimp only at hln
  dsimp only at HL HL12 HLL ⊢
  have e1 : (er != er) = false := by simp
  have e2 : (((t : Nat) : Int) != (t : Int)) = false := by simp
  have e3 : ((l.length : Int) != (l.length : Int)) = false := by simp
  have HB12 := HB
  clear HB
  go_wp2_with fail
  go_loopg [14] l.length (fun g iv wr => ∃ (i : Nat), g = l.length - i ∧ iv = .int .i64 i ∧ i ≤ l.length ∧ Below w12.heap.size w12 wr)
  case atStart => exact ⟨0, rfl, rfl, Nat.zero_le _, Below.refl _ _⟩
  case round =>
    obtain ⟨i, hgk, rfl, hi, HBr⟩ := hrel
    have hi0 : (0 : Int) ≤ (i : Int) := by omega
    by_cases hil : i < l.length
    · have hi1 : (i : Int) < (l.length : Int) := by omega
      obtain ⟨b1, o1, rfl, q0⟩ := (HL.out.below HBr).el (j := i) (by rw [List.length_map]; exact hil)
      obtain ⟨b2, o2, nv, A9, n9, c9, rfl, hlt2, q1, q2, HZ9⟩ := (HL12.out.below HBr).at (j := i) hil
      have q1 : CL wr b2 (o2 + i * 2) (.bool nv) := ⟨q1, hlt2⟩
      have q2 : CL wr b2 (o2 + i * 2 + 1) (.slice A9 n9 c9) := ⟨q2, hlt2⟩
      have hd9 := HLL.out _ (gd_mem hil)
      have e5 : gs (l.map tS) i = tS (gd l i) := by rw [gs_lt (by rw [List.length_map]; exact hil), gd_lt hil]; simp
      rw [e5] at q0
      clear e5 hlt2
      go_wp2_with fail
      replace q0 := q0.drew; replace q1 := q1.drew; replace q2 := q2.drew
      replace HZ9 := Lib.hid (HZ9.out.below (below_drew (Below.refl _ _)))
      replace HBr := below_drew HBr
      generalize hWd : wr.drew = wd9 at *
      refine wp_region_F (fun w' => w'.cell? ⟨b1, o1 + i, none⟩ = some (.string (tS (gd l i))) ∧ w'.cell? ⟨b2, o2 + i * 2, none⟩ = some (.bool nv) ∧ w'.cell? ⟨b2, o2 + i * 2 + 1, none⟩ = some (.slice A9 n9 c9)) [] (by kernel_rfl) (by rw [hWd]; exact ⟨q0.c, q1.c, q2.c⟩) (fun hHeld => ?_)
      rw [hWd] at hHeld ⊢
      refine wpF_t (i := 0) (oi := { dst := some 101, op := Go.Op.move (Go.Operand.tmp 9), type := 26, pos := "law.go:89", after := #[], guard := none }) (v := ?_) rfl (by kernel_rfl) (fun _ _ _ h => h) (Or.inl ⟨by rfl, ?_⟩) hHeld ?_; rotate_left
      · intro w_ hSw_; (try dsimp only at hSw_); go_simp; (try with_reducible rfl)
      try go_frame
      refine wpF_t (i := 1) (oi := { dst := some 102, op := Go.Op.move (Go.Operand.tmp 14), type := 3, pos := "law.go:89", after := #[], guard := none }) (v := ?_) rfl (by kernel_rfl) (fun _ _ _ h => h) (Or.inl ⟨by rfl, ?_⟩) hHeld ?_; rotate_left
      · intro w_ hSw_; (try dsimp only at hSw_); go_simp; (try with_reducible rfl)
      try go_frame
      refine wpF_t (i := 2) (oi := { dst := some 103, op := Go.Op.indexAddr 26 (Go.Operand.tmp 101) (Go.Operand.tmp 102), type := 0, pos := "law.go:89", after := #[{ on := 0, ground := Go.Ground.data }, { on := 1, ground := Go.Ground.data }], guard := none }) (v := ?_) rfl (by kernel_rfl) (fun _ _ _ h => h) (Or.inl ⟨by rfl, ?_⟩) hHeld ?_; rotate_left
      · intro w_ hSw_; (try dsimp only at hSw_); go_simp; (try with_reducible rfl)
      try go_frame
      refine wpF_t (i := 3) (oi := { dst := some 104, op := Go.Op.load 9 (Go.Operand.tmp 103), type := 9, pos := "law.go:89", after := #[{ on := 2, ground := Go.Ground.data }], guard := none }) (v := ?_) rfl (by kernel_rfl) (fun _ _ _ h => h) (Or.inl ⟨by rfl, ?_⟩) hHeld ?_; rotate_left
      · intro w_ hSw_; (try dsimp only at hSw_); go_simp; (try with_reducible rfl)
      try go_frame
      refine wpF_t (i := 4) (oi := { dst := some 105, op := Go.Op.move (Go.Operand.tmp 12), type := 35, pos := "law.go:89", after := #[], guard := none }) (v := ?_) rfl (by kernel_rfl) (fun _ _ _ h => h) (Or.inl ⟨by rfl, ?_⟩) hHeld ?_; rotate_left
      · intro w_ hSw_; (try dsimp only at hSw_); go_simp; (try with_reducible rfl)
      try go_frame
      refine wpF_t (i := 5) (oi := { dst := some 106, op := Go.Op.move (Go.Operand.tmp 14), type := 3, pos := "law.go:89", after := #[], guard := none }) (v := ?_) rfl (by kernel_rfl) (fun _ _ _ h => h) (Or.inl ⟨by rfl, ?_⟩) hHeld ?_; rotate_left
      · intro w_ hSw_; (try dsimp only at hSw_); go_simp; (try with_reducible rfl)
      try go_frame
      refine wpF_t (i := 6) (oi := { dst := some 107, op := Go.Op.indexAddr 35 (Go.Operand.tmp 105) (Go.Operand.tmp 106), type := 0, pos := "law.go:89", after := #[{ on := 4, ground := Go.Ground.data }, { on := 5, ground := Go.Ground.data }], guard := none }) (v := ?_) rfl (by kernel_rfl) (fun _ _ _ h => h) (Or.inl ⟨by rfl, ?_⟩) hHeld ?_; rotate_left
      · intro w_ hSw_; (try dsimp only at hSw_); go_simp; (try with_reducible rfl)
      try go_frame
      refine wpF_t (i := 7) (oi := { dst := some 108, op := Go.Op.load 39 (Go.Operand.tmp 107), type := 39, pos := "law.go:89", after := #[{ on := 6, ground := Go.Ground.data }], guard := none }) (v := ?_) rfl (by kernel_rfl) (fun _ _ _ h => h) (Or.inl ⟨by rfl, ?_⟩) hHeld ?_; rotate_left
      · intro w_ hSw_; (try dsimp only at hSw_); go_simp; (try with_reducible rfl)
      try go_frame
      refine wpAnyF_one (i := 8) (by kernel_rfl) rfl (fun K hK => ?_)
      go_simp
      (go_at_call 18; (with_reducible refine (Text_c (gd l i) _ _ HZ9.out (by have := len_of_dl hd9; omega)).mono ?_); rintro e w14 ⟨rfl, hb⟩; replace q0 := q0.keep hb; replace q1 := q1.keep hb; replace q2 := q2.keep hb; replace HBr := below_step HBr hb; clear hb)
      refine hK.out _ _ (by exact ⟨q0.c, q1.c, q2.c⟩) (fun hHeld => ?_)
      clear hK K
      try go_frame
      refine wpF_t (i := 9) (oi := { dst := some 110, op := Go.Op.binOp Go.BinOp.neq 9 (Go.Operand.tmp 104) (Go.Operand.tmp 109) 9, type := 4, pos := "law.go:89", after := #[{ on := 3, ground := Go.Ground.data }, { on := 8, ground := Go.Ground.data }], guard := none }) (v := ?_) rfl (by kernel_rfl) (fun _ _ _ h => h) (Or.inl ⟨by rfl, ?_⟩) hHeld ?_; rotate_left
      · intro w_ hSw_; (try dsimp only at hSw_); go_simp; (try with_reducible rfl)
      try go_frame
      refine wpAnyF_done (by kernel_rfl) ?_ _
      clear hHeld hWd
      go_wp2
      go_roundg (l.length - (i + 1))
      case measure => omega
      case rel => exact ⟨i + 1, rfl, by go_num, by omega, HBr⟩
    · have hi1 : ¬ (i : Int) < (l.length : Int) := by omega
      have HB := HB12.trans (HBr.mono HB12.size)
      clear HB12
      go_wp2_with fail
      (with_reducible refine (awake5_c _ (HT.out.below HB)).mono ?_)
      rintro e w20 ⟨he, hb⟩
      replace HB := below_step HB hb
      clear hb
      subst he
      go_wp2
      go_ret
      exact ⟨rfl, HB⟩
theorem FTells_law (M : Mp) (s : ByteArray) (most : Int) (v : Value) (w : World) (hM : IsM w v M) (hr : Rch M) (hs : s.size ≤ 9223372036854775807) (ht : Tb w) :
    Calls Tryd.prog 3 #[v, .string s, .int .i64 most] w fun e w' => e = .returned (.bool true) ∧ Below w.heap.size w w' := by
  by_cases hok : okB M = true
  · rcases vld_cases s with hv | ⟨z, rfl, hz⟩
    · exact FTells_bad M s most v w hM hr hs ht (.inr hv)
    · by_cases hm : most < 0 ∨ 20000 < most
      · exact FTells_arg M z most v w hM hr ht (okB_iff.1 hok) hz hm
      · obtain ⟨k, rfl⟩ := Int.eq_ofNat_of_zero_le (show 0 ≤ most by omega)
        exact FTells_ok M z k v w hM hr ht (okB_iff.1 hok) hz (by omega)
  · exact FTells_bad M s most v w hM hr hs ht (.inl (by revert hok; cases okB M <;> simp))
end Go.Proofs.YtiaeeclmlchpoaaDoor
