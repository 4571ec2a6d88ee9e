/- The law FateAlong. No condition but that the library's table lies as it should. -/
import Derived.Test.YtiaeeclmlchpoaaDoorZA
import Derived.Test.YtiaeeclmlchpoaaDoorZD
set_option linter.unusedVariables false
set_option linter.unusedSimpArgs false
namespace Go.Proofs.YtiaeeclmlchpoaaDoor
open Go.RowKit

set_option maxRecDepth 100000 in
set_option maxHeartbeats 4000000 in
theorem FAl_bad (M : Mp) (s : ByteArray) (most k : Int) (v : Value) (w : World) (hM : IsM w v M) (ht : Tb w) (hs : s.size ≤ 9223372036854775807) (hbad : okB M = false ∨ vldL (codes s) = false) : Calls Tryd.prog 6 #[v, .string s, .int .i64 most, .int .i64 k] w fun e w' => e = .returned (.bool true) ∧ Below w.heap.size w w' := by
  obtain ⟨md, A, n, c, A', n', c', rfl, HM⟩ := hM.form
  have V3 := VM.new w 24 HM.out
  have HB := below_alloc (Below.refl w.heap.size w) (Obj.cells #[Value.int .i64 md, Value.slice A n c, Value.slice A' n' c'] 24)
  have HT := Lib.hid ht
  by_cases hok : okB M = true
  · have HOK := Lib.hid hok
    have HV : Hid (vldL (codes s) = false) := hbad.resolve_left (by rw [hok]; simp)
    clear hok hbad ht hM
    go_enter Tryd.func6, Tryd.ntmps6
    have m0 := V3.c0; have m1 := V3.c1; have m2 := V3.c2
    go_wp2_with fail
    (with_reducible refine (MValid_c M _ _ V3.im.out).mono ?_)
    rintro e w2 ⟨he, hb⟩
    replace HB := below_step HB hb
    replace V3 := V3.keep hb
    clear hb
    obtain rfl : e = .returned (.bool true) := by rw [he, HOK.out] <;> rfl
    clear he
    clear m0 m1 m2
    go_wp2_with fail
    (with_reducible refine (Valid_c s _ hs).mono ?_)
    rintro e w9 ⟨rfl, rfl⟩
    rw [HV.out]
    go_wp2_with fail
    (with_reducible refine (awake5_c _ (HT.out.below HB)).mono ?_)
    rintro e w20 ⟨he, hb⟩
    replace HB := below_step HB hb
    clear hb
    subst he
    go_wp2
    go_ret
    exact ⟨rfl, HB⟩
  · have HOK : Hid (okB M = false) := by show _ = _; revert hok; cases okB M <;> simp
    clear hok hbad ht hM
    go_enter Tryd.func6, Tryd.ntmps6
    have m0 := V3.c0; have m1 := V3.c1; have m2 := V3.c2
    go_wp2_with fail
    (with_reducible refine (MValid_c M _ _ V3.im.out).mono ?_)
    rintro e w2 ⟨he, hb⟩
    replace HB := below_step HB hb
    replace V3 := V3.keep hb
    clear hb
    obtain rfl : e = .returned (.bool false) := by rw [he, HOK.out] <;> rfl
    clear he
    clear m0 m1 m2
    go_wp2_with fail
    (with_reducible refine (awake5_c _ (HT.out.below HB)).mono ?_)
    rintro e w20 ⟨he, hb⟩
    replace HB := below_step HB hb
    clear hb
    subst he
    go_wp2
    go_ret
    exact ⟨rfl, HB⟩
set_option maxRecDepth 100000 in
set_option maxHeartbeats 4000000 in
theorem FAl_arg (M : Mp) (z most k : Int) (v : Value) (w : World) (hM : IsM w v M) (ht : Tb w) (hok : okM M) (hz : dlN z.natAbs ≤ 2000) (hbad : most < 0 ∨ 20000 < most ∨ k < 0 ∨ 20000 < k) : Calls Tryd.prog 6 #[v, .string (tS z), .int .i64 most, .int .i64 k] w fun e w' => e = .returned (.bool true) ∧ Below w.heap.size w w' := by
  obtain ⟨md, A, n, c, A', n', c', rfl, HM⟩ := hM.form
  have V3 := VM.new w 24 HM.out
  have HB := below_alloc (Below.refl w.heap.size w) (Obj.cells #[Value.int .i64 md, Value.slice A n c, Value.slice A' n' c'] 24)
  have HT := Lib.hid ht
  have HOK : Hid (okB M = true) := okB_iff.2 hok
  have HV := Lib.hid (vld_tS hz)
  have hs := tS_sz hz
  clear hok ht hM hz
  by_cases hm : most < 0 ∨ 20000 < most
  · have HW := Lib.hid hm
    clear hbad hm
    go_enter Tryd.func6, Tryd.ntmps6
    have m0 := V3.c0; have m1 := V3.c1; have m2 := V3.c2
    go_wp2_with fail
    (with_reducible refine (MValid_c M _ _ V3.im.out).mono ?_)
    rintro e w2 ⟨he, hb⟩
    replace HB := below_step HB hb
    replace V3 := V3.keep hb
    clear hb
    obtain rfl : e = .returned (.bool true) := by rw [he, HOK.out] <;> rfl
    clear he
    clear m0 m1 m2
    go_wp2_with fail
    (with_reducible refine (Valid_c (tS z) _ hs).mono ?_)
    rintro e w9 ⟨rfl, rfl⟩
    rw [HV.out]
    go_wp2_with fail
    (with_reducible refine (within_no most _ HW.out).mono ?_)
    rintro e w3 ⟨he, hb⟩
    replace HB := below_step HB hb
    replace V3 := V3.keep hb
    clear hb
    subst he
    go_wp2_with fail
    (with_reducible refine (awake5_c _ (HT.out.below HB)).mono ?_)
    rintro e w20 ⟨he, hb⟩
    replace HB := below_step HB hb
    clear hb
    subst he
    go_wp2
    go_ret
    exact ⟨rfl, HB⟩
  · have HW : Hid (k < 0 ∨ 20000 < k) := by show _ ∨ _; omega
    obtain ⟨most, rfl⟩ := Int.eq_ofNat_of_zero_le (show 0 ≤ most by omega)
    have hmost0 : (0 : Int) ≤ (most : Int) := by omega
    have hmost1 : (most : Int) ≤ 20000 := by omega
    clear hbad hm
    go_enter Tryd.func6, Tryd.ntmps6
    have m0 := V3.c0; have m1 := V3.c1; have m2 := V3.c2
    go_wp2_with fail
    (with_reducible refine (MValid_c M _ _ V3.im.out).mono ?_)
    rintro e w2 ⟨he, hb⟩
    replace HB := below_step HB hb
    replace V3 := V3.keep hb
    clear hb
    obtain rfl : e = .returned (.bool true) := by rw [he, HOK.out] <;> rfl
    clear he
    clear m0 m1 m2
    go_wp2_with fail
    (with_reducible refine (Valid_c (tS z) _ hs).mono ?_)
    rintro e w9 ⟨rfl, rfl⟩
    rw [HV.out]
    go_wp2_with fail
    (with_reducible refine (within_yes ((most : Nat) : Int) _ hmost0 hmost1).mono ?_)
    rintro e w3 ⟨he, hb⟩
    replace HB := below_step HB hb
    replace V3 := V3.keep hb
    clear hb
    subst he
    go_wp2_with fail
    (with_reducible refine (within_no k _ HW.out).mono ?_)
    rintro e w3b ⟨he, hb⟩
    replace HB := below_step HB hb
    replace V3 := V3.keep hb
    clear hb
    subst he
    go_wp2_with fail
    (with_reducible refine (awake5_c _ (HT.out.below HB)).mono ?_)
    rintro e w20 ⟨he, hb⟩
    replace HB := below_step HB hb
    clear hb
    subst he
    go_wp2
    go_ret
    exact ⟨rfl, HB⟩
theorem same_map (A A' : Option Addr) (c c' : Nat) (l : List Int) (w : World) (h : LsS w A c (l.map tS)) (h' : LsS w A' c' (l.map tS)) :
    Calls Tryd.prog 25 #[.slice A l.length c, .slice A' l.length c'] w fun e w' => e = .returned (.bool true) ∧ Below w.heap.size w w' := by
  have e : l.length = (l.map tS).length := by simp
  rw [e]
  refine (same5_c A A' c c' _ _ w h h').mono ?_
  rintro e w' ⟨rfl, hb⟩
  exact ⟨by simp, hb⟩
set_option maxRecDepth 100000 in
set_option maxHeartbeats 8000000 in
theorem FAl_ok (M : Mp) (z : Int) (most k : Nat) (v : Value) (w : World) (hM : IsM w v M) (ht : Tb w) (hok : okM M) (hz : dlN z.natAbs ≤ 2000) (hmo : most ≤ 20000) (hk : k ≤ 20000) : Calls Tryd.prog 6 #[v, .string (tS z), .int .i64 most, .int .i64 k] w fun e w' => e = .returned (.bool true) ∧ Below w.heap.size w w' := by
  obtain ⟨md, A, n, c, A', n', c', rfl, HM⟩ := hM.form
  have V3 := VM.new w 24 HM.out
  have HB := below_alloc (Below.refl w.heap.size w) (Obj.cells #[Value.int .i64 md, Value.slice A n c, Value.slice A' n' c'] 24)
  have HT := Lib.hid ht
  have HOK : Hid (okB M = true) := okB_iff.2 hok
  have HOKM := Lib.hid hok
  have HV := Lib.hid (vld_tS hz)
  have hs := tS_sz hz
  have HZ := Lib.hid hz
  have hmost0 : (0 : Int) ≤ (most : Int) := by omega
  have hmost1 : (most : Int) ≤ 20000 := by omega
  have hk0 : (0 : Int) ≤ (k : Int) := by omega
  have hk1 : (k : Int) ≤ 20000 := by omega
  obtain ⟨Rr, hRr⟩ : ∃ R, flwA M (most + 1) [] z = R := ⟨_, rfl⟩
  have HC : Hid (Rr = (3, 0, []) ∨ Rr = (4, 0, []) ∨ ∃ t l, Rr = (0, t, l) ∧ 0 < l.length ∧ l.length ≤ most ∧ t + l.length ≤ most ∧ ∀ x, x ∈ l → dl x ≤ 2000) := by have := flw_cases M z most; rw [hRr] at this; exact this
  have HF : Hid (∀ (W : World) (v : Value), IsM W v M → Tb W → Calls Tryd.prog 10 #[v, .string (tS z), .int .i64 most] W fun e w' => ∃ A c, e = .returned (.tuple #[.int .i64 Rr.2.1, .slice A Rr.2.2.length c, .int .i64 Rr.1]) ∧ Hid (LsS w' A c (Rr.2.2.map tS)) ∧ Below W.heap.size W w') :=
    fun W v h1 h3 => by have := Fate_ok M z most v W h1 hok hz (by omega) h3; rw [hRr] at this; exact this
  have HAL : Hid (∀ t l, Rr = (0, t, l) → flwA M (most + 1) [] (itZ M z k) = (0, t - k, l) ∧ runF M k z = (0, tS (itZ M z k)) ∧ dlN (itZ M z k).natAbs ≤ 2000) := fun t l h => by
    rw [h] at hRr
    exact ⟨flw_along hRr k, runF_fit k z (fun j _ => flw_fit hRr j), by rw [← dl_dlN]; exact flw_fit hRr k⟩
  clear hRr hok ht hM hz
  go_enter Tryd.func6, Tryd.ntmps6
  have m0 := V3.c0; have m1 := V3.c1; have m2 := V3.c2
  go_wp2_with fail
  (with_reducible refine (MValid_c M _ _ V3.im.out).mono ?_)
  rintro e w2 ⟨he, hb⟩
  replace HB := below_step HB hb
  replace V3 := V3.keep hb
  clear hb
  obtain rfl : e = .returned (.bool true) := by rw [he, HOK.out] <;> rfl
  clear he
  clear m0 m1 m2
  go_wp2_with fail
  (with_reducible refine (Valid_c (tS z) _ hs).mono ?_)
  rintro e w9 ⟨rfl, rfl⟩
  rw [HV.out]
  go_wp2_with fail
  (with_reducible refine (within_yes ((most : Nat) : Int) _ hmost0 hmost1).mono ?_)
  rintro e w3 ⟨he, hb⟩
  replace HB := below_step HB hb
  replace V3 := V3.keep hb
  clear hb
  subst he
  go_wp2_with fail
  (with_reducible refine (within_yes ((k : Nat) : Int) _ hk0 hk1).mono ?_)
  rintro e w3b ⟨he, hb⟩
  replace HB := below_step HB hb
  replace V3 := V3.keep hb
  clear hb
  subst he
  have m0 := V3.c0; have m1 := V3.c1; have m2 := V3.c2
  go_wp2_with fail
  (with_reducible refine (HF.out _ _ V3.im.out (HT.out.below HB)).mono ?_)
  rintro e w6 ⟨A6, c6, rfl, HL, hb⟩
  replace V3 := V3.keep hb
  replace HB := below_step HB hb
  clear hb m0 m1 m2 HF
  rcases HC.out with h | h | ⟨t, l, h, h1, h2, h3, -⟩
  · subst h
    clear HC HAL
    go_wp2_with fail
    (with_reducible refine (awake5_c _ (HT.out.below HB)).mono ?_)
    rintro e w20 ⟨he, hb⟩
    replace HB := below_step HB hb
    clear hb
    subst he
    go_wp2
    go_ret
    exact ⟨rfl, HB⟩
  · subst h
    clear HC HAL
    go_wp2_with fail
    (with_reducible refine (awake5_c _ (HT.out.below HB)).mono ?_)
    rintro e w20 ⟨he, hb⟩
    replace HB := below_step HB hb
    clear hb
    subst he
    go_wp2
    go_ret
    exact ⟨rfl, HB⟩
  · have HAL2 := Lib.hid (HAL.out t l h)
    subst h
    clear HC HAL
    dsimp only at HL ⊢
    by_cases hkt : k ≤ t
    · obtain ⟨d, rfl⟩ : ∃ d, t = k + d := ⟨t - k, by omega⟩
      rw [show k + d - k = d by omega] at HAL2
      have hd0 : (0 : Int) ≤ (d : Int) := by omega
      have hd1 : (d : Int) ≤ 20000 := by omega
      have hmx : max 0 ((d : Int)) = (d : Int) := by omega
      have hkd : (k : Int) + (d : Int) - (k : Int) = (d : Int) := by omega
      rw [show ((k + d : Nat) : Int) = (k : Int) + (d : Int) by omega]
      clear h1 h2 h3 hkt
      have m0 := V3.c0; have m1 := V3.c1; have m2 := V3.c2
      go_wp2_with fail
      (with_reducible refine (Run_ok M z k _ _ V3.im.out HOKM.out HZ.out (by omega) (HT.out.below HB)).mono ?_)
      rintro e w7 ⟨rfl, hb⟩
      replace V3 := V3.keep hb
      replace HL := Lib.hid (HL.out.below hb)
      replace HB := below_step HB hb
      clear hb m0 m1 m2
      rw [HAL2.out.2.1]
      have hd9 := HAL2.out.2.2
      have m0 := V3.c0; have m1 := V3.c1; have m2 := V3.c2
      go_wp2_with fail
      (with_reducible refine (Fate_ok M (itZ M z k) most _ _ V3.im.out HOKM.out hd9 (by omega) (HT.out.below HB)).mono ?_)
      rw [HAL2.out.1]
      rintro e w8 ⟨A8, c8, rfl, HL8, hb⟩
      dsimp only at HL8 ⊢
      replace HL := Lib.hid (HL.out.below hb)
      replace HB := below_step HB hb
      clear hb m0 m1 m2 hd9 V3
      go_wp2_with fail
      (with_reducible refine (same_map A8 A6 c8 c6 l _ HL8.out HL.out).mono ?_)
      rintro e w9 ⟨rfl, hb⟩
      replace HB := below_step HB hb
      clear hb
      go_wp2_with fail
      (with_reducible refine (awake5_c _ (HT.out.below HB)).mono ?_)
      rintro e w20 ⟨he, hb⟩
      replace HB := below_step HB hb
      clear hb
      subst he
      go_wp2
      go_ret
      exact ⟨rfl, HB⟩
    · rw [show t - k = 0 by omega] at HAL2
      have hmx : max 0 ((t : Int) - (k : Int)) = 0 := by omega
      have ht1 : (t : Int) ≤ 20000 := by omega
      have ht2 : (0 : Int) ≤ (t : Int) := by omega
      clear h1 h2 h3 hkt
      have m0 := V3.c0; have m1 := V3.c1; have m2 := V3.c2
      go_wp2_with fail
      (with_reducible refine (Run_ok M z k _ _ V3.im.out HOKM.out HZ.out (by omega) (HT.out.below HB)).mono ?_)
      rintro e w7 ⟨rfl, hb⟩
      replace V3 := V3.keep hb
      replace HL := Lib.hid (HL.out.below hb)
      replace HB := below_step HB hb
      clear hb m0 m1 m2
      rw [HAL2.out.2.1]
      have hd9 := HAL2.out.2.2
      have m0 := V3.c0; have m1 := V3.c1; have m2 := V3.c2
      go_wp2_with fail
      (with_reducible refine (Fate_ok M (itZ M z k) most _ _ V3.im.out HOKM.out hd9 (by omega) (HT.out.below HB)).mono ?_)
      rw [HAL2.out.1]
      rintro e w8 ⟨A8, c8, rfl, HL8, hb⟩
      dsimp only at HL8 ⊢
      replace HL := Lib.hid (HL.out.below hb)
      replace HB := below_step HB hb
      clear hb m0 m1 m2 hd9 V3
      go_wp2_with fail
      (with_reducible refine (same_map A8 A6 c8 c6 l _ HL8.out HL.out).mono ?_)
      rintro e w9 ⟨rfl, hb⟩
      replace HB := below_step HB hb
      clear hb
      go_wp2_with fail
      (with_reducible refine (awake5_c _ (HT.out.below HB)).mono ?_)
      rintro e w20 ⟨he, hb⟩
      replace HB := below_step HB hb
      clear hb
      subst he
      go_wp2
      go_ret
      exact ⟨rfl, HB⟩
theorem FAl_law (M : Mp) (s : ByteArray) (most k : Int) (v : Value) (w : World) (hM : IsM w v M) (hs : s.size ≤ 9223372036854775807) (ht : Tb w) : Calls Tryd.prog 6 #[v, .string s, .int .i64 most, .int .i64 k] w fun e w' => e = .returned (.bool true) ∧ Below w.heap.size w w' := by
  by_cases hok : okB M = true
  · rcases vld_cases s with hv | ⟨z, rfl, hz⟩
    · exact FAl_bad M s most k v w hM ht hs (.inr hv)
    · by_cases hm : most < 0 ∨ 20000 < most ∨ k < 0 ∨ 20000 < k
      · exact FAl_arg M z most k v w hM ht (okB_iff.1 hok) hz hm
      · obtain ⟨a, rfl⟩ := Int.eq_ofNat_of_zero_le (show 0 ≤ most by omega)
        obtain ⟨b, rfl⟩ := Int.eq_ofNat_of_zero_le (show 0 ≤ k by omega)
        exact FAl_ok M z a b v w hM ht (okB_iff.1 hok) hz (by omega) (by omega)
  · exact FAl_bad M s most k v w hM ht hs (.inl (by revert hok; cases okB M <;> simp))
end Go.Proofs.YtiaeeclmlchpoaaDoor
