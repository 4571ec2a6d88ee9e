/- The law BoundSmaller: it returns true. No condition. -/
import Derived.Test.YtiaeeclmlchpoaaZ9
set_option linter.unusedVariables false
set_option linter.unusedSimpArgs false
namespace Go.Proofs.Ytiaeeclmlchpoaa
open Go.RowKit

theorem askE_eq {q c x y a : Int} (h : askE q c x a = true) (k : askE q c y a = true) : True := trivial
set_option maxRecDepth 100000 in
set_option maxHeartbeats 4000000 in
theorem BSmaller_law (q c a k : Int) (s r : ByteArray) (w : World) (hs : s.size ≤ 9223372036854775807) (hr : r.size ≤ 9223372036854775807) (hk0 : -9223372036854775808 ≤ k) (hk1 : k ≤ 9223372036854775807) :
    Calls Try.prog 6 #[.int .i64 q, .int .i64 c, .string s, .string r, .int .i64 a, .int .i64 k] w fun e w' => e = .returned (.bool true) ∧ Below w.heap.size w w' := by
  have HB : Below w.heap.size w w := Below.refl _ _
  rcases vld_cases s with hv | ⟨x, rfl, hx⟩
  · have HV := Lib.hid hv
    clear hv
    go_enter Try.func6, Try.ntmps6
    go_wp2_with fail
    (with_reducible refine (due_no q c a s _ hs HV.out).mono ?_)
    rintro e w1 ⟨he, hb⟩
    replace HB := below_step HB hb
    clear hb
    subst he
    go_wp2_with fail
    (with_reducible refine (awake_c _).mono ?_)
    rintro e w9 ⟨he, hb⟩
    replace HB := below_step HB hb
    clear hb
    subst he
    go_wp2
    go_ret
    exact ⟨rfl, HB⟩
  · rcases Bool.eq_false_or_eq_true (askE q c x a) with hE | hE
    rotate_left
    · have HD1 := Lib.hid (dueE_0 hE)
      clear hE
      go_enter Try.func6, Try.ntmps6
      go_wp2_with fail
      (with_reducible refine (due_v q c a x _ hx).mono ?_)
      rintro e w1 ⟨he, hb⟩
      replace HB := below_step HB hb
      clear hb
      obtain rfl : e = .returned (.int .i64 2) := by rw [he, HD1.out] <;> rfl
      clear he
      go_wp2_with fail
      (with_reducible refine (awake_c _).mono ?_)
      rintro e w9 ⟨he, hb⟩
      replace HB := below_step HB hb
      clear hb
      subst he
      go_wp2
      go_ret
      exact ⟨rfl, HB⟩
    · have HD1 := Lib.hid (dueE_1 hE)
      obtain ⟨hkb, hx0, ha1, ha2⟩ := askE_spec hE
      have HE1 := Lib.hid hE
      obtain ⟨k1, k2, k3, k4, k5, k6⟩ := kinB_spec hkb
      clear hE hkb k3 k6
      rcases vld_cases r with hv | ⟨y, rfl, hy⟩
      · have HV := Lib.hid hv
        clear hv
        go_enter Try.func6, Try.ntmps6
        go_wp2_with fail
        (with_reducible refine (due_v q c a x _ hx).mono ?_)
        rintro e w1 ⟨he, hb⟩
        replace HB := below_step HB hb
        clear hb
        obtain rfl : e = .returned (.int .i64 0) := by rw [he, HD1.out] <;> rfl
        clear he
        go_wp2_with fail
        (with_reducible refine (due_no q c a r _ hr HV.out).mono ?_)
        rintro e w2 ⟨he, hb⟩
        replace HB := below_step HB hb
        clear hb
        subst he
        go_wp2_with fail
        (with_reducible refine (awake_c _).mono ?_)
        rintro e w9 ⟨he, hb⟩
        replace HB := below_step HB hb
        clear hb
        subst he
        go_wp2
        go_ret
        exact ⟨rfl, HB⟩
      · rcases Bool.eq_false_or_eq_true (askE q c y a) with hE | hE
        rotate_left
        · have HD2 := Lib.hid (dueE_0 hE)
          clear hE
          go_enter Try.func6, Try.ntmps6
          go_wp2_with fail
          (with_reducible refine (due_v q c a x _ hx).mono ?_)
          rintro e w1 ⟨he, hb⟩
          replace HB := below_step HB hb
          clear hb
          obtain rfl : e = .returned (.int .i64 0) := by rw [he, HD1.out] <;> rfl
          clear he
          go_wp2_with fail
          (with_reducible refine (due_v q c a y _ hy).mono ?_)
          rintro e w2 ⟨he, hb⟩
          replace HB := below_step HB hb
          clear hb
          obtain rfl : e = .returned (.int .i64 2) := by rw [he, HD2.out] <;> rfl
          clear he
          go_wp2_with fail
          (with_reducible refine (awake_c _).mono ?_)
          rintro e w9 ⟨he, hb⟩
          replace HB := below_step HB hb
          clear hb
          subst he
          go_wp2
          go_ret
          exact ⟨rfl, HB⟩
        · have HD2 := Lib.hid (dueE_1 hE)
          obtain ⟨-, hy0, -, -⟩ := askE_spec hE
          have HE2 := Lib.hid hE
          clear hE
          by_cases h1 : k < 1
          · go_enter Try.func6, Try.ntmps6
            go_wp2_with fail
            (with_reducible refine (due_v q c a x _ hx).mono ?_)
            rintro e w1 ⟨he, hb⟩
            replace HB := below_step HB hb
            clear hb
            obtain rfl : e = .returned (.int .i64 0) := by rw [he, HD1.out] <;> rfl
            clear he
            go_wp2_with fail
            (with_reducible refine (due_v q c a y _ hy).mono ?_)
            rintro e w2 ⟨he, hb⟩
            replace HB := below_step HB hb
            clear hb
            obtain rfl : e = .returned (.int .i64 0) := by rw [he, HD2.out] <;> rfl
            clear he
            go_wp2_with fail
            (with_reducible refine (awake_c _).mono ?_)
            rintro e w9 ⟨he, hb⟩
            replace HB := below_step HB hb
            clear hb
            subst he
            go_wp2
            go_ret
            exact ⟨rfl, HB⟩
          · by_cases h2 : 200000 < k
            · go_enter Try.func6, Try.ntmps6
              go_wp2_with fail
              (with_reducible refine (due_v q c a x _ hx).mono ?_)
              rintro e w1 ⟨he, hb⟩
              replace HB := below_step HB hb
              clear hb
              obtain rfl : e = .returned (.int .i64 0) := by rw [he, HD1.out] <;> rfl
              clear he
              go_wp2_with fail
              (with_reducible refine (due_v q c a y _ hy).mono ?_)
              rintro e w2 ⟨he, hb⟩
              replace HB := below_step HB hb
              clear hb
              obtain rfl : e = .returned (.int .i64 0) := by rw [he, HD2.out] <;> rfl
              clear he
              go_wp2_with fail
              (with_reducible refine (awake_c _).mono ?_)
              rintro e w9 ⟨he, hb⟩
              replace HB := below_step HB hb
              clear hb
              subst he
              go_wp2
              go_ret
              exact ⟨rfl, HB⟩
            · by_cases hle : x ≤ y
              · have hg : ¬ 0 < icmp x y := by unfold icmp; split <;> (try split) <;> omega
                have hle2 : x ≤ y := by omega
                have hmono := sum_mono (q := q) (c := c) (x := x) (y := y) (by omega) (by omega) (by omega) hle2
                have HR1 := Lib.hid (bfit_val HE1.out (show 1 ≤ k by omega) (show k ≤ 200000 by omega))
                have HR2 := Lib.hid (bfit_val HE2.out (show 1 ≤ k by omega) (show k ≤ 200000 by omega))
                have HL1 := Lib.hid (bleast_val HE1.out)
                have HL2 := Lib.hid (bleast_val HE2.out)
                have HM : Hid (fitN q.toNat c.toNat (y).natAbs a.toNat k.toNat = true → fitN q.toNat c.toNat (x).natAbs a.toNat k.toNat = true) := fun h => fitN_mono h (by omega) (by omega)
                have HLM : Hid (∀ i j, lstN q.toNat c.toNat (y).natAbs 0 a.toNat = some (i, j) → ∃ i' j', lstN q.toNat c.toNat (x).natAbs 0 a.toNat = some (i', j') ∧ i' ≤ i) := fun i j h => lstN_mono (by omega) (by omega) _ h
                generalize dlN (q * x + c).natAbs = d1 at *
                generalize dlN (q * y + c).natAbs = d2 at *
                have hmul : a * (d1 : Int) ≤ a * (d2 : Int) := Int.mul_le_mul_of_nonneg_left (by omega) (by omega)
                clear hmono
                by_cases g2 : 100000 < a * (d2 : Int)
                · have HS2 : Hid (bfit q c y a k = (false, 3)) := by show _ = _; rw [HR2.out, if_pos g2]
                  by_cases g1 : 100000 < a * (d1 : Int)
                  · have HS1 : Hid (bfit q c x a k = (false, 3)) := by show _ = _; rw [HR1.out, if_pos g1]
                    clear g1 g2 hmul HR1 HR2 HL1 HL2 HM HLM
                    go_enter Try.func6, Try.ntmps6
                    go_wp2_with fail
                    (with_reducible refine (due_v q c a x _ hx).mono ?_)
                    rintro e w1 ⟨he, hb⟩
                    replace HB := below_step HB hb
                    clear hb
                    obtain rfl : e = .returned (.int .i64 0) := by rw [he, HD1.out] <;> rfl
                    clear he
                    go_wp2_with fail
                    (with_reducible refine (due_v q c a y _ hy).mono ?_)
                    rintro e w2 ⟨he, hb⟩
                    replace HB := below_step HB hb
                    clear hb
                    obtain rfl : e = .returned (.int .i64 0) := by rw [he, HD2.out] <;> rfl
                    clear he
                    go_wp2_with fail
                    (with_reducible refine (Parse_c x _ (by omega)).mono ?_)
                    rintro e w3 ⟨v3, rfl, hv, hb⟩
                    have P3 := Lib.hid hv
                    replace HB := below_step HB hb
                    clear hv hb
                    go_wp2_with fail
                    (with_reducible refine (Parse_c y _ (by omega)).mono ?_)
                    rintro e w4 ⟨v4, rfl, hv, hb⟩
                    have P4 := Lib.hid hv
                    have P3b := Lib.hid (P3.out.below hb)
                    replace HB := below_step HB hb
                    clear hv hb P3
                    go_wp2_with fail
                    (with_reducible refine (Cmp_c x y _ _ _ P3b.out P4.out).mono ?_)
                    rintro e w5 ⟨rfl, hb⟩
                    replace HB := below_step HB hb
                    clear hb P3b P4
                    go_wp2_with fail
                    (with_reducible refine (fits_v q c a k x _ hx (by omega) (by omega)).mono ?_)
                    rintro e w6 ⟨he, hb⟩
                    replace HB := below_step HB hb
                    clear hb
                    obtain rfl : e = .returned (.tuple #[.bool false, .int .i64 3]) := by rw [he, HS1.out] <;> rfl
                    clear he
                    go_wp2_with fail
                    (with_reducible refine (fits_v q c a k y _ hy (by omega) (by omega)).mono ?_)
                    rintro e w7 ⟨he, hb⟩
                    replace HB := below_step HB hb
                    clear hb
                    obtain rfl : e = .returned (.tuple #[.bool false, .int .i64 3]) := by rw [he, HS2.out] <;> rfl
                    clear he
                    go_wp2_with fail
                    (with_reducible refine (awake_c _).mono ?_)
                    rintro e w9 ⟨he, hb⟩
                    replace HB := below_step HB hb
                    clear hb
                    subst he
                    go_wp2
                    go_ret
                    exact ⟨rfl, HB⟩
                  · have HS1 : Hid (∃ b, bfit q c x a k = (b, 0)) := ⟨_, by rw [HR1.out, if_neg g1]⟩
                    obtain ⟨b, HS1⟩ := HS1.out
                    replace HS1 := Lib.hid HS1
                    clear g1 g2 hmul HR1 HR2 HL1 HL2 HM HLM
                    go_enter Try.func6, Try.ntmps6
                    go_wp2_with fail
                    (with_reducible refine (due_v q c a x _ hx).mono ?_)
                    rintro e w1 ⟨he, hb⟩
                    replace HB := below_step HB hb
                    clear hb
                    obtain rfl : e = .returned (.int .i64 0) := by rw [he, HD1.out] <;> rfl
                    clear he
                    go_wp2_with fail
                    (with_reducible refine (due_v q c a y _ hy).mono ?_)
                    rintro e w2 ⟨he, hb⟩
                    replace HB := below_step HB hb
                    clear hb
                    obtain rfl : e = .returned (.int .i64 0) := by rw [he, HD2.out] <;> rfl
                    clear he
                    go_wp2_with fail
                    (with_reducible refine (Parse_c x _ (by omega)).mono ?_)
                    rintro e w3 ⟨v3, rfl, hv, hb⟩
                    have P3 := Lib.hid hv
                    replace HB := below_step HB hb
                    clear hv hb
                    go_wp2_with fail
                    (with_reducible refine (Parse_c y _ (by omega)).mono ?_)
                    rintro e w4 ⟨v4, rfl, hv, hb⟩
                    have P4 := Lib.hid hv
                    have P3b := Lib.hid (P3.out.below hb)
                    replace HB := below_step HB hb
                    clear hv hb P3
                    go_wp2_with fail
                    (with_reducible refine (Cmp_c x y _ _ _ P3b.out P4.out).mono ?_)
                    rintro e w5 ⟨rfl, hb⟩
                    replace HB := below_step HB hb
                    clear hb P3b P4
                    go_wp2_with fail
                    (with_reducible refine (fits_v q c a k x _ hx (by omega) (by omega)).mono ?_)
                    rintro e w6 ⟨he, hb⟩
                    replace HB := below_step HB hb
                    clear hb
                    obtain rfl : e = .returned (.tuple #[.bool b, .int .i64 0]) := by rw [he, HS1.out] <;> rfl
                    clear he
                    go_wp2_with fail
                    (with_reducible refine (fits_v q c a k y _ hy (by omega) (by omega)).mono ?_)
                    rintro e w7 ⟨he, hb⟩
                    replace HB := below_step HB hb
                    clear hb
                    obtain rfl : e = .returned (.tuple #[.bool false, .int .i64 3]) := by rw [he, HS2.out] <;> rfl
                    clear he
                    go_wp2_with fail
                    (with_reducible refine (awake_c _).mono ?_)
                    rintro e w9 ⟨he, hb⟩
                    replace HB := below_step HB hb
                    clear hb
                    subst he
                    go_wp2
                    go_ret
                    exact ⟨rfl, HB⟩
                · have g1 : ¬ 100000 < a * (d1 : Int) := by omega
                  rw [if_neg g1] at HR1 HL1
                  rw [if_neg g2] at HR2 HL2
                  clear g1 g2 hmul
                  have HXY : Hid (∃ b1 b2, bfit q c x a k = (b1, 0) ∧ bfit q c y a k = (b2, 0) ∧ (b2 = true → b1 = true)) := ⟨_, _, HR1.out, HR2.out, HM.out⟩
                  clear HR1 HR2 HM
                  have HLL : Hid ((∃ i j i' j', bleast q c x a = (i', j', 0) ∧ bleast q c y a = (i, j, 0) ∧ i' ≤ i) ∨ (∃ i j, bleast q c x a = (i, j, 0) ∧ bleast q c y a = (0, 0, 4)) ∨ (bleast q c x a = (0, 0, 4) ∧ bleast q c y a = (0, 0, 4))) := by
                    show _ ∨ _
                    cases h2 : lstN q.toNat c.toNat (y).natAbs 0 a.toNat with
                    | some p =>
                      obtain ⟨i, j⟩ := p
                      obtain ⟨i', j', h1, h3⟩ := HLM.out i j h2
                      exact .inl ⟨i, j, i', j', by rw [HL1.out, h1], by rw [HL2.out, h2], h3⟩
                    | none =>
                      cases h1 : lstN q.toNat c.toNat (x).natAbs 0 a.toNat with
                      | some p => obtain ⟨i, j⟩ := p; exact .inr (.inl ⟨i, j, by rw [HL1.out, h1], by rw [HL2.out, h2]⟩)
                      | none => exact .inr (.inr ⟨by rw [HL1.out, h1], by rw [HL2.out, h2]⟩)
                  clear HL1 HL2 HLM
                  have HXY2 := HXY.out
                  have HLL2 := HLL.out
                  clear HXY HLL
                  obtain ⟨b1, b2, x1, x2, x3⟩ := HXY2
                  have HX1 := Lib.hid x1
                  have HX2 := Lib.hid x2
                  clear x1 x2
                  have hb : (b1 = true ∧ b2 = true) ∨ b2 = false := by cases b2 <;> simp_all
                  clear x3
                  rcases HLL2 with ⟨i, j, i', j', y1, y2, y3⟩ | ⟨i, j, y1, y2⟩ | ⟨y1, y2⟩ <;> rcases hb with ⟨rfl, rfl⟩ | rfl
                  · have HY1 := Lib.hid y1
                    have HY2 := Lib.hid y2
                    clear y1 y2
                    go_enter Try.func6, Try.ntmps6
                    go_wp2_with fail
                    (with_reducible refine (due_v q c a x _ hx).mono ?_)
                    rintro e w1 ⟨he, hb⟩
                    replace HB := below_step HB hb
                    clear hb
                    obtain rfl : e = .returned (.int .i64 0) := by rw [he, HD1.out] <;> rfl
                    clear he
                    go_wp2_with fail
                    (with_reducible refine (due_v q c a y _ hy).mono ?_)
                    rintro e w2 ⟨he, hb⟩
                    replace HB := below_step HB hb
                    clear hb
                    obtain rfl : e = .returned (.int .i64 0) := by rw [he, HD2.out] <;> rfl
                    clear he
                    go_wp2_with fail
                    (with_reducible refine (Parse_c x _ (by omega)).mono ?_)
                    rintro e w3 ⟨v3, rfl, hv, hb⟩
                    have P3 := Lib.hid hv
                    replace HB := below_step HB hb
                    clear hv hb
                    go_wp2_with fail
                    (with_reducible refine (Parse_c y _ (by omega)).mono ?_)
                    rintro e w4 ⟨v4, rfl, hv, hb⟩
                    have P4 := Lib.hid hv
                    have P3b := Lib.hid (P3.out.below hb)
                    replace HB := below_step HB hb
                    clear hv hb P3
                    go_wp2_with fail
                    (with_reducible refine (Cmp_c x y _ _ _ P3b.out P4.out).mono ?_)
                    rintro e w5 ⟨rfl, hb⟩
                    replace HB := below_step HB hb
                    clear hb P3b P4
                    go_wp2_with fail
                    (with_reducible refine (fits_v q c a k x _ hx (by omega) (by omega)).mono ?_)
                    rintro e w6 ⟨he, hb⟩
                    replace HB := below_step HB hb
                    clear hb
                    obtain rfl : e = .returned (.tuple #[.bool true, .int .i64 0]) := by rw [he, HX1.out] <;> rfl
                    clear he
                    go_wp2_with fail
                    (with_reducible refine (fits_v q c a k y _ hy (by omega) (by omega)).mono ?_)
                    rintro e w7 ⟨he, hb⟩
                    replace HB := below_step HB hb
                    clear hb
                    obtain rfl : e = .returned (.tuple #[.bool true, .int .i64 0]) := by rw [he, HX2.out] <;> rfl
                    clear he
                    go_wp2_with fail
                    (with_reducible refine (least_v q c a x _ hx).mono ?_)
                    rintro e w8 ⟨he, hb⟩
                    replace HB := below_step HB hb
                    clear hb
                    obtain rfl : e = .returned (.tuple #[.int .i64 i', .int .i64 j', .int .i64 0]) := by rw [he, HY1.out] <;> rfl
                    clear he
                    go_wp2_with fail
                    (with_reducible refine (least_v q c a y _ hy).mono ?_)
                    rintro e w10 ⟨he, hb⟩
                    replace HB := below_step HB hb
                    clear hb
                    obtain rfl : e = .returned (.tuple #[.int .i64 i, .int .i64 j, .int .i64 0]) := by rw [he, HY2.out] <;> rfl
                    clear he
                    go_wp2_with fail
                    (with_reducible refine (awake_c _).mono ?_)
                    rintro e w9 ⟨he, hb⟩
                    replace HB := below_step HB hb
                    clear hb
                    subst he
                    go_wp2
                    go_ret
                    exact ⟨rfl, HB⟩
                  · have HY1 := Lib.hid y1
                    have HY2 := Lib.hid y2
                    clear y1 y2
                    go_enter Try.func6, Try.ntmps6
                    go_wp2_with fail
                    (with_reducible refine (due_v q c a x _ hx).mono ?_)
                    rintro e w1 ⟨he, hb⟩
                    replace HB := below_step HB hb
                    clear hb
                    obtain rfl : e = .returned (.int .i64 0) := by rw [he, HD1.out] <;> rfl
                    clear he
                    go_wp2_with fail
                    (with_reducible refine (due_v q c a y _ hy).mono ?_)
                    rintro e w2 ⟨he, hb⟩
                    replace HB := below_step HB hb
                    clear hb
                    obtain rfl : e = .returned (.int .i64 0) := by rw [he, HD2.out] <;> rfl
                    clear he
                    go_wp2_with fail
                    (with_reducible refine (Parse_c x _ (by omega)).mono ?_)
                    rintro e w3 ⟨v3, rfl, hv, hb⟩
                    have P3 := Lib.hid hv
                    replace HB := below_step HB hb
                    clear hv hb
                    go_wp2_with fail
                    (with_reducible refine (Parse_c y _ (by omega)).mono ?_)
                    rintro e w4 ⟨v4, rfl, hv, hb⟩
                    have P4 := Lib.hid hv
                    have P3b := Lib.hid (P3.out.below hb)
                    replace HB := below_step HB hb
                    clear hv hb P3
                    go_wp2_with fail
                    (with_reducible refine (Cmp_c x y _ _ _ P3b.out P4.out).mono ?_)
                    rintro e w5 ⟨rfl, hb⟩
                    replace HB := below_step HB hb
                    clear hb P3b P4
                    go_wp2_with fail
                    (with_reducible refine (fits_v q c a k x _ hx (by omega) (by omega)).mono ?_)
                    rintro e w6 ⟨he, hb⟩
                    replace HB := below_step HB hb
                    clear hb
                    obtain rfl : e = .returned (.tuple #[.bool b1, .int .i64 0]) := by rw [he, HX1.out] <;> rfl
                    clear he
                    go_wp2_with fail
                    (with_reducible refine (fits_v q c a k y _ hy (by omega) (by omega)).mono ?_)
                    rintro e w7 ⟨he, hb⟩
                    replace HB := below_step HB hb
                    clear hb
                    obtain rfl : e = .returned (.tuple #[.bool false, .int .i64 0]) := by rw [he, HX2.out] <;> rfl
                    clear he
                    go_wp2_with fail
                    (with_reducible refine (least_v q c a x _ hx).mono ?_)
                    rintro e w8 ⟨he, hb⟩
                    replace HB := below_step HB hb
                    clear hb
                    obtain rfl : e = .returned (.tuple #[.int .i64 i', .int .i64 j', .int .i64 0]) := by rw [he, HY1.out] <;> rfl
                    clear he
                    go_wp2_with fail
                    (with_reducible refine (least_v q c a y _ hy).mono ?_)
                    rintro e w10 ⟨he, hb⟩
                    replace HB := below_step HB hb
                    clear hb
                    obtain rfl : e = .returned (.tuple #[.int .i64 i, .int .i64 j, .int .i64 0]) := by rw [he, HY2.out] <;> rfl
                    clear he
                    go_wp2_with fail
                    (with_reducible refine (awake_c _).mono ?_)
                    rintro e w9 ⟨he, hb⟩
                    replace HB := below_step HB hb
                    clear hb
                    subst he
                    go_wp2
                    go_ret
                    exact ⟨rfl, HB⟩
                  · have HY1 := Lib.hid y1
                    have HY2 := Lib.hid y2
                    clear y1 y2
                    go_enter Try.func6, Try.ntmps6
                    go_wp2_with fail
                    (with_reducible refine (due_v q c a x _ hx).mono ?_)
                    rintro e w1 ⟨he, hb⟩
                    replace HB := below_step HB hb
                    clear hb
                    obtain rfl : e = .returned (.int .i64 0) := by rw [he, HD1.out] <;> rfl
                    clear he
                    go_wp2_with fail
                    (with_reducible refine (due_v q c a y _ hy).mono ?_)
                    rintro e w2 ⟨he, hb⟩
                    replace HB := below_step HB hb
                    clear hb
                    obtain rfl : e = .returned (.int .i64 0) := by rw [he, HD2.out] <;> rfl
                    clear he
                    go_wp2_with fail
                    (with_reducible refine (Parse_c x _ (by omega)).mono ?_)
                    rintro e w3 ⟨v3, rfl, hv, hb⟩
                    have P3 := Lib.hid hv
                    replace HB := below_step HB hb
                    clear hv hb
                    go_wp2_with fail
                    (with_reducible refine (Parse_c y _ (by omega)).mono ?_)
                    rintro e w4 ⟨v4, rfl, hv, hb⟩
                    have P4 := Lib.hid hv
                    have P3b := Lib.hid (P3.out.below hb)
                    replace HB := below_step HB hb
                    clear hv hb P3
                    go_wp2_with fail
                    (with_reducible refine (Cmp_c x y _ _ _ P3b.out P4.out).mono ?_)
                    rintro e w5 ⟨rfl, hb⟩
                    replace HB := below_step HB hb
                    clear hb P3b P4
                    go_wp2_with fail
                    (with_reducible refine (fits_v q c a k x _ hx (by omega) (by omega)).mono ?_)
                    rintro e w6 ⟨he, hb⟩
                    replace HB := below_step HB hb
                    clear hb
                    obtain rfl : e = .returned (.tuple #[.bool true, .int .i64 0]) := by rw [he, HX1.out] <;> rfl
                    clear he
                    go_wp2_with fail
                    (with_reducible refine (fits_v q c a k y _ hy (by omega) (by omega)).mono ?_)
                    rintro e w7 ⟨he, hb⟩
                    replace HB := below_step HB hb
                    clear hb
                    obtain rfl : e = .returned (.tuple #[.bool true, .int .i64 0]) := by rw [he, HX2.out] <;> rfl
                    clear he
                    go_wp2_with fail
                    (with_reducible refine (least_v q c a x _ hx).mono ?_)
                    rintro e w8 ⟨he, hb⟩
                    replace HB := below_step HB hb
                    clear hb
                    obtain rfl : e = .returned (.tuple #[.int .i64 i, .int .i64 j, .int .i64 0]) := by rw [he, HY1.out] <;> rfl
                    clear he
                    go_wp2_with fail
                    (with_reducible refine (least_v q c a y _ hy).mono ?_)
                    rintro e w10 ⟨he, hb⟩
                    replace HB := below_step HB hb
                    clear hb
                    obtain rfl : e = .returned (.tuple #[.int .i64 0, .int .i64 0, .int .i64 4]) := by rw [he, HY2.out] <;> rfl
                    clear he
                    go_wp2_with fail
                    (with_reducible refine (awake_c _).mono ?_)
                    rintro e w9 ⟨he, hb⟩
                    replace HB := below_step HB hb
                    clear hb
                    subst he
                    go_wp2
                    go_ret
                    exact ⟨rfl, HB⟩
                  · have HY1 := Lib.hid y1
                    have HY2 := Lib.hid y2
                    clear y1 y2
                    go_enter Try.func6, Try.ntmps6
                    go_wp2_with fail
                    (with_reducible refine (due_v q c a x _ hx).mono ?_)
                    rintro e w1 ⟨he, hb⟩
                    replace HB := below_step HB hb
                    clear hb
                    obtain rfl : e = .returned (.int .i64 0) := by rw [he, HD1.out] <;> rfl
                    clear he
                    go_wp2_with fail
                    (with_reducible refine (due_v q c a y _ hy).mono ?_)
                    rintro e w2 ⟨he, hb⟩
                    replace HB := below_step HB hb
                    clear hb
                    obtain rfl : e = .returned (.int .i64 0) := by rw [he, HD2.out] <;> rfl
                    clear he
                    go_wp2_with fail
                    (with_reducible refine (Parse_c x _ (by omega)).mono ?_)
                    rintro e w3 ⟨v3, rfl, hv, hb⟩
                    have P3 := Lib.hid hv
                    replace HB := below_step HB hb
                    clear hv hb
                    go_wp2_with fail
                    (with_reducible refine (Parse_c y _ (by omega)).mono ?_)
                    rintro e w4 ⟨v4, rfl, hv, hb⟩
                    have P4 := Lib.hid hv
                    have P3b := Lib.hid (P3.out.below hb)
                    replace HB := below_step HB hb
                    clear hv hb P3
                    go_wp2_with fail
                    (with_reducible refine (Cmp_c x y _ _ _ P3b.out P4.out).mono ?_)
                    rintro e w5 ⟨rfl, hb⟩
                    replace HB := below_step HB hb
                    clear hb P3b P4
                    go_wp2_with fail
                    (with_reducible refine (fits_v q c a k x _ hx (by omega) (by omega)).mono ?_)
                    rintro e w6 ⟨he, hb⟩
                    replace HB := below_step HB hb
                    clear hb
                    obtain rfl : e = .returned (.tuple #[.bool b1, .int .i64 0]) := by rw [he, HX1.out] <;> rfl
                    clear he
                    go_wp2_with fail
                    (with_reducible refine (fits_v q c a k y _ hy (by omega) (by omega)).mono ?_)
                    rintro e w7 ⟨he, hb⟩
                    replace HB := below_step HB hb
                    clear hb
                    obtain rfl : e = .returned (.tuple #[.bool false, .int .i64 0]) := by rw [he, HX2.out] <;> rfl
                    clear he
                    go_wp2_with fail
                    (with_reducible refine (least_v q c a x _ hx).mono ?_)
                    rintro e w8 ⟨he, hb⟩
                    replace HB := below_step HB hb
                    clear hb
                    obtain rfl : e = .returned (.tuple #[.int .i64 i, .int .i64 j, .int .i64 0]) := by rw [he, HY1.out] <;> rfl
                    clear he
                    go_wp2_with fail
                    (with_reducible refine (least_v q c a y _ hy).mono ?_)
                    rintro e w10 ⟨he, hb⟩
                    replace HB := below_step HB hb
                    clear hb
                    obtain rfl : e = .returned (.tuple #[.int .i64 0, .int .i64 0, .int .i64 4]) := by rw [he, HY2.out] <;> rfl
                    clear he
                    go_wp2_with fail
                    (with_reducible refine (awake_c _).mono ?_)
                    rintro e w9 ⟨he, hb⟩
                    replace HB := below_step HB hb
                    clear hb
                    subst he
                    go_wp2
                    go_ret
                    exact ⟨rfl, HB⟩
                  · have HY1 := Lib.hid y1
                    have HY2 := Lib.hid y2
                    clear y1 y2
                    go_enter Try.func6, Try.ntmps6
                    go_wp2_with fail
                    (with_reducible refine (due_v q c a x _ hx).mono ?_)
                    rintro e w1 ⟨he, hb⟩
                    replace HB := below_step HB hb
                    clear hb
                    obtain rfl : e = .returned (.int .i64 0) := by rw [he, HD1.out] <;> rfl
                    clear he
                    go_wp2_with fail
                    (with_reducible refine (due_v q c a y _ hy).mono ?_)
                    rintro e w2 ⟨he, hb⟩
                    replace HB := below_step HB hb
                    clear hb
                    obtain rfl : e = .returned (.int .i64 0) := by rw [he, HD2.out] <;> rfl
                    clear he
                    go_wp2_with fail
                    (with_reducible refine (Parse_c x _ (by omega)).mono ?_)
                    rintro e w3 ⟨v3, rfl, hv, hb⟩
                    have P3 := Lib.hid hv
                    replace HB := below_step HB hb
                    clear hv hb
                    go_wp2_with fail
                    (with_reducible refine (Parse_c y _ (by omega)).mono ?_)
                    rintro e w4 ⟨v4, rfl, hv, hb⟩
                    have P4 := Lib.hid hv
                    have P3b := Lib.hid (P3.out.below hb)
                    replace HB := below_step HB hb
                    clear hv hb P3
                    go_wp2_with fail
                    (with_reducible refine (Cmp_c x y _ _ _ P3b.out P4.out).mono ?_)
                    rintro e w5 ⟨rfl, hb⟩
                    replace HB := below_step HB hb
                    clear hb P3b P4
                    go_wp2_with fail
                    (with_reducible refine (fits_v q c a k x _ hx (by omega) (by omega)).mono ?_)
                    rintro e w6 ⟨he, hb⟩
                    replace HB := below_step HB hb
                    clear hb
                    obtain rfl : e = .returned (.tuple #[.bool true, .int .i64 0]) := by rw [he, HX1.out] <;> rfl
                    clear he
                    go_wp2_with fail
                    (with_reducible refine (fits_v q c a k y _ hy (by omega) (by omega)).mono ?_)
                    rintro e w7 ⟨he, hb⟩
                    replace HB := below_step HB hb
                    clear hb
                    obtain rfl : e = .returned (.tuple #[.bool true, .int .i64 0]) := by rw [he, HX2.out] <;> rfl
                    clear he
                    go_wp2_with fail
                    (with_reducible refine (least_v q c a x _ hx).mono ?_)
                    rintro e w8 ⟨he, hb⟩
                    replace HB := below_step HB hb
                    clear hb
                    obtain rfl : e = .returned (.tuple #[.int .i64 0, .int .i64 0, .int .i64 4]) := by rw [he, HY1.out] <;> rfl
                    clear he
                    go_wp2_with fail
                    (with_reducible refine (least_v q c a y _ hy).mono ?_)
                    rintro e w10 ⟨he, hb⟩
                    replace HB := below_step HB hb
                    clear hb
                    obtain rfl : e = .returned (.tuple #[.int .i64 0, .int .i64 0, .int .i64 4]) := by rw [he, HY2.out] <;> rfl
                    clear he
                    go_wp2_with fail
                    (with_reducible refine (awake_c _).mono ?_)
                    rintro e w9 ⟨he, hb⟩
                    replace HB := below_step HB hb
                    clear hb
                    subst he
                    go_wp2
                    go_ret
                    exact ⟨rfl, HB⟩
                  · have HY1 := Lib.hid y1
                    have HY2 := Lib.hid y2
                    clear y1 y2
                    go_enter Try.func6, Try.ntmps6
                    go_wp2_with fail
                    (with_reducible refine (due_v q c a x _ hx).mono ?_)
                    rintro e w1 ⟨he, hb⟩
                    replace HB := below_step HB hb
                    clear hb
                    obtain rfl : e = .returned (.int .i64 0) := by rw [he, HD1.out] <;> rfl
                    clear he
                    go_wp2_with fail
                    (with_reducible refine (due_v q c a y _ hy).mono ?_)
                    rintro e w2 ⟨he, hb⟩
                    replace HB := below_step HB hb
                    clear hb
                    obtain rfl : e = .returned (.int .i64 0) := by rw [he, HD2.out] <;> rfl
                    clear he
                    go_wp2_with fail
                    (with_reducible refine (Parse_c x _ (by omega)).mono ?_)
                    rintro e w3 ⟨v3, rfl, hv, hb⟩
                    have P3 := Lib.hid hv
                    replace HB := below_step HB hb
                    clear hv hb
                    go_wp2_with fail
                    (with_reducible refine (Parse_c y _ (by omega)).mono ?_)
                    rintro e w4 ⟨v4, rfl, hv, hb⟩
                    have P4 := Lib.hid hv
                    have P3b := Lib.hid (P3.out.below hb)
                    replace HB := below_step HB hb
                    clear hv hb P3
                    go_wp2_with fail
                    (with_reducible refine (Cmp_c x y _ _ _ P3b.out P4.out).mono ?_)
                    rintro e w5 ⟨rfl, hb⟩
                    replace HB := below_step HB hb
                    clear hb P3b P4
                    go_wp2_with fail
                    (with_reducible refine (fits_v q c a k x _ hx (by omega) (by omega)).mono ?_)
                    rintro e w6 ⟨he, hb⟩
                    replace HB := below_step HB hb
                    clear hb
                    obtain rfl : e = .returned (.tuple #[.bool b1, .int .i64 0]) := by rw [he, HX1.out] <;> rfl
                    clear he
                    go_wp2_with fail
                    (with_reducible refine (fits_v q c a k y _ hy (by omega) (by omega)).mono ?_)
                    rintro e w7 ⟨he, hb⟩
                    replace HB := below_step HB hb
                    clear hb
                    obtain rfl : e = .returned (.tuple #[.bool false, .int .i64 0]) := by rw [he, HX2.out] <;> rfl
                    clear he
                    go_wp2_with fail
                    (with_reducible refine (least_v q c a x _ hx).mono ?_)
                    rintro e w8 ⟨he, hb⟩
                    replace HB := below_step HB hb
                    clear hb
                    obtain rfl : e = .returned (.tuple #[.int .i64 0, .int .i64 0, .int .i64 4]) := by rw [he, HY1.out] <;> rfl
                    clear he
                    go_wp2_with fail
                    (with_reducible refine (least_v q c a y _ hy).mono ?_)
                    rintro e w10 ⟨he, hb⟩
                    replace HB := below_step HB hb
                    clear hb
                    obtain rfl : e = .returned (.tuple #[.int .i64 0, .int .i64 0, .int .i64 4]) := by rw [he, HY2.out] <;> rfl
                    clear he
                    go_wp2_with fail
                    (with_reducible refine (awake_c _).mono ?_)
                    rintro e w9 ⟨he, hb⟩
                    replace HB := below_step HB hb
                    clear hb
                    subst he
                    go_wp2
                    go_ret
                    exact ⟨rfl, HB⟩
              · have hg : 0 < icmp x y := by unfold icmp; rw [if_neg (by omega), if_pos (by omega)]; omega
                have hle2 : y ≤ x := by omega
                have hmono := sum_mono (q := q) (c := c) (x := y) (y := x) (by omega) (by omega) (by omega) hle2
                have HR1 := Lib.hid (bfit_val HE2.out (show 1 ≤ k by omega) (show k ≤ 200000 by omega))
                have HR2 := Lib.hid (bfit_val HE1.out (show 1 ≤ k by omega) (show k ≤ 200000 by omega))
                have HL1 := Lib.hid (bleast_val HE2.out)
                have HL2 := Lib.hid (bleast_val HE1.out)
                have HM : Hid (fitN q.toNat c.toNat (x).natAbs a.toNat k.toNat = true → fitN q.toNat c.toNat (y).natAbs a.toNat k.toNat = true) := fun h => fitN_mono h (by omega) (by omega)
                have HLM : Hid (∀ i j, lstN q.toNat c.toNat (x).natAbs 0 a.toNat = some (i, j) → ∃ i' j', lstN q.toNat c.toNat (y).natAbs 0 a.toNat = some (i', j') ∧ i' ≤ i) := fun i j h => lstN_mono (by omega) (by omega) _ h
                generalize dlN (q * y + c).natAbs = d1 at *
                generalize dlN (q * x + c).natAbs = d2 at *
                have hmul : a * (d1 : Int) ≤ a * (d2 : Int) := Int.mul_le_mul_of_nonneg_left (by omega) (by omega)
                clear hmono
                by_cases g2 : 100000 < a * (d2 : Int)
                · have HS2 : Hid (bfit q c x a k = (false, 3)) := by show _ = _; rw [HR2.out, if_pos g2]
                  by_cases g1 : 100000 < a * (d1 : Int)
                  · have HS1 : Hid (bfit q c y a k = (false, 3)) := by show _ = _; rw [HR1.out, if_pos g1]
                    clear g1 g2 hmul HR1 HR2 HL1 HL2 HM HLM
                    go_enter Try.func6, Try.ntmps6
                    go_wp2_with fail
                    (with_reducible refine (due_v q c a x _ hx).mono ?_)
                    rintro e w1 ⟨he, hb⟩
                    replace HB := below_step HB hb
                    clear hb
                    obtain rfl : e = .returned (.int .i64 0) := by rw [he, HD1.out] <;> rfl
                    clear he
                    go_wp2_with fail
                    (with_reducible refine (due_v q c a y _ hy).mono ?_)
                    rintro e w2 ⟨he, hb⟩
                    replace HB := below_step HB hb
                    clear hb
                    obtain rfl : e = .returned (.int .i64 0) := by rw [he, HD2.out] <;> rfl
                    clear he
                    go_wp2_with fail
                    (with_reducible refine (Parse_c x _ (by omega)).mono ?_)
                    rintro e w3 ⟨v3, rfl, hv, hb⟩
                    have P3 := Lib.hid hv
                    replace HB := below_step HB hb
                    clear hv hb
                    go_wp2_with fail
                    (with_reducible refine (Parse_c y _ (by omega)).mono ?_)
                    rintro e w4 ⟨v4, rfl, hv, hb⟩
                    have P4 := Lib.hid hv
                    have P3b := Lib.hid (P3.out.below hb)
                    replace HB := below_step HB hb
                    clear hv hb P3
                    go_wp2_with fail
                    (with_reducible refine (Cmp_c x y _ _ _ P3b.out P4.out).mono ?_)
                    rintro e w5 ⟨rfl, hb⟩
                    replace HB := below_step HB hb
                    clear hb P3b P4
                    go_wp2_with fail
                    (with_reducible refine (fits_v q c a k y _ hy (by omega) (by omega)).mono ?_)
                    rintro e w6 ⟨he, hb⟩
                    replace HB := below_step HB hb
                    clear hb
                    obtain rfl : e = .returned (.tuple #[.bool false, .int .i64 3]) := by rw [he, HS1.out] <;> rfl
                    clear he
                    go_wp2_with fail
                    (with_reducible refine (fits_v q c a k x _ hx (by omega) (by omega)).mono ?_)
                    rintro e w7 ⟨he, hb⟩
                    replace HB := below_step HB hb
                    clear hb
                    obtain rfl : e = .returned (.tuple #[.bool false, .int .i64 3]) := by rw [he, HS2.out] <;> rfl
                    clear he
                    go_wp2_with fail
                    (with_reducible refine (awake_c _).mono ?_)
                    rintro e w9 ⟨he, hb⟩
                    replace HB := below_step HB hb
                    clear hb
                    subst he
                    go_wp2
                    go_ret
                    exact ⟨rfl, HB⟩
                  · have HS1 : Hid (∃ b, bfit q c y a k = (b, 0)) := ⟨_, by rw [HR1.out, if_neg g1]⟩
                    obtain ⟨b, HS1⟩ := HS1.out
                    replace HS1 := Lib.hid HS1
                    clear g1 g2 hmul HR1 HR2 HL1 HL2 HM HLM
                    go_enter Try.func6, Try.ntmps6
                    go_wp2_with fail
                    (with_reducible refine (due_v q c a x _ hx).mono ?_)
                    rintro e w1 ⟨he, hb⟩
                    replace HB := below_step HB hb
                    clear hb
                    obtain rfl : e = .returned (.int .i64 0) := by rw [he, HD1.out] <;> rfl
                    clear he
                    go_wp2_with fail
                    (with_reducible refine (due_v q c a y _ hy).mono ?_)
                    rintro e w2 ⟨he, hb⟩
                    replace HB := below_step HB hb
                    clear hb
                    obtain rfl : e = .returned (.int .i64 0) := by rw [he, HD2.out] <;> rfl
                    clear he
                    go_wp2_with fail
                    (with_reducible refine (Parse_c x _ (by omega)).mono ?_)
                    rintro e w3 ⟨v3, rfl, hv, hb⟩
                    have P3 := Lib.hid hv
                    replace HB := below_step HB hb
                    clear hv hb
                    go_wp2_with fail
                    (with_reducible refine (Parse_c y _ (by omega)).mono ?_)
                    rintro e w4 ⟨v4, rfl, hv, hb⟩
                    have P4 := Lib.hid hv
                    have P3b := Lib.hid (P3.out.below hb)
                    replace HB := below_step HB hb
                    clear hv hb P3
                    go_wp2_with fail
                    (with_reducible refine (Cmp_c x y _ _ _ P3b.out P4.out).mono ?_)
                    rintro e w5 ⟨rfl, hb⟩
                    replace HB := below_step HB hb
                    clear hb P3b P4
                    go_wp2_with fail
                    (with_reducible refine (fits_v q c a k y _ hy (by omega) (by omega)).mono ?_)
                    rintro e w6 ⟨he, hb⟩
                    replace HB := below_step HB hb
                    clear hb
                    obtain rfl : e = .returned (.tuple #[.bool b, .int .i64 0]) := by rw [he, HS1.out] <;> rfl
                    clear he
                    go_wp2_with fail
                    (with_reducible refine (fits_v q c a k x _ hx (by omega) (by omega)).mono ?_)
                    rintro e w7 ⟨he, hb⟩
                    replace HB := below_step HB hb
                    clear hb
                    obtain rfl : e = .returned (.tuple #[.bool false, .int .i64 3]) := by rw [he, HS2.out] <;> rfl
                    clear he
                    go_wp2_with fail
                    (with_reducible refine (awake_c _).mono ?_)
                    rintro e w9 ⟨he, hb⟩
                    replace HB := below_step HB hb
                    clear hb
                    subst he
                    go_wp2
                    go_ret
                    exact ⟨rfl, HB⟩
                · have g1 : ¬ 100000 < a * (d1 : Int) := by omega
                  rw [if_neg g1] at HR1 HL1
                  rw [if_neg g2] at HR2 HL2
                  clear g1 g2 hmul
                  have HXY : Hid (∃ b1 b2, bfit q c y a k = (b1, 0) ∧ bfit q c x a k = (b2, 0) ∧ (b2 = true → b1 = true)) := ⟨_, _, HR1.out, HR2.out, HM.out⟩
                  clear HR1 HR2 HM
                  have HLL : Hid ((∃ i j i' j', bleast q c y a = (i', j', 0) ∧ bleast q c x a = (i, j, 0) ∧ i' ≤ i) ∨ (∃ i j, bleast q c y a = (i, j, 0) ∧ bleast q c x a = (0, 0, 4)) ∨ (bleast q c y a = (0, 0, 4) ∧ bleast q c x a = (0, 0, 4))) := by
                    show _ ∨ _
                    cases h2 : lstN q.toNat c.toNat (x).natAbs 0 a.toNat with
                    | some p =>
                      obtain ⟨i, j⟩ := p
                      obtain ⟨i', j', h1, h3⟩ := HLM.out i j h2
                      exact .inl ⟨i, j, i', j', by rw [HL1.out, h1], by rw [HL2.out, h2], h3⟩
                    | none =>
                      cases h1 : lstN q.toNat c.toNat (y).natAbs 0 a.toNat with
                      | some p => obtain ⟨i, j⟩ := p; exact .inr (.inl ⟨i, j, by rw [HL1.out, h1], by rw [HL2.out, h2]⟩)
                      | none => exact .inr (.inr ⟨by rw [HL1.out, h1], by rw [HL2.out, h2]⟩)
                  clear HL1 HL2 HLM
                  have HXY2 := HXY.out
                  have HLL2 := HLL.out
                  clear HXY HLL
                  obtain ⟨b1, b2, x1, x2, x3⟩ := HXY2
                  have HX1 := Lib.hid x1
                  have HX2 := Lib.hid x2
                  clear x1 x2
                  have hb : (b1 = true ∧ b2 = true) ∨ b2 = false := by cases b2 <;> simp_all
                  clear x3
                  rcases HLL2 with ⟨i, j, i', j', y1, y2, y3⟩ | ⟨i, j, y1, y2⟩ | ⟨y1, y2⟩ <;> rcases hb with ⟨rfl, rfl⟩ | rfl
                  · have HY1 := Lib.hid y1
                    have HY2 := Lib.hid y2
                    clear y1 y2
                    go_enter Try.func6, Try.ntmps6
                    go_wp2_with fail
                    (with_reducible refine (due_v q c a x _ hx).mono ?_)
                    rintro e w1 ⟨he, hb⟩
                    replace HB := below_step HB hb
                    clear hb
                    obtain rfl : e = .returned (.int .i64 0) := by rw [he, HD1.out] <;> rfl
                    clear he
                    go_wp2_with fail
                    (with_reducible refine (due_v q c a y _ hy).mono ?_)
                    rintro e w2 ⟨he, hb⟩
                    replace HB := below_step HB hb
                    clear hb
                    obtain rfl : e = .returned (.int .i64 0) := by rw [he, HD2.out] <;> rfl
                    clear he
                    go_wp2_with fail
                    (with_reducible refine (Parse_c x _ (by omega)).mono ?_)
                    rintro e w3 ⟨v3, rfl, hv, hb⟩
                    have P3 := Lib.hid hv
                    replace HB := below_step HB hb
                    clear hv hb
                    go_wp2_with fail
                    (with_reducible refine (Parse_c y _ (by omega)).mono ?_)
                    rintro e w4 ⟨v4, rfl, hv, hb⟩
                    have P4 := Lib.hid hv
                    have P3b := Lib.hid (P3.out.below hb)
                    replace HB := below_step HB hb
                    clear hv hb P3
                    go_wp2_with fail
                    (with_reducible refine (Cmp_c x y _ _ _ P3b.out P4.out).mono ?_)
                    rintro e w5 ⟨rfl, hb⟩
                    replace HB := below_step HB hb
                    clear hb P3b P4
                    go_wp2_with fail
                    (with_reducible refine (fits_v q c a k y _ hy (by omega) (by omega)).mono ?_)
                    rintro e w6 ⟨he, hb⟩
                    replace HB := below_step HB hb
                    clear hb
                    obtain rfl : e = .returned (.tuple #[.bool true, .int .i64 0]) := by rw [he, HX1.out] <;> rfl
                    clear he
                    go_wp2_with fail
                    (with_reducible refine (fits_v q c a k x _ hx (by omega) (by omega)).mono ?_)
                    rintro e w7 ⟨he, hb⟩
                    replace HB := below_step HB hb
                    clear hb
                    obtain rfl : e = .returned (.tuple #[.bool true, .int .i64 0]) := by rw [he, HX2.out] <;> rfl
                    clear he
                    go_wp2_with fail
                    (with_reducible refine (least_v q c a y _ hy).mono ?_)
                    rintro e w8 ⟨he, hb⟩
                    replace HB := below_step HB hb
                    clear hb
                    obtain rfl : e = .returned (.tuple #[.int .i64 i', .int .i64 j', .int .i64 0]) := by rw [he, HY1.out] <;> rfl
                    clear he
                    go_wp2_with fail
                    (with_reducible refine (least_v q c a x _ hx).mono ?_)
                    rintro e w10 ⟨he, hb⟩
                    replace HB := below_step HB hb
                    clear hb
                    obtain rfl : e = .returned (.tuple #[.int .i64 i, .int .i64 j, .int .i64 0]) := by rw [he, HY2.out] <;> rfl
                    clear he
                    go_wp2_with fail
                    (with_reducible refine (awake_c _).mono ?_)
                    rintro e w9 ⟨he, hb⟩
                    replace HB := below_step HB hb
                    clear hb
                    subst he
                    go_wp2
                    go_ret
                    exact ⟨rfl, HB⟩
                  · have HY1 := Lib.hid y1
                    have HY2 := Lib.hid y2
                    clear y1 y2
                    go_enter Try.func6, Try.ntmps6
                    go_wp2_with fail
                    (with_reducible refine (due_v q c a x _ hx).mono ?_)
                    rintro e w1 ⟨he, hb⟩
                    replace HB := below_step HB hb
                    clear hb
                    obtain rfl : e = .returned (.int .i64 0) := by rw [he, HD1.out] <;> rfl
                    clear he
                    go_wp2_with fail
                    (with_reducible refine (due_v q c a y _ hy).mono ?_)
                    rintro e w2 ⟨he, hb⟩
                    replace HB := below_step HB hb
                    clear hb
                    obtain rfl : e = .returned (.int .i64 0) := by rw [he, HD2.out] <;> rfl
                    clear he
                    go_wp2_with fail
                    (with_reducible refine (Parse_c x _ (by omega)).mono ?_)
                    rintro e w3 ⟨v3, rfl, hv, hb⟩
                    have P3 := Lib.hid hv
                    replace HB := below_step HB hb
                    clear hv hb
                    go_wp2_with fail
                    (with_reducible refine (Parse_c y _ (by omega)).mono ?_)
                    rintro e w4 ⟨v4, rfl, hv, hb⟩
                    have P4 := Lib.hid hv
                    have P3b := Lib.hid (P3.out.below hb)
                    replace HB := below_step HB hb
                    clear hv hb P3
                    go_wp2_with fail
                    (with_reducible refine (Cmp_c x y _ _ _ P3b.out P4.out).mono ?_)
                    rintro e w5 ⟨rfl, hb⟩
                    replace HB := below_step HB hb
                    clear hb P3b P4
                    go_wp2_with fail
                    (with_reducible refine (fits_v q c a k y _ hy (by omega) (by omega)).mono ?_)
                    rintro e w6 ⟨he, hb⟩
                    replace HB := below_step HB hb
                    clear hb
                    obtain rfl : e = .returned (.tuple #[.bool b1, .int .i64 0]) := by rw [he, HX1.out] <;> rfl
                    clear he
                    go_wp2_with fail
                    (with_reducible refine (fits_v q c a k x _ hx (by omega) (by omega)).mono ?_)
                    rintro e w7 ⟨he, hb⟩
                    replace HB := below_step HB hb
                    clear hb
                    obtain rfl : e = .returned (.tuple #[.bool false, .int .i64 0]) := by rw [he, HX2.out] <;> rfl
                    clear he
                    go_wp2_with fail
                    (with_reducible refine (least_v q c a y _ hy).mono ?_)
                    rintro e w8 ⟨he, hb⟩
                    replace HB := below_step HB hb
                    clear hb
                    obtain rfl : e = .returned (.tuple #[.int .i64 i', .int .i64 j', .int .i64 0]) := by rw [he, HY1.out] <;> rfl
                    clear he
                    go_wp2_with fail
                    (with_reducible refine (least_v q c a x _ hx).mono ?_)
                    rintro e w10 ⟨he, hb⟩
                    replace HB := below_step HB hb
                    clear hb
                    obtain rfl : e = .returned (.tuple #[.int .i64 i, .int .i64 j, .int .i64 0]) := by rw [he, HY2.out] <;> rfl
                    clear he
                    go_wp2_with fail
                    (with_reducible refine (awake_c _).mono ?_)
                    rintro e w9 ⟨he, hb⟩
                    replace HB := below_step HB hb
                    clear hb
                    subst he
                    go_wp2
                    go_ret
                    exact ⟨rfl, HB⟩
                  · have HY1 := Lib.hid y1
                    have HY2 := Lib.hid y2
                    clear y1 y2
                    go_enter Try.func6, Try.ntmps6
                    go_wp2_with fail
                    (with_reducible refine (due_v q c a x _ hx).mono ?_)
                    rintro e w1 ⟨he, hb⟩
                    replace HB := below_step HB hb
                    clear hb
                    obtain rfl : e = .returned (.int .i64 0) := by rw [he, HD1.out] <;> rfl
                    clear he
                    go_wp2_with fail
                    (with_reducible refine (due_v q c a y _ hy).mono ?_)
                    rintro e w2 ⟨he, hb⟩
                    replace HB := below_step HB hb
                    clear hb
                    obtain rfl : e = .returned (.int .i64 0) := by rw [he, HD2.out] <;> rfl
                    clear he
                    go_wp2_with fail
                    (with_reducible refine (Parse_c x _ (by omega)).mono ?_)
                    rintro e w3 ⟨v3, rfl, hv, hb⟩
                    have P3 := Lib.hid hv
                    replace HB := below_step HB hb
                    clear hv hb
                    go_wp2_with fail
                    (with_reducible refine (Parse_c y _ (by omega)).mono ?_)
                    rintro e w4 ⟨v4, rfl, hv, hb⟩
                    have P4 := Lib.hid hv
                    have P3b := Lib.hid (P3.out.below hb)
                    replace HB := below_step HB hb
                    clear hv hb P3
                    go_wp2_with fail
                    (with_reducible refine (Cmp_c x y _ _ _ P3b.out P4.out).mono ?_)
                    rintro e w5 ⟨rfl, hb⟩
                    replace HB := below_step HB hb
                    clear hb P3b P4
                    go_wp2_with fail
                    (with_reducible refine (fits_v q c a k y _ hy (by omega) (by omega)).mono ?_)
                    rintro e w6 ⟨he, hb⟩
                    replace HB := below_step HB hb
                    clear hb
                    obtain rfl : e = .returned (.tuple #[.bool true, .int .i64 0]) := by rw [he, HX1.out] <;> rfl
                    clear he
                    go_wp2_with fail
                    (with_reducible refine (fits_v q c a k x _ hx (by omega) (by omega)).mono ?_)
                    rintro e w7 ⟨he, hb⟩
                    replace HB := below_step HB hb
                    clear hb
                    obtain rfl : e = .returned (.tuple #[.bool true, .int .i64 0]) := by rw [he, HX2.out] <;> rfl
                    clear he
                    go_wp2_with fail
                    (with_reducible refine (least_v q c a y _ hy).mono ?_)
                    rintro e w8 ⟨he, hb⟩
                    replace HB := below_step HB hb
                    clear hb
                    obtain rfl : e = .returned (.tuple #[.int .i64 i, .int .i64 j, .int .i64 0]) := by rw [he, HY1.out] <;> rfl
                    clear he
                    go_wp2_with fail
                    (with_reducible refine (least_v q c a x _ hx).mono ?_)
                    rintro e w10 ⟨he, hb⟩
                    replace HB := below_step HB hb
                    clear hb
                    obtain rfl : e = .returned (.tuple #[.int .i64 0, .int .i64 0, .int .i64 4]) := by rw [he, HY2.out] <;> rfl
                    clear he
                    go_wp2_with fail
                    (with_reducible refine (awake_c _).mono ?_)
                    rintro e w9 ⟨he, hb⟩
                    replace HB := below_step HB hb
                    clear hb
                    subst he
                    go_wp2
                    go_ret
                    exact ⟨rfl, HB⟩
                  · have HY1 := Lib.hid y1
                    have HY2 := Lib.hid y2
                    clear y1 y2
                    go_enter Try.func6, Try.ntmps6
                    go_wp2_with fail
                    (with_reducible refine (due_v q c a x _ hx).mono ?_)
                    rintro e w1 ⟨he, hb⟩
                    replace HB := below_step HB hb
                    clear hb
                    obtain rfl : e = .returned (.int .i64 0) := by rw [he, HD1.out] <;> rfl
                    clear he
                    go_wp2_with fail
                    (with_reducible refine (due_v q c a y _ hy).mono ?_)
                    rintro e w2 ⟨he, hb⟩
                    replace HB := below_step HB hb
                    clear hb
                    obtain rfl : e = .returned (.int .i64 0) := by rw [he, HD2.out] <;> rfl
                    clear he
                    go_wp2_with fail
                    (with_reducible refine (Parse_c x _ (by omega)).mono ?_)
                    rintro e w3 ⟨v3, rfl, hv, hb⟩
                    have P3 := Lib.hid hv
                    replace HB := below_step HB hb
                    clear hv hb
                    go_wp2_with fail
                    (with_reducible refine (Parse_c y _ (by omega)).mono ?_)
                    rintro e w4 ⟨v4, rfl, hv, hb⟩
                    have P4 := Lib.hid hv
                    have P3b := Lib.hid (P3.out.below hb)
                    replace HB := below_step HB hb
                    clear hv hb P3
                    go_wp2_with fail
                    (with_reducible refine (Cmp_c x y _ _ _ P3b.out P4.out).mono ?_)
                    rintro e w5 ⟨rfl, hb⟩
                    replace HB := below_step HB hb
                    clear hb P3b P4
                    go_wp2_with fail
                    (with_reducible refine (fits_v q c a k y _ hy (by omega) (by omega)).mono ?_)
                    rintro e w6 ⟨he, hb⟩
                    replace HB := below_step HB hb
                    clear hb
                    obtain rfl : e = .returned (.tuple #[.bool b1, .int .i64 0]) := by rw [he, HX1.out] <;> rfl
                    clear he
                    go_wp2_with fail
                    (with_reducible refine (fits_v q c a k x _ hx (by omega) (by omega)).mono ?_)
                    rintro e w7 ⟨he, hb⟩
                    replace HB := below_step HB hb
                    clear hb
                    obtain rfl : e = .returned (.tuple #[.bool false, .int .i64 0]) := by rw [he, HX2.out] <;> rfl
                    clear he
                    go_wp2_with fail
                    (with_reducible refine (least_v q c a y _ hy).mono ?_)
                    rintro e w8 ⟨he, hb⟩
                    replace HB := below_step HB hb
                    clear hb
                    obtain rfl : e = .returned (.tuple #[.int .i64 i, .int .i64 j, .int .i64 0]) := by rw [he, HY1.out] <;> rfl
                    clear he
                    go_wp2_with fail
                    (with_reducible refine (least_v q c a x _ hx).mono ?_)
                    rintro e w10 ⟨he, hb⟩
                    replace HB := below_step HB hb
                    clear hb
                    obtain rfl : e = .returned (.tuple #[.int .i64 0, .int .i64 0, .int .i64 4]) := by rw [he, HY2.out] <;> rfl
                    clear he
                    go_wp2_with fail
                    (with_reducible refine (awake_c _).mono ?_)
                    rintro e w9 ⟨he, hb⟩
                    replace HB := below_step HB hb
                    clear hb
                    subst he
                    go_wp2
                    go_ret
                    exact ⟨rfl, HB⟩
                  · have HY1 := Lib.hid y1
                    have HY2 := Lib.hid y2
                    clear y1 y2
                    go_enter Try.func6, Try.ntmps6
                    go_wp2_with fail
                    (with_reducible refine (due_v q c a x _ hx).mono ?_)
                    rintro e w1 ⟨he, hb⟩
                    replace HB := below_step HB hb
                    clear hb
                    obtain rfl : e = .returned (.int .i64 0) := by rw [he, HD1.out] <;> rfl
                    clear he
                    go_wp2_with fail
                    (with_reducible refine (due_v q c a y _ hy).mono ?_)
                    rintro e w2 ⟨he, hb⟩
                    replace HB := below_step HB hb
                    clear hb
                    obtain rfl : e = .returned (.int .i64 0) := by rw [he, HD2.out] <;> rfl
                    clear he
                    go_wp2_with fail
                    (with_reducible refine (Parse_c x _ (by omega)).mono ?_)
                    rintro e w3 ⟨v3, rfl, hv, hb⟩
                    have P3 := Lib.hid hv
                    replace HB := below_step HB hb
                    clear hv hb
                    go_wp2_with fail
                    (with_reducible refine (Parse_c y _ (by omega)).mono ?_)
                    rintro e w4 ⟨v4, rfl, hv, hb⟩
                    have P4 := Lib.hid hv
                    have P3b := Lib.hid (P3.out.below hb)
                    replace HB := below_step HB hb
                    clear hv hb P3
                    go_wp2_with fail
                    (with_reducible refine (Cmp_c x y _ _ _ P3b.out P4.out).mono ?_)
                    rintro e w5 ⟨rfl, hb⟩
                    replace HB := below_step HB hb
                    clear hb P3b P4
                    go_wp2_with fail
                    (with_reducible refine (fits_v q c a k y _ hy (by omega) (by omega)).mono ?_)
                    rintro e w6 ⟨he, hb⟩
                    replace HB := below_step HB hb
                    clear hb
                    obtain rfl : e = .returned (.tuple #[.bool true, .int .i64 0]) := by rw [he, HX1.out] <;> rfl
                    clear he
                    go_wp2_with fail
                    (with_reducible refine (fits_v q c a k x _ hx (by omega) (by omega)).mono ?_)
                    rintro e w7 ⟨he, hb⟩
                    replace HB := below_step HB hb
                    clear hb
                    obtain rfl : e = .returned (.tuple #[.bool true, .int .i64 0]) := by rw [he, HX2.out] <;> rfl
                    clear he
                    go_wp2_with fail
                    (with_reducible refine (least_v q c a y _ hy).mono ?_)
                    rintro e w8 ⟨he, hb⟩
                    replace HB := below_step HB hb
                    clear hb
                    obtain rfl : e = .returned (.tuple #[.int .i64 0, .int .i64 0, .int .i64 4]) := by rw [he, HY1.out] <;> rfl
                    clear he
                    go_wp2_with fail
                    (with_reducible refine (least_v q c a x _ hx).mono ?_)
                    rintro e w10 ⟨he, hb⟩
                    replace HB := below_step HB hb
                    clear hb
                    obtain rfl : e = .returned (.tuple #[.int .i64 0, .int .i64 0, .int .i64 4]) := by rw [he, HY2.out] <;> rfl
                    clear he
                    go_wp2_with fail
                    (with_reducible refine (awake_c _).mono ?_)
                    rintro e w9 ⟨he, hb⟩
                    replace HB := below_step HB hb
                    clear hb
                    subst he
                    go_wp2
                    go_ret
                    exact ⟨rfl, HB⟩
                  · have HY1 := Lib.hid y1
                    have HY2 := Lib.hid y2
                    clear y1 y2
                    go_enter Try.func6, Try.ntmps6
                    go_wp2_with fail
                    (with_reducible refine (due_v q c a x _ hx).mono ?_)
                    rintro e w1 ⟨he, hb⟩
                    replace HB := below_step HB hb
                    clear hb
                    obtain rfl : e = .returned (.int .i64 0) := by rw [he, HD1.out] <;> rfl
                    clear he
                    go_wp2_with fail
                    (with_reducible refine (due_v q c a y _ hy).mono ?_)
                    rintro e w2 ⟨he, hb⟩
                    replace HB := below_step HB hb
                    clear hb
                    obtain rfl : e = .returned (.int .i64 0) := by rw [he, HD2.out] <;> rfl
                    clear he
                    go_wp2_with fail
                    (with_reducible refine (Parse_c x _ (by omega)).mono ?_)
                    rintro e w3 ⟨v3, rfl, hv, hb⟩
                    have P3 := Lib.hid hv
                    replace HB := below_step HB hb
                    clear hv hb
                    go_wp2_with fail
                    (with_reducible refine (Parse_c y _ (by omega)).mono ?_)
                    rintro e w4 ⟨v4, rfl, hv, hb⟩
                    have P4 := Lib.hid hv
                    have P3b := Lib.hid (P3.out.below hb)
                    replace HB := below_step HB hb
                    clear hv hb P3
                    go_wp2_with fail
                    (with_reducible refine (Cmp_c x y _ _ _ P3b.out P4.out).mono ?_)
                    rintro e w5 ⟨rfl, hb⟩
                    replace HB := below_step HB hb
                    clear hb P3b P4
                    go_wp2_with fail
                    (with_reducible refine (fits_v q c a k y _ hy (by omega) (by omega)).mono ?_)
                    rintro e w6 ⟨he, hb⟩
                    replace HB := below_step HB hb
                    clear hb
                    obtain rfl : e = .returned (.tuple #[.bool b1, .int .i64 0]) := by rw [he, HX1.out] <;> rfl
                    clear he
                    go_wp2_with fail
                    (with_reducible refine (fits_v q c a k x _ hx (by omega) (by omega)).mono ?_)
                    rintro e w7 ⟨he, hb⟩
                    replace HB := below_step HB hb
                    clear hb
                    obtain rfl : e = .returned (.tuple #[.bool false, .int .i64 0]) := by rw [he, HX2.out] <;> rfl
                    clear he
                    go_wp2_with fail
                    (with_reducible refine (least_v q c a y _ hy).mono ?_)
                    rintro e w8 ⟨he, hb⟩
                    replace HB := below_step HB hb
                    clear hb
                    obtain rfl : e = .returned (.tuple #[.int .i64 0, .int .i64 0, .int .i64 4]) := by rw [he, HY1.out] <;> rfl
                    clear he
                    go_wp2_with fail
                    (with_reducible refine (least_v q c a x _ hx).mono ?_)
                    rintro e w10 ⟨he, hb⟩
                    replace HB := below_step HB hb
                    clear hb
                    obtain rfl : e = .returned (.tuple #[.int .i64 0, .int .i64 0, .int .i64 4]) := by rw [he, HY2.out] <;> rfl
                    clear he
                    go_wp2_with fail
                    (with_reducible refine (awake_c _).mono ?_)
                    rintro e w9 ⟨he, hb⟩
                    replace HB := below_step HB hb
                    clear hb
                    subst he
                    go_wp2
                    go_ret
                    exact ⟨rfl, HB⟩
end Go.Proofs.Ytiaeeclmlchpoaa
