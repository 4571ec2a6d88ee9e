/- What the law's looks at the arguments do to memory and what they return. No condition. -/
import Derived.Test.YtiaeeclmlchpoaaZ5
set_option linter.unusedVariables false
set_option linter.unusedSimpArgs false
namespace Go.Proofs.Ytiaeeclmlchpoaa
open Go.RowKit

def dueE (q c z a : Int) : Int := if askE q c z a then 0 else 2
set_option maxRecDepth 100000 in
set_option maxHeartbeats 4000000 in
theorem due_c (q c a : Int) (s : ByteArray) (w : World) (hs : s.size ≤ 9223372036854775807) :
    Calls Try.prog 12 #[.int .i64 q, .int .i64 c, .string s, .int .i64 a] w fun e w' => Below w.heap.size w w' ∧
      ((vldL (codes s) = false ∧ e = .returned (.int .i64 1)) ∨
       ∃ z : Int, s = tS z ∧ dlN z.natAbs ≤ 2000 ∧ e = .returned (.int .i64 (dueE q c z a))) := by
  have HV0 := Lib.hid (Valid_c s w hs)
  have hB : Below w.heap.size w w := Below.refl _ _
  cases hv : vldL (codes s) with
  | false =>
    have HV := Lib.hid hv
    clear hv
    go_enter Try.func12, Try.ntmps12
    go_wp2_with fail
    (with_reducible refine HV0.out.mono ?_)
    rintro e w1 ⟨rfl, hw1⟩
    subst hw1
    rw [HV.out]
    go_wp2
    go_ret
    exact ⟨hB, .inl ⟨by trivial, rfl⟩⟩
  | true =>
    obtain ⟨z, hsz, hz⟩ := dig_of_valid hv
    have HV := Lib.hid hv
    have HSz := Lib.hid hsz
    clear hv hsz
    cases hk : kinB q c with
    | false =>
      have HE : Hid (dueE q c z a = 2) := by show _ = _; unfold dueE askE; rw [hk]; rfl
      have HK := Lib.hid hk
      clear hk
      go_enter Try.func12, Try.ntmps12
      go_wp2_with fail
      (with_reducible refine HV0.out.mono ?_)
      rintro e w1 ⟨rfl, hw1⟩
      subst hw1
      rw [HV.out]
      go_wp2_with fail
      (with_reducible refine (Kin8_c q c _).mono ?_)
      rintro e w1 ⟨rfl, hw1⟩
      subst hw1
      rw [HK.out]
      go_wp2
      go_ret
      exact ⟨hB, .inr ⟨z, HSz.out, hz, by rw [HE.out]; rfl⟩⟩
    | true =>
      have HK := Lib.hid hk
      clear hk
      by_cases hz0 : 0 < z
      · have hsg : (if z = 0 then (0 : Int) else if z < 0 then -1 else 1) = 1 := by rw [if_neg (by omega), if_neg (by omega)]
        have HSG := Lib.hid hsg
        clear hsg
        by_cases ha1 : a < 1
        · have HE : Hid (dueE q c z a = 2) := by show _ = _; unfold dueE askE; rw [decide_eq_false (show ¬ 1 ≤ a by omega)]; simp
          go_enter Try.func12, Try.ntmps12
          go_wp2_with fail
          (with_reducible refine HV0.out.mono ?_)
          rintro e w1 ⟨rfl, hw1⟩
          subst hw1
          rw [HV.out]
          go_wp2_with fail
          (with_reducible refine (Kin8_c q c _).mono ?_)
          rintro e w1 ⟨rfl, hw1⟩
          subst hw1
          rw [HK.out]
          go_wp2_with fail
          rw [HSz.out]
          (with_reducible refine (Parse_c z _ (by omega)).mono ?_)
          rintro e w2 ⟨v, rfl, hv, hb2⟩
          have HP := Lib.hid hv
          clear hv
          go_wp2_with fail
          (with_reducible refine (Sign_c z _ _ HP.out).mono ?_)
          rintro e w3 ⟨rfl, hb3⟩
          have HB := below_step hb2 hb3
          clear hb2 hb3 HP
          rw [HSG.out]
          go_wp2
          go_ret
          exact ⟨HB, .inr ⟨z, HSz.out, hz, by rw [HE.out]; rfl⟩⟩
        · by_cases ha2 : 20000 < a
          · have HE : Hid (dueE q c z a = 2) := by show _ = _; unfold dueE askE; rw [decide_eq_false (show ¬ a ≤ 20000 by omega)]; simp
            go_enter Try.func12, Try.ntmps12
            go_wp2_with fail
            (with_reducible refine HV0.out.mono ?_)
            rintro e w1 ⟨rfl, hw1⟩
            subst hw1
            rw [HV.out]
            go_wp2_with fail
            (with_reducible refine (Kin8_c q c _).mono ?_)
            rintro e w1 ⟨rfl, hw1⟩
            subst hw1
            rw [HK.out]
            go_wp2_with fail
            rw [HSz.out]
            (with_reducible refine (Parse_c z _ (by omega)).mono ?_)
            rintro e w2 ⟨v, rfl, hv, hb2⟩
            have HP := Lib.hid hv
            clear hv
            go_wp2_with fail
            (with_reducible refine (Sign_c z _ _ HP.out).mono ?_)
            rintro e w3 ⟨rfl, hb3⟩
            have HB := below_step hb2 hb3
            clear hb2 hb3 HP
            rw [HSG.out]
            go_wp2
            go_ret
            exact ⟨HB, .inr ⟨z, HSz.out, hz, by rw [HE.out]; rfl⟩⟩
          · have HE : Hid (dueE q c z a = 0) := by show _ = _; unfold dueE askE; rw [HK.out, decide_eq_true hz0, decide_eq_true (show 1 ≤ a by omega), decide_eq_true (show a ≤ 20000 by omega)]; rfl
            go_enter Try.func12, Try.ntmps12
            go_wp2_with fail
            (with_reducible refine HV0.out.mono ?_)
            rintro e w1 ⟨rfl, hw1⟩
            subst hw1
            rw [HV.out]
            go_wp2_with fail
            (with_reducible refine (Kin8_c q c _).mono ?_)
            rintro e w1 ⟨rfl, hw1⟩
            subst hw1
            rw [HK.out]
            go_wp2_with fail
            rw [HSz.out]
            (with_reducible refine (Parse_c z _ (by omega)).mono ?_)
            rintro e w2 ⟨v, rfl, hv, hb2⟩
            have HP := Lib.hid hv
            clear hv
            go_wp2_with fail
            (with_reducible refine (Sign_c z _ _ HP.out).mono ?_)
            rintro e w3 ⟨rfl, hb3⟩
            have HB := below_step hb2 hb3
            clear hb2 hb3 HP
            rw [HSG.out]
            go_wp2
            go_ret
            exact ⟨HB, .inr ⟨z, HSz.out, hz, by rw [HE.out]; rfl⟩⟩
      · have hsg : (if z = 0 then (0 : Int) else if z < 0 then -1 else 1) ≤ 0 := by split <;> (try split) <;> omega
        have HE : Hid (dueE q c z a = 2) := by show _ = _; unfold dueE askE; rw [decide_eq_false hz0]; simp
        obtain ⟨sg, hs0⟩ : ∃ sg, (if z = 0 then (0 : Int) else if z < 0 then -1 else 1) = sg := ⟨_, rfl⟩
        rw [hs0] at hsg
        have HSG := Lib.hid hs0
        clear hs0
        go_enter Try.func12, Try.ntmps12
        go_wp2_with fail
        (with_reducible refine HV0.out.mono ?_)
        rintro e w1 ⟨rfl, hw1⟩
        subst hw1
        rw [HV.out]
        go_wp2_with fail
        (with_reducible refine (Kin8_c q c _).mono ?_)
        rintro e w1 ⟨rfl, hw1⟩
        subst hw1
        rw [HK.out]
        go_wp2_with fail
        rw [HSz.out]
        (with_reducible refine (Parse_c z _ (by omega)).mono ?_)
        rintro e w2 ⟨v, rfl, hv, hb2⟩
        have HP := Lib.hid hv
        clear hv
        go_wp2_with fail
        (with_reducible refine (Sign_c z _ _ HP.out).mono ?_)
        rintro e w3 ⟨rfl, hb3⟩
        have HB := below_step hb2 hb3
        clear hb2 hb3 HP
        rw [HSG.out]
        go_wp2
        go_ret
        exact ⟨HB, .inr ⟨z, HSz.out, hz, by rw [HE.out]; rfl⟩⟩

theorem dl_N (z : Int) : dl z = dlN z.natAbs := by
  unfold dl
  split
  · rename_i h; subst h; rfl
  · rename_i h; unfold dlN; rw [txN_length (by omega)]
theorem len9 {z : Int} (h : dlN z.natAbs ≤ 2000) : (dg B9 z).length ≤ 2000 := by
  unfold dg
  rcases Nat.eq_zero_or_pos z.natAbs with h0 | h0
  · rw [h0, digs_zero]; simp
  · have e : dlN z.natAbs = (digs 10 z.natAbs).length := by unfold dlN; exact txN_length h0
    have h1 := digs_len_lt (B := 10) (by omega) z.natAbs
    have h2 : (10 : Nat) ^ (digs 10 z.natAbs).length ≤ B9 ^ (digs 10 z.natAbs).length := Nat.pow_le_pow_left (by decide) _
    have := digs_len_le B9two (Nat.lt_of_lt_of_le h1 h2)
    omega
def heavyB (q c z a most : Int) : Bool := decide (1 ≤ a) && decide (a ≤ 20000) && kinB q c && !decide (100000 < a * (dl (q * z + c) : Int)) && decide (most < a * (dl (q * z + c) : Int))
set_option maxRecDepth 100000 in
set_option maxHeartbeats 4000000 in
theorem heavy_c (q c a most : Int) (s : ByteArray) (w : World) (hs : s.size ≤ 9223372036854775807) :
    Calls Try.prog 10 #[.int .i64 q, .int .i64 c, .string s, .int .i64 a, .int .i64 most] w fun e w' => Below w.heap.size w w' ∧
      ((vldL (codes s) = false ∧ e = .returned (.bool false)) ∨
       ∃ z : Int, s = tS z ∧ dlN z.natAbs ≤ 2000 ∧ e = .returned (.bool (heavyB q c z a most))) := by
  have HV0 := Lib.hid (fun w => Valid_c s w hs)
  have hB : Below w.heap.size w w := Below.refl _ _
  have hfin : ∀ r : Bool, (∀ z, s = tS z → heavyB q c z a most = r) → (vldL (codes s) = false → r = false) → ((vldL (codes s) = false ∧ Ending.returned (.bool r) = .returned (.bool false)) ∨
       ∃ z : Int, s = tS z ∧ dlN z.natAbs ≤ 2000 ∧ Ending.returned (.bool r) = .returned (.bool (heavyB q c z a most))) := fun r h1 h2 => by
    rcases Bool.eq_false_or_eq_true (vldL (codes s)) with hv | hv
    · obtain ⟨z, h3, h4⟩ := dig_of_valid hv
      exact .inr ⟨z, h3, h4, by rw [h1 z h3]⟩
    · exact .inl ⟨hv, by rw [h2 hv]⟩
  have HF := Lib.hid hfin
  clear hfin
  by_cases ha1 : a < 1
  · go_enter Try.func10, Try.ntmps10
    go_wp2
    go_ret
    exact ⟨hB, HF.out false (fun z _ => by unfold heavyB; rw [decide_eq_false (show ¬ 1 ≤ a by omega)]; rfl) (fun _ => rfl)⟩
  · by_cases ha2 : 20000 < a
    · go_enter Try.func10, Try.ntmps10
      go_wp2
      go_ret
      exact ⟨hB, HF.out false (fun z _ => by unfold heavyB; rw [decide_eq_false (show ¬ a ≤ 20000 by omega)]; simp) (fun _ => rfl)⟩
    · rcases Bool.eq_false_or_eq_true (vldL (codes s)) with hv | hv
      rotate_left
      · have HV := Lib.hid hv
        clear hv
        go_enter Try.func10, Try.ntmps10
        go_wp2_with fail
        (with_reducible refine (HV0.out _).mono ?_)
        rintro e w1 ⟨rfl, hw1⟩
        subst hw1
        rw [HV.out]
        go_wp2
        go_ret
        exact ⟨hB, .inl ⟨HV.out, rfl⟩⟩
      · obtain ⟨z, hsz, hz⟩ := dig_of_valid hv
        have HV := Lib.hid hv
        have HSz := Lib.hid hsz
        clear hv hsz
        rcases Bool.eq_false_or_eq_true (kinB q c) with hk | hk
        rotate_left
        · have HK := Lib.hid hk
          clear hk
          go_enter Try.func10, Try.ntmps10
          go_wp2_with fail
          (with_reducible refine (HV0.out _).mono ?_)
          rintro e w1 ⟨rfl, hw1⟩
          subst hw1
          rw [HV.out]
          go_wp2_with fail
          (with_reducible refine (Kin8_c q c _).mono ?_)
          rintro e w1 ⟨rfl, hw1⟩
          subst hw1
          rw [HK.out]
          go_wp2
          go_ret
          exact ⟨hB, HF.out false (fun z _ => by unfold heavyB; rw [HK.out]; simp) (fun _ => rfl)⟩
        · obtain ⟨k1, k2, k3, k4, k5, k6⟩ := kinB_spec hk
          have HK := Lib.hid hk
          have HQ : Hid (-1000000 < q ∧ q < 1000000) := ⟨by omega, by omega⟩
          have HC : Hid (-1000000 < c ∧ c < 1000000) := ⟨by omega, by omega⟩
          have hl9 := len9 hz
          have hlz : (dg B9 z).length ≤ 900000000 := by omega
          have hls : (dg B9 (q * z + c)).length ≤ 1000000000000 := by
            have h1 := len_mul B9two q z
            have h2 := len_add B9two (q * z) c
            have h3 : (dg B9 q).length ≤ 2 := len_int (by omega) (by omega)
            have h4 : (dg B9 c).length ≤ 2 := len_int (by omega) (by omega)
            omega
          obtain ⟨D, hD⟩ : ∃ D, dl (q * z + c) = D := ⟨_, rfl⟩
          have hDl : D ≤ 100000000 := by
            rw [← hD]
            have h1 := len_mul B9two q z
            have h2 := len_add B9two (q * z) c
            have h3 : (dg B9 q).length ≤ 2 := len_int (by omega) (by omega)
            have h4 : (dg B9 c).length ≤ 2 := len_int (by omega) (by omega)
            have := dl_le (q * z + c)
            omega
          have m1 : 0 ≤ a * (D : Int) := Int.mul_nonneg (by omega) (by omega)
          have m2 : a * (D : Int) ≤ 20000 * 100000000 := Int.mul_le_mul (by omega) (by omega) (by omega) (by omega)
          have HD := Lib.hid hD
          clear hk k3 k6 hD
          by_cases hlong : 100000 < a * (D : Int)
          · have hl : decide (100000 < a * (D : Int)) = true := decide_eq_true hlong
            have HE : Hid (∀ z', s = tS z' → heavyB q c z' a most = false) := fun z' h => by
              have := tS_inj (h.symm.trans HSz.out); subst this
              unfold heavyB; rw [HD.out, hl]; simp
            go_enter Try.func10, Try.ntmps10
            go_wp2_with fail
            (with_reducible refine (HV0.out _).mono ?_)
            rintro e w1 ⟨rfl, hw1⟩
            subst hw1
            rw [HV.out]
            go_wp2_with fail
            (with_reducible refine (Kin8_c q c _).mono ?_)
            rintro e w1 ⟨rfl, hw1⟩
            subst hw1
            rw [HK.out]
            go_wp2_with fail
            rw [HSz.out]
            (with_reducible refine (Parse_c z _ (by omega)).mono ?_)
            rintro e w2 ⟨v, rfl, hv, hb2⟩
            have HP := Lib.hid hv
            clear hv
            go_wp2_with fail
            (with_reducible refine (Long_c q c z a _ _ HP.out HQ.out HC.out hlz (by omega) (by omega)).mono ?_)
            rintro e w3 ⟨rfl, hb3⟩
            have HB := below_step hb2 hb3
            clear hb2 hb3 HP
            rw [HD.out]
            go_wp2
            go_ret
            exact ⟨HB, HF.out false (HE.out) (fun _ => rfl)⟩
          · have hl : decide (100000 < a * (D : Int)) = false := decide_eq_false hlong
            have HE : Hid (∀ z', s = tS z' → heavyB q c z' a most = decide (most < a * (D : Int))) := fun z' h => by
              have := tS_inj (h.symm.trans HSz.out); subst this
              unfold heavyB; rw [HD.out, hl, HK.out, decide_eq_true (show 1 ≤ a by omega), decide_eq_true (show a ≤ 20000 by omega)]; rfl
            go_enter Try.func10, Try.ntmps10
            go_wp2_with fail
            (with_reducible refine (HV0.out _).mono ?_)
            rintro e w1 ⟨rfl, hw1⟩
            subst hw1
            rw [HV.out]
            go_wp2_with fail
            (with_reducible refine (Kin8_c q c _).mono ?_)
            rintro e w1 ⟨rfl, hw1⟩
            subst hw1
            rw [HK.out]
            go_wp2_with fail
            rw [HSz.out]
            (with_reducible refine (Parse_c z _ (by omega)).mono ?_)
            rintro e w2 ⟨v, rfl, hv, hb2⟩
            have HP := Lib.hid hv
            clear hv
            go_wp2_with fail
            (with_reducible refine (Long_c q c z a _ _ HP.out HQ.out HC.out hlz (by omega) (by omega)).mono ?_)
            rintro e w3 ⟨rfl, hb3⟩
            have HB := below_step hb2 hb3
            clear hb2 hb3 HP
            rw [HD.out]
            go_wp2_with fail
            (with_reducible refine (Parse_c z _ (by omega)).mono ?_)
            rintro e w4 ⟨v4, rfl, hv, hb4⟩
            have HP := Lib.hid hv
            clear hv
            go_wp2_with fail
            (with_reducible refine (Sum_c q c z _ _ HP.out HQ.out HC.out hlz).mono ?_)
            rintro e w5 ⟨v5, rfl, hv, hb5⟩
            have HS := Lib.hid hv
            clear hv HP
            go_wp2_with fail
            (with_reducible refine (Digits_c (q * z + c) _ _ HS.out hls).mono ?_)
            rintro e w6 ⟨rfl, hb6⟩
            have HB6 := below_step (below_step (below_step HB hb4) hb5) hb6
            clear hb4 hb5 hb6 HS
            rw [HD.out]
            go_wp2
            go_ret
            exact ⟨HB6, HF.out (decide (most < a * (D : Int))) (HE.out) (fun h => by rw [HV.out] at h; cases h)⟩
end Go.Proofs.Ytiaeeclmlchpoaa

set_option linter.unusedVariables false
set_option linter.unusedSimpArgs false
namespace Go.Proofs.Ytiaeeclmlchpoaa
open Go.RowKit

theorem fits_N {q c z : Int} (hq : 0 ≤ q) (hc : 0 ≤ c) (hz : 0 ≤ z) (a k : Nat) : fits q c z a k = fitN q.toNat c.toNat z.natAbs a k := by
  obtain ⟨q, rfl⟩ := Int.eq_ofNat_of_zero_le hq
  obtain ⟨c, rfl⟩ := Int.eq_ofNat_of_zero_le hc
  obtain ⟨z, rfl⟩ := Int.eq_ofNat_of_zero_le hz
  unfold fits fitN
  have e2 : (2 : Int) ^ k = ((2 ^ k : Nat) : Int) := by rw [Int.natCast_pow]; rfl
  rw [Int.toNat_natCast, Int.toNat_natCast, Int.natAbs_natCast, e2]
  simp only [← Int.natCast_pow, ← Int.natCast_mul, ← Int.natCast_add]
  congr 1
  · exact decide_eq_decide.2 (by omega)
  · exact decide_eq_decide.2 (by rw [Nat.mul_comm (z ^ a)]; omega)
set_option maxRecDepth 100000 in
set_option maxHeartbeats 4000000 in
theorem BFits_law (q c a k : Int) (s : ByteArray) (w : World) (hs : s.size ≤ 9223372036854775807) (hk0 : -9223372036854775808 ≤ k) (hk1 : k ≤ 9223372036854775807) :
    Calls Try.prog 3 #[.int .i64 q, .int .i64 c, .string s, .int .i64 a, .int .i64 k] w fun e w' => e = .returned (.bool true) ∧ Below w.heap.size w w' := by
  have F := Lib.hid (fun w => bFits_c q c a k s w hs hk0 hk1)
  go_enter Try.func3, Try.ntmps3
  go_wp2_with fail
  (with_reducible refine (heavy_c q c a 30000 s _ hs).mono ?_)
  rintro e w1 ⟨HB, h⟩
  obtain ⟨hb, rfl⟩ : ∃ hb, e = .returned (.bool hb) := by rcases h with ⟨_, rfl⟩ | ⟨_, _, _, rfl⟩ <;> exact ⟨_, rfl⟩
  clear h
  cases hb
  rotate_left
  · go_wp2_with fail
    (with_reducible refine (awake_c _).mono ?_)
    rintro e w2 ⟨rfl, hb2⟩
    have HB2 := below_step HB hb2
    clear hb2
    go_wp2
    go_ret
    exact ⟨rfl, HB2⟩
  · go_wp2_with fail
    (with_reducible refine (due_c q c a s _ hs).mono ?_)
    rintro e w2 ⟨hb2, h⟩
    replace HB := below_step HB hb2
    clear hb2
    rcases h with ⟨hv, rfl⟩ | ⟨z, hsz, hz, rfl⟩
    · have HV := Lib.hid hv
      clear hv
      go_wp2_with fail
      (with_reducible refine (F.out _).mono ?_)
      rintro e w8 ⟨hb8, h⟩
      replace HB := below_step HB hb8
      clear hb8
      obtain rfl : e = .returned (.tuple #[.bool false, .int .i64 1]) := by
        rcases h with ⟨_, rfl⟩ | ⟨z, hz, hd, _⟩; exact rfl; exact absurd HV.out (by rw [hz, codes_tS, vld_tx z hd]; exact Bool.noConfusion)
      clear h
      go_wp2_with fail
      (with_reducible refine (awake_c _).mono ?_)
      rintro e w9 ⟨rfl, hb9⟩
      have HB9 := below_step HB hb9
      clear hb9
      go_wp2
      go_ret
      exact ⟨rfl, HB9⟩
    · have HSz := Lib.hid hsz
      clear hsz
      rcases Bool.eq_false_or_eq_true (askE q c z a) with hE | hE
      rotate_left
      · have hd : dueE q c z a = 2 := by unfold dueE; rw [hE]; rfl
        have HR : Hid (bfit q c z a k = (false, 2)) := by show _ = _; unfold bfit; rw [if_pos hE]
        rw [hd]
        clear hE hd
        go_wp2_with fail
        (with_reducible refine (F.out _).mono ?_)
        rintro e w8 ⟨hb8, h⟩
        replace HB := below_step HB hb8
        clear hb8
        obtain rfl : e = .returned (.tuple #[.bool false, .int .i64 2]) := by
          rcases h with ⟨hv, _⟩ | ⟨z', hz', _, rfl⟩; exact absurd hv (by rw [HSz.out, codes_tS, vld_tx z hz]; exact Bool.noConfusion); (have := tS_inj (hz'.symm.trans HSz.out); subst this; rw [HR.out])
        clear h
        go_wp2_with fail
        (with_reducible refine (awake_c _).mono ?_)
        rintro e w9 ⟨rfl, hb9⟩
        have HB9 := below_step HB hb9
        clear hb9
        go_wp2
        go_ret
        exact ⟨rfl, HB9⟩
      · have hd : dueE q c z a = 0 := by unfold dueE; rw [hE]; rfl
        rw [hd]
        have HE : Hid (¬ askE q c z a = false) := by rw [hE]; exact Bool.noConfusion
        obtain ⟨hkb, hz0, ha1, ha2⟩ := askE_spec hE
        obtain ⟨k1, k2, k3, k4, k5, k6⟩ := kinB_spec hkb
        clear hE hd k3 k6 hkb
        by_cases h1 : k < 1
        · have HR : Hid (bfit q c z a k = (false, 2)) := by show _ = _; unfold bfit; rw [if_neg HE.out, if_pos (.inl h1)]
          go_wp2_with fail
          (with_reducible refine (F.out _).mono ?_)
          rintro e w8 ⟨hb8, h⟩
          replace HB := below_step HB hb8
          clear hb8
          obtain rfl : e = .returned (.tuple #[.bool false, .int .i64 2]) := by
            rcases h with ⟨hv, _⟩ | ⟨z', hz', _, rfl⟩; exact absurd hv (by rw [HSz.out, codes_tS, vld_tx z hz]; exact Bool.noConfusion); (have := tS_inj (hz'.symm.trans HSz.out); subst this; rw [HR.out])
          clear h
          go_wp2_with fail
          (with_reducible refine (awake_c _).mono ?_)
          rintro e w9 ⟨rfl, hb9⟩
          have HB9 := below_step HB hb9
          clear hb9
          go_wp2
          go_ret
          exact ⟨rfl, HB9⟩
        · by_cases h2 : 200000 < k
          · have HR : Hid (bfit q c z a k = (false, 2)) := by show _ = _; unfold bfit; rw [if_neg HE.out, if_pos (.inr h2)]
            go_wp2_with fail
            (with_reducible refine (F.out _).mono ?_)
            rintro e w8 ⟨hb8, h⟩
            replace HB := below_step HB hb8
            clear hb8
            obtain rfl : e = .returned (.tuple #[.bool false, .int .i64 2]) := by
              rcases h with ⟨hv, _⟩ | ⟨z', hz', _, rfl⟩; exact absurd hv (by rw [HSz.out, codes_tS, vld_tx z hz]; exact Bool.noConfusion); (have := tS_inj (hz'.symm.trans HSz.out); subst this; rw [HR.out])
            clear h
            go_wp2_with fail
            (with_reducible refine (awake_c _).mono ?_)
            rintro e w9 ⟨rfl, hb9⟩
            have HB9 := below_step HB hb9
            clear hb9
            go_wp2
            go_ret
            exact ⟨rfl, HB9⟩
          · have hs' := HSz.out
            subst hs'
            have HQ : Hid (-1000000 < q ∧ q < 1000000) := ⟨by omega, by omega⟩
            have HC : Hid (-1000000 < c ∧ c < 1000000) := ⟨by omega, by omega⟩
            have hl9 := len9 hz
            have hlz : (dg B9 z).length ≤ 900000000 := by omega
            obtain ⟨a, rfl⟩ := Int.eq_ofNat_of_zero_le (show 0 ≤ a by omega)
            obtain ⟨k, rfl⟩ := Int.eq_ofNat_of_zero_le (show 0 ≤ k by omega)
            have hsz2 : ((dg B9 z).length + 4) * (2 * a + 1) + 1 ≤ 100000000 := by
              have := Nat.mul_le_mul (show (dg B9 z).length + 4 ≤ 2004 by omega) (show 2 * a + 1 ≤ 40001 by omega)
              omega
            obtain ⟨D, hD⟩ : ∃ D, dl (q * z + c) = D := ⟨_, rfl⟩
            have HD := Lib.hid hD
            clear hD
            have HX : Hid (bfit q c z a k = if 100000 < (a : Int) * (D : Int) then (false, 3) else (fits q c z a k, 0)) := by
              show _ = _; unfold bfit
              rw [if_neg HE.out, if_neg (by omega), ← dl_N, HD.out]
              split
              · rfl
              · rw [fits_N (by omega) (by omega) (by omega)]; rfl
            go_wp2_with fail
            (with_reducible refine (Parse_c z _ (by omega)).mono ?_)
            rintro e w3 ⟨v, rfl, hv, hb3⟩
            obtain ⟨n3, A3, m3, k3, rfl, H3⟩ := hv.form; clear hv
            have V := VX.new w3 28 H3.out
            replace HB := below_alloc (below_step HB hb3) (Obj.cells #[Value.bool n3, Value.slice A3 m3 k3] 28)
            clear hb3 H3
            go_wp2_with fail
            generalize hW : w3.alloc (Obj.cells #[Value.bool n3, Value.slice A3 m3 k3] 28) = W at *
            generalize w3.heap.size = b at *
            clear hW
            (with_reducible refine (Long_c q c z a _ _ V.iz.out HQ.out HC.out hlz (by omega) (by omega)).mono ?_)
            rintro e w4 ⟨rfl, hb4⟩
            replace HB := below_step HB hb4
            replace V := V.keep hb4
            clear hb4
            rw [HD.out]
            by_cases h3 : 100000 < (a : Int) * (D : Int)
            · have HR : Hid (bfit q c z a k = (false, 3)) := by show _ = _; rw [HX.out, if_pos h3]
              have h3b : decide (100000 < (a : Int) * (D : Int)) = true := decide_eq_true h3
              rw [h3b]
              clear h3 h3b
              go_wp2_with fail
              (with_reducible refine (F.out _).mono ?_)
              rintro e w8 ⟨hb8, h⟩
              replace HB := below_step HB hb8
              clear hb8
              obtain rfl : e = .returned (.tuple #[.bool false, .int .i64 3]) := by
                rcases h with ⟨hv, _⟩ | ⟨z', hz', _, rfl⟩; exact absurd hv (by rw [codes_tS, vld_tx z hz]; exact Bool.noConfusion); (have := tS_inj hz'; subst this; rw [HR.out])
              clear h
              go_wp2_with fail
              (with_reducible refine (awake_c _).mono ?_)
              rintro e w9 ⟨rfl, hb9⟩
              have HB9 := below_step HB hb9
              clear hb9
              go_wp2
              go_ret
              exact ⟨rfl, HB9⟩
            · have HR : Hid (bfit q c z a k = (fits q c z a k, 0)) := by show _ = _; rw [HX.out, if_neg h3]
              have h3b : decide (100000 < (a : Int) * (D : Int)) = false := decide_eq_false h3
              rw [h3b]
              clear h3 h3b
              have vc0 := V.c0; have vc1 := V.c1; have vl := V.lt
              go_wp2_with fail
              (with_reducible refine (Fits8_c q c z a k _ _ V.iz.out HQ.out HC.out hsz2 (by omega) (by omega)).mono ?_)
              rintro e w5 ⟨rfl, hb5⟩
              replace HB := below_step HB hb5
              clear hb5 V vc0 vc1 vl
              generalize fits q c z a k = rb at *
              go_wp2_with fail
              (with_reducible refine (F.out _).mono ?_)
              rintro e w8 ⟨hb8, h⟩
              replace HB := below_step HB hb8
              clear hb8
              obtain rfl : e = .returned (.tuple #[.bool rb, .int .i64 0]) := by
                rcases h with ⟨hv, _⟩ | ⟨z', hz', _, rfl⟩; exact absurd hv (by rw [codes_tS, vld_tx z hz]; exact Bool.noConfusion); (have := tS_inj hz'; subst this; rw [HR.out])
              clear h
              go_wp2_with fail
              (with_reducible refine (awake_c _).mono ?_)
              rintro e w9 ⟨rfl, hb9⟩
              have HB9 := below_step HB hb9
              clear hb9
              go_wp2
              go_ret
              exact ⟨rfl, HB9⟩
end Go.Proofs.Ytiaeeclmlchpoaa
