/- The law BoundBelow: it returns true. No condition. -/
import Derived.Test.YtiaeeclmlchpoaaZ9
import Derived.Deep.CutRange
import Derived.Deep.LoopGhost
set_option linter.unusedVariables false
set_option linter.unusedSimpArgs false
namespace Go.Proofs.Ytiaeeclmlchpoaa
open Go.RowKit

theorem len_dl {z : Int} (h : dlN z.natAbs ≤ 2000) : (dg B9 z).length ≤ 1000000000 := by have := len9 h; omega
set_option maxRecDepth 100000 in
set_option maxHeartbeats 4000000 in
theorem BBelow_law (q c a : Int) (w : World) :
    Calls Try.prog 5 #[.int .i64 q, .int .i64 c, .int .i64 a] w fun e w' => e = .returned (.bool true) ∧ Below w.heap.size w w' := by
  have HB : Below w.heap.size w w := Below.refl _ _
  cases hk : kinB q c with
  | false =>
    have HK := Lib.hid hk
    have HN : Hid ((kinB q c && decide (1 ≤ a) && decide (a ≤ 1000)) = false) := by show _ = _; rw [hk]; rfl
    clear hk
    by_cases h1 : 500 < a
    · by_cases h2 : a ≤ 1000
      · go_enter Try.func5, Try.ntmps5
        go_wp2_with fail
        (with_reducible refine (Kin8_c q c _).mono ?_)
        rintro e w1 ⟨rfl, hw1⟩
        subst hw1
        rw [HK.out]
        go_wp2_with fail
        (with_reducible refine (Kin8_c q c _).mono ?_)
        rintro e w1 ⟨rfl, hw1⟩
        subst hw1
        rw [HK.out]
        go_wp2_with fail
        (with_reducible refine (bBelow_c q c a _).mono ?_)
        rintro e w5 ⟨hb, h⟩
        replace HB := below_step HB hb
        clear hb
        obtain rfl : e = .returned (.tuple #[.string { data := #[] }, .int .i64 2]) := by
          rcases h with ⟨_, rfl⟩ | ⟨h, _⟩
          · rfl
          · rw [HN.out] at h; cases h
        clear h
        go_wp2_with fail
        (with_reducible refine (awake_c _).mono ?_)
        rintro e w9 ⟨he, hb⟩
        replace HB := below_step HB hb
        clear hb
        subst he
        go_wp2
        go_ret
        exact ⟨rfl, HB⟩
      · go_enter Try.func5, Try.ntmps5
        go_wp2_with fail
        (with_reducible refine (Kin8_c q c _).mono ?_)
        rintro e w1 ⟨rfl, hw1⟩
        subst hw1
        rw [HK.out]
        go_wp2_with fail
        (with_reducible refine (bBelow_c q c a _).mono ?_)
        rintro e w5 ⟨hb, h⟩
        replace HB := below_step HB hb
        clear hb
        obtain rfl : e = .returned (.tuple #[.string { data := #[] }, .int .i64 2]) := by
          rcases h with ⟨_, rfl⟩ | ⟨h, _⟩
          · rfl
          · rw [HN.out] at h; cases h
        clear h
        go_wp2_with fail
        (with_reducible refine (awake_c _).mono ?_)
        rintro e w9 ⟨he, hb⟩
        replace HB := below_step HB hb
        clear hb
        subst he
        go_wp2
        go_ret
        exact ⟨rfl, HB⟩
    · go_enter Try.func5, Try.ntmps5
      go_wp2_with fail
      (with_reducible refine (Kin8_c q c _).mono ?_)
      rintro e w1 ⟨rfl, hw1⟩
      subst hw1
      rw [HK.out]
      go_wp2_with fail
      (with_reducible refine (bBelow_c q c a _).mono ?_)
      rintro e w5 ⟨hb, h⟩
      replace HB := below_step HB hb
      clear hb
      obtain rfl : e = .returned (.tuple #[.string { data := #[] }, .int .i64 2]) := by
        rcases h with ⟨_, rfl⟩ | ⟨h, _⟩
        · rfl
        · rw [HN.out] at h; cases h
      clear h
      go_wp2_with fail
      (with_reducible refine (awake_c _).mono ?_)
      rintro e w9 ⟨he, hb⟩
      replace HB := below_step HB hb
      clear hb
      subst he
      go_wp2
      go_ret
      exact ⟨rfl, HB⟩
  | true =>
    obtain ⟨k1, k2, k3, k4, k5, k6⟩ := kinB_spec hk
    have HK := Lib.hid hk
    clear k3 k6
    by_cases h1 : 500 < a
    · by_cases h2 : a ≤ 1000
      · clear hk
        go_enter Try.func5, Try.ntmps5
        go_wp2_with fail
        (with_reducible refine (Kin8_c q c _).mono ?_)
        rintro e w1 ⟨rfl, hw1⟩
        subst hw1
        rw [HK.out]
        go_wp2_with fail
        (with_reducible refine (awake_c _).mono ?_)
        rintro e w9 ⟨he, hb⟩
        replace HB := below_step HB hb
        clear hb
        subst he
        go_wp2
        go_ret
        exact ⟨rfl, HB⟩
      · have HN : Hid ((kinB q c && decide (1 ≤ a) && decide (a ≤ 1000)) = false) := by show _ = _; rw [decide_eq_false h2]; simp
        clear hk
        go_enter Try.func5, Try.ntmps5
        go_wp2_with fail
        (with_reducible refine (Kin8_c q c _).mono ?_)
        rintro e w1 ⟨rfl, hw1⟩
        subst hw1
        rw [HK.out]
        go_wp2_with fail
        (with_reducible refine (bBelow_c q c a _).mono ?_)
        rintro e w5 ⟨hb, h⟩
        replace HB := below_step HB hb
        clear hb
        obtain rfl : e = .returned (.tuple #[.string { data := #[] }, .int .i64 2]) := by
          rcases h with ⟨_, rfl⟩ | ⟨h, _⟩
          · rfl
          · rw [HN.out] at h; cases h
        clear h
        go_wp2_with fail
        (with_reducible refine (awake_c _).mono ?_)
        rintro e w9 ⟨he, hb⟩
        replace HB := below_step HB hb
        clear hb
        subst he
        go_wp2
        go_ret
        exact ⟨rfl, HB⟩
    · by_cases h3 : 1 ≤ a
      · have HN : Hid ((kinB q c && decide (1 ≤ a) && decide (a ≤ 1000)) = true) := by show _ = _; rw [hk, decide_eq_true h3, decide_eq_true (show a ≤ 1000 by omega)]; rfl
        clear hk
        obtain ⟨a, rfl⟩ := Int.eq_ofNat_of_zero_le (show 0 ≤ a by omega)
        go_enter Try.func5, Try.ntmps5
        go_wp2_with fail
        (with_reducible refine (Kin8_c q c _).mono ?_)
        rintro e w1 ⟨rfl, hw1⟩
        subst hw1
        rw [HK.out]
        go_wp2_with fail
        (with_reducible refine (Below8_c q c a _ (by omega) (by omega) (by omega) (by omega) (by omega) (by omega)).mono ?_)
        rintro e w2 ⟨v, T, rfl, hv, hT, hb⟩
        replace HB := below_step HB hb
        have H2 := Lib.hid hv
        have LT := Lib.hid (len_dl (z := (T : Int)) (by exact thr_dig hT (by omega) (by omega) (by omega) (by omega) (by omega) (by omega)))
        have BV := Lib.hid (bel_val hT (by omega) (by omega) (by omega) (by omega) (by omega))
        have HT := Lib.hid hT
        clear hb hv hT
        go_wp2_with fail
        (with_reducible refine (Text_c (T : Int) _ _ H2.out LT.out).mono ?_)
        rintro e w3 ⟨rfl, hb⟩
        replace HB := below_step HB hb
        clear hb H2
        obtain ⟨TS, hTS⟩ : ∃ s, tS (T : Int) = s := ⟨_, rfl⟩
        rw [hTS] at BV ⊢
        clear hTS
        go_wp2_with fail
        (with_reducible refine (bBelow_c q c a _).mono ?_)
        rintro e w5 ⟨hb, h⟩
        replace HB := below_step HB hb
        clear hb
        obtain rfl : e = .returned (.tuple #[.string TS, .int .i64 0]) := by
          rcases h with ⟨h, _⟩ | ⟨_, T', hT', _, rfl⟩
          · rw [HN.out] at h; cases h
          · rw [Int.toNat_natCast] at hT'
            have := hT'.unique HT.out
            subst this
            rw [BV.out.1, BV.out.2]
        clear h BV
        go_wp2_with fail
        (with_reducible refine (awake_c _).mono ?_)
        rintro e w9 ⟨he, hb⟩
        replace HB := below_step HB hb
        clear hb
        subst he
        go_wp2
        go_ret
        exact ⟨rfl, HB⟩
      · have HN : Hid ((kinB q c && decide (1 ≤ a) && decide (a ≤ 1000)) = false) := by show _ = _; rw [decide_eq_false h3]; simp
        clear hk
        go_enter Try.func5, Try.ntmps5
        go_wp2_with fail
        (with_reducible refine (Kin8_c q c _).mono ?_)
        rintro e w1 ⟨rfl, hw1⟩
        subst hw1
        rw [HK.out]
        go_wp2_with fail
        (with_reducible refine (bBelow_c q c a _).mono ?_)
        rintro e w5 ⟨hb, h⟩
        replace HB := below_step HB hb
        clear hb
        obtain rfl : e = .returned (.tuple #[.string { data := #[] }, .int .i64 2]) := by
          rcases h with ⟨_, rfl⟩ | ⟨h, _⟩
          · rfl
          · rw [HN.out] at h; cases h
        clear h
        go_wp2_with fail
        (with_reducible refine (awake_c _).mono ?_)
        rintro e w9 ⟨he, hb⟩
        replace HB := below_step HB hb
        clear hb
        subst he
        go_wp2
        go_ret
        exact ⟨rfl, HB⟩
end Go.Proofs.Ytiaeeclmlchpoaa

set_option linter.unusedVariables false
set_option linter.unusedSimpArgs false
namespace Go.Proofs.Ytiaeeclmlchpoaa
open Go.RowKit

theorem fit_at {q c : Int} {a T : Nat} {t : Int} (hk : kinB q c = true) (hT : isThr q.toNat c.toNat a T) (ha1 : 1 ≤ a) (ha2 : a ≤ 180) (ht0 : 0 < t) (ht : t.toNat ≤ T + 1) {k : Int} (h1 : 1 ≤ k) (h2 : k ≤ 200000) :
    bfit q c t a k = (fitN q.toNat c.toNat t.toNat a k.toNat, 0) := by
  obtain ⟨k1, k2, k3, k4, k5, k6⟩ := kinB_spec hk
  rw [bfit_val (askE_mk hk ht0 (by omega) (by omega)) h1 h2]
  have e1 : (q * t + c).natAbs = q.toNat * t.toNat + c.toNat := by
    have h1 : (q.toNat : Int) = q := by omega
    have h2 : (t.toNat : Int) = t := by omega
    have h3 : (c.toNat : Int) = c := by omega
    have h4 : ((q.toNat * t.toNat + c.toNat : Nat) : Int) = q * t + c := by rw [Int.natCast_add, Int.natCast_mul, h1, h2, h3]
    omega
  rw [e1, if_neg (thr_err hT (by omega) (by omega) ha1 ha2 ht), Int.toNat_natCast, show t.natAbs = t.toNat by omega]
theorem bl_ge2 {q a : Nat} (hq : 3 ≤ q) (ha : 1 ≤ a) : 1 < bl (q ^ a) := by
  have h1 : q ^ 1 ≤ q ^ a := Nat.pow_le_pow_right (by omega) ha
  rw [Nat.pow_one] at h1
  have h2 := bl_lt (q ^ a)
  rcases Nat.lt_or_ge 1 (bl (q ^ a)) with h | h
  · exact h
  · have h3 : 2 ^ bl (q ^ a) ≤ 2 ^ 1 := Nat.pow_le_pow_right (by omega) h
    omega
set_option maxRecDepth 100000 in
set_option maxHeartbeats 4000000 in
theorem BBelows_law (q c a : Int) (w : World) :
    Calls Try.prog 7 #[.int .i64 q, .int .i64 c, .int .i64 a] w fun e w' => e = .returned (.bool true) ∧ Below w.heap.size w w' := by
  have HB : Below w.heap.size w w := Below.refl _ _
  cases hk : kinB q c with
  | false =>
    have HK := Lib.hid hk
    clear hk
    go_enter Try.func7, Try.ntmps7
    go_wp2_with fail
    (with_reducible refine (Kin8_c q c _).mono ?_)
    rintro e w1 ⟨rfl, hw1⟩
    subst hw1
    rw [HK.out]
    go_wp2_with fail
    (with_reducible refine (awake_c _).mono ?_)
    rintro e w9 ⟨he, hb⟩
    replace HB := below_step HB hb
    clear hb
    subst he
    go_wp2
    go_ret
    exact ⟨rfl, HB⟩
  | true =>
    obtain ⟨k1, k2, k3, k4, k5, k6⟩ := kinB_spec hk
    have HK := Lib.hid hk
    have hkk := hk
    clear k3 k6
    by_cases h1 : a < 1
    · clear hk hkk
      go_enter Try.func7, Try.ntmps7
      go_wp2_with fail
      (with_reducible refine (Kin8_c q c _).mono ?_)
      rintro e w1 ⟨rfl, hw1⟩
      subst hw1
      rw [HK.out]
      go_wp2_with fail
      (with_reducible refine (awake_c _).mono ?_)
      rintro e w9 ⟨he, hb⟩
      replace HB := below_step HB hb
      clear hb
      subst he
      go_wp2
      go_ret
      exact ⟨rfl, HB⟩
    · by_cases h2 : 180 < a
      · clear hk hkk
        go_enter Try.func7, Try.ntmps7
        go_wp2_with fail
        (with_reducible refine (Kin8_c q c _).mono ?_)
        rintro e w1 ⟨rfl, hw1⟩
        subst hw1
        rw [HK.out]
        go_wp2_with fail
        (with_reducible refine (awake_c _).mono ?_)
        rintro e w9 ⟨he, hb⟩
        replace HB := below_step HB hb
        clear hb
        subst he
        go_wp2
        go_ret
        exact ⟨rfl, HB⟩
      · have HN : Hid ((kinB q c && decide (1 ≤ a) && decide (a ≤ 1000)) = true) := by show _ = _; rw [hk, decide_eq_true (show 1 ≤ a by omega), decide_eq_true (show a ≤ 1000 by omega)]; rfl
        clear hk
        obtain ⟨a, rfl⟩ := Int.eq_ofNat_of_zero_le (show 0 ≤ a by omega)
        go_enter Try.func7, Try.ntmps7
        go_wp2_with fail
        (with_reducible refine (Kin8_c q c _).mono ?_)
        rintro e w1 ⟨rfl, hw1⟩
        subst hw1
        rw [HK.out]
        go_wp2_with fail
        (with_reducible refine (bBelow_c q c a _).mono ?_)
        rintro e w2 ⟨hb, h⟩
        replace HB := below_step HB hb
        clear hb
        obtain ⟨X, hX0, hXT, rfl⟩ : ∃ X : Int, 0 ≤ X ∧ isThr q.toNat c.toNat a X.toNat ∧ e = .returned (.tuple #[.string (tS X), .int .i64 0]) := by
          rcases h with ⟨h, _⟩ | ⟨_, T', hT', _, rfl⟩
          · rw [HN.out] at h; cases h
          · rw [Int.toNat_natCast] at hT'
            have BV := bel_val hT' (by omega) (by omega) (by omega) (by omega) (by omega)
            exact ⟨T', by omega, by rw [Int.toNat_natCast]; exact hT', by rw [BV.1, BV.2]⟩
        clear h
        have hXd : dlN X.natAbs ≤ 2000 := by rw [show X.natAbs = X.toNat by omega]; exact thr_dig hXT (by omega) (by omega) (by omega) (by omega) (by omega) (by omega)
        have hXd1 : dlN (X + 1).natAbs ≤ 2000 := by rw [show (X + 1).natAbs = X.toNat + 1 by omega]; exact thr_dig hXT (by omega) (by omega) (by omega) (by omega) (by omega) (by omega)
        have LX := Lib.hid (len_dl hXd)
        have LX1 := Lib.hid (len_dl hXd1)
        have HVX := Lib.hid (vld_tS hXd)
        obtain ⟨sg, hs0⟩ : ∃ sg, (if X = 0 then (0 : Int) else if X < 0 then -1 else 1) = sg := ⟨_, rfl⟩
        have hsg : 0 ≤ sg := by rw [← hs0]; split <;> (try split) <;> omega
        have HSG := Lib.hid hs0
        have HX := Lib.hid hXT
        clear hs0 hXT
        go_wp2_with fail
        (with_reducible refine (Valid_c (tS X) _ (tS_sz hXd)).mono ?_)
        rintro e w3 ⟨rfl, hw⟩
        subst hw
        rw [HVX.out]
        go_wp2_with fail
        (with_reducible refine (Parse_c X _ (by omega)).mono ?_)
        rintro e w3 ⟨v, rfl, hv, hb⟩
        replace HB := below_step HB hb
        have P := Lib.hid hv
        clear hv hb
        go_wp2_with fail
        (with_reducible refine (Sign_c X _ _ P.out).mono ?_)
        rintro e w4 ⟨rfl, hb⟩
        replace HB := below_step HB hb
        clear hb P
        rw [HSG.out]
        go_wp2_with fail
        (with_reducible refine (Parse_c X _ (by omega)).mono ?_)
        rintro e w5 ⟨v, rfl, hv, hb5⟩
        obtain ⟨n5, A5, m5, k5, rfl, H5⟩ := hv.form; clear hv
        have V9 := VX.new w5 28 H5.out
        replace HB := below_alloc (below_step HB hb5) (Obj.cells #[Value.bool n5, Value.slice A5 m5 k5] 28)
        clear hb5 H5
        go_wp2_with fail
        generalize hW : w5.alloc (Obj.cells #[Value.bool n5, Value.slice A5 m5 k5] 28) = W5 at *
        generalize w5.heap.size = b9 at *
        clear hW
        (with_reducible refine (Twos_c q a _ (by omega) (by omega) (by omega)).mono ?_)
        rintro e w6 ⟨K, rfl, hk, hb6⟩
        replace V9 := V9.keep hb6
        replace HB := below_step HB hb6
        have hk9 := hk.le (by omega) (by omega)
        have hkb : K = bl (q.toNat ^ a) := by
          rw [hk.eq (by omega)]
          obtain ⟨q, rfl⟩ := Int.eq_ofNat_of_zero_le (show 0 ≤ q by omega)
          exact tw_bl (by omega) a
        have hk1 : 1 < K := by rw [hkb]; exact bl_ge2 (by omega) (by omega)
        have HT := HX.out
        have F0 : Hid (0 < X → bfit q c X a K = (true, 0) ∧ (∃ b, bfit q c X a ((K : Int) + 1) = (b, 0)) ∧ bfit q c X a ((K : Int) - 1) = (false, 0)) := fun h0 => by
          refine ⟨?_, ⟨_, fit_at hkk HT (by omega) (by omega) h0 (by omega) (by omega) (by omega)⟩, ?_⟩
          · rw [fit_at hkk HT (by omega) (by omega) h0 (by omega) (by omega) (by omega)]
            have := HT.1.resolve_left (by omega)
            rw [hasN_fit, ← hkb] at this
            rw [Int.toNat_natCast, this]
          · rw [fit_at hkk HT (by omega) (by omega) h0 (by omega) (by omega) (by omega), fit_less (by omega)]
        have F1 : Hid (bfit q c (X + 1) a K = (false, 0) ∧ bfit q c (X + 1) a ((K : Int) + 1) = (false, 0) ∧ bfit q c (X + 1) a ((K : Int) - 1) = (false, 0)) := by
          have ht : (X + 1).toNat = X.toNat + 1 := by omega
          have hf : ∀ k, fitN q.toNat c.toNat (X + 1).toNat a k = false := fun k => fit_more (by rw [ht]; exact HT.2)
          refine ⟨?_, ?_, ?_⟩ <;> rw [fit_at hkk HT (by omega) (by omega) (by omega) (by omega) (by omega) (by omega), hf]
        clear hk hb6 hkb HT HX hkk
        go_wp2_with fail
        go_loopg [11] 2 (fun g iv wr => ∃ (i : Nat), g = 2 - i ∧ iv = .int .i64 i ∧ VN wr b9 n5 A5 m5 k5 X ∧ Below w.heap.size w wr ∧ i ≤ 2)
        case atStart => exact ⟨0, rfl, rfl, V9, HB, by omega⟩
        case round =>
          clear V9 HB
          obtain ⟨i, hgk, rfl, V9, HB, hi⟩ := hrel
          by_cases hi2 : i < 2
          · have LI : Hid ((dg B9 (i : Int)).length ≤ 2) := len_int (by omega) (by omega)
            have vx0 := V9.c0; have vx1 := V9.c1; have vxf := V9.f0; have vxg := V9.f1; have vxl := V9.lt
            go_wp2_with fail
            go_cut [12] from 57 to 127 (fun pv wx => ∃ (b : Nat) (nt : Bool) (At : Option Addr) (mt kt : Nat), pv = .pointer (some ⟨b, 0, none⟩) ∧ VN wx b9 n5 A5 m5 k5 X ∧ VN wx b nt At mt kt (X + i) ∧ Below w.heap.size w wx)
            case first =>
              clear vx0 vx1 vxf vxg vxl
              replace V9 := V9.drew
              replace HB := below_drew HB
              generalize hWd : wr.drew = wd at *
              refine wp_region_F (fun w' => w'.cell? ⟨b9, 0, none⟩ = some (.bool n5) ∧ w'.cell? ⟨b9, 1, none⟩ = some (.slice A5 m5 k5)) [5] (by kernel_rfl) (by rw [hWd]; exact ⟨V9.c0, V9.c1⟩) (fun hHeld => ?_)
              rw [hWd] at hHeld ⊢
              refine wpAnyF_take (i := 0) (oi := { dst := some 61, op := Go.Op.load 28 (Go.Operand.tmp 9), type := 28, pos := "outright.go:102", after := #[], guard := none }) (v := ?_) rfl (by kernel_rfl) (by kernel_rfl) (by kernel_rfl) (by kernel_rfl) (fun _ _ _ h => h) (Or.inl ⟨by rfl, ?_⟩) hHeld ?_
              rotate_left
              · intro w_ hSw_; (try dsimp only at hSw_); go_simp; (try with_reducible rfl)
              (try simp only [Act.put, List.setIfInBounds_toArray, List.set_cons_zero, List.set_cons_succ])
              refine wpAnyF_take (i := 1) (oi := { dst := some 62, op := Go.Op.move (Go.Operand.tmp 11), type := 3, pos := "outright.go:102", after := #[], guard := none }) (v := ?_) rfl (by kernel_rfl) (by kernel_rfl) (by kernel_rfl) (by kernel_rfl) (fun _ _ _ h => h) (Or.inl ⟨by rfl, ?_⟩) hHeld ?_
              rotate_left
              · intro w_ hSw_; (try dsimp only at hSw_); go_simp; (try with_reducible rfl)
              (try simp only [Act.put, List.setIfInBounds_toArray, List.set_cons_zero, List.set_cons_succ])
              refine wpAnyF_two (i := 2) (j := 4) (by kernel_rfl) rfl rfl (fun K hK => ?_) (fun K hK => ?_)
              · go_simp
                (go_at_call 28; (with_reducible refine (Of_c i _ (by omega) (by omega)).mono ?_); rintro e w7 ⟨v, rfl, hv, hb7⟩; obtain ⟨n7, A7, m7, k7, rfl, H7⟩ := hv.form; clear hv; replace V9 := V9.keep hb7; replace HB := below_step HB hb7)
                clear hb7
                refine hK.out _ _ (by exact ⟨V9.c0, V9.c1⟩) (fun hHeld => ?_)
                clear hK K
                (try simp only [Act.put, List.setIfInBounds_toArray, List.set_cons_zero, List.set_cons_succ])
                refine wpAnyF_two (i := 3) (j := 4) (by kernel_rfl) rfl rfl (fun K hK => ?_) (fun K hK => ?_)
                · go_simp
                  (go_at_call 27; (with_reducible refine (Add_c X i _ _ _ (by exact V9.iz.out) H7.out (by have := LX.out; omega) (by have := LI.out; omega)).mono ?_); rintro e w8 ⟨v, rfl, hv, hb8⟩; obtain ⟨n8, A8, m8, k8, rfl, H8⟩ := hv.form; clear hv; replace V9 := V9.keep hb8; replace HB := below_step HB hb8)
                  clear hb8
                  refine hK.out _ _ (by exact ⟨V9.c0, V9.c1⟩) (fun hHeld => ?_)
                  clear hK K
                  (try simp only [Act.put, List.setIfInBounds_toArray, List.set_cons_zero, List.set_cons_succ])
                  refine wpAnyF_one (i := 4) (by kernel_rfl) rfl (fun K hK => ?_)
                  go_simp
                  refine hK.out _ _ (by replace V9 := V9.keep (below_alloc (Below.refl w8.heap.size w8) (Obj.cells #[Value.bool false, Value.slice none 0 0] 28)); exact ⟨V9.c0, V9.c1⟩) (fun hHeld => ?_)
                  clear hK K
                  (try simp only [Act.put, List.setIfInBounds_toArray, List.set_cons_zero, List.set_cons_succ])
                  have hba1 := HB.size
                  have ltV9 := V9.lt
                  have RA := newRes w8 28
                  replace V9 := V9.keep (below_alloc (Below.refl w8.heap.size w8) (Obj.cells #[Value.bool false, Value.slice none 0 0] 28))
                  replace HB := below_alloc HB (Obj.cells #[Value.bool false, Value.slice none 0 0] 28)
                  replace H8 := Lib.hid (H8.out.below (below_alloc (Below.refl w8.heap.size w8) (Obj.cells #[Value.bool false, Value.slice none 0 0] 28)))
                  generalize hWa : w8.alloc (Obj.cells #[Value.bool false, Value.slice none 0 0] 28) = wa at *
                  generalize hba : w8.heap.size = ba at *
                  refine wpAnyF_st (i := 5) (by kernel_rfl) (by kernel_rfl) rfl (fun K hK => ?_)
                  obtain ⟨⟨u1_, r1_⟩, ⟨u2_, u3_, u4_, r2_⟩, r3_, r4_, r5_⟩ := RA
                  have RA : Res2 _ ba := ⟨⟨u1_, r1_⟩, ⟨u2_, u3_, u4_, r2_⟩, r3_, r4_, r5_⟩
                  go_simp
                  refine hK.out _ _ ?_
                  clear hK K r1_ r2_ r3_ r4_ r5_
                  (try simp only [Act.put, List.setIfInBounds_toArray, List.set_cons_zero, List.set_cons_succ])
                  refine wpAnyF_done (by kernel_rfl) ?_ _
                  clear hHeld
                  go_wp2_with fail
                  go_meet
                  exact ⟨ba, _, _, _, _, rfl, V9.far (x := .bool n8) (y := .slice A8 m8 k8) RA (by omega), VX.store RA H8.out, below_set2 HB (by omega) _ _⟩
                · go_simp
                  refine hK.out _ _ (by replace V9 := V9.keep (below_alloc (Below.refl w7.heap.size w7) (Obj.cells #[Value.bool false, Value.slice none 0 0] 28)); exact ⟨V9.c0, V9.c1⟩) (fun hHeld => ?_)
                  clear hK K
                  (try simp only [Act.put, List.setIfInBounds_toArray, List.set_cons_zero, List.set_cons_succ])
                  have hba1 := HB.size
                  have ltV9 := V9.lt
                  have RA := newRes w7 28
                  replace V9 := V9.keep (below_alloc (Below.refl w7.heap.size w7) (Obj.cells #[Value.bool false, Value.slice none 0 0] 28))
                  replace HB := below_alloc HB (Obj.cells #[Value.bool false, Value.slice none 0 0] 28)
                  replace H7 := Lib.hid (H7.out.below (below_alloc (Below.refl w7.heap.size w7) (Obj.cells #[Value.bool false, Value.slice none 0 0] 28)))
                  generalize hWa : w7.alloc (Obj.cells #[Value.bool false, Value.slice none 0 0] 28) = wa at *
                  generalize hba : w7.heap.size = ba at *
                  refine wpAnyF_one (i := 3) (by kernel_rfl) rfl (fun K hK => ?_)
                  go_simp
                  (go_at_call 27; (with_reducible refine (Add_c X i _ _ _ (by exact V9.iz.out) H7.out (by have := LX.out; omega) (by have := LI.out; omega)).mono ?_); rintro e w8 ⟨v, rfl, hv, hb8⟩; obtain ⟨n8, A8, m8, k8, rfl, H8⟩ := hv.form; clear hv; replace V9 := V9.keep hb8; replace HB := below_step HB hb8)
                  replace RA := RA.keep hb8
                  clear hb8
                  refine hK.out _ _ (by exact ⟨V9.c0, V9.c1⟩) (fun hHeld => ?_)
                  clear hK K
                  (try simp only [Act.put, List.setIfInBounds_toArray, List.set_cons_zero, List.set_cons_succ])
                  refine wpAnyF_st (i := 5) (by kernel_rfl) (by kernel_rfl) rfl (fun K hK => ?_)
                  obtain ⟨⟨u1_, r1_⟩, ⟨u2_, u3_, u4_, r2_⟩, r3_, r4_, r5_⟩ := RA
                  have RA : Res2 _ ba := ⟨⟨u1_, r1_⟩, ⟨u2_, u3_, u4_, r2_⟩, r3_, r4_, r5_⟩
                  go_simp
                  refine hK.out _ _ ?_
                  clear hK K r1_ r2_ r3_ r4_ r5_
                  (try simp only [Act.put, List.setIfInBounds_toArray, List.set_cons_zero, List.set_cons_succ])
                  refine wpAnyF_done (by kernel_rfl) ?_ _
                  clear hHeld
                  go_wp2_with fail
                  go_meet
                  exact ⟨ba, _, _, _, _, rfl, V9.far (x := .bool n8) (y := .slice A8 m8 k8) RA (by omega), VX.store RA H8.out, below_set2 HB (by omega) _ _⟩
              · go_simp
                refine hK.out _ _ (by replace V9 := V9.keep (below_alloc (Below.refl wd.heap.size wd) (Obj.cells #[Value.bool false, Value.slice none 0 0] 28)); exact ⟨V9.c0, V9.c1⟩) (fun hHeld => ?_)
                clear hK K
                (try simp only [Act.put, List.setIfInBounds_toArray, List.set_cons_zero, List.set_cons_succ])
                have hba1 := HB.size
                have ltV9 := V9.lt
                have RA := newRes wd 28
                replace V9 := V9.keep (below_alloc (Below.refl wd.heap.size wd) (Obj.cells #[Value.bool false, Value.slice none 0 0] 28))
                replace HB := below_alloc HB (Obj.cells #[Value.bool false, Value.slice none 0 0] 28)
                generalize hWa : wd.alloc (Obj.cells #[Value.bool false, Value.slice none 0 0] 28) = wa at *
                generalize hba : wd.heap.size = ba at *
                refine wpAnyF_one (i := 2) (by kernel_rfl) rfl (fun K hK => ?_)
                go_simp
                (go_at_call 28; (with_reducible refine (Of_c i _ (by omega) (by omega)).mono ?_); rintro e w7 ⟨v, rfl, hv, hb7⟩; obtain ⟨n7, A7, m7, k7, rfl, H7⟩ := hv.form; clear hv; replace V9 := V9.keep hb7; replace HB := below_step HB hb7)
                replace RA := RA.keep hb7
                clear hb7
                refine hK.out _ _ (by exact ⟨V9.c0, V9.c1⟩) (fun hHeld => ?_)
                clear hK K
                (try simp only [Act.put, List.setIfInBounds_toArray, List.set_cons_zero, List.set_cons_succ])
                refine wpAnyF_one (i := 3) (by kernel_rfl) rfl (fun K hK => ?_)
                go_simp
                (go_at_call 27; (with_reducible refine (Add_c X i _ _ _ (by exact V9.iz.out) H7.out (by have := LX.out; omega) (by have := LI.out; omega)).mono ?_); rintro e w8 ⟨v, rfl, hv, hb8⟩; obtain ⟨n8, A8, m8, k8, rfl, H8⟩ := hv.form; clear hv; replace V9 := V9.keep hb8; replace HB := below_step HB hb8)
                replace RA := RA.keep hb8
                clear hb8
                refine hK.out _ _ (by exact ⟨V9.c0, V9.c1⟩) (fun hHeld => ?_)
                clear hK K
                (try simp only [Act.put, List.setIfInBounds_toArray, List.set_cons_zero, List.set_cons_succ])
                refine wpAnyF_st (i := 5) (by kernel_rfl) (by kernel_rfl) rfl (fun K hK => ?_)
                obtain ⟨⟨u1_, r1_⟩, ⟨u2_, u3_, u4_, r2_⟩, r3_, r4_, r5_⟩ := RA
                have RA : Res2 _ ba := ⟨⟨u1_, r1_⟩, ⟨u2_, u3_, u4_, r2_⟩, r3_, r4_, r5_⟩
                go_simp
                refine hK.out _ _ ?_
                clear hK K r1_ r2_ r3_ r4_ r5_
                (try simp only [Act.put, List.setIfInBounds_toArray, List.set_cons_zero, List.set_cons_succ])
                refine wpAnyF_done (by kernel_rfl) ?_ _
                clear hHeld
                go_wp2_with fail
                go_meet
                exact ⟨ba, _, _, _, _, rfl, V9.far (x := .bool n8) (y := .slice A8 m8 k8) RA (by omega), VX.store RA H8.out, below_set2 HB (by omega) _ _⟩
            case rest =>
              clear vx0 vx1 vxf vxg vxl
              clear V9 HB
              obtain ⟨bt, nt, At, mt, kt, rfl, V9, VT, HB⟩ := hcut
              rcases (show i = 0 ∨ i = 1 by omega) with rfl | rfl
              · rw [show X + ((0 : Nat) : Int) = X by simp] at VT
                have vt0 := VT.c0; have vt1 := VT.c1; have vtf := VT.f0; have vtg := VT.f1; have vtl := VT.lt
                by_cases hz : X = 0
                · have HZ : Hid ((if X = 0 then (0 : Int) else if X < 0 then -1 else 1) = 0) := if_pos hz
                  clear hz
                  go_wp2_with fail
                  (with_reducible refine (Sign_c X _ _ VT.iz.out).mono ?_)
                  rintro e w7 ⟨rfl, hb⟩
                  replace V9 := V9.keep hb
                  replace HB := below_step HB hb
                  clear hb
                  clear vt0 vt1 vtf vtg vtl
                  rw [HZ.out]
                  go_wp2
                  go_roundg 1
                  case measure => omega
                  case rel => exact ⟨1, rfl, by go_num, V9, HB, by omega⟩
                · have HZ : Hid ((if X = 0 then (0 : Int) else if X < 0 then -1 else 1) = 1) := by show _ = _; rw [if_neg hz, if_neg (by omega)]
                  obtain ⟨g1, ⟨bb, g2⟩, g3⟩ := F0.out (by omega)
                  have G1 := Lib.hid g1
                  have G2 := Lib.hid g2
                  have G3 := Lib.hid g3
                  clear hz g1 g2 g3
                  go_wp2_with fail
                  (with_reducible refine (Sign_c X _ _ VT.iz.out).mono ?_)
                  rintro e w7 ⟨rfl, hb⟩
                  replace V9 := V9.keep hb; replace VT := VT.keep hb
                  replace HB := below_step HB hb
                  clear hb
                  clear vt0 vt1 vtf vtg vtl
                  rw [HZ.out]
                  have vt0 := VT.c0; have vt1 := VT.c1; have vtf := VT.f0; have vtg := VT.f1; have vtl := VT.lt
                  go_wp2_with fail
                  (with_reducible refine (Text_c X _ _ VT.iz.out LX.out).mono ?_)
                  rintro e w8 ⟨rfl, hb⟩
                  replace V9 := V9.keep hb; replace VT := VT.keep hb
                  replace HB := below_step HB hb
                  clear hb
                  clear vt0 vt1 vtf vtg vtl
                  go_wp2_with fail
                  (with_reducible refine (fits_v q c a K X _ hXd (by omega) (by omega)).mono ?_)
                  rintro e w8b ⟨he, hb⟩
                  replace HB := below_step HB hb
                  replace V9 := V9.keep hb; replace VT := VT.keep hb
                  clear hb
                  obtain rfl : e = .returned (.tuple #[.bool true, .int .i64 0]) := by rw [he, G1.out] <;> rfl
                  clear he
                  have vt0 := VT.c0; have vt1 := VT.c1; have vtf := VT.f0; have vtg := VT.f1; have vtl := VT.lt
                  go_wp2_with fail
                  (with_reducible refine (Text_c X _ _ VT.iz.out LX.out).mono ?_)
                  rintro e w10 ⟨rfl, hb⟩
                  replace V9 := V9.keep hb; replace VT := VT.keep hb
                  replace HB := below_step HB hb
                  clear hb
                  clear vt0 vt1 vtf vtg vtl
                  go_wp2_with fail
                  (with_reducible refine (fits_v q c a ((K : Int) + 1) X _ hXd (by omega) (by omega)).mono ?_)
                  rintro e w10b ⟨he, hb⟩
                  replace HB := below_step HB hb
                  replace V9 := V9.keep hb; replace VT := VT.keep hb
                  clear hb
                  obtain rfl : e = .returned (.tuple #[.bool bb, .int .i64 0]) := by rw [he, G2.out] <;> rfl
                  clear he
                  have vt0 := VT.c0; have vt1 := VT.c1; have vtf := VT.f0; have vtg := VT.f1; have vtl := VT.lt
                  go_wp2_with fail
                  (with_reducible refine (Text_c X _ _ VT.iz.out LX.out).mono ?_)
                  rintro e w12 ⟨rfl, hb⟩
                  replace V9 := V9.keep hb; replace VT := VT.keep hb
                  replace HB := below_step HB hb
                  clear hb
                  clear vt0 vt1 vtf vtg vtl
                  go_wp2_with fail
                  (with_reducible refine (fits_v q c a ((K : Int) - 1) X _ hXd (by omega) (by omega)).mono ?_)
                  rintro e w12b ⟨he, hb⟩
                  replace HB := below_step HB hb
                  replace V9 := V9.keep hb; replace VT := VT.keep hb
                  clear hb
                  obtain rfl : e = .returned (.tuple #[.bool false, .int .i64 0]) := by rw [he, G3.out] <;> rfl
                  clear he
                  go_wp2
                  all_goals
                    go_roundg 1
                    case measure => omega
                    case rel => exact ⟨1, rfl, by go_num, V9, HB, by omega⟩
              · rw [show X + ((1 : Nat) : Int) = X + 1 by simp] at VT
                have vt0 := VT.c0; have vt1 := VT.c1; have vtf := VT.f0; have vtg := VT.f1; have vtl := VT.lt
                have HZ : Hid ((if X + 1 = 0 then (0 : Int) else if X + 1 < 0 then -1 else 1) = 1) := by show _ = _; rw [if_neg (by omega), if_neg (by omega)]
                obtain ⟨g1, g2, g3⟩ := F1.out
                have G1 := Lib.hid g1
                have G2 := Lib.hid g2
                have G3 := Lib.hid g3
                clear g1 g2 g3
                go_wp2_with fail
                (with_reducible refine (Sign_c (X + 1) _ _ VT.iz.out).mono ?_)
                rintro e w7 ⟨rfl, hb⟩
                replace V9 := V9.keep hb; replace VT := VT.keep hb
                replace HB := below_step HB hb
                clear hb
                clear vt0 vt1 vtf vtg vtl
                rw [HZ.out]
                have vt0 := VT.c0; have vt1 := VT.c1; have vtf := VT.f0; have vtg := VT.f1; have vtl := VT.lt
                go_wp2_with fail
                (with_reducible refine (Text_c (X + 1) _ _ VT.iz.out LX1.out).mono ?_)
                rintro e w8 ⟨rfl, hb⟩
                replace V9 := V9.keep hb; replace VT := VT.keep hb
                replace HB := below_step HB hb
                clear hb
                clear vt0 vt1 vtf vtg vtl
                go_wp2_with fail
                (with_reducible refine (fits_v q c a K (X + 1) _ hXd1 (by omega) (by omega)).mono ?_)
                rintro e w8b ⟨he, hb⟩
                replace HB := below_step HB hb
                replace V9 := V9.keep hb; replace VT := VT.keep hb
                clear hb
                obtain rfl : e = .returned (.tuple #[.bool false, .int .i64 0]) := by rw [he, G1.out] <;> rfl
                clear he
                have vt0 := VT.c0; have vt1 := VT.c1; have vtf := VT.f0; have vtg := VT.f1; have vtl := VT.lt
                go_wp2_with fail
                (with_reducible refine (Text_c (X + 1) _ _ VT.iz.out LX1.out).mono ?_)
                rintro e w10 ⟨rfl, hb⟩
                replace V9 := V9.keep hb; replace VT := VT.keep hb
                replace HB := below_step HB hb
                clear hb
                clear vt0 vt1 vtf vtg vtl
                go_wp2_with fail
                (with_reducible refine (fits_v q c a ((K : Int) + 1) (X + 1) _ hXd1 (by omega) (by omega)).mono ?_)
                rintro e w10b ⟨he, hb⟩
                replace HB := below_step HB hb
                replace V9 := V9.keep hb; replace VT := VT.keep hb
                clear hb
                obtain rfl : e = .returned (.tuple #[.bool false, .int .i64 0]) := by rw [he, G2.out] <;> rfl
                clear he
                have vt0 := VT.c0; have vt1 := VT.c1; have vtf := VT.f0; have vtg := VT.f1; have vtl := VT.lt
                go_wp2_with fail
                (with_reducible refine (Text_c (X + 1) _ _ VT.iz.out LX1.out).mono ?_)
                rintro e w12 ⟨rfl, hb⟩
                replace V9 := V9.keep hb; replace VT := VT.keep hb
                replace HB := below_step HB hb
                clear hb
                clear vt0 vt1 vtf vtg vtl
                go_wp2_with fail
                (with_reducible refine (fits_v q c a ((K : Int) - 1) (X + 1) _ hXd1 (by omega) (by omega)).mono ?_)
                rintro e w12b ⟨he, hb⟩
                replace HB := below_step HB hb
                replace V9 := V9.keep hb; replace VT := VT.keep hb
                clear hb
                obtain rfl : e = .returned (.tuple #[.bool false, .int .i64 0]) := by rw [he, G3.out] <;> rfl
                clear he
                go_wp2
                all_goals
                  go_roundg 0
                  case measure => omega
                  case rel => exact ⟨2, rfl, by go_num, V9, HB, by omega⟩
          · go_wp2_with fail
            (with_reducible refine (awake_c _).mono ?_)
            rintro e w9 ⟨he, hb⟩
            replace HB := below_step HB hb
            clear hb
            subst he
            go_wp2
            go_ret
            exact ⟨rfl, HB⟩
end Go.Proofs.Ytiaeeclmlchpoaa
