/- The law BoundCycles: it returns true. No condition. -/
import Derived.Test.YtiaeeclmlchpoaaZB
import Derived.Test.YtiaeeclmlchpoaaZF
set_option linter.unusedVariables false
set_option linter.unusedSimpArgs false
namespace Go.Proofs.Ytiaeeclmlchpoaa
open Go.RowKit

theorem gd_map_range (n : Nat) (f : Nat → Int) {j : Nat} (h : j < n) : gd ((List.range n).map f) j = f j := by
  rw [gd_lt (by simpa using h)]; simp
theorem fate_mem {l : List Int} (hl : 0 < l.length) : (fateL l).2.2.length ≤ l.length ∧ ∀ j, j < (fateL l).2.2.length → ∃ i, i < l.length ∧ gd (fateL l).2.2 j = gd l i := by
  unfold fateL
  split
  · exact ⟨by simp, fun j hj => by simp at hj⟩
  · split
    · exact ⟨by simp, fun j hj => by simp at hj⟩
    · rename_i h2
      obtain ⟨last, hlast⟩ : ∃ last, l.length = last + 1 := ⟨l.length - 1, by omega⟩
      rw [hlast] at h2 ⊢
      simp only [Nat.add_sub_cancel] at h2 ⊢
      have hp1 := perF_le l last last (Nat.le_refl _)
      have hp2 := perF_eq (l := l) last (Nat.le_refl _) (by omega)
      generalize perF l last last = len at *
      obtain ⟨a1, a2, a3⟩ := atF_spec (l := l) (len := len) (last - len) 0 (by rw [Nat.zero_add, hp2]; congr 1; omega)
      generalize atF l len (last - len) 0 = a at *
      generalize leastF l len a a = m at *
      refine ⟨by simp; omega, fun j hj => ?_⟩
      have hj : j < len := by simpa using hj
      have hX := Nat.mod_lt (m - a + j) (show 0 < len by omega)
      exact ⟨a + (m - a + j) % len, by omega, gd_map_range _ _ hj⟩
theorem sum_nat {q c t : Int} (hq : 0 ≤ q) (hc : 0 ≤ c) (ht : 0 ≤ t) : (q * t + c).natAbs = q.toNat * t.toNat + c.toNat := by
  have h1 : (q.toNat : Int) = q := by omega
  have h2 : (t.toNat : Int) = t := by omega
  have h3 : (c.toNat : Int) = c := by omega
  have h4 : ((q.toNat * t.toNat + c.toNat : Nat) : Int) = q * t + c := by rw [Int.natCast_add, Int.natCast_mul, h1, h2, h3]
  omega
theorem cyc_facts {q c : Int} {a L Y : Nat} (hk : kinB q c = true) (ha0 : 1 ≤ a) (ha : a ≤ 120) (hL0 : 1 ≤ L) (hL : L ≤ 300) (hfit : ∀ n, 0 < n → n ≤ Y → fitN q.toNat c.toNat n a L = true) (n : Int) (hn : 0 < n) (hnY : n ≤ Y) :
    dlN n.natAbs ≤ 2000 ∧ bfit q c n a L = (true, 0) ∧ ∃ j k : Nat, 1 ≤ j ∧ j ≤ a ∧ 1 ≤ k ∧ bleast q c n a = (j, k, 0) ∧ (1 < j → bleast q c n ((j : Int) - 1) = (0, 0, 4)) := by
  obtain ⟨k1, k2, k3, k4, k5, k6⟩ := kinB_spec hk
  obtain ⟨T, hT⟩ := thr_exists (q := q.toNat) (c := c.toNat) (a := a) (by omega)
  have hf := hfit n.toNat (by omega) (by omega)
  have hh := fit_has hf
  have hT2 := thr_has hT hh
  have hD : n.natAbs = n.toNat := by omega
  have herr := thr_err hT (by omega) (by omega) ha0 (by omega) (show n.toNat ≤ T + 1 by omega)
  have hsn := sum_nat (q := q) (c := c) (t := n) (by omega) (by omega) (by omega)
  refine ⟨by rw [hD]; exact thr_dig hT (by omega) (by omega) (by omega) ha0 (by omega) (by omega), ?_, ?_⟩
  · rw [fit_at hk hT ha0 (by omega) hn (by omega) (by omega) (by omega), Int.toNat_natCast, hf]
  · obtain ⟨j, k, h1, h2⟩ := lstN_of (q := q.toNat) (c := c.toNat) (n := n.toNat) (j := a) a (i := 0) (by omega) (by omega) (by rw [← hasN_fit]; exact hh)
    obtain ⟨h3, h4, h5, h6⟩ := lstN_ge a h1
    refine ⟨j, k, by omega, h2, by rw [h5]; have := bl_ge2 (q := q.toNat) (a := j) (by omega) (by omega); omega, ?_, fun h7 => ?_⟩
    · rw [bleast_val (askE_mk hk hn (by omega) (by omega)), hsn, if_neg herr, hD, Int.toNat_natCast, h1]
    · have hmul : ((j : Int) - 1) * (dlN (q.toNat * n.toNat + c.toNat) : Int) ≤ (a : Int) * (dlN (q.toNat * n.toNat + c.toNat) : Int) := Int.mul_le_mul_of_nonneg_right (by omega) (by omega)
      rw [bleast_val (askE_mk hk hn (by omega) (by omega)), hsn, if_neg (by omega), hD, show ((j : Int) - 1).toNat = j - 1 by omega, lstN_none a h1 (by omega)]
theorem Fate300_c (M : Mp) (z : Int) (v u : Value) (w : World) (hM : IsM w v M) (hz : IsN w u z) (hok : okM M) (sz : (dg B9 z).length ≤ 2100) :
    Calls Try.prog 31 #[v, u, .int .i64 300] w fun e w' => ∃ A c, e = .returned (.tuple #[.int .i64 (fateL (orbL M z 300)).2.1, .slice A (fateL (orbL M z 300)).2.2.length c, .int .i64 (fateL (orbL M z 300)).1]) ∧ Hid (LsZ B9 .i64 w' A c (fateL (orbL M z 300)).2.2) ∧ Below w.heap.size w w' :=
  Fate5_c M z 300 v u w hM hz hok sz (by decide)
set_option maxRecDepth 100000 in
set_option maxHeartbeats 8000000 in
theorem BCycles_law (q c t : Int) (s : ByteArray) (w : World) (hs : s.size ≤ 9223372036854775807) (ht0 : 0 ≤ t) (ht1 : t ≤ 65535) :
    Calls Try.prog 9 #[.int .i64 q, .int .i64 c, .string s, .int .u16 t] w fun e w' => e = .returned (.bool true) ∧ Below w.heap.size w w' := by
  have HB : Below w.heap.size w w := Below.refl _ _
  go_enter Try.func9, Try.ntmps9
  go_wp2_with fail
  (with_reducible refine (sKin_c q c _).mono ?_)
  rintro e w1 ⟨md, A, n, k, A', n', k', er, rfl, hb1, hK⟩
  replace HB := below_alloc (below_step HB hb1) (Obj.cells #[Value.int .i64 md, Value.slice A n k, Value.slice A' n' k'] 55)
  clear hb1
  rcases hK with ⟨hg, rfl⟩ | ⟨hg, rfl, HM⟩
  · clear hg
    go_wp2_with fail
    (with_reducible refine (awake_c _).mono ?_)
    rintro e w9 ⟨he, hb⟩
    replace HB := below_step HB hb
    clear hb
    subst he
    go_wp2
    go_ret
    exact ⟨rfl, HB⟩
  · have V9 := VM.new w1 55 HM.out
    clear hg HM
    go_wp2_with fail
    generalize hW : w1.alloc (Obj.cells #[Value.int .i64 md, Value.slice A n k, Value.slice A' n' k'] 55) = W1 at *
    generalize w1.heap.size = b9 at *
    clear hW
    cases hk : kinB q c with
    | false =>
      have HK := Lib.hid hk
      clear hk
      (with_reducible refine (Kin8_c q c _).mono ?_)
      rintro e w2 ⟨rfl, hw2⟩
      subst hw2
      rw [HK.out]
      go_wp2_with fail
      (with_reducible refine (awake_c _).mono ?_)
      rintro e w9 ⟨he, hb⟩
      replace HB := below_step HB hb
      clear hb
      subst he
      go_wp2
      go_ret
      exact ⟨rfl, HB⟩
    | true =>
      have HK := Lib.hid hk
      obtain ⟨k1, k2, k3, k4, k5, k6⟩ := kinB_spec hk
      clear hk k3 k6
      rcases vld_cases s with hv | ⟨z, rfl, hz⟩
      · have HV := Lib.hid hv
        clear hv
        (with_reducible refine (Kin8_c q c _).mono ?_)
        rintro e w2 ⟨rfl, hw2⟩
        subst hw2
        rw [HK.out]
        go_wp2_with fail
        (with_reducible refine (Valid_c s _ hs).mono ?_)
        rintro e w2 ⟨rfl, hw2⟩
        subst hw2
        rw [HV.out]
        go_wp2_with fail
        (with_reducible refine (awake_c _).mono ?_)
        rintro e w9 ⟨he, hb⟩
        replace HB := below_step HB hb
        clear hb
        subst he
        go_wp2
        go_ret
        exact ⟨rfl, HB⟩
      · have HV := Lib.hid (vld_tS hz)
        by_cases h40 : (40 : Int) < ((tS z).size : Int)
        · (with_reducible refine (Kin8_c q c _).mono ?_)
          rintro e w2 ⟨rfl, hw2⟩
          subst hw2
          rw [HK.out]
          go_wp2_with fail
          (with_reducible refine (Valid_c (tS z) _ (tS_sz hz)).mono ?_)
          rintro e w2 ⟨rfl, hw2⟩
          subst hw2
          rw [HV.out]
          go_wp2_with fail
          (with_reducible refine (awake_c _).mono ?_)
          rintro e w9 ⟨he, hb⟩
          replace HB := below_step HB hb
          clear hb
          subst he
          go_wp2
          go_ret
          exact ⟨rfl, HB⟩
        · by_cases hz0 : 0 < z
          rotate_left
          · obtain ⟨sg, hs0⟩ : ∃ sg, (if z = 0 then (0 : Int) else if z < 0 then -1 else 1) = sg := ⟨_, rfl⟩
            have hsg : sg ≤ 0 := by rw [← hs0]; split <;> (try split) <;> omega
            have HSG := Lib.hid hs0
            clear hs0
            (with_reducible refine (Kin8_c q c _).mono ?_)
            rintro e w2 ⟨rfl, hw2⟩
            subst hw2
            rw [HK.out]
            go_wp2_with fail
            (with_reducible refine (Valid_c (tS z) _ (tS_sz hz)).mono ?_)
            rintro e w2 ⟨rfl, hw2⟩
            subst hw2
            rw [HV.out]
            go_wp2_with fail
            (with_reducible refine (Parse_c z _ (by omega)).mono ?_)
            rintro e w3 ⟨v, rfl, hv, hb⟩
            replace HB := below_step HB hb
            replace V9 := V9.keep hb
            have P := Lib.hid hv
            clear hv hb
            go_wp2_with fail
            (with_reducible refine (Sign_c z _ _ P.out).mono ?_)
            rintro e w4 ⟨rfl, hb⟩
            replace HB := below_step HB hb
            replace V9 := V9.keep hb
            clear hb P
            rw [HSG.out]
            go_wp2_with fail
            (with_reducible refine (awake_c _).mono ?_)
            rintro e w9 ⟨he, hb⟩
            replace HB := below_step HB hb
            clear hb
            subst he
            go_wp2
            go_ret
            exact ⟨rfl, HB⟩
          · have HSG : Hid ((if z = 0 then (0 : Int) else if z < 0 then -1 else 1) = 1) := by show _ = _; rw [if_neg (by omega), if_neg (by omega)]
            have HOKM := Lib.hid (kin_ok HK.out)
            have HOB : Hid (okB (kinM q c) = true) := okB_iff.2 HOKM.out
            (with_reducible refine (Kin8_c q c _).mono ?_)
            rintro e w2 ⟨rfl, hw2⟩
            subst hw2
            rw [HK.out]
            go_wp2_with fail
            (with_reducible refine (Valid_c (tS z) _ (tS_sz hz)).mono ?_)
            rintro e w2 ⟨rfl, hw2⟩
            subst hw2
            rw [HV.out]
            go_wp2_with fail
            (with_reducible refine (Parse_c z _ (by omega)).mono ?_)
            rintro e w3 ⟨v, rfl, hv, hb⟩
            replace HB := below_step HB hb
            replace V9 := V9.keep hb
            have P := Lib.hid hv
            clear hv hb
            go_wp2_with fail
            (with_reducible refine (Sign_c z _ _ P.out).mono ?_)
            rintro e w4 ⟨rfl, hb⟩
            replace HB := below_step HB hb
            replace V9 := V9.keep hb
            clear hb P
            rw [HSG.out]
            have vm0 := V9.c0; have vm1 := V9.c1; have vm2 := V9.c2
            go_wp2_with fail
            (with_reducible refine (MValid_c (kinM q c) _ _ V9.im.out).mono ?_)
            rintro e w5 ⟨rfl, hb⟩
            replace HB := below_step HB hb
            replace V9 := V9.keep hb
            clear hb vm0 vm1 vm2
            rw [HOB.out]
            go_wp2_with fail
            replace V9 := V9.drew
            replace HB := below_drew HB
            generalize hWd : w5.drew = wd at *
            refine wp_region_F (fun w' => w'.cell? ⟨b9, 0, none⟩ = some (.int .i64 md) ∧ w'.cell? ⟨b9, 1, none⟩ = some (.slice A n k) ∧ w'.cell? ⟨b9, 2, none⟩ = some (.slice A' n' k')) [] (by kernel_rfl) (by rw [hWd]; exact ⟨V9.c0, V9.c1, V9.c2⟩) (fun hHeld => ?_)
            rw [hWd] at hHeld ⊢
            refine wpAnyF_take (i := 0) (oi := { dst := some 61, op := Go.Op.load 55 (Go.Operand.tmp 9), type := 55, pos := "outright.go:33", after := #[], guard := none }) (v := ?_) rfl (by kernel_rfl) (by kernel_rfl) (by kernel_rfl) (by kernel_rfl) (fun _ _ _ h => h) (Or.inl ⟨by rfl, ?_⟩) hHeld ?_
            rotate_left
            · intro w_ hSw_; (try dsimp only at hSw_); go_simp; (try with_reducible rfl)
            (try simp only [Act.put, List.setIfInBounds_toArray, List.set_cons_zero, List.set_cons_succ])
            refine wpAnyF_take (i := 1) (oi := { dst := some 62, op := Go.Op.move (Go.Operand.tmp 2), type := 9, pos := "outright.go:33", after := #[], guard := none }) (v := ?_) rfl (by kernel_rfl) (by kernel_rfl) (by kernel_rfl) (by kernel_rfl) (fun _ _ _ h => h) (Or.inl ⟨by rfl, ?_⟩) hHeld ?_
            rotate_left
            · intro w_ hSw_; (try dsimp only at hSw_); go_simp; (try with_reducible rfl)
            (try simp only [Act.put, List.setIfInBounds_toArray, List.set_cons_zero, List.set_cons_succ])
            refine wpAnyF_one (i := 2) (by kernel_rfl) rfl (fun K hK => ?_)
            go_simp
            (go_at_call 13; (with_reducible refine (Parse_c z _ (by omega)).mono ?_); rintro e w6 ⟨v, rfl, hv, hb⟩; replace HB := below_step HB hb; replace V9 := V9.keep hb; have P := Lib.hid hv; clear hv hb)
            refine hK.out _ _ (by exact ⟨V9.c0, V9.c1, V9.c2⟩) (fun hHeld => ?_)
            clear hK K
            (try simp only [Act.put, List.setIfInBounds_toArray, List.set_cons_zero, List.set_cons_succ])
            refine wpAnyF_one (i := 3) (by kernel_rfl) rfl (fun K hK => ?_)
            go_simp
            (go_at_call 31; (with_reducible refine (Fate300_c (kinM q c) z _ _ _ V9.im.out P.out HOKM.out (by have := len9 hz; omega)).mono ?_); rintro e w7 ⟨AL, cL, rfl, LL, hb⟩; replace HB := below_step HB hb; replace V9 := V9.keep hb; clear hb P)
            refine hK.out _ _ (by exact ⟨V9.c0, V9.c1, V9.c2⟩) (fun hHeld => ?_)
            clear hK K
            (try simp only [Act.put, List.setIfInBounds_toArray, List.set_cons_zero, List.set_cons_succ])
            refine wpAnyF_take (i := 4) (oi := { dst := some 60, op := Go.Op.move (Go.Operand.tmp 64), type := 60, pos := "outright.go:33", after := #[{ on := 3, ground := Go.Ground.data }], guard := none }) (v := ?_) rfl (by kernel_rfl) (by kernel_rfl) (by kernel_rfl) (by kernel_rfl) (fun _ _ _ h => h) (Or.inl ⟨by rfl, ?_⟩) hHeld ?_
            rotate_left
            · intro w_ hSw_; (try dsimp only at hSw_); go_simp; (try with_reducible rfl)
            (try simp only [Act.put, List.setIfInBounds_toArray, List.set_cons_zero, List.set_cons_succ])
            refine wpAnyF_take (i := 5) (oi := { dst := some 65, op := Go.Op.extract (Go.Operand.tmp 60) 0, type := 3, pos := "outright.go:33", after := #[{ on := 4, ground := Go.Ground.data }], guard := none }) (v := ?_) rfl (by kernel_rfl) (by kernel_rfl) (by kernel_rfl) (by kernel_rfl) (fun _ _ _ h => h) (Or.inl ⟨by rfl, ?_⟩) hHeld ?_
            rotate_left
            · intro w_ hSw_; (try dsimp only at hSw_); go_simp; (try with_reducible rfl)
            (try simp only [Act.put, List.setIfInBounds_toArray, List.set_cons_zero, List.set_cons_succ])
            refine wpAnyF_take (i := 6) (oi := { dst := some 66, op := Go.Op.extract (Go.Operand.tmp 60) 1, type := 59, pos := "outright.go:33", after := #[{ on := 4, ground := Go.Ground.data }, { on := 8, ground := Go.Ground.gcOnly Go.Departure.lateStores }], guard := none }) (v := ?_) rfl (by kernel_rfl) (by kernel_rfl) (by kernel_rfl) (by kernel_rfl) (fun _ _ _ h => h) (Or.inl ⟨by rfl, ?_⟩) hHeld ?_
            rotate_left
            · intro w_ hSw_; (try dsimp only at hSw_); go_simp; (try with_reducible rfl)
            (try simp only [Act.put, List.setIfInBounds_toArray, List.set_cons_zero, List.set_cons_succ])
            refine wpAnyF_take (i := 7) (oi := { dst := some 67, op := Go.Op.extract (Go.Operand.tmp 60) 2, type := 24, pos := "outright.go:33", after := #[{ on := 4, ground := Go.Ground.data }, { on := 9, ground := Go.Ground.gcOnly Go.Departure.lateStores }], guard := none }) (v := ?_) rfl (by kernel_rfl) (by kernel_rfl) (by kernel_rfl) (by kernel_rfl) (fun _ _ _ h => h) (Or.inl ⟨by rfl, ?_⟩) hHeld ?_
            rotate_left
            · intro w_ hSw_; (try dsimp only at hSw_); go_simp; (try with_reducible rfl)
            (try simp only [Act.put, List.setIfInBounds_toArray, List.set_cons_zero, List.set_cons_succ])
            refine wpAnyF_take (i := 8) (oi := { dst := some 11, op := Go.Op.assign (Go.Operand.tmp 65), type := 3, pos := "outright.go:33", after := #[{ on := 5, ground := Go.Ground.data }, { on := 3, ground := Go.Ground.chain }, { on := 0, ground := Go.Ground.phase }, { on := 1, ground := Go.Ground.phase }, { on := 2, ground := Go.Ground.phase }, { on := 3, ground := Go.Ground.phase }, { on := 4, ground := Go.Ground.phase }, { on := 5, ground := Go.Ground.phase }, { on := 6, ground := Go.Ground.textOnly Go.Departure.lateStores }, { on := 7, ground := Go.Ground.textOnly Go.Departure.lateStores }], guard := none }) (v := ?_) rfl (by kernel_rfl) (by kernel_rfl) (by kernel_rfl) (by kernel_rfl) (fun _ _ _ h => h) (Or.inl ⟨by rfl, ?_⟩) hHeld ?_
            rotate_left
            · intro w_ hSw_; (try dsimp only at hSw_); go_simp; (try with_reducible rfl)
            (try simp only [Act.put, List.setIfInBounds_toArray, List.set_cons_zero, List.set_cons_succ])
            refine wpAnyF_take (i := 9) (oi := { dst := some 12, op := Go.Op.assign (Go.Operand.tmp 66), type := 59, pos := "outright.go:33", after := #[{ on := 6, ground := Go.Ground.data }, { on := 8, ground := Go.Ground.chain }, { on := 0, ground := Go.Ground.phase }, { on := 1, ground := Go.Ground.phase }, { on := 2, ground := Go.Ground.phase }, { on := 3, ground := Go.Ground.phase }, { on := 4, ground := Go.Ground.phase }, { on := 5, ground := Go.Ground.phase }, { on := 6, ground := Go.Ground.phase }, { on := 7, ground := Go.Ground.textOnly Go.Departure.lateStores }, { on := 8, ground := Go.Ground.phase }], guard := none }) (v := ?_) rfl (by kernel_rfl) (by kernel_rfl) (by kernel_rfl) (by kernel_rfl) (fun _ _ _ h => h) (Or.inl ⟨by rfl, ?_⟩) hHeld ?_
            rotate_left
            · intro w_ hSw_; (try dsimp only at hSw_); go_simp; (try with_reducible rfl)
            (try simp only [Act.put, List.setIfInBounds_toArray, List.set_cons_zero, List.set_cons_succ])
            refine wpAnyF_take (i := 10) (oi := { dst := some 13, op := Go.Op.assign (Go.Operand.tmp 67), type := 24, pos := "outright.go:33", after := #[{ on := 7, ground := Go.Ground.data }, { on := 9, ground := Go.Ground.chain }, { on := 0, ground := Go.Ground.phase }, { on := 1, ground := Go.Ground.phase }, { on := 2, ground := Go.Ground.phase }, { on := 3, ground := Go.Ground.phase }, { on := 4, ground := Go.Ground.phase }, { on := 5, ground := Go.Ground.phase }, { on := 6, ground := Go.Ground.phase }, { on := 7, ground := Go.Ground.phase }, { on := 8, ground := Go.Ground.phase }, { on := 9, ground := Go.Ground.phase }], guard := none }) (v := ?_) rfl (by kernel_rfl) (by kernel_rfl) (by kernel_rfl) (by kernel_rfl) (fun _ _ _ h => h) (Or.inl ⟨by rfl, ?_⟩) hHeld ?_
            rotate_left
            · intro w_ hSw_; (try dsimp only at hSw_); go_simp; (try with_reducible rfl)
            (try simp only [Act.put, List.setIfInBounds_toArray, List.set_cons_zero, List.set_cons_succ])
            refine wpAnyF_done (by kernel_rfl) ?_ _
            clear hHeld hWd V9
            obtain ⟨hl1, hl2⟩ := orbL_len (kinM q c) 300 z
            obtain ⟨fm1, fm2⟩ := fate_mem hl1
            have hos := orbL_size (kinM q c) HOKM.out 300 z (by have := len9 hz; omega)
            have HSZ : Hid (∀ j, j < (fateL (orbL (kinM q c) z 300)).2.2.length → (dg B9 (gd (fateL (orbL (kinM q c) z 300)).2.2 j)).length ≤ 1000000000) := fun j hj => by
              obtain ⟨i, hi, he⟩ := fm2 j hj
              rw [he]; have := hos i hi; omega
            have HCY := Lib.hid (kin_cyc (k := 300) HK.out hz0)
            clear fm2 hos hl1
            obtain ⟨F, hF⟩ : ∃ F, fateL (orbL (kinM q c) z 300) = F := ⟨_, rfl⟩
            rw [hF] at LL HSZ HCY fm1 ⊢
            clear hF
            obtain ⟨er, at_, l⟩ := F
            dsimp only at LL HSZ HCY fm1 ⊢
            have hln : l.length ≤ 301 := by omega
            clear fm1 hl2
            go_wp2_with fail
            (with_reducible refine (odds_c l AL cL _ LL.out HSZ.out (by omega)).mono ?_)
            rintro e w8 ⟨rfl, hb⟩
            replace HB := below_step HB hb
            replace LL := Lib.hid (LL.out.below hb)
            clear hb
            obtain ⟨a, ha⟩ : ∃ a, oddsL l l.length = a := ⟨_, rfl⟩
            rw [ha]
            have hao := oddsL_le l l.length
            rw [ha] at hao
            have HA := Lib.hid ha
            clear ha
            by_cases he : er = 0
            rotate_left
            · have heb : (er == 0) = false := by simpa using he
              go_wp2_with fail
              (with_reducible refine (awake_c _).mono ?_)
              rintro e w9 ⟨he, hb⟩
              replace HB := below_step HB hb
              clear hb
              subst he
              go_wp2
              go_ret
              exact ⟨rfl, HB⟩
            · have heb : (er == 0) = true := by simpa using he
              by_cases ha120 : 120 < a
              · go_wp2_with fail
                (with_reducible refine (awake_c _).mono ?_)
                rintro e w9 ⟨he, hb⟩
                replace HB := below_step HB hb
                clear hb
                subst he
                go_wp2
                go_ret
                exact ⟨rfl, HB⟩
              · obtain ⟨y, L, y1, y2, y3, y4, y5, y6, y7, y8⟩ := HCY.out he
                have hod := odds_cyc y4 L (Nat.le_refl _)
                have hyl := y4 0 y1
                subst he
                have hfit : ∀ n, 0 < n → n ≤ y 0 → 1 ≤ a ∧ fitN q.toNat c.toNat n a L = true := fun n h1 h2 => by
                  have h3 := cyc_fit (q := q.toNat) (c := c.toNat) (n := n) (L := L) (y := y) (by omega) h1 y1 y5 (fun i hi => Nat.le_trans h2 (y7 i hi)) y6
                  have h4 := HA.out
                  rw [y3, hod] at h4
                  rw [h4] at h3
                  exact h3
                have ha1 := (hfit (y 0) y8 (Nat.le_refl _)).1
                have HFA := Lib.hid (cyc_facts HK.out ha1 (show a ≤ 120 by omega) y1 y2 (fun n h1 h2 => (hfit n h1 h2).2))
                have HTH : Hid (∀ T, isThr q.toNat c.toNat a T → y 0 ≤ T) := fun T hT => thr_has hT (fit_has (hfit (y 0) y8 (Nat.le_refl _)).2)
                obtain ⟨bl, ol, n0, A0, m0, k0, rfl, hlt0, p0, p1, HP⟩ := LL.out.at (j := 0) (by rw [y3]; exact y1)
                obtain ⟨Y, hY⟩ : ∃ Y, y 0 = Y := ⟨_, rfl⟩
                rw [hyl, hY] at HP
                rw [hY] at HFA HTH y8
                rw [y3]
                clear hfit hod y4 y5 y6 y7 hyl hY HCY HSZ HA hao heb
                have pc0 : w8.cell? ⟨bl, ol, none⟩ = some (.bool n0) := by simpa using p0
                have pc1 : w8.cell? ⟨bl, ol + 1, none⟩ = some (.slice A0 m0 k0) := by simpa using p1
                have hL0 : (0 : Int) < (L : Int) := by omega
                have V15 := VX.new w8 28 HP.out
                replace HB := below_alloc HB (Obj.cells #[Value.bool n0, Value.slice A0 m0 k0] 28)
                clear p0 p1 HP LL
                go_wp2_with fail
                generalize hW : w8.alloc (Obj.cells #[Value.bool n0, Value.slice A0 m0 k0] 28) = W8 at *
                generalize w8.heap.size = b15 at *
                clear hW
                have LY : Hid ((dg B9 (Y : Int)).length ≤ 2000) := len9 (HFA.out Y (by omega) (Int.le_refl _)).1
                have htw : IntKind.i64.wrap t = t := by rw [IntKind.wrap_i64]; omega
                have LT : Hid ((dg B9 t).length ≤ 2) := len_int (by omega) (by omega)
                go_cut [16] from 82 to 86 (fun pv wx => ∃ (b : Nat) (nx : Bool) (Ax : Option Addr) (mx kx : Nat), pv = .pointer (some ⟨b, 0, none⟩) ∧ b15 ≠ b ∧ w.heap.size ≤ b ∧ VN wx b15 n0 A0 m0 k0 Y ∧ VN wx b nx Ax mx kx ((Y : Int) - t) ∧ Below w.heap.size w wx)
                case first =>
                  replace V15 := V15.drew
                  replace HB := below_drew HB
                  generalize hWd : W8.drew = wd at *
                  refine wp_region_F (fun w' => w'.cell? ⟨b15, 0, none⟩ = some (.bool n0) ∧ w'.cell? ⟨b15, 1, none⟩ = some (.slice A0 m0 k0)) [6] (by kernel_rfl) (by rw [hWd]; exact ⟨V15.c0, V15.c1⟩) (fun hHeld => ?_)
                  rw [hWd] at hHeld ⊢
                  refine wpAnyF_take (i := 0) (oi := { dst := some 82, op := Go.Op.load 28 (Go.Operand.tmp 15), type := 28, pos := "outright.go:42", after := #[], guard := none }) (v := ?_) rfl (by kernel_rfl) (by kernel_rfl) (by kernel_rfl) (by kernel_rfl) (fun _ _ _ h => h) (Or.inl ⟨by rfl, ?_⟩) hHeld ?_
                  rotate_left
                  · intro w_ hSw_; (try dsimp only at hSw_); go_simp; (try with_reducible rfl)
                  (try simp only [Act.put, List.setIfInBounds_toArray, List.set_cons_zero, List.set_cons_succ])
                  refine wpAnyF_take (i := 1) (oi := { dst := some 83, op := Go.Op.move (Go.Operand.tmp 3), type := 53, pos := "outright.go:42", after := #[], guard := none }) (v := ?_) rfl (by kernel_rfl) (by kernel_rfl) (by kernel_rfl) (by kernel_rfl) (fun _ _ _ h => h) (Or.inl ⟨by rfl, ?_⟩) hHeld ?_
                  rotate_left
                  · intro w_ hSw_; (try dsimp only at hSw_); go_simp; (try with_reducible rfl)
                  (try simp only [Act.put, List.setIfInBounds_toArray, List.set_cons_zero, List.set_cons_succ])
                  refine wpAnyF_take (i := 2) (oi := { dst := some 84, op := Go.Op.convert 53 3 (Go.Operand.tmp 83), type := 3, pos := "outright.go:42", after := #[{ on := 1, ground := Go.Ground.data }], guard := none }) (v := ?_) rfl (by kernel_rfl) (by kernel_rfl) (by kernel_rfl) (by kernel_rfl) (fun _ _ _ h => h) (Or.inl ⟨by rfl, ?_⟩) hHeld ?_
                  rotate_left
                  · intro w_ hSw_; (try dsimp only at hSw_); go_simp; (try with_reducible rfl)
                  (try simp only [Act.put, List.setIfInBounds_toArray, List.set_cons_zero, List.set_cons_succ])
                  refine wpAnyF_two (i := 3) (j := 5) (by kernel_rfl) rfl rfl (fun K hK => ?_) (fun K hK => ?_)
                  · go_simp
                    (go_at_call 28; (with_reducible refine (Of_c t _ (by omega) (by omega)).mono ?_); rintro e w9 ⟨v, rfl, hv, hb9⟩; obtain ⟨n9, A9, m9, k9, rfl, H9⟩ := hv.form; clear hv; replace V15 := V15.keep hb9; replace HB := below_step HB hb9)
                    clear hb9
                    refine hK.out _ _ (by exact ⟨V15.c0, V15.c1⟩) (fun hHeld => ?_)
                    clear hK K
                    (try simp only [Act.put, List.setIfInBounds_toArray, List.set_cons_zero, List.set_cons_succ])
                    refine wpAnyF_two (i := 4) (j := 5) (by kernel_rfl) rfl rfl (fun K hK => ?_) (fun K hK => ?_)
                    · go_simp
                      (go_at_call 33; (with_reducible refine (Sub_c Y t _ _ _ (by exact V15.iz.out) H9.out (by have := LY.out; omega) (by have := LT.out; omega)).mono ?_); rintro e w10 ⟨v, rfl, hv, hb10⟩; obtain ⟨n10, A10, m10, k10, rfl, H10⟩ := hv.form; clear hv; replace V15 := V15.keep hb10; replace HB := below_step HB hb10)
                      clear hb10
                      refine hK.out _ _ (by exact ⟨V15.c0, V15.c1⟩) (fun hHeld => ?_)
                      clear hK K
                      (try simp only [Act.put, List.setIfInBounds_toArray, List.set_cons_zero, List.set_cons_succ])
                      refine wpAnyF_one (i := 5) (by kernel_rfl) rfl (fun K hK => ?_)
                      go_simp
                      refine hK.out _ _ (by replace V15 := V15.keep (below_alloc (Below.refl w10.heap.size w10) (Obj.cells #[Value.bool false, Value.slice none 0 0] 28)); exact ⟨V15.c0, V15.c1⟩) (fun hHeld => ?_)
                      clear hK K
                      (try simp only [Act.put, List.setIfInBounds_toArray, List.set_cons_zero, List.set_cons_succ])
                      have hba1 := HB.size
                      have ltV15 := V15.lt
                      have RA := newRes w10 28
                      replace V15 := V15.keep (below_alloc (Below.refl w10.heap.size w10) (Obj.cells #[Value.bool false, Value.slice none 0 0] 28))
                      replace HB := below_alloc HB (Obj.cells #[Value.bool false, Value.slice none 0 0] 28)
                      replace H10 := Lib.hid (H10.out.below (below_alloc (Below.refl w10.heap.size w10) (Obj.cells #[Value.bool false, Value.slice none 0 0] 28)))
                      generalize hWa : w10.alloc (Obj.cells #[Value.bool false, Value.slice none 0 0] 28) = wa at *
                      generalize hba : w10.heap.size = ba at *
                      refine wpAnyF_st (i := 6) (by kernel_rfl) (by kernel_rfl) rfl (fun K hK => ?_)
                      obtain ⟨⟨u1_, r1_⟩, ⟨u2_, u3_, u4_, r2_⟩, r3_, r4_, r5_⟩ := RA
                      have RA : Res2 _ ba := ⟨⟨u1_, r1_⟩, ⟨u2_, u3_, u4_, r2_⟩, r3_, r4_, r5_⟩
                      go_simp
                      refine hK.out _ _ ?_
                      clear hK K r1_ r2_ r3_ r4_ r5_
                      (try simp only [Act.put, List.setIfInBounds_toArray, List.set_cons_zero, List.set_cons_succ])
                      refine wpAnyF_done (by kernel_rfl) ?_ _
                      clear hHeld
                      go_wp2_with fail
                      go_meet
                      exact ⟨ba, _, _, _, _, rfl, by omega, hba1, V15.far (x := .bool n10) (y := .slice A10 m10 k10) RA (by omega), VX.store RA H10.out, below_set2 HB hba1 _ _⟩
                    · go_simp
                      refine hK.out _ _ (by replace V15 := V15.keep (below_alloc (Below.refl w9.heap.size w9) (Obj.cells #[Value.bool false, Value.slice none 0 0] 28)); exact ⟨V15.c0, V15.c1⟩) (fun hHeld => ?_)
                      clear hK K
                      (try simp only [Act.put, List.setIfInBounds_toArray, List.set_cons_zero, List.set_cons_succ])
                      have hba1 := HB.size
                      have ltV15 := V15.lt
                      have RA := newRes w9 28
                      replace V15 := V15.keep (below_alloc (Below.refl w9.heap.size w9) (Obj.cells #[Value.bool false, Value.slice none 0 0] 28))
                      replace HB := below_alloc HB (Obj.cells #[Value.bool false, Value.slice none 0 0] 28)
                      replace H9 := Lib.hid (H9.out.below (below_alloc (Below.refl w9.heap.size w9) (Obj.cells #[Value.bool false, Value.slice none 0 0] 28)))
                      generalize hWa : w9.alloc (Obj.cells #[Value.bool false, Value.slice none 0 0] 28) = wa at *
                      generalize hba : w9.heap.size = ba at *
                      refine wpAnyF_one (i := 4) (by kernel_rfl) rfl (fun K hK => ?_)
                      go_simp
                      (go_at_call 33; (with_reducible refine (Sub_c Y t _ _ _ (by exact V15.iz.out) H9.out (by have := LY.out; omega) (by have := LT.out; omega)).mono ?_); rintro e w10 ⟨v, rfl, hv, hb10⟩; obtain ⟨n10, A10, m10, k10, rfl, H10⟩ := hv.form; clear hv; replace V15 := V15.keep hb10; replace HB := below_step HB hb10)
                      replace RA := RA.keep hb10
                      clear hb10
                      refine hK.out _ _ (by exact ⟨V15.c0, V15.c1⟩) (fun hHeld => ?_)
                      clear hK K
                      (try simp only [Act.put, List.setIfInBounds_toArray, List.set_cons_zero, List.set_cons_succ])
                      refine wpAnyF_st (i := 6) (by kernel_rfl) (by kernel_rfl) rfl (fun K hK => ?_)
                      obtain ⟨⟨u1_, r1_⟩, ⟨u2_, u3_, u4_, r2_⟩, r3_, r4_, r5_⟩ := RA
                      have RA : Res2 _ ba := ⟨⟨u1_, r1_⟩, ⟨u2_, u3_, u4_, r2_⟩, r3_, r4_, r5_⟩
                      go_simp
                      refine hK.out _ _ ?_
                      clear hK K r1_ r2_ r3_ r4_ r5_
                      (try simp only [Act.put, List.setIfInBounds_toArray, List.set_cons_zero, List.set_cons_succ])
                      refine wpAnyF_done (by kernel_rfl) ?_ _
                      clear hHeld
                      go_wp2_with fail
                      go_meet
                      exact ⟨ba, _, _, _, _, rfl, by omega, hba1, V15.far (x := .bool n10) (y := .slice A10 m10 k10) RA (by omega), VX.store RA H10.out, below_set2 HB hba1 _ _⟩
                  · go_simp
                    refine hK.out _ _ (by replace V15 := V15.keep (below_alloc (Below.refl wd.heap.size wd) (Obj.cells #[Value.bool false, Value.slice none 0 0] 28)); exact ⟨V15.c0, V15.c1⟩) (fun hHeld => ?_)
                    clear hK K
                    (try simp only [Act.put, List.setIfInBounds_toArray, List.set_cons_zero, List.set_cons_succ])
                    have hba1 := HB.size
                    have ltV15 := V15.lt
                    have RA := newRes wd 28
                    replace V15 := V15.keep (below_alloc (Below.refl wd.heap.size wd) (Obj.cells #[Value.bool false, Value.slice none 0 0] 28))
                    replace HB := below_alloc HB (Obj.cells #[Value.bool false, Value.slice none 0 0] 28)
                    generalize hWa : wd.alloc (Obj.cells #[Value.bool false, Value.slice none 0 0] 28) = wa at *
                    generalize hba : wd.heap.size = ba at *
                    refine wpAnyF_one (i := 3) (by kernel_rfl) rfl (fun K hK => ?_)
                    go_simp
                    (go_at_call 28; (with_reducible refine (Of_c t _ (by omega) (by omega)).mono ?_); rintro e w9 ⟨v, rfl, hv, hb9⟩; obtain ⟨n9, A9, m9, k9, rfl, H9⟩ := hv.form; clear hv; replace V15 := V15.keep hb9; replace HB := below_step HB hb9)
                    replace RA := RA.keep hb9
                    clear hb9
                    refine hK.out _ _ (by exact ⟨V15.c0, V15.c1⟩) (fun hHeld => ?_)
                    clear hK K
                    (try simp only [Act.put, List.setIfInBounds_toArray, List.set_cons_zero, List.set_cons_succ])
                    refine wpAnyF_one (i := 4) (by kernel_rfl) rfl (fun K hK => ?_)
                    go_simp
                    (go_at_call 33; (with_reducible refine (Sub_c Y t _ _ _ (by exact V15.iz.out) H9.out (by have := LY.out; omega) (by have := LT.out; omega)).mono ?_); rintro e w10 ⟨v, rfl, hv, hb10⟩; obtain ⟨n10, A10, m10, k10, rfl, H10⟩ := hv.form; clear hv; replace V15 := V15.keep hb10; replace HB := below_step HB hb10)
                    replace RA := RA.keep hb10
                    clear hb10
                    refine hK.out _ _ (by exact ⟨V15.c0, V15.c1⟩) (fun hHeld => ?_)
                    clear hK K
                    (try simp only [Act.put, List.setIfInBounds_toArray, List.set_cons_zero, List.set_cons_succ])
                    refine wpAnyF_st (i := 6) (by kernel_rfl) (by kernel_rfl) rfl (fun K hK => ?_)
                    obtain ⟨⟨u1_, r1_⟩, ⟨u2_, u3_, u4_, r2_⟩, r3_, r4_, r5_⟩ := RA
                    have RA : Res2 _ ba := ⟨⟨u1_, r1_⟩, ⟨u2_, u3_, u4_, r2_⟩, r3_, r4_, r5_⟩
                    go_simp
                    refine hK.out _ _ ?_
                    clear hK K r1_ r2_ r3_ r4_ r5_
                    (try simp only [Act.put, List.setIfInBounds_toArray, List.set_cons_zero, List.set_cons_succ])
                    refine wpAnyF_done (by kernel_rfl) ?_ _
                    clear hHeld
                    go_wp2_with fail
                    go_meet
                    exact ⟨ba, _, _, _, _, rfl, by omega, hba1, V15.far (x := .bool n10) (y := .slice A10 m10 k10) RA (by omega), VX.store RA H10.out, below_set2 HB hba1 _ _⟩
                case rest =>
                  clear V15 HB pc0 pc1 LT
                  obtain ⟨b16, nx, Ax, mx, kx, rfl, hne, hb16, V15, V16, HB⟩ := hcut
                  have hne2 : b16 ≠ b15 := fun h => hne h.symm
                  obtain ⟨sg, hs0⟩ : ∃ sg, (if (Y : Int) - t = 0 then (0 : Int) else if (Y : Int) - t < 0 then -1 else 1) = sg := ⟨_, rfl⟩
                  have hsg : (sg ≤ 0 ∧ (Y : Int) - t ≤ 0) ∨ (0 < sg ∧ 0 < (Y : Int) - t) := by rw [← hs0]; split <;> (try split) <;> omega
                  have HS0 := Lib.hid hs0
                  have HSG2 := Lib.hid hsg
                  clear hs0 hsg
                  have vx0 := V16.c0; have vx1 := V16.c1; have vxf := V16.f0; have vxg := V16.f1; have vxl := V16.lt
                  go_wp2_with fail
                  (with_reducible refine (Sign_c ((Y : Int) - t) _ _ V16.iz.out).mono ?_)
                  rintro e w11 ⟨rfl, hb⟩
                  replace V15 := V15.keep hb; replace V16 := V16.keep hb
                  replace HB := below_step HB hb
                  clear hb
                  clear vx0 vx1 vxf vxg vxl
                  rw [HS0.out]
                  go_upto_if 89 with fail
                  go_cut [] from 82 to 90 (fun wx => ∃ (X : Int) (nx : Bool) (Ax : Option Addr) (mx kx : Nat), 0 < X ∧ X ≤ Y ∧ VN wx b15 n0 A0 m0 k0 Y ∧ VN wx b16 nx Ax mx kx (X) ∧ Below w.heap.size w wx)
                  case first =>
                    have vx0 := V16.c0; have vx1 := V16.c1; have vxf := V16.f0; have vxg := V16.f1; have vxl := V16.lt
                    rcases HSG2.out with ⟨h1, h2⟩ | ⟨h1, h2⟩
                    · go_wp2_with fail
                      (with_reducible refine (Of_c 1 _ (by omega) (by omega)).mono ?_)
                      rintro e w12 ⟨v, rfl, hv, hb⟩
                      obtain ⟨n12, A12, m12, k12, rfl, H12⟩ := hv.form; clear hv
                      replace V15 := V15.keep hb; replace V16 := V16.keep hb
                      replace HB := below_step HB hb
                      clear hb
                      clear vx0 vx1 vxf vxg vxl
                      have vx0 := V16.c0; have vx1 := V16.c1; have vxf := V16.f0; have vxg := V16.f1; have vxl := V16.lt
                      go_wp2_with fail
                      clear vx0 vx1 vxf vxg vxl
                      go_meet
                      exact ⟨1, _, _, _, _, by omega, by omega, V15.far (x := .bool n12) (y := .slice A12 m12 k12) V16.res hne2, VX.store V16.res H12.out, below_set2 HB hb16 _ _⟩
                    · have h3 : ¬ sg ≤ 0 := by omega
                      go_wp2_with fail
                      clear vx0 vx1 vxf vxg vxl
                      go_meet
                      exact ⟨(Y : Int) - t, _, _, _, _, by omega, by omega, V15, V16, HB⟩
                  case rest =>
                    clear V15 V16 HB
                    obtain ⟨X, nx, Ax, mx, kx, hX0, hXY, V15, V16, HB⟩ := hcut
                    go_wp2_with fail
                    go_loopg [17] 2 (fun g iv wr => ∃ (i : Nat), g = 2 - i ∧ iv = .int .i64 i ∧ i ≤ 2 ∧ VN wr b15 n0 A0 m0 k0 Y ∧ VN wr b16 nx Ax mx kx (X) ∧ Below w.heap.size w wr)
                    case atStart => exact ⟨0, rfl, rfl, by omega, V15, V16, HB⟩
                    case round =>
                      clear V15 V16 HB
                      obtain ⟨i, hgk, rfl, hi, V15, V16, HB⟩ := hrel
                      by_cases hi2 : i < 2
                      · rcases (show i = 0 ∨ i = 1 by omega) with rfl | rfl
                        · clear hi
                          have hnd := (HFA.out (Y : Int) (by omega) (by omega)).1
                          obtain ⟨f1, ⟨jj, kk, j1, j2, kk1, f2, f3⟩⟩ := (HFA.out (Y : Int) (by omega) (by omega)).2
                          have G1 := Lib.hid f1
                          have G2 := Lib.hid f2
                          have G3 := Lib.hid f3
                          have hlen := len_dl hnd
                          clear f1 f2 f3
                          have vy0 := V15.c0; have vy1 := V15.c1; have vyf := V15.f0; have vyg := V15.f1; have vyl := V15.lt
                          go_wp2_with fail
                          (with_reducible refine (Text_c Y _ _ V15.iz.out (by have := LY.out; omega)).mono ?_)
                          rintro e w13 ⟨rfl, hb⟩
                          replace V15 := V15.keep hb; replace V16 := V16.keep hb
                          replace HB := below_step HB hb
                          clear hb
                          clear vy0 vy1 vyf vyg vyl
                          go_wp2_with fail
                          (with_reducible refine (fits_v q c a L (Y : Int) _ hnd (by omega) (by omega)).mono ?_)
                          rintro e w15 ⟨he, hb⟩
                          replace HB := below_step HB hb
                          replace V15 := V15.keep hb; replace V16 := V16.keep hb
                          clear hb
                          obtain rfl : e = .returned (.tuple #[.bool true, .int .i64 0]) := by rw [he, G1.out] <;> rfl
                          clear he
                          go_wp2_with fail
                          (with_reducible refine (least_v q c a (Y : Int) _ hnd).mono ?_)
                          rintro e w16 ⟨he, hb⟩
                          replace HB := below_step HB hb
                          replace V15 := V15.keep hb; replace V16 := V16.keep hb
                          clear hb
                          obtain rfl : e = .returned (.tuple #[.int .i64 jj, .int .i64 kk, .int .i64 0]) := by rw [he, G2.out] <;> rfl
                          clear he
                          by_cases ha2 : 1 < (a : Int)
                          · by_cases hj2 : 1 < jj
                            · have hjj : (1 : Int) < (jj : Int) := by omega
                              have G4 := Lib.hid (G3.out hj2)
                              go_wp2_with fail
                              (with_reducible refine (least_v q c ((jj : Int) - 1) (Y : Int) _ hnd).mono ?_)
                              rintro e w17 ⟨he, hb⟩
                              replace HB := below_step HB hb
                              replace V15 := V15.keep hb; replace V16 := V16.keep hb
                              clear hb
                              obtain rfl : e = .returned (.tuple #[.int .i64 0, .int .i64 0, .int .i64 4]) := by rw [he, G4.out] <;> rfl
                              clear he
                              go_wp2
                              go_roundg 1
                              case measure => omega
                              case rel => exact ⟨1, rfl, by go_num, by omega, V15, V16, HB⟩
                            · have hjj : ¬ (1 : Int) < (jj : Int) := by omega
                              go_wp2_with fail
                              (with_reducible refine (least_v q c ((jj : Int) - 1) (Y : Int) _ hnd).mono ?_)
                              rintro e w17 ⟨he, hb⟩
                              replace V15 := V15.keep hb; replace V16 := V16.keep hb
                              replace HB := below_step HB hb
                              clear hb
                              generalize bleast q c (Y : Int) ((jj : Int) - 1) = bz at *
                              obtain ⟨bz1, bz2, bz3⟩ := bz
                              dsimp only at he
                              subst he
                              go_wp2
                              go_roundg 1
                              case measure => omega
                              case rel => exact ⟨1, rfl, by go_num, by omega, V15, V16, HB⟩
                          · go_wp2
                            go_roundg 1
                            case measure => omega
                            case rel => exact ⟨1, rfl, by go_num, by omega, V15, V16, HB⟩
                        · clear hi
                          have hnd := (HFA.out X (by omega) (by omega)).1
                          obtain ⟨f1, ⟨jj, kk, j1, j2, kk1, f2, f3⟩⟩ := (HFA.out X (by omega) (by omega)).2
                          have G1 := Lib.hid f1
                          have G2 := Lib.hid f2
                          have G3 := Lib.hid f3
                          have hlen := len_dl hnd
                          clear f1 f2 f3
                          have vy0 := V15.c0; have vy1 := V15.c1; have vyf := V15.f0; have vyg := V15.f1; have vyl := V15.lt
                          go_wp2_with fail
                          (with_reducible refine (Text_c Y _ _ V15.iz.out (by have := LY.out; omega)).mono ?_)
                          rintro e w13 ⟨rfl, hb⟩
                          replace V15 := V15.keep hb; replace V16 := V16.keep hb
                          replace HB := below_step HB hb
                          clear hb
                          clear vy0 vy1 vyf vyg vyl
                          have vx0 := V16.c0; have vx1 := V16.c1; have vxf := V16.f0; have vxg := V16.f1; have vxl := V16.lt
                          go_wp2_with fail
                          (with_reducible refine (Text_c X _ _ V16.iz.out hlen).mono ?_)
                          rintro e w14 ⟨rfl, hb⟩
                          replace V15 := V15.keep hb; replace V16 := V16.keep hb
                          replace HB := below_step HB hb
                          clear hb
                          clear vx0 vx1 vxf vxg vxl
                          go_wp2_with fail
                          (with_reducible refine (fits_v q c a L X _ hnd (by omega) (by omega)).mono ?_)
                          rintro e w15 ⟨he, hb⟩
                          replace HB := below_step HB hb
                          replace V15 := V15.keep hb; replace V16 := V16.keep hb
                          clear hb
                          obtain rfl : e = .returned (.tuple #[.bool true, .int .i64 0]) := by rw [he, G1.out] <;> rfl
                          clear he
                          go_wp2_with fail
                          (with_reducible refine (least_v q c a X _ hnd).mono ?_)
                          rintro e w16 ⟨he, hb⟩
                          replace HB := below_step HB hb
                          replace V15 := V15.keep hb; replace V16 := V16.keep hb
                          clear hb
                          obtain rfl : e = .returned (.tuple #[.int .i64 jj, .int .i64 kk, .int .i64 0]) := by rw [he, G2.out] <;> rfl
                          clear he
                          by_cases ha2 : 1 < (a : Int)
                          · by_cases hj2 : 1 < jj
                            · have hjj : (1 : Int) < (jj : Int) := by omega
                              have G4 := Lib.hid (G3.out hj2)
                              go_wp2_with fail
                              (with_reducible refine (least_v q c ((jj : Int) - 1) X _ hnd).mono ?_)
                              rintro e w17 ⟨he, hb⟩
                              replace HB := below_step HB hb
                              replace V15 := V15.keep hb; replace V16 := V16.keep hb
                              clear hb
                              obtain rfl : e = .returned (.tuple #[.int .i64 0, .int .i64 0, .int .i64 4]) := by rw [he, G4.out] <;> rfl
                              clear he
                              go_wp2
                              go_roundg 0
                              case measure => omega
                              case rel => exact ⟨2, rfl, by go_num, by omega, V15, V16, HB⟩
                            · have hjj : ¬ (1 : Int) < (jj : Int) := by omega
                              go_wp2_with fail
                              (with_reducible refine (least_v q c ((jj : Int) - 1) X _ hnd).mono ?_)
                              rintro e w17 ⟨he, hb⟩
                              replace V15 := V15.keep hb; replace V16 := V16.keep hb
                              replace HB := below_step HB hb
                              clear hb
                              generalize bleast q c X ((jj : Int) - 1) = bz at *
                              obtain ⟨bz1, bz2, bz3⟩ := bz
                              dsimp only at he
                              subst he
                              go_wp2
                              go_roundg 0
                              case measure => omega
                              case rel => exact ⟨2, rfl, by go_num, by omega, V15, V16, HB⟩
                          · go_wp2
                            go_roundg 0
                            case measure => omega
                            case rel => exact ⟨2, rfl, by go_num, by omega, V15, V16, HB⟩
                      · have HN : Hid ((kinB q c && decide (1 ≤ (a : Int)) && decide ((a : Int) ≤ 1000)) = true) := by show _ = _; rw [HK.out, decide_eq_true (show 1 ≤ (a : Int) by omega), decide_eq_true (show (a : Int) ≤ 1000 by omega)]; rfl
                        go_wp2_with fail
                        (with_reducible refine (bBelow_c q c a _).mono ?_)
                        rintro e w20 ⟨hb, h⟩
                        replace HB := below_step HB hb
                        replace V15 := V15.keep hb
                        clear hb
                        obtain ⟨T, hT0, hTY, hTd, rfl⟩ : ∃ T : Int, 0 ≤ T ∧ (Y : Int) ≤ T ∧ dlN T.natAbs ≤ 2000 ∧ e = .returned (.tuple #[.string (tS T), .int .i64 0]) := by
                          rcases h with ⟨h, _⟩ | ⟨_, T', hT', _, rfl⟩
                          · rw [HN.out] at h; cases h
                          · rw [Int.toNat_natCast] at hT'
                            have BV := bel_val hT' (by omega) (by omega) (by omega) (by omega) (by omega)
                            have h5 := HTH.out T' hT'
                            exact ⟨T', by omega, by omega, thr_dig hT' (by omega) (by omega) (by omega) (by omega) (by omega) (by omega), by rw [BV.1, BV.2]⟩
                        clear h
                        have HVT := Lib.hid (vld_tS hTd)
                        have hcm : 0 ≤ icmp T Y := by
                          have := (icmp_lt T Y).1
                          omega
                        go_wp2_with fail
                        replace V15 := V15.drew
                        replace HB := below_drew HB
                        generalize hWd : w20.drew = wd at *
                        refine wp_region_F (fun w' => w'.cell? ⟨b15, 0, none⟩ = some (.bool n0) ∧ w'.cell? ⟨b15, 1, none⟩ = some (.slice A0 m0 k0)) [] (by kernel_rfl) (by rw [hWd]; exact ⟨V15.c0, V15.c1⟩) (fun hHeld => ?_)
                        rw [hWd] at hHeld ⊢
                        refine wpAnyF_take (i := 0) (oi := { dst := some 168, op := Go.Op.move (Go.Operand.tmp 25), type := 24, pos := "outright.go:63", after := #[], guard := none }) (v := ?_) rfl (by kernel_rfl) (by kernel_rfl) (by kernel_rfl) (by kernel_rfl) (fun _ _ _ h => h) (Or.inl ⟨by rfl, ?_⟩) hHeld ?_
                        rotate_left
                        · intro w_ hSw_; (try dsimp only at hSw_); go_simp; (try with_reducible rfl)
                        (try simp only [Act.put, List.setIfInBounds_toArray, List.set_cons_zero, List.set_cons_succ])
                        refine wpAnyF_take (i := 1) (oi := { dst := some 169, op := Go.Op.binOp Go.BinOp.eql 24 (Go.Operand.tmp 168) (Go.Operand.const (Go.Value.int Go.IntKind.i64 0)) 24, type := 4, pos := "outright.go:63", after := #[{ on := 0, ground := Go.Ground.data }], guard := none }) (v := ?_) rfl (by kernel_rfl) (by kernel_rfl) (by kernel_rfl) (by kernel_rfl) (fun _ _ _ h => h) (Or.inl ⟨by rfl, ?_⟩) hHeld ?_
                        rotate_left
                        · intro w_ hSw_; (try dsimp only at hSw_); go_simp; (try with_reducible rfl)
                        (try simp only [Act.put, List.setIfInBounds_toArray, List.set_cons_zero, List.set_cons_succ])
                        refine wpAnyF_take (i := 2) (oi := { dst := some 170, op := Go.Op.move (Go.Operand.tmp 169), type := 4, pos := "outright.go:63", after := #[{ on := 1, ground := Go.Ground.data }], guard := none }) (v := ?_) rfl (by kernel_rfl) (by kernel_rfl) (by kernel_rfl) (by kernel_rfl) (fun _ _ _ h => h) (Or.inl ⟨by rfl, ?_⟩) hHeld ?_
                        rotate_left
                        · intro w_ hSw_; (try dsimp only at hSw_); go_simp; (try with_reducible rfl)
                        (try simp only [Act.put, List.setIfInBounds_toArray, List.set_cons_zero, List.set_cons_succ])
                        refine wpAnyF_take (i := 3) (oi := { dst := some 171, op := Go.Op.move (Go.Operand.tmp 24), type := 9, pos := "outright.go:63", after := #[{ on := 2, ground := Go.Ground.guard }], guard := some (2, true) }) (v := ?_) rfl (by kernel_rfl) (by kernel_rfl) (by kernel_rfl) (by kernel_rfl) (fun _ _ _ h => h) (Or.inl ⟨by rfl, ?_⟩) hHeld ?_
                        rotate_left
                        · intro w_ hSw_; (try dsimp only at hSw_); go_simp; (try with_reducible rfl)
                        (try simp only [Act.put, List.setIfInBounds_toArray, List.set_cons_zero, List.set_cons_succ])
                        refine wpAnyF_one (i := 4) (by kernel_rfl) rfl (fun K hK => ?_)
                        go_simp
                        (go_at_call 24; (with_reducible refine (Valid_c (tS T) _ (tS_sz hTd)).mono ?_); rintro e w21 ⟨rfl, hw⟩; subst hw; rw [HVT.out])
                        refine hK.out _ _ (by exact ⟨V15.c0, V15.c1⟩) (fun hHeld => ?_)
                        clear hK K
                        (try simp only [Act.put, List.setIfInBounds_toArray, List.set_cons_zero, List.set_cons_succ])
                        refine wpAnyF_take (i := 5) (oi := { dst := some 173, op := Go.Op.pick (Go.Operand.tmp 170) (Go.Operand.tmp 172) (Go.Operand.const (Go.Value.bool false)), type := 4, pos := "outright.go:63", after := #[{ on := 2, ground := Go.Ground.data }, { on := 4, ground := Go.Ground.data }], guard := none }) (v := ?_) rfl (by kernel_rfl) (by kernel_rfl) (by kernel_rfl) (by kernel_rfl) (fun _ _ _ h => h) (Or.inl ⟨by rfl, ?_⟩) hHeld ?_
                        rotate_left
                        · intro w_ hSw_; (try dsimp only at hSw_); go_simp; (try with_reducible rfl)
                        (try simp only [Act.put, List.setIfInBounds_toArray, List.set_cons_zero, List.set_cons_succ])
                        refine wpAnyF_take (i := 6) (oi := { dst := some 174, op := Go.Op.move (Go.Operand.tmp 173), type := 4, pos := "outright.go:63", after := #[{ on := 5, ground := Go.Ground.data }, { on := 4, ground := Go.Ground.chain }], guard := none }) (v := ?_) rfl (by kernel_rfl) (by kernel_rfl) (by kernel_rfl) (by kernel_rfl) (fun _ _ _ h => h) (Or.inl ⟨by rfl, ?_⟩) hHeld ?_
                        rotate_left
                        · intro w_ hSw_; (try dsimp only at hSw_); go_simp; (try with_reducible rfl)
                        (try simp only [Act.put, List.setIfInBounds_toArray, List.set_cons_zero, List.set_cons_succ])
                        refine wpAnyF_take (i := 7) (oi := { dst := some 175, op := Go.Op.move (Go.Operand.tmp 24), type := 9, pos := "outright.go:63", after := #[{ on := 6, ground := Go.Ground.guard }], guard := some (6, true) }) (v := ?_) rfl (by kernel_rfl) (by kernel_rfl) (by kernel_rfl) (by kernel_rfl) (fun _ _ _ h => h) (Or.inl ⟨by rfl, ?_⟩) hHeld ?_
                        rotate_left
                        · intro w_ hSw_; (try dsimp only at hSw_); go_simp; (try with_reducible rfl)
                        (try simp only [Act.put, List.setIfInBounds_toArray, List.set_cons_zero, List.set_cons_succ])
                        refine wpAnyF_take (i := 9) (oi := { dst := some 177, op := Go.Op.load 28 (Go.Operand.tmp 15), type := 28, pos := "outright.go:63", after := #[{ on := 6, ground := Go.Ground.guard }], guard := some (6, true) }) (v := ?_) rfl (by kernel_rfl) (by kernel_rfl) (by kernel_rfl) (by kernel_rfl) (fun _ _ _ h => h) (Or.inl ⟨by rfl, ?_⟩) hHeld ?_
                        rotate_left
                        · intro w_ hSw_; (try dsimp only at hSw_); go_simp; (try with_reducible rfl)
                        (try simp only [Act.put, List.setIfInBounds_toArray, List.set_cons_zero, List.set_cons_succ])
                        refine wpAnyF_one (i := 8) (by kernel_rfl) rfl (fun K hK => ?_)
                        go_simp
                        (go_at_call 13; (with_reducible refine (Parse_c T _ (by omega)).mono ?_); rintro e w22 ⟨v, rfl, hv, hb⟩; replace HB := below_step HB hb; replace V15 := V15.keep hb; have P := Lib.hid hv; clear hv hb)
                        refine hK.out _ _ (by exact ⟨V15.c0, V15.c1⟩) (fun hHeld => ?_)
                        clear hK K
                        (try simp only [Act.put, List.setIfInBounds_toArray, List.set_cons_zero, List.set_cons_succ])
                        refine wpAnyF_one (i := 10) (by kernel_rfl) rfl (fun K hK => ?_)
                        go_simp
                        (go_at_call 23; (with_reducible refine (Cmp_c T Y _ _ _ P.out (by exact V15.iz.out)).mono ?_); rintro e w23 ⟨rfl, hb⟩; replace HB := below_step HB hb; replace V15 := V15.keep hb; clear hb P)
                        refine hK.out _ _ (by exact ⟨V15.c0, V15.c1⟩) (fun hHeld => ?_)
                        clear hK K
                        (try simp only [Act.put, List.setIfInBounds_toArray, List.set_cons_zero, List.set_cons_succ])
                        refine wpAnyF_take (i := 11) (oi := { dst := some 179, op := Go.Op.binOp Go.BinOp.geq 3 (Go.Operand.tmp 178) (Go.Operand.const (Go.Value.int Go.IntKind.i64 0)) 3, type := 4, pos := "outright.go:63", after := #[{ on := 10, ground := Go.Ground.data }, { on := 6, ground := Go.Ground.guard }], guard := some (6, true) }) (v := ?_) rfl (by kernel_rfl) (by kernel_rfl) (by kernel_rfl) (by kernel_rfl) (fun _ _ _ h => h) (Or.inl ⟨by rfl, ?_⟩) hHeld ?_
                        rotate_left
                        · intro w_ hSw_; (try dsimp only at hSw_); go_simp; (try with_reducible rfl)
                        (try simp only [Act.put, List.setIfInBounds_toArray, List.set_cons_zero, List.set_cons_succ])
                        refine wpAnyF_take (i := 12) (oi := { dst := some 180, op := Go.Op.pick (Go.Operand.tmp 174) (Go.Operand.tmp 179) (Go.Operand.const (Go.Value.bool false)), type := 4, pos := "outright.go:63", after := #[{ on := 6, ground := Go.Ground.data }, { on := 11, ground := Go.Ground.data }], guard := none }) (v := ?_) rfl (by kernel_rfl) (by kernel_rfl) (by kernel_rfl) (by kernel_rfl) (fun _ _ _ h => h) (Or.inl ⟨by rfl, ?_⟩) hHeld ?_
                        rotate_left
                        · intro w_ hSw_; (try dsimp only at hSw_); go_simp; (try with_reducible rfl)
                        (try simp only [Act.put, List.setIfInBounds_toArray, List.set_cons_zero, List.set_cons_succ])
                        refine wpAnyF_take (i := 13) (oi := { dst := some 181, op := Go.Op.move (Go.Operand.tmp 180), type := 4, pos := "outright.go:63", after := #[{ on := 12, ground := Go.Ground.data }, { on := 10, ground := Go.Ground.chain }], guard := none }) (v := ?_) rfl (by kernel_rfl) (by kernel_rfl) (by kernel_rfl) (by kernel_rfl) (fun _ _ _ h => h) (Or.inl ⟨by rfl, ?_⟩) hHeld ?_
                        rotate_left
                        · intro w_ hSw_; (try dsimp only at hSw_); go_simp; (try with_reducible rfl)
                        (try simp only [Act.put, List.setIfInBounds_toArray, List.set_cons_zero, List.set_cons_succ])
                        refine wpAnyF_one (i := 14) (by kernel_rfl) rfl (fun K hK => ?_)
                        go_simp
                        (go_at_call 11; (with_reducible refine (awake_c _).mono ?_); rintro e w24 ⟨rfl, hb⟩; replace HB := below_step HB hb; replace V15 := V15.keep hb; clear hb)
                        refine hK.out _ _ (by exact ⟨V15.c0, V15.c1⟩) (fun hHeld => ?_)
                        clear hK K
                        (try simp only [Act.put, List.setIfInBounds_toArray, List.set_cons_zero, List.set_cons_succ])
                        refine wpAnyF_take (i := 15) (oi := { dst := some 183, op := Go.Op.pick (Go.Operand.tmp 181) (Go.Operand.tmp 182) (Go.Operand.const (Go.Value.bool false)), type := 4, pos := "outright.go:63", after := #[{ on := 13, ground := Go.Ground.data }, { on := 14, ground := Go.Ground.data }], guard := none }) (v := ?_) rfl (by kernel_rfl) (by kernel_rfl) (by kernel_rfl) (by kernel_rfl) (fun _ _ _ h => h) (Or.inl ⟨by rfl, ?_⟩) hHeld ?_
                        rotate_left
                        · intro w_ hSw_; (try dsimp only at hSw_); go_simp; (try with_reducible rfl)
                        (try simp only [Act.put, List.setIfInBounds_toArray, List.set_cons_zero, List.set_cons_succ])
                        refine wpAnyF_take (i := 16) (oi := { dst := some 8, op := Go.Op.assign (Go.Operand.tmp 183), type := 4, pos := "outright.go:63", after := #[{ on := 15, ground := Go.Ground.data }, { on := 14, ground := Go.Ground.chain }, { on := 0, ground := Go.Ground.phase }, { on := 1, ground := Go.Ground.phase }, { on := 2, ground := Go.Ground.phase }, { on := 3, ground := Go.Ground.phase }, { on := 4, ground := Go.Ground.phase }, { on := 5, ground := Go.Ground.phase }, { on := 6, ground := Go.Ground.phase }, { on := 7, ground := Go.Ground.phase }, { on := 8, ground := Go.Ground.phase }, { on := 9, ground := Go.Ground.phase }, { on := 10, ground := Go.Ground.phase }, { on := 11, ground := Go.Ground.phase }, { on := 12, ground := Go.Ground.phase }, { on := 13, ground := Go.Ground.phase }, { on := 14, ground := Go.Ground.phase }, { on := 15, ground := Go.Ground.phase }], guard := none }) (v := ?_) rfl (by kernel_rfl) (by kernel_rfl) (by kernel_rfl) (by kernel_rfl) (fun _ _ _ h => h) (Or.inl ⟨by rfl, ?_⟩) hHeld ?_
                        rotate_left
                        · intro w_ hSw_; (try dsimp only at hSw_); go_simp; (try with_reducible rfl)
                        (try simp only [Act.put, List.setIfInBounds_toArray, List.set_cons_zero, List.set_cons_succ])
                        refine wpAnyF_done (by kernel_rfl) ?_ _
                        clear hHeld
                        go_wp2
                        go_ret
                        exact ⟨rfl, HB⟩
end Go.Proofs.Ytiaeeclmlchpoaa
