/- What the functions of the eighth reference do to memory and what they return. No condition. -/
import Derived.Test.YtiaeeclmlchpoaaZ4
set_option linter.unusedVariables false
set_option linter.unusedSimpArgs false
namespace Go.Proofs.Ytiaeeclmlchpoaa
open Go.RowKit

theorem dl_le (z : Int) : dl z ≤ 9 * (dg B9 z).length + 1 := by
  unfold dl
  split
  · omega
  · rename_i h
    have h1 := len_lt B9two z
    have : z.natAbs < 10 ^ (9 * (dg B9 z).length) := by rw [Nat.pow_mul]; exact h1
    have := digs_len_le (B := 10) (by omega) this
    omega

set_option maxRecDepth 100000 in
set_option maxHeartbeats 1000000 in
theorem Long_c (q c x t : Int) (v : Value) (w : World) (h : IsN w v x) (hq : -1000000 < q ∧ q < 1000000) (hc : -1000000 < c ∧ c < 1000000) (sx : (dg B9 x).length ≤ 900000000) (ht0 : 0 ≤ t) (ht1 : t ≤ 1000000) :
    Calls Try.prog 14 #[.int .i64 q, .int .i64 c, v, .int .i64 t] w fun e w' => e = .returned (.bool (decide (100000 < t * (dl (q * x + c) : Int)))) ∧ Below w.heap.size w w' := by
  obtain ⟨na, A, n, k, rfl, H⟩ := h.form
  clear h
  have HQ := Lib.hid hq
  have HC := Lib.hid hc
  have LS : Hid ((dg B9 (q * x + c)).length ≤ 1000000000) := by
    have h1 := len_mul B9two q x
    have h2 := len_add B9two (q * x) c
    have h3 : (dg B9 q).length ≤ 2 := len_int (by omega) (by omega)
    have h4 : (dg B9 c).length ≤ 2 := len_int (by omega) (by omega)
    show _ ≤ _; omega
  have hd := dl_le (q * x + c)
  have hp0 : 0 ≤ t * (dl (q * x + c) : Int) := Int.mul_nonneg ht0 (by omega)
  have hp1 : t * (dl (q * x + c) : Int) ≤ 1000000 * 9000000001 := Int.mul_le_mul ht1 (by have := LS.out; omega) (by omega) (by omega)
  have hp2 : t * (dl (q * x + c) : Int) ≤ 9000000001000000 := by omega
  clear hp1 hd hq hc
  obtain ⟨z, hz⟩ : ∃ z, z = q * x + c := ⟨_, rfl⟩
  rw [← hz] at LS hp0 hp2 ⊢
  have HZ := Lib.hid hz
  clear hz
  go_enter Try.func14, Try.ntmps14
  go_wp2_with (first
    | (go_at_call 35; (with_reducible refine (Sum_c q c x _ _ (by exact H.out.below (by repeat (with_reducible first | assumption | exact Below.refl _ _ | apply below_drew | apply below_drewN | apply below_alloc | refine below_step ?_ (by assumption)))) HQ.out HC.out sx).mono ?_); rintro e w1 ⟨v, rfl, hv, hb1⟩; obtain ⟨n1, A1, m1, k1, rfl, H1⟩ := hv.form; clear hv; rw [← HZ.out] at H1)
    | (go_at_call 34; (with_reducible refine (Digits_c z _ _ H1.out (by have := LS.out; omega)).mono ?_); rintro e w2 ⟨rfl, hb2⟩))
  go_ret
  exact ⟨rfl, below_step (below_step (below_alloc (Below.refl _ _) _) hb1) hb2⟩

/-- What it is for a pair to fit a positive number. -/
def fits (q c N : Int) (a k : Nat) : Bool := decide (q ^ a < 2 ^ k) && decide (2 ^ k * N ^ a ≤ (q * N + c) ^ a)
theorem icmp_lt (x y : Int) : icmp x y < 0 ↔ x < y := by unfold icmp; split <;> (try split) <;> omega
theorem icmp_le (x y : Int) : icmp x y ≤ 0 ↔ x ≤ y := by unfold icmp; split <;> (try split) <;> omega

set_option maxRecDepth 100000 in
set_option maxHeartbeats 2000000 in
theorem Fits8_c (q c x : Int) (a k : Nat) (v : Value) (w : World) (h : IsN w v x) (hq : -1000000 < q ∧ q < 1000000) (hc : -1000000 < c ∧ c < 1000000) (sx : ((dg B9 x).length + 4) * (2 * a + 1) + 1 ≤ 100000000) (ha : a ≤ 1000000) (hk : k ≤ 1000000) :
    Calls Try.prog 15 #[.int .i64 q, .int .i64 c, v, .int .i64 a, .int .i64 k] w fun e w' => e = .returned (.bool (fits q c x a k)) ∧ Below w.heap.size w w' := by
  obtain ⟨na, A, n, kk, rfl, H⟩ := h.form
  clear h
  have HQ := Lib.hid hq
  have HC := Lib.hid hc
  obtain ⟨hq1, hq2⟩ := hq
  obtain ⟨hc1, hc2⟩ := hc
  have lq : (dg B9 q).length ≤ 2 := len_int (by omega) (by omega)
  have l2 : (dg B9 2).length ≤ 2 := len_int (by omega) (by omega)
  have lc : (dg B9 c).length ≤ 2 := len_int (by omega) (by omega)
  have h1 := len_mul B9two q x
  have h2 := len_add B9two (q * x) c
  have lx : (dg B9 x).length ≤ 100000000 := by
    have : ((dg B9 x).length + 4) * 1 ≤ ((dg B9 x).length + 4) * (2 * a + 1) := Nat.mul_le_mul_left _ (by omega)
    omega
  have E1 : Hid ((dg B9 q).length * (2 * a + 1) + 1 ≤ 1000000000) := by
    have := Nat.mul_le_mul_right (2 * a + 1) (show (dg B9 q).length ≤ (dg B9 x).length + 4 by omega); show _ ≤ _; omega
  have E2 : Hid ((dg B9 2).length * (2 * k + 1) + 1 ≤ 1000000000) := by
    have := Nat.mul_le_mul l2 (show 2 * k + 1 ≤ 2000001 by omega); show _ ≤ _; omega
  have E3 : Hid ((dg B9 x).length * (2 * a + 1) + 1 ≤ 1000000000) := by
    have := Nat.mul_le_mul_right (2 * a + 1) (show (dg B9 x).length ≤ (dg B9 x).length + 4 by omega); show _ ≤ _; omega
  have E4 : Hid ((dg B9 (q * x + c)).length * (2 * a + 1) + 1 ≤ 1000000000) := by
    have := Nat.mul_le_mul_right (2 * a + 1) (show (dg B9 (q * x + c)).length ≤ (dg B9 x).length + 4 by omega); show _ ≤ _; omega
  have E5 : Hid ((dg B9 (2 ^ k)).length ≤ 1000000000) := len_pow_le rfl E2.out (by omega)
  have E6 : Hid ((dg B9 (x ^ a)).length ≤ 1000000000) := len_pow_le rfl E3.out (by omega)
  have SX : Hid ((dg B9 x).length ≤ 900000000) := by show _ ≤ _; omega
  clear h1 h2 lq l2 lc sx lx
  by_cases hlt : q ^ a < 2 ^ k
  · have hg : icmp (q ^ a) (2 ^ k) < 0 := (icmp_lt _ _).2 hlt
    have HR : Hid (decide (icmp (2 ^ k * x ^ a) ((q * x + c) ^ a) ≤ 0) = fits q c x a k) := by
      show _ = _; unfold fits; rw [decide_eq_true hlt, Bool.true_and]; exact decide_eq_decide.2 (icmp_le _ _)
    clear hlt
    go_enter Try.func15, Try.ntmps15
    go_wp2_with (first
      | (go_at_call 28; (with_reducible refine (Of_c 2 _ (by omega) (by omega)).mono ?_); rintro e w1 ⟨v, rfl, hv, hb1⟩; obtain ⟨n1, A1, m1, k1, rfl, H1⟩ := hv.form; clear hv)
      | (go_at_call 37; (with_reducible refine (Power_c 2 k _ _ H1.out (by omega) E2.out).mono ?_); rintro e w2 ⟨v, rfl, hv, hb2⟩; obtain ⟨n2, A2, m2, k2, rfl, H2⟩ := hv.form; clear hv))
    have hb0 := below_step (below_step (below_alloc (Below.refl w.heap.size w) (Obj.cells #[Value.bool na, Value.slice A n kk] 28)) hb1) hb2
    have VP := ((VX.new w 28 H.out).keep hb1).keep hb2
    generalize hW : w2.alloc (Obj.cells #[Value.bool n2, Value.slice A2 m2 k2] 28) = W
    have VT : VN W w2.heap.size n2 A2 m2 k2 (2 ^ k) := by subst hW; exact VX.new w2 _ H2.out
    have hb3 : Below w2.heap.size w2 W := by subst hW; exact below_alloc (Below.refl _ _) _
    replace VP := VP.keep hb3
    replace hb0 := below_step hb0 hb3
    clear hW hb1 hb2 hb3 H1 H2
    generalize w2.heap.size = bt at *
    have VT2 := VT.drew
    have VP2 := VP.drew
    go_region_held3 (fun w' => w'.cell? ⟨bt, 0, none⟩ = some (.bool n2) ∧ w'.cell? ⟨bt, 1, none⟩ = some (.slice A2 m2 k2) ∧ w'.cell? ⟨w.heap.size, 0, none⟩ = some (.bool na) ∧ w'.cell? ⟨w.heap.size, 1, none⟩ = some (.slice A n kk))
      (first | exact ⟨VT2.c0, VT2.c1, VP2.c0, VP2.c1⟩ | exact ⟨VT3.c0, VT3.c1, VP3.c0, VP3.c1⟩ | exact ⟨VT4.c0, VT4.c1, VP4.c0, VP4.c1⟩ | exact ⟨VT5.c0, VT5.c1, VP5.c0, VP5.c1⟩ | exact ⟨VT6.c0, VT6.c1, VP6.c0, VP6.c1⟩ | exact ⟨VT7.c0, VT7.c1, VP7.c0, VP7.c1⟩ | exact ⟨VT8.c0, VT8.c1, VP8.c0, VP8.c1⟩ | exact ⟨VT9.c0, VT9.c1, VP9.c0, VP9.c1⟩ | exact ⟨VT10.c0, VT10.c1, VP10.c0, VP10.c1⟩)
      (first
        | (go_at_call 28; (with_reducible refine (Of_c q _ (by omega) (by omega)).mono ?_); rintro e w3 ⟨v, rfl, hv, hb3⟩; obtain ⟨n3, A3, m3, k3, rfl, H3⟩ := hv.form; clear hv; have VT3 := VT2.keep hb3; have VP3 := VP2.keep hb3)
        | (go_at_call 37; (with_reducible refine (Power_c q a _ _ H3.out (by omega) E1.out).mono ?_); rintro e w4 ⟨v, rfl, hv, hb4⟩; obtain ⟨n4, A4, m4, k4, rfl, H4⟩ := hv.form; clear hv; have VT4 := VT3.keep hb4; have VP4 := VP3.keep hb4)
        | (go_at_call 23; (with_reducible refine (Cmp_c (q ^ a) (2 ^ k) _ _ _ H4.out (by exact VT4.iz.out)).mono ?_); rintro e w5 ⟨rfl, hb5⟩; have VT5 := VT4.keep hb5; have VP5 := VP4.keep hb5)
        | (go_at_call 37; (with_reducible refine (Power_c x a _ _ (by exact VP5.iz.out) (by omega) E3.out).mono ?_); rintro e w6 ⟨v, rfl, hv, hb6⟩; obtain ⟨n6, A6, m6, k6, rfl, H6⟩ := hv.form; clear hv; have VT6 := VT5.keep hb6; have VP6 := VP5.keep hb6)
        | (go_at_call 38; (with_reducible refine (Mul_c (2 ^ k) (x ^ a) _ _ _ (by exact VT6.iz.out) H6.out E5.out E6.out).mono ?_); rintro e w7 ⟨v, rfl, hv, hb7⟩; obtain ⟨n7, A7, m7, k7, rfl, H7⟩ := hv.form; clear hv; have VT7 := VT6.keep hb7; have VP7 := VP6.keep hb7)
        | (go_at_call 35; (with_reducible refine (Sum_c q c x _ _ (by exact VP7.iz.out) HQ.out HC.out SX.out).mono ?_); rintro e w8 ⟨v, rfl, hv, hb8⟩; obtain ⟨n8, A8, m8, k8, rfl, H8⟩ := hv.form; clear hv; have VT8 := VT7.keep hb8; have VP8 := VP7.keep hb8)
        | (go_at_call 37; (with_reducible refine (Power_c (q * x + c) a _ _ H8.out (by omega) E4.out).mono ?_); rintro e w9 ⟨v, rfl, hv, hb9⟩; obtain ⟨n9, A9, m9, k9, rfl, H9⟩ := hv.form; clear hv; have VT9 := VT8.keep hb9; have VP9 := VP8.keep hb9)
        | (go_at_call 23; (with_reducible refine (Cmp_c (2 ^ k * x ^ a) ((q * x + c) ^ a) _ _ _ (by exact H7.out.below (by repeat (with_reducible first | assumption | exact Below.refl _ _ | apply below_drew | apply below_drewN | apply below_alloc | refine below_step ?_ (by assumption)))) H9.out).mono ?_); rintro e w10 ⟨rfl, hb10⟩; have VT10 := VT9.keep hb10; have VP10 := VP9.keep hb10))
    go_wp2
    go_ret
    exact ⟨by rw [← HR.out]; rfl, below_step (below_step (below_step (below_step (below_step (below_step (below_step (below_step (below_drew hb0) hb3) hb4) hb5) hb6) hb7) hb8) hb9) hb10⟩
  · have hg : decide (icmp (q ^ a) (2 ^ k) < 0) = false := decide_eq_false fun h => hlt ((icmp_lt _ _).1 h)
    have HR : Hid (false = fits q c x a k) := by
      show _ = _; unfold fits; rw [decide_eq_false hlt, Bool.false_and]
    clear hlt
    go_enter Try.func15, Try.ntmps15
    go_wp2_with (first
      | (go_at_call 28; (with_reducible refine (Of_c 2 _ (by omega) (by omega)).mono ?_); rintro e w1 ⟨v, rfl, hv, hb1⟩; obtain ⟨n1, A1, m1, k1, rfl, H1⟩ := hv.form; clear hv)
      | (go_at_call 37; (with_reducible refine (Power_c 2 k _ _ H1.out (by omega) E2.out).mono ?_); rintro e w2 ⟨v, rfl, hv, hb2⟩; obtain ⟨n2, A2, m2, k2, rfl, H2⟩ := hv.form; clear hv))
    have hb0 := below_step (below_step (below_alloc (Below.refl w.heap.size w) (Obj.cells #[Value.bool na, Value.slice A n kk] 28)) hb1) hb2
    have VP := ((VX.new w 28 H.out).keep hb1).keep hb2
    generalize hW : w2.alloc (Obj.cells #[Value.bool n2, Value.slice A2 m2 k2] 28) = W
    have VT : VN W w2.heap.size n2 A2 m2 k2 (2 ^ k) := by subst hW; exact VX.new w2 _ H2.out
    have hb3 : Below w2.heap.size w2 W := by subst hW; exact below_alloc (Below.refl _ _) _
    replace VP := VP.keep hb3
    replace hb0 := below_step hb0 hb3
    clear hW hb1 hb2 hb3 H1 H2
    generalize w2.heap.size = bt at *
    have VT2 := VT.drew
    have VP2 := VP.drew
    refine wp_region_held_drew (S := (fun w' => w'.cell? ⟨bt, 0, none⟩ = some (.bool n2) ∧ w'.cell? ⟨bt, 1, none⟩ = some (.slice A2 m2 k2) ∧ w'.cell? ⟨w.heap.size, 0, none⟩ = some (.bool na) ∧ w'.cell? ⟨w.heap.size, 1, none⟩ = some (.slice A n kk))) (by kernel_rfl) (by exact ⟨VT2.c0, VT2.c1, VP2.c0, VP2.c1⟩) (fun hHeld => ?_)
    refine wpAnyH_take (i := 0) (oi := { dst := some 15, op := Go.Op.move (Go.Operand.tmp 0), type := 3, pos := "ref.go:36", after := #[], guard := none }) (v := ?_) rfl (by kernel_rfl) (by kernel_rfl) (by kernel_rfl) (fun _ _ _ h => h) (Or.inl ⟨by rfl, ?_⟩) hHeld ?_
    rotate_left
    · intro w_ hSw_; (try dsimp only at hSw_); go_simp; (try with_reducible rfl)
    (try simp only [Act.put, List.setIfInBounds_toArray, List.set_cons_zero, List.set_cons_succ])
    refine wpAnyH_take (i := 2) (oi := { dst := some 17, op := Go.Op.move (Go.Operand.tmp 3), type := 3, pos := "ref.go:36", after := #[], guard := none }) (v := ?_) rfl (by kernel_rfl) (by kernel_rfl) (by kernel_rfl) (fun _ _ _ h => h) (Or.inl ⟨by rfl, ?_⟩) hHeld ?_
    rotate_left
    · intro w_ hSw_; (try dsimp only at hSw_); go_simp; (try with_reducible rfl)
    (try simp only [Act.put, List.setIfInBounds_toArray, List.set_cons_zero, List.set_cons_succ])
    refine wpAnyH_take (i := 4) (oi := { dst := some 19, op := Go.Op.load 28 (Go.Operand.tmp 11), type := 28, pos := "ref.go:36", after := #[], guard := none }) (v := ?_) rfl (by kernel_rfl) (by kernel_rfl) (by kernel_rfl) (fun _ _ _ h => h) (Or.inl ⟨by rfl, ?_⟩) hHeld ?_
    rotate_left
    · intro w_ hSw_; (try dsimp only at hSw_); go_simp; (try with_reducible rfl)
    (try simp only [Act.put, List.setIfInBounds_toArray, List.set_cons_zero, List.set_cons_succ])
    refine wpAnyH_ready (rs := [1]) (by kernel_rfl) (by simp) ?_
    refine AllReadyH.cons (o := { dst := some 16, op := Go.Op.call { callee := Go.Callee.value (Go.Operand.func 28), args := #[Go.Operand.tmp 15], argTypes := #[3] }, type := 28, pos := "ref.go:36", after := #[{ on := 0, ground := Go.Ground.data }], guard := none }) rfl (fun K hK => ?_) AllReadyH.nil
    go_simp
    (go_at_call 28; (with_reducible refine (Of_c q _ (by omega) (by omega)).mono ?_); rintro e w3 ⟨v, rfl, hv, hb3⟩; obtain ⟨n3, A3, m3, k3, rfl, H3⟩ := hv.form; clear hv; have VT3 := VT2.keep hb3; have VP3 := VP2.keep hb3)
    refine hK.out _ _ (by exact ⟨VT3.c0, VT3.c1, VP3.c0, VP3.c1⟩) (fun hHeld => ?_)
    clear hK K
    (try simp only [Act.put, List.setIfInBounds_toArray, List.set_cons_zero, List.set_cons_succ])
    refine wpAnyH_ready (rs := [3]) (by kernel_rfl) (by simp) ?_
    refine AllReadyH.cons (o := { dst := some 18, op := Go.Op.call { callee := Go.Callee.value (Go.Operand.func 37), args := #[Go.Operand.tmp 16, Go.Operand.tmp 17], argTypes := #[28, 3] }, type := 28, pos := "ref.go:36", after := #[{ on := 1, ground := Go.Ground.data }, { on := 2, ground := Go.Ground.data }, { on := 1, ground := Go.Ground.chain }], guard := none }) rfl (fun K hK => ?_) AllReadyH.nil
    go_simp
    (go_at_call 37; (with_reducible refine (Power_c q a _ _ H3.out (by omega) E1.out).mono ?_); rintro e w4 ⟨v, rfl, hv, hb4⟩; obtain ⟨n4, A4, m4, k4, rfl, H4⟩ := hv.form; clear hv; have VT4 := VT3.keep hb4; have VP4 := VP3.keep hb4)
    refine hK.out _ _ (by exact ⟨VT4.c0, VT4.c1, VP4.c0, VP4.c1⟩) (fun hHeld => ?_)
    clear hK K
    (try simp only [Act.put, List.setIfInBounds_toArray, List.set_cons_zero, List.set_cons_succ])
    refine wpAnyH_ready (rs := [5]) (by kernel_rfl) (by simp) ?_
    refine AllReadyH.cons (o := { dst := some 20, op := Go.Op.call { callee := Go.Callee.value (Go.Operand.func 23), args := #[Go.Operand.tmp 18, Go.Operand.tmp 19], argTypes := #[28, 28] }, type := 3, pos := "ref.go:36", after := #[{ on := 3, ground := Go.Ground.data }, { on := 4, ground := Go.Ground.data }, { on := 3, ground := Go.Ground.chain }], guard := none }) rfl (fun K hK => ?_) AllReadyH.nil
    go_simp
    (go_at_call 23; (with_reducible refine (Cmp_c (q ^ a) (2 ^ k) _ _ _ H4.out (by exact VT4.iz.out)).mono ?_); rintro e w5 ⟨rfl, hb5⟩; have VT5 := VT4.keep hb5; have VP5 := VP4.keep hb5)
    refine hK.out _ _ (by exact ⟨VT5.c0, VT5.c1, VP5.c0, VP5.c1⟩) (fun hHeld => ?_)
    clear hK K
    (try simp only [Act.put, List.setIfInBounds_toArray, List.set_cons_zero, List.set_cons_succ])
    refine wpAnyH_take (i := 6) (oi := { dst := some 21, op := Go.Op.binOp Go.BinOp.lss 3 (Go.Operand.tmp 20) (Go.Operand.const (Go.Value.int Go.IntKind.i64 0)) 3, type := 4, pos := "ref.go:36", after := #[{ on := 5, ground := Go.Ground.data }], guard := none }) (v := ?_) rfl (by kernel_rfl) (by kernel_rfl) (by kernel_rfl) (fun _ _ _ h => h) (Or.inl ⟨by rfl, ?_⟩) hHeld ?_
    rotate_left
    · intro w_ hSw_; (try dsimp only at hSw_); go_simp; (try with_reducible rfl)
    (try simp only [Act.put, List.setIfInBounds_toArray, List.set_cons_zero, List.set_cons_succ])
    refine wpAnyH_take (i := 7) (oi := { dst := some 22, op := Go.Op.move (Go.Operand.tmp 21), type := 4, pos := "ref.go:36", after := #[{ on := 6, ground := Go.Ground.data }, { on := 5, ground := Go.Ground.chain }], guard := none }) (v := ?_) rfl (by kernel_rfl) (by kernel_rfl) (by kernel_rfl) (fun _ _ _ h => h) (Or.inl ⟨by rfl, ?_⟩) hHeld ?_
    rotate_left
    · intro w_ hSw_; (try dsimp only at hSw_); go_simp; (try with_reducible rfl)
    (try simp only [Act.put, List.setIfInBounds_toArray, List.set_cons_zero, List.set_cons_succ])
    refine wpAnyH_take (i := 8) (oi := { dst := some 23, op := Go.Op.load 28 (Go.Operand.tmp 11), type := 28, pos := "ref.go:36", after := #[{ on := 7, ground := Go.Ground.guard }], guard := some (7, true) }) rfl (by kernel_rfl) (by kernel_rfl) (by kernel_rfl) (fun _ _ _ h => h) (Or.inr ⟨by rfl, rfl⟩) hHeld ?_
    (try simp only [Act.put, List.setIfInBounds_toArray, List.set_cons_zero, List.set_cons_succ])
    refine wpAnyH_take (i := 9) (oi := { dst := some 24, op := Go.Op.load 28 (Go.Operand.tmp 7), type := 28, pos := "ref.go:36", after := #[{ on := 7, ground := Go.Ground.guard }], guard := some (7, true) }) rfl (by kernel_rfl) (by kernel_rfl) (by kernel_rfl) (fun _ _ _ h => h) (Or.inr ⟨by rfl, rfl⟩) hHeld ?_
    (try simp only [Act.put, List.setIfInBounds_toArray, List.set_cons_zero, List.set_cons_succ])
    refine wpAnyH_take (i := 10) (oi := { dst := some 25, op := Go.Op.move (Go.Operand.tmp 3), type := 3, pos := "ref.go:36", after := #[{ on := 7, ground := Go.Ground.guard }], guard := some (7, true) }) rfl (by kernel_rfl) (by kernel_rfl) (by kernel_rfl) (fun _ _ _ h => h) (Or.inr ⟨by rfl, rfl⟩) hHeld ?_
    (try simp only [Act.put, List.setIfInBounds_toArray, List.set_cons_zero, List.set_cons_succ])
    refine wpAnyH_take (i := 11) (oi := { dst := some 26, op := Go.Op.call { callee := Go.Callee.value (Go.Operand.func 37), args := #[Go.Operand.tmp 24, Go.Operand.tmp 25], argTypes := #[28, 3] }, type := 28, pos := "ref.go:36", after := #[{ on := 9, ground := Go.Ground.data }, { on := 10, ground := Go.Ground.data }, { on := 7, ground := Go.Ground.chain }, { on := 7, ground := Go.Ground.guard }], guard := some (7, true) }) rfl (by kernel_rfl) (by kernel_rfl) (by kernel_rfl) (fun _ _ _ h => h) (Or.inr ⟨by rfl, rfl⟩) hHeld ?_
    (try simp only [Act.put, List.setIfInBounds_toArray, List.set_cons_zero, List.set_cons_succ])
    refine wpAnyH_take (i := 12) (oi := { dst := some 27, op := Go.Op.call { callee := Go.Callee.value (Go.Operand.func 38), args := #[Go.Operand.tmp 23, Go.Operand.tmp 26], argTypes := #[28, 28] }, type := 28, pos := "ref.go:36", after := #[{ on := 8, ground := Go.Ground.data }, { on := 11, ground := Go.Ground.data }, { on := 11, ground := Go.Ground.chain }, { on := 7, ground := Go.Ground.guard }], guard := some (7, true) }) rfl (by kernel_rfl) (by kernel_rfl) (by kernel_rfl) (fun _ _ _ h => h) (Or.inr ⟨by rfl, rfl⟩) hHeld ?_
    (try simp only [Act.put, List.setIfInBounds_toArray, List.set_cons_zero, List.set_cons_succ])
    refine wpAnyH_take (i := 13) (oi := { dst := some 28, op := Go.Op.move (Go.Operand.tmp 0), type := 3, pos := "ref.go:36", after := #[{ on := 7, ground := Go.Ground.guard }], guard := some (7, true) }) rfl (by kernel_rfl) (by kernel_rfl) (by kernel_rfl) (fun _ _ _ h => h) (Or.inr ⟨by rfl, rfl⟩) hHeld ?_
    (try simp only [Act.put, List.setIfInBounds_toArray, List.set_cons_zero, List.set_cons_succ])
    refine wpAnyH_take (i := 14) (oi := { dst := some 29, op := Go.Op.move (Go.Operand.tmp 1), type := 3, pos := "ref.go:36", after := #[{ on := 7, ground := Go.Ground.guard }], guard := some (7, true) }) rfl (by kernel_rfl) (by kernel_rfl) (by kernel_rfl) (fun _ _ _ h => h) (Or.inr ⟨by rfl, rfl⟩) hHeld ?_
    (try simp only [Act.put, List.setIfInBounds_toArray, List.set_cons_zero, List.set_cons_succ])
    refine wpAnyH_take (i := 15) (oi := { dst := some 30, op := Go.Op.load 28 (Go.Operand.tmp 7), type := 28, pos := "ref.go:36", after := #[{ on := 7, ground := Go.Ground.guard }], guard := some (7, true) }) rfl (by kernel_rfl) (by kernel_rfl) (by kernel_rfl) (fun _ _ _ h => h) (Or.inr ⟨by rfl, rfl⟩) hHeld ?_
    (try simp only [Act.put, List.setIfInBounds_toArray, List.set_cons_zero, List.set_cons_succ])
    refine wpAnyH_take (i := 16) (oi := { dst := some 31, op := Go.Op.call { callee := Go.Callee.value (Go.Operand.func 35), args := #[Go.Operand.tmp 28, Go.Operand.tmp 29, Go.Operand.tmp 30], argTypes := #[3, 3, 28] }, type := 28, pos := "ref.go:36", after := #[{ on := 13, ground := Go.Ground.data }, { on := 14, ground := Go.Ground.data }, { on := 15, ground := Go.Ground.data }, { on := 12, ground := Go.Ground.chain }, { on := 7, ground := Go.Ground.guard }], guard := some (7, true) }) rfl (by kernel_rfl) (by kernel_rfl) (by kernel_rfl) (fun _ _ _ h => h) (Or.inr ⟨by rfl, rfl⟩) hHeld ?_
    (try simp only [Act.put, List.setIfInBounds_toArray, List.set_cons_zero, List.set_cons_succ])
    refine wpAnyH_take (i := 17) (oi := { dst := some 32, op := Go.Op.move (Go.Operand.tmp 3), type := 3, pos := "ref.go:36", after := #[{ on := 7, ground := Go.Ground.guard }], guard := some (7, true) }) rfl (by kernel_rfl) (by kernel_rfl) (by kernel_rfl) (fun _ _ _ h => h) (Or.inr ⟨by rfl, rfl⟩) hHeld ?_
    (try simp only [Act.put, List.setIfInBounds_toArray, List.set_cons_zero, List.set_cons_succ])
    refine wpAnyH_take (i := 18) (oi := { dst := some 33, op := Go.Op.call { callee := Go.Callee.value (Go.Operand.func 37), args := #[Go.Operand.tmp 31, Go.Operand.tmp 32], argTypes := #[28, 3] }, type := 28, pos := "ref.go:36", after := #[{ on := 16, ground := Go.Ground.data }, { on := 17, ground := Go.Ground.data }, { on := 16, ground := Go.Ground.chain }, { on := 7, ground := Go.Ground.guard }], guard := some (7, true) }) rfl (by kernel_rfl) (by kernel_rfl) (by kernel_rfl) (fun _ _ _ h => h) (Or.inr ⟨by rfl, rfl⟩) hHeld ?_
    (try simp only [Act.put, List.setIfInBounds_toArray, List.set_cons_zero, List.set_cons_succ])
    refine wpAnyH_take (i := 19) (oi := { dst := some 34, op := Go.Op.call { callee := Go.Callee.value (Go.Operand.func 23), args := #[Go.Operand.tmp 27, Go.Operand.tmp 33], argTypes := #[28, 28] }, type := 3, pos := "ref.go:36", after := #[{ on := 12, ground := Go.Ground.data }, { on := 18, ground := Go.Ground.data }, { on := 18, ground := Go.Ground.chain }, { on := 7, ground := Go.Ground.guard }], guard := some (7, true) }) rfl (by kernel_rfl) (by kernel_rfl) (by kernel_rfl) (fun _ _ _ h => h) (Or.inr ⟨by rfl, rfl⟩) hHeld ?_
    (try simp only [Act.put, List.setIfInBounds_toArray, List.set_cons_zero, List.set_cons_succ])
    refine wpAnyH_take (i := 20) (oi := { dst := some 35, op := Go.Op.binOp Go.BinOp.leq 3 (Go.Operand.tmp 34) (Go.Operand.const (Go.Value.int Go.IntKind.i64 0)) 3, type := 4, pos := "ref.go:36", after := #[{ on := 19, ground := Go.Ground.data }, { on := 7, ground := Go.Ground.guard }], guard := some (7, true) }) rfl (by kernel_rfl) (by kernel_rfl) (by kernel_rfl) (fun _ _ _ h => h) (Or.inr ⟨by rfl, rfl⟩) hHeld ?_
    (try simp only [Act.put, List.setIfInBounds_toArray, List.set_cons_zero, List.set_cons_succ])
    refine wpAnyH_take (i := 21) (oi := { dst := some 36, op := Go.Op.pick (Go.Operand.tmp 22) (Go.Operand.tmp 35) (Go.Operand.const (Go.Value.bool false)), type := 4, pos := "ref.go:36", after := #[{ on := 7, ground := Go.Ground.data }, { on := 20, ground := Go.Ground.data }], guard := none }) (v := ?_) rfl (by kernel_rfl) (by kernel_rfl) (by kernel_rfl) (fun _ _ _ h => h) (Or.inl ⟨by rfl, ?_⟩) hHeld ?_
    rotate_left
    · intro w_ hSw_; (try dsimp only at hSw_); go_simp; (try with_reducible rfl)
    (try simp only [Act.put, List.setIfInBounds_toArray, List.set_cons_zero, List.set_cons_succ])
    refine wpAnyH_take (i := 22) (oi := { dst := some 10, op := Go.Op.assign (Go.Operand.tmp 36), type := 4, pos := "ref.go:36", after := #[{ on := 21, ground := Go.Ground.data }, { on := 19, ground := Go.Ground.chain }, { on := 0, ground := Go.Ground.phase }, { on := 1, ground := Go.Ground.phase }, { on := 2, ground := Go.Ground.phase }, { on := 3, ground := Go.Ground.phase }, { on := 4, ground := Go.Ground.phase }, { on := 5, ground := Go.Ground.phase }, { on := 6, ground := Go.Ground.phase }, { on := 7, ground := Go.Ground.phase }, { on := 8, ground := Go.Ground.phase }, { on := 9, ground := Go.Ground.phase }, { on := 10, ground := Go.Ground.phase }, { on := 11, ground := Go.Ground.phase }, { on := 12, ground := Go.Ground.phase }, { on := 13, ground := Go.Ground.phase }, { on := 14, ground := Go.Ground.phase }, { on := 15, ground := Go.Ground.phase }, { on := 16, ground := Go.Ground.phase }, { on := 17, ground := Go.Ground.phase }, { on := 18, ground := Go.Ground.phase }, { on := 19, ground := Go.Ground.phase }, { on := 20, ground := Go.Ground.phase }, { on := 21, ground := Go.Ground.phase }], guard := none }) (v := ?_) rfl (by kernel_rfl) (by kernel_rfl) (by kernel_rfl) (fun _ _ _ h => h) (Or.inl ⟨by rfl, ?_⟩) hHeld ?_
    rotate_left
    · intro w_ hSw_; (try dsimp only at hSw_); go_simp; (try with_reducible rfl)
    (try simp only [Act.put, List.setIfInBounds_toArray, List.set_cons_zero, List.set_cons_succ])
    refine wpAnyH_done (by kernel_rfl) ?_ _
    go_wp2
    go_ret
    exact ⟨by rw [← HR.out]; rfl, below_step (below_step (below_step (below_drew hb0) hb3) hb4) hb5⟩
end Go.Proofs.Ytiaeeclmlchpoaa

set_option linter.unusedVariables false
set_option linter.unusedSimpArgs false
namespace Go.Proofs.Ytiaeeclmlchpoaa
open Go.RowKit

set_option maxRecDepth 100000 in
set_option maxHeartbeats 4000000 in
theorem next_c (g q n t pq pn pt B : Nat) (w0 w : World) (h : SD w g q n t pq pn pt) (HB : Below B w0 w) (hg : B ≤ g) (L0 : (digs B64 pq).length ≤ 1000000000) (L1 : (digs B64 q).length ≤ 1000000000) (L2 : (digs B64 pn).length ≤ 1000000000) (L3 : (digs B64 n).length ≤ 1000000000) (L4 : (digs B64 pt).length ≤ 1000000000) (L5 : (digs B64 t).length ≤ 1000000000) :
    Calls Try.prog 45 #[.pointer (some ⟨g, 0, none⟩)] w fun e w' => e = .returned (.tuple #[]) ∧ SD w' g q n t (pq * q) (pn * n) (pt * t) ∧ Below B w0 w' := by
  obtain ⟨⟨B0, b0, d0, X0⟩, ⟨B1, b1, d1, X1⟩, ⟨B2, b2, d2, X2⟩, ⟨B3, b3, d3, X3⟩, ⟨B4, b4, d4, X4⟩, ⟨B5, b5, d5, X5⟩⟩ := h
  have hlt := X0.lt
  go_enter Try.func45, Try.ntmps45
  go_wp2_with fail
  replace HB := below_drew HB
  replace X0 := X0.drew; replace X1 := X1.drew; replace X2 := X2.drew; replace X3 := X3.drew; replace X4 := X4.drew; replace X5 := X5.drew
  have hlt := X0.lt
  generalize hWd : w.drew = wd at *
  refine wp_region_F (fun w' => w'.cell? ⟨g, 0, none⟩ = some (.slice B0 b0 d0) ∧ w'.cell? ⟨g, 1, none⟩ = some (.slice B1 b1 d1) ∧ w'.cell? ⟨g, 2, none⟩ = some (.slice B2 b2 d2) ∧ w'.cell? ⟨g, 3, none⟩ = some (.slice B3 b3 d3) ∧ w'.cell? ⟨g, 4, none⟩ = some (.slice B4 b4 d4) ∧ w'.cell? ⟨g, 5, none⟩ = some (.slice B5 b5 d5)) [32, 35, 38] (by kernel_rfl) (by rw [hWd]; exact ⟨X0.ce, X1.ce, X2.ce, X3.ce, X4.ce, X5.ce⟩) (fun hHeld => ?_)
  rw [hWd] at hHeld ⊢
  refine wpAnyF_take (i := 0) (oi := { dst := some 2, op := Go.Op.move (Go.Operand.tmp 0), type := 69, pos := "bound.go:31", after := #[], guard := none }) (v := ?_) rfl (by kernel_rfl) (by kernel_rfl) (by kernel_rfl) (by kernel_rfl) (fun _ _ _ h => h) (Or.inl ⟨by rfl, ?_⟩) hHeld ?_
  rotate_left
  · intro w_ hSw_; (try dsimp only at hSw_); go_simp; (try with_reducible rfl)
  (try simp only [Act.put, List.setIfInBounds_toArray, List.set_cons_zero, List.set_cons_succ])
  refine wpAnyF_pure (i := 1) (oi := { dst := some 3, op := Go.Op.move (Go.Operand.tmp 0), type := 69, pos := "bound.go:31", after := #[{ on := 32, ground := Go.Ground.gcOnly Go.Departure.lateStores }], guard := none }) (v := ?_) rfl (by kernel_rfl) (by kernel_rfl) (by kernel_rfl) (by kernel_rfl) (fun _ _ _ h => h) (Or.inl ⟨by rfl, ?_⟩) hHeld ?_
  rotate_left
  · intro w_ hSw_; (try dsimp only at hSw_); go_simp; (try with_reducible rfl)
  (try simp only [Act.put, List.setIfInBounds_toArray, List.set_cons_zero, List.set_cons_succ])
  refine wpAnyF_pure (i := 2) (oi := { dst := some 4, op := Go.Op.move (Go.Operand.tmp 0), type := 69, pos := "bound.go:31", after := #[{ on := 35, ground := Go.Ground.gcOnly Go.Departure.lateStores }], guard := none }) (v := ?_) rfl (by kernel_rfl) (by kernel_rfl) (by kernel_rfl) (by kernel_rfl) (fun _ _ _ h => h) (Or.inl ⟨by rfl, ?_⟩) hHeld ?_
  rotate_left
  · intro w_ hSw_; (try dsimp only at hSw_); go_simp; (try with_reducible rfl)
  (try simp only [Act.put, List.setIfInBounds_toArray, List.set_cons_zero, List.set_cons_succ])
  refine wpAnyF_take (i := 3) (oi := { dst := some 5, op := Go.Op.move (Go.Operand.tmp 0), type := 69, pos := "bound.go:31", after := #[], guard := none }) (v := ?_) rfl (by kernel_rfl) (by kernel_rfl) (by kernel_rfl) (by kernel_rfl) (fun _ _ _ h => h) (Or.inl ⟨by rfl, ?_⟩) hHeld ?_
  rotate_left
  · intro w_ hSw_; (try dsimp only at hSw_); go_simp; (try with_reducible rfl)
  (try simp only [Act.put, List.setIfInBounds_toArray, List.set_cons_zero, List.set_cons_succ])
  refine wpAnyF_take (i := 4) (oi := { dst := some 6, op := Go.Op.nilCheck (Go.Operand.tmp 5), type := 0, pos := "bound.go:31", after := #[{ on := 3, ground := Go.Ground.data }], guard := none }) (v := ?_) rfl (by kernel_rfl) (by kernel_rfl) (by kernel_rfl) (by kernel_rfl) (fun _ _ _ h => h) (Or.inl ⟨by rfl, ?_⟩) hHeld ?_
  rotate_left
  · intro w_ hSw_; (try dsimp only at hSw_); go_simp; (try with_reducible rfl)
  (try simp only [Act.put, List.setIfInBounds_toArray, List.set_cons_zero, List.set_cons_succ])
  refine wpAnyF_take (i := 5) (oi := { dst := some 7, op := Go.Op.fieldAddr 101 (Go.Operand.tmp 6) 3, type := 0, pos := "bound.go:31", after := #[{ on := 4, ground := Go.Ground.data }], guard := none }) (v := ?_) rfl (by kernel_rfl) (by kernel_rfl) (by kernel_rfl) (by kernel_rfl) (fun _ _ _ h => h) (Or.inl ⟨by rfl, ?_⟩) hHeld ?_
  rotate_left
  · intro w_ hSw_; (try dsimp only at hSw_); go_simp; (try with_reducible rfl)
  (try simp only [Act.put, List.setIfInBounds_toArray, List.set_cons_zero, List.set_cons_succ])
  refine wpAnyF_take (i := 6) (oi := { dst := some 8, op := Go.Op.load 72 (Go.Operand.tmp 7), type := 72, pos := "bound.go:31", after := #[{ on := 5, ground := Go.Ground.data }], guard := none }) (v := ?_) rfl (by kernel_rfl) (by kernel_rfl) (by kernel_rfl) (by kernel_rfl) (fun _ _ _ h => h) (Or.inl ⟨by rfl, ?_⟩) hHeld ?_
  rotate_left
  · intro w_ hSw_; (try dsimp only at hSw_); go_simp; (try with_reducible rfl)
  (try simp only [Act.put, List.setIfInBounds_toArray, List.set_cons_zero, List.set_cons_succ])
  refine wpAnyF_take (i := 7) (oi := { dst := some 9, op := Go.Op.move (Go.Operand.tmp 0), type := 69, pos := "bound.go:31", after := #[], guard := none }) (v := ?_) rfl (by kernel_rfl) (by kernel_rfl) (by kernel_rfl) (by kernel_rfl) (fun _ _ _ h => h) (Or.inl ⟨by rfl, ?_⟩) hHeld ?_
  rotate_left
  · intro w_ hSw_; (try dsimp only at hSw_); go_simp; (try with_reducible rfl)
  (try simp only [Act.put, List.setIfInBounds_toArray, List.set_cons_zero, List.set_cons_succ])
  refine wpAnyF_take (i := 8) (oi := { dst := some 10, op := Go.Op.nilCheck (Go.Operand.tmp 9), type := 0, pos := "bound.go:31", after := #[{ on := 7, ground := Go.Ground.data }], guard := none }) (v := ?_) rfl (by kernel_rfl) (by kernel_rfl) (by kernel_rfl) (by kernel_rfl) (fun _ _ _ h => h) (Or.inl ⟨by rfl, ?_⟩) hHeld ?_
  rotate_left
  · intro w_ hSw_; (try dsimp only at hSw_); go_simp; (try with_reducible rfl)
  (try simp only [Act.put, List.setIfInBounds_toArray, List.set_cons_zero, List.set_cons_succ])
  refine wpAnyF_take (i := 9) (oi := { dst := some 11, op := Go.Op.fieldAddr 101 (Go.Operand.tmp 10) 0, type := 0, pos := "bound.go:31", after := #[{ on := 8, ground := Go.Ground.data }], guard := none }) (v := ?_) rfl (by kernel_rfl) (by kernel_rfl) (by kernel_rfl) (by kernel_rfl) (fun _ _ _ h => h) (Or.inl ⟨by rfl, ?_⟩) hHeld ?_
  rotate_left
  · intro w_ hSw_; (try dsimp only at hSw_); go_simp; (try with_reducible rfl)
  (try simp only [Act.put, List.setIfInBounds_toArray, List.set_cons_zero, List.set_cons_succ])
  refine wpAnyF_take (i := 10) (oi := { dst := some 12, op := Go.Op.load 72 (Go.Operand.tmp 11), type := 72, pos := "bound.go:31", after := #[{ on := 9, ground := Go.Ground.data }], guard := none }) (v := ?_) rfl (by kernel_rfl) (by kernel_rfl) (by kernel_rfl) (by kernel_rfl) (fun _ _ _ h => h) (Or.inl ⟨by rfl, ?_⟩) hHeld ?_
  rotate_left
  · intro w_ hSw_; (try dsimp only at hSw_); go_simp; (try with_reducible rfl)
  (try simp only [Act.put, List.setIfInBounds_toArray, List.set_cons_zero, List.set_cons_succ])
  refine wpAnyF_pure (i := 12) (oi := { dst := some 14, op := Go.Op.move (Go.Operand.tmp 0), type := 69, pos := "bound.go:31", after := #[], guard := none }) (v := ?_) rfl (by kernel_rfl) (by kernel_rfl) (by kernel_rfl) (by kernel_rfl) (fun _ _ _ h => h) (Or.inl ⟨by rfl, ?_⟩) hHeld ?_
  rotate_left
  · intro w_ hSw_; (try dsimp only at hSw_); go_simp; (try with_reducible rfl)
  (try simp only [Act.put, List.setIfInBounds_toArray, List.set_cons_zero, List.set_cons_succ])
  refine wpAnyF_pure (i := 13) (oi := { dst := some 15, op := Go.Op.nilCheck (Go.Operand.tmp 14), type := 0, pos := "bound.go:31", after := #[{ on := 12, ground := Go.Ground.data }], guard := none }) (v := ?_) rfl (by kernel_rfl) (by kernel_rfl) (by kernel_rfl) (by kernel_rfl) (fun _ _ _ h => h) (Or.inl ⟨by rfl, ?_⟩) hHeld ?_
  rotate_left
  · intro w_ hSw_; (try dsimp only at hSw_); go_simp; (try with_reducible rfl)
  (try simp only [Act.put, List.setIfInBounds_toArray, List.set_cons_zero, List.set_cons_succ])
  refine wpAnyF_pure (i := 14) (oi := { dst := some 16, op := Go.Op.fieldAddr 101 (Go.Operand.tmp 15) 4, type := 0, pos := "bound.go:31", after := #[{ on := 13, ground := Go.Ground.data }], guard := none }) (v := ?_) rfl (by kernel_rfl) (by kernel_rfl) (by kernel_rfl) (by kernel_rfl) (fun _ _ _ h => h) (Or.inl ⟨by rfl, ?_⟩) hHeld ?_
  rotate_left
  · intro w_ hSw_; (try dsimp only at hSw_); go_simp; (try with_reducible rfl)
  (try simp only [Act.put, List.setIfInBounds_toArray, List.set_cons_zero, List.set_cons_succ])
  refine wpAnyF_take (i := 15) (oi := { dst := some 17, op := Go.Op.load 72 (Go.Operand.tmp 16), type := 72, pos := "bound.go:31", after := #[{ on := 14, ground := Go.Ground.data }], guard := none }) (v := ?_) rfl (by kernel_rfl) (by kernel_rfl) (by kernel_rfl) (by kernel_rfl) (fun _ _ _ h => h) (Or.inl ⟨by rfl, ?_⟩) hHeld ?_
  rotate_left
  · intro w_ hSw_; (try dsimp only at hSw_); go_simp; (try with_reducible rfl)
  (try simp only [Act.put, List.setIfInBounds_toArray, List.set_cons_zero, List.set_cons_succ])
  refine wpAnyF_pure (i := 16) (oi := { dst := some 18, op := Go.Op.move (Go.Operand.tmp 0), type := 69, pos := "bound.go:31", after := #[], guard := none }) (v := ?_) rfl (by kernel_rfl) (by kernel_rfl) (by kernel_rfl) (by kernel_rfl) (fun _ _ _ h => h) (Or.inl ⟨by rfl, ?_⟩) hHeld ?_
  rotate_left
  · intro w_ hSw_; (try dsimp only at hSw_); go_simp; (try with_reducible rfl)
  (try simp only [Act.put, List.setIfInBounds_toArray, List.set_cons_zero, List.set_cons_succ])
  refine wpAnyF_pure (i := 17) (oi := { dst := some 19, op := Go.Op.nilCheck (Go.Operand.tmp 18), type := 0, pos := "bound.go:31", after := #[{ on := 16, ground := Go.Ground.data }], guard := none }) (v := ?_) rfl (by kernel_rfl) (by kernel_rfl) (by kernel_rfl) (by kernel_rfl) (fun _ _ _ h => h) (Or.inl ⟨by rfl, ?_⟩) hHeld ?_
  rotate_left
  · intro w_ hSw_; (try dsimp only at hSw_); go_simp; (try with_reducible rfl)
  (try simp only [Act.put, List.setIfInBounds_toArray, List.set_cons_zero, List.set_cons_succ])
  refine wpAnyF_pure (i := 18) (oi := { dst := some 20, op := Go.Op.fieldAddr 101 (Go.Operand.tmp 19) 1, type := 0, pos := "bound.go:31", after := #[{ on := 17, ground := Go.Ground.data }], guard := none }) (v := ?_) rfl (by kernel_rfl) (by kernel_rfl) (by kernel_rfl) (by kernel_rfl) (fun _ _ _ h => h) (Or.inl ⟨by rfl, ?_⟩) hHeld ?_
  rotate_left
  · intro w_ hSw_; (try dsimp only at hSw_); go_simp; (try with_reducible rfl)
  (try simp only [Act.put, List.setIfInBounds_toArray, List.set_cons_zero, List.set_cons_succ])
  refine wpAnyF_take (i := 19) (oi := { dst := some 21, op := Go.Op.load 72 (Go.Operand.tmp 20), type := 72, pos := "bound.go:31", after := #[{ on := 18, ground := Go.Ground.data }], guard := none }) (v := ?_) rfl (by kernel_rfl) (by kernel_rfl) (by kernel_rfl) (by kernel_rfl) (fun _ _ _ h => h) (Or.inl ⟨by rfl, ?_⟩) hHeld ?_
  rotate_left
  · intro w_ hSw_; (try dsimp only at hSw_); go_simp; (try with_reducible rfl)
  (try simp only [Act.put, List.setIfInBounds_toArray, List.set_cons_zero, List.set_cons_succ])
  refine wpAnyF_pure (i := 21) (oi := { dst := some 23, op := Go.Op.move (Go.Operand.tmp 0), type := 69, pos := "bound.go:31", after := #[], guard := none }) (v := ?_) rfl (by kernel_rfl) (by kernel_rfl) (by kernel_rfl) (by kernel_rfl) (fun _ _ _ h => h) (Or.inl ⟨by rfl, ?_⟩) hHeld ?_
  rotate_left
  · intro w_ hSw_; (try dsimp only at hSw_); go_simp; (try with_reducible rfl)
  (try simp only [Act.put, List.setIfInBounds_toArray, List.set_cons_zero, List.set_cons_succ])
  refine wpAnyF_pure (i := 22) (oi := { dst := some 24, op := Go.Op.nilCheck (Go.Operand.tmp 23), type := 0, pos := "bound.go:31", after := #[{ on := 21, ground := Go.Ground.data }], guard := none }) (v := ?_) rfl (by kernel_rfl) (by kernel_rfl) (by kernel_rfl) (by kernel_rfl) (fun _ _ _ h => h) (Or.inl ⟨by rfl, ?_⟩) hHeld ?_
  rotate_left
  · intro w_ hSw_; (try dsimp only at hSw_); go_simp; (try with_reducible rfl)
  (try simp only [Act.put, List.setIfInBounds_toArray, List.set_cons_zero, List.set_cons_succ])
  refine wpAnyF_pure (i := 23) (oi := { dst := some 25, op := Go.Op.fieldAddr 101 (Go.Operand.tmp 24) 5, type := 0, pos := "bound.go:31", after := #[{ on := 22, ground := Go.Ground.data }], guard := none }) (v := ?_) rfl (by kernel_rfl) (by kernel_rfl) (by kernel_rfl) (by kernel_rfl) (fun _ _ _ h => h) (Or.inl ⟨by rfl, ?_⟩) hHeld ?_
  rotate_left
  · intro w_ hSw_; (try dsimp only at hSw_); go_simp; (try with_reducible rfl)
  (try simp only [Act.put, List.setIfInBounds_toArray, List.set_cons_zero, List.set_cons_succ])
  refine wpAnyF_take (i := 24) (oi := { dst := some 26, op := Go.Op.load 72 (Go.Operand.tmp 25), type := 72, pos := "bound.go:31", after := #[{ on := 23, ground := Go.Ground.data }], guard := none }) (v := ?_) rfl (by kernel_rfl) (by kernel_rfl) (by kernel_rfl) (by kernel_rfl) (fun _ _ _ h => h) (Or.inl ⟨by rfl, ?_⟩) hHeld ?_
  rotate_left
  · intro w_ hSw_; (try dsimp only at hSw_); go_simp; (try with_reducible rfl)
  (try simp only [Act.put, List.setIfInBounds_toArray, List.set_cons_zero, List.set_cons_succ])
  refine wpAnyF_pure (i := 25) (oi := { dst := some 27, op := Go.Op.move (Go.Operand.tmp 0), type := 69, pos := "bound.go:31", after := #[], guard := none }) (v := ?_) rfl (by kernel_rfl) (by kernel_rfl) (by kernel_rfl) (by kernel_rfl) (fun _ _ _ h => h) (Or.inl ⟨by rfl, ?_⟩) hHeld ?_
  rotate_left
  · intro w_ hSw_; (try dsimp only at hSw_); go_simp; (try with_reducible rfl)
  (try simp only [Act.put, List.setIfInBounds_toArray, List.set_cons_zero, List.set_cons_succ])
  refine wpAnyF_pure (i := 26) (oi := { dst := some 28, op := Go.Op.nilCheck (Go.Operand.tmp 27), type := 0, pos := "bound.go:31", after := #[{ on := 25, ground := Go.Ground.data }], guard := none }) (v := ?_) rfl (by kernel_rfl) (by kernel_rfl) (by kernel_rfl) (by kernel_rfl) (fun _ _ _ h => h) (Or.inl ⟨by rfl, ?_⟩) hHeld ?_
  rotate_left
  · intro w_ hSw_; (try dsimp only at hSw_); go_simp; (try with_reducible rfl)
  (try simp only [Act.put, List.setIfInBounds_toArray, List.set_cons_zero, List.set_cons_succ])
  refine wpAnyF_pure (i := 27) (oi := { dst := some 29, op := Go.Op.fieldAddr 101 (Go.Operand.tmp 28) 2, type := 0, pos := "bound.go:31", after := #[{ on := 26, ground := Go.Ground.data }], guard := none }) (v := ?_) rfl (by kernel_rfl) (by kernel_rfl) (by kernel_rfl) (by kernel_rfl) (fun _ _ _ h => h) (Or.inl ⟨by rfl, ?_⟩) hHeld ?_
  rotate_left
  · intro w_ hSw_; (try dsimp only at hSw_); go_simp; (try with_reducible rfl)
  (try simp only [Act.put, List.setIfInBounds_toArray, List.set_cons_zero, List.set_cons_succ])
  refine wpAnyF_take (i := 28) (oi := { dst := some 30, op := Go.Op.load 72 (Go.Operand.tmp 29), type := 72, pos := "bound.go:31", after := #[{ on := 27, ground := Go.Ground.data }], guard := none }) (v := ?_) rfl (by kernel_rfl) (by kernel_rfl) (by kernel_rfl) (by kernel_rfl) (fun _ _ _ h => h) (Or.inl ⟨by rfl, ?_⟩) hHeld ?_
  rotate_left
  · intro w_ hSw_; (try dsimp only at hSw_); go_simp; (try with_reducible rfl)
  (try simp only [Act.put, List.setIfInBounds_toArray, List.set_cons_zero, List.set_cons_succ])
  refine wpAnyF_one (i := 11) (by kernel_rfl) rfl (fun K hK => ?_)
  go_simp
  (go_at_call 66; (with_reducible refine (Times_c pq q _ _ _ X3.iw.out X0.iw.out L0 L1).mono ?_); rintro e w1 ⟨v, rfl, hv, hb1⟩; obtain ⟨A6, m6, k6, rfl, T6⟩ := hv.form; clear hv; replace HB := below_step2 HB hb1 (by have := X0.lt; omega); replace X0 := X0.keep hb1; replace X1 := X1.keep hb1; replace X2 := X2.keep hb1; replace X3 := X3.keep hb1; replace X4 := X4.keep hb1; replace X5 := X5.keep hb1; clear hb1)
  refine hK.out _ _ (by exact ⟨X0.ce, X1.ce, X2.ce, X3.ce, X4.ce, X5.ce⟩) (fun hHeld => ?_)
  clear hK K
  (try simp only [Act.put, List.setIfInBounds_toArray, List.set_cons_zero, List.set_cons_succ])
  refine wpAnyF_one (i := 20) (by kernel_rfl) rfl (fun K hK => ?_)
  go_simp
  (go_at_call 66; (with_reducible refine (Times_c pn n _ _ _ X4.iw.out X1.iw.out L2 L3).mono ?_); rintro e w2 ⟨v, rfl, hv, hb2⟩; obtain ⟨A7, m7, k7, rfl, T7⟩ := hv.form; clear hv; replace HB := below_step2 HB hb2 (by have := X0.lt; omega); replace X0 := X0.keep hb2; replace X1 := X1.keep hb2; replace X2 := X2.keep hb2; replace X3 := X3.keep hb2; replace X4 := X4.keep hb2; replace X5 := X5.keep hb2; replace T6 := Lib.hid (T6.out.below hb2); clear hb2)
  refine hK.out _ _ (by exact ⟨X0.ce, X1.ce, X2.ce, X3.ce, X4.ce, X5.ce⟩) (fun hHeld => ?_)
  clear hK K
  (try simp only [Act.put, List.setIfInBounds_toArray, List.set_cons_zero, List.set_cons_succ])
  refine wpAnyF_one (i := 29) (by kernel_rfl) rfl (fun K hK => ?_)
  go_simp
  (go_at_call 66; (with_reducible refine (Times_c pt t _ _ _ X5.iw.out X2.iw.out L4 L5).mono ?_); rintro e w3 ⟨v, rfl, hv, hb3⟩; obtain ⟨A8, m8, k8, rfl, T8⟩ := hv.form; clear hv; replace HB := below_step2 HB hb3 (by have := X0.lt; omega); replace X0 := X0.keep hb3; replace X1 := X1.keep hb3; replace X2 := X2.keep hb3; replace X3 := X3.keep hb3; replace X4 := X4.keep hb3; replace X5 := X5.keep hb3; replace T6 := Lib.hid (T6.out.below hb3); replace T7 := Lib.hid (T7.out.below hb3); clear hb3; have c3 := X3.ce; have f3 := X3.fr; have l3 := X3.lt; have c4 := X4.ce; have f4 := X4.fr; have c5 := X5.ce; have f5 := X5.fr)
  refine hK.out _ _ (by exact ⟨X0.ce, X1.ce, X2.ce, X3.ce, X4.ce, X5.ce⟩) (fun hHeld => ?_)
  clear hK K
  (try simp only [Act.put, List.setIfInBounds_toArray, List.set_cons_zero, List.set_cons_succ])
  refine wpAnyF_pure (i := 30) (oi := { dst := some 32, op := Go.Op.nilCheck (Go.Operand.tmp 2), type := 0, pos := "bound.go:31", after := #[{ on := 0, ground := Go.Ground.data }, { on := 0, ground := Go.Ground.phase }, { on := 1, ground := Go.Ground.textOnly Go.Departure.lateStores }, { on := 2, ground := Go.Ground.textOnly Go.Departure.lateStores }, { on := 3, ground := Go.Ground.phase }, { on := 4, ground := Go.Ground.phase }, { on := 5, ground := Go.Ground.phase }, { on := 6, ground := Go.Ground.phase }, { on := 7, ground := Go.Ground.phase }, { on := 8, ground := Go.Ground.phase }, { on := 9, ground := Go.Ground.phase }, { on := 10, ground := Go.Ground.phase }, { on := 11, ground := Go.Ground.phase }, { on := 12, ground := Go.Ground.textOnly Go.Departure.lateStores }, { on := 13, ground := Go.Ground.textOnly Go.Departure.lateStoresUnsure }, { on := 14, ground := Go.Ground.textOnly Go.Departure.lateStoresUnsure }, { on := 15, ground := Go.Ground.phase }, { on := 16, ground := Go.Ground.textOnly Go.Departure.lateStores }, { on := 17, ground := Go.Ground.textOnly Go.Departure.lateStoresUnsure }, { on := 18, ground := Go.Ground.textOnly Go.Departure.lateStoresUnsure }, { on := 19, ground := Go.Ground.phase }, { on := 20, ground := Go.Ground.phase }, { on := 21, ground := Go.Ground.textOnly Go.Departure.lateStores }, { on := 22, ground := Go.Ground.textOnly Go.Departure.lateStoresUnsure }, { on := 23, ground := Go.Ground.textOnly Go.Departure.lateStoresUnsure }, { on := 24, ground := Go.Ground.phase }, { on := 25, ground := Go.Ground.textOnly Go.Departure.lateStores }, { on := 26, ground := Go.Ground.textOnly Go.Departure.lateStoresUnsure }, { on := 27, ground := Go.Ground.textOnly Go.Departure.lateStoresUnsure }, { on := 28, ground := Go.Ground.phase }, { on := 29, ground := Go.Ground.phase }], guard := none }) (v := ?_) rfl (by kernel_rfl) (by kernel_rfl) (by kernel_rfl) (by kernel_rfl) (fun _ _ _ h => h) (Or.inl ⟨by rfl, ?_⟩) hHeld ?_
  rotate_left
  · intro w_ hSw_; (try dsimp only at hSw_); go_simp; (try with_reducible rfl)
  (try simp only [Act.put, List.setIfInBounds_toArray, List.set_cons_zero, List.set_cons_succ])
  refine wpAnyF_take (i := 31) (oi := { dst := some 33, op := Go.Op.fieldAddr 101 (Go.Operand.tmp 32) 3, type := 0, pos := "bound.go:31", after := #[{ on := 30, ground := Go.Ground.data }, { on := 0, ground := Go.Ground.phase }, { on := 1, ground := Go.Ground.textOnly Go.Departure.lateStores }, { on := 2, ground := Go.Ground.textOnly Go.Departure.lateStores }, { on := 3, ground := Go.Ground.phase }, { on := 4, ground := Go.Ground.phase }, { on := 5, ground := Go.Ground.phase }, { on := 6, ground := Go.Ground.phase }, { on := 7, ground := Go.Ground.phase }, { on := 8, ground := Go.Ground.phase }, { on := 9, ground := Go.Ground.phase }, { on := 10, ground := Go.Ground.phase }, { on := 11, ground := Go.Ground.phase }, { on := 12, ground := Go.Ground.textOnly Go.Departure.lateStores }, { on := 13, ground := Go.Ground.textOnly Go.Departure.lateStoresUnsure }, { on := 14, ground := Go.Ground.textOnly Go.Departure.lateStoresUnsure }, { on := 15, ground := Go.Ground.phase }, { on := 16, ground := Go.Ground.textOnly Go.Departure.lateStores }, { on := 17, ground := Go.Ground.textOnly Go.Departure.lateStoresUnsure }, { on := 18, ground := Go.Ground.textOnly Go.Departure.lateStoresUnsure }, { on := 19, ground := Go.Ground.phase }, { on := 20, ground := Go.Ground.phase }, { on := 21, ground := Go.Ground.textOnly Go.Departure.lateStores }, { on := 22, ground := Go.Ground.textOnly Go.Departure.lateStoresUnsure }, { on := 23, ground := Go.Ground.textOnly Go.Departure.lateStoresUnsure }, { on := 24, ground := Go.Ground.phase }, { on := 25, ground := Go.Ground.textOnly Go.Departure.lateStores }, { on := 26, ground := Go.Ground.textOnly Go.Departure.lateStoresUnsure }, { on := 27, ground := Go.Ground.textOnly Go.Departure.lateStoresUnsure }, { on := 28, ground := Go.Ground.phase }, { on := 29, ground := Go.Ground.phase }], guard := none }) (v := ?_) rfl (by kernel_rfl) (by kernel_rfl) (by kernel_rfl) (by kernel_rfl) (fun _ _ _ h => h) (Or.inl ⟨by rfl, ?_⟩) hHeld ?_
  rotate_left
  · intro w_ hSw_; (try dsimp only at hSw_); go_simp; (try with_reducible rfl)
  (try simp only [Act.put, List.setIfInBounds_toArray, List.set_cons_zero, List.set_cons_succ])
  refine wpAnyF_st (i := 32) (by kernel_rfl) (by kernel_rfl) rfl (fun K hK => ?_)
  go_simp
  refine hK.out _ _ ?_
  clear hK K
  (try simp only [Act.put, List.setIfInBounds_toArray, List.set_cons_zero, List.set_cons_succ])
  refine wpAnyF_st (i := 33) (by kernel_rfl) (by kernel_rfl) rfl (fun K hK => ?_)
  go_simp
  refine hK.out _ _ ?_
  clear hK K
  (try simp only [Act.put, List.setIfInBounds_toArray, List.set_cons_zero, List.set_cons_succ])
  refine wpAnyF_st (i := 34) (by kernel_rfl) (by kernel_rfl) rfl (fun K hK => ?_)
  go_simp
  refine hK.out _ _ ?_
  clear hK K
  (try simp only [Act.put, List.setIfInBounds_toArray, List.set_cons_zero, List.set_cons_succ])
  refine wpAnyF_st (i := 35) (by kernel_rfl) (by kernel_rfl) rfl (fun K hK => ?_)
  go_simp
  refine hK.out _ _ ?_
  clear hK K
  (try simp only [Act.put, List.setIfInBounds_toArray, List.set_cons_zero, List.set_cons_succ])
  refine wpAnyF_st (i := 36) (by kernel_rfl) (by kernel_rfl) rfl (fun K hK => ?_)
  go_simp
  refine hK.out _ _ ?_
  clear hK K
  (try simp only [Act.put, List.setIfInBounds_toArray, List.set_cons_zero, List.set_cons_succ])
  refine wpAnyF_st (i := 37) (by kernel_rfl) (by kernel_rfl) rfl (fun K hK => ?_)
  go_simp
  refine hK.out _ _ ?_
  clear hK K
  (try simp only [Act.put, List.setIfInBounds_toArray, List.set_cons_zero, List.set_cons_succ])
  refine wpAnyF_st (i := 38) (by kernel_rfl) (by kernel_rfl) rfl (fun K hK => ?_)
  go_simp
  refine hK.out _ _ ?_
  clear hK K
  (try simp only [Act.put, List.setIfInBounds_toArray, List.set_cons_zero, List.set_cons_succ])
  refine wpAnyF_done (by kernel_rfl) ?_ _
  clear hHeld c3 f3 l3 c4 f4 c5 f5
  go_wp2
  have Y0 := X0.far (x := .slice A6 m6 k6) X3 (.inr (by omega)); have Y1 := X1.far (x := .slice A6 m6 k6) X3 (.inr (by omega)); have Y2 := X2.far (x := .slice A6 m6 k6) X3 (.inr (by omega)); have Y4 := X4.far (x := .slice A6 m6 k6) X3 (.inr (by omega)); have Y5 := X5.far (x := .slice A6 m6 k6) X3 (.inr (by omega)); have Y3 := X3.store (A' := A6) (m' := m6) (c' := k6) T6.out
  have I01 := T7.out.set (x := .slice A6 m6 k6) X3.ce (by simp)
  have I02 := T8.out.set (x := .slice A6 m6 k6) X3.ce (by simp)
  have V0 := Y0.far (x := .slice A7 m7 k7) Y4 (.inr (by omega)); have V1 := Y1.far (x := .slice A7 m7 k7) Y4 (.inr (by omega)); have V2 := Y2.far (x := .slice A7 m7 k7) Y4 (.inr (by omega)); have V3 := Y3.far (x := .slice A7 m7 k7) Y4 (.inr (by omega)); have V5 := Y5.far (x := .slice A7 m7 k7) Y4 (.inr (by omega)); have V4 := Y4.store (A' := A7) (m' := m7) (c' := k7) I01
  have I12 := I02.set (x := .slice A7 m7 k7) Y4.ce (by simp)
  have U0 := V0.far (x := .slice A8 m8 k8) V5 (.inr (by omega)); have U1 := V1.far (x := .slice A8 m8 k8) V5 (.inr (by omega)); have U2 := V2.far (x := .slice A8 m8 k8) V5 (.inr (by omega)); have U3 := V3.far (x := .slice A8 m8 k8) V5 (.inr (by omega)); have U4 := V4.far (x := .slice A8 m8 k8) V5 (.inr (by omega)); have U5 := V5.store (A' := A8) (m' := m8) (c' := k8) I12
  refine bodyPost_end (v := .tuple #[]) (by simp [results, Try.results45, go_sem]) rfl ⟨rfl, ⟨⟨_, _, _, U0⟩, ⟨_, _, _, U1⟩, ⟨_, _, _, U2⟩, ⟨_, _, _, U3⟩, ⟨_, _, _, U4⟩, ⟨_, _, _, U5⟩⟩, below_setB (below_setB (below_setB HB hg _) hg _) hg _⟩

theorem least_c (g q n t pq pn pt : Nat) (w : World) (h : SD w g q n t pq pn pt) (L : (digs B64 pq).length ≤ 1000000000) :
    Calls Try.prog 46 #[.pointer (some ⟨g, 0, none⟩)] w fun e w' => e = .returned (.int .i64 (bl pq)) ∧ w' = w := by
  obtain ⟨⟨B0, b0, d0, X0⟩, ⟨B1, b1, d1, X1⟩, ⟨B2, b2, d2, X2⟩, ⟨B3, b3, d3, X3⟩, ⟨B4, b4, d4, X4⟩, ⟨B5, b5, d5, X5⟩⟩ := h
  have hlt := X0.lt
  have c3 := X3.ce
  go_enter Try.func46, Try.ntmps46
  go_wp2_with (go_at_call 72; (with_reducible refine (Bits_c pq _ _ X3.iw.out L).mono ?_); rintro e w1 ⟨rfl, rfl⟩)
  go_ret
  exact ⟨rfl, rfl⟩
/-- Whether a pair fits, in the words of the sides. -/
def fitB (pq pn pt k : Nat) : Bool := decide (bl pq ≤ k) && decide (pn * 2 ^ k ≤ pt)
set_option maxRecDepth 100000 in
set_option maxHeartbeats 4000000 in
theorem bfits_c (g q n t pq pn pt k B : Nat) (w0 w : World) (h : SD w g q n t pq pn pt) (HB : Below B w0 w) (hg : B ≤ g) (hk : k ≤ 1000000000) (L0 : (digs B64 pq).length ≤ 1000000000) (L2 : (digs B64 pn).length ≤ 1000000000) :
    Calls Try.prog 44 #[.pointer (some ⟨g, 0, none⟩), .int .i64 k] w fun e w' => e = .returned (.bool (fitB pq pn pt k)) ∧ SD w' g q n t pq pn pt ∧ Below B w0 w' := by
  obtain ⟨⟨B0, b0, d0, X0⟩, ⟨B1, b1, d1, X1⟩, ⟨B2, b2, d2, X2⟩, ⟨B3, b3, d3, X3⟩, ⟨B4, b4, d4, X4⟩, ⟨B5, b5, d5, X5⟩⟩ := h
  replace HB := below_drew HB
  replace X0 := X0.drew; replace X1 := X1.drew; replace X2 := X2.drew; replace X3 := X3.drew; replace X4 := X4.drew; replace X5 := X5.drew
  have hlt := X0.lt
  by_cases hle : bl pq ≤ k
  · have hd : (bl pq : Int) ≤ (k : Int) := by omega
    have HR : Hid (decide (icmp ((pn * 2 ^ k : Nat) : Int) (pt : Int) ≤ 0) = fitB pq pn pt k) := by
      show _ = _
      unfold fitB
      rw [decide_eq_true hle, Bool.true_and]; exact decide_eq_decide.2 ((icmp_le _ _).trans (by omega))
    clear hle
    go_enter Try.func44, Try.ntmps44
    go_wp2_with fail
    generalize hWd : w.drew = wd at *
    refine wp_region_F (fun w' => w'.cell? ⟨g, 3, none⟩ = some (.slice B3 b3 d3) ∧ w'.cell? ⟨g, 4, none⟩ = some (.slice B4 b4 d4) ∧ w'.cell? ⟨g, 5, none⟩ = some (.slice B5 b5 d5)) [] (by kernel_rfl) (by rw [hWd]; exact ⟨X3.ce, X4.ce, X5.ce⟩) (fun hHeld => ?_)
    rw [hWd] at hHeld ⊢
    refine wpAnyF_take (i := 0) (oi := { dst := some 5, op := Go.Op.move (Go.Operand.tmp 0), type := 69, pos := "bound.go:42", after := #[], guard := none }) (v := ?_) rfl (by kernel_rfl) (by kernel_rfl) (by kernel_rfl) (by kernel_rfl) (fun _ _ _ h => h) (Or.inl ⟨by rfl, ?_⟩) hHeld ?_
    rotate_left
    · intro w_ hSw_; (try dsimp only at hSw_); go_simp; (try with_reducible rfl)
    (try simp only [Act.put, List.setIfInBounds_toArray, List.set_cons_zero, List.set_cons_succ])
    refine wpAnyF_take (i := 1) (oi := { dst := some 6, op := Go.Op.nilCheck (Go.Operand.tmp 5), type := 0, pos := "bound.go:42", after := #[{ on := 0, ground := Go.Ground.data }], guard := none }) (v := ?_) rfl (by kernel_rfl) (by kernel_rfl) (by kernel_rfl) (by kernel_rfl) (fun _ _ _ h => h) (Or.inl ⟨by rfl, ?_⟩) hHeld ?_
    rotate_left
    · intro w_ hSw_; (try dsimp only at hSw_); go_simp; (try with_reducible rfl)
    (try simp only [Act.put, List.setIfInBounds_toArray, List.set_cons_zero, List.set_cons_succ])
    refine wpAnyF_take (i := 2) (oi := { dst := some 7, op := Go.Op.fieldAddr 101 (Go.Operand.tmp 6) 3, type := 0, pos := "bound.go:42", after := #[{ on := 1, ground := Go.Ground.data }], guard := none }) (v := ?_) rfl (by kernel_rfl) (by kernel_rfl) (by kernel_rfl) (by kernel_rfl) (fun _ _ _ h => h) (Or.inl ⟨by rfl, ?_⟩) hHeld ?_
    rotate_left
    · intro w_ hSw_; (try dsimp only at hSw_); go_simp; (try with_reducible rfl)
    (try simp only [Act.put, List.setIfInBounds_toArray, List.set_cons_zero, List.set_cons_succ])
    refine wpAnyF_take (i := 3) (oi := { dst := some 8, op := Go.Op.load 72 (Go.Operand.tmp 7), type := 72, pos := "bound.go:42", after := #[{ on := 2, ground := Go.Ground.data }], guard := none }) (v := ?_) rfl (by kernel_rfl) (by kernel_rfl) (by kernel_rfl) (by kernel_rfl) (fun _ _ _ h => h) (Or.inl ⟨by rfl, ?_⟩) hHeld ?_
    rotate_left
    · intro w_ hSw_; (try dsimp only at hSw_); go_simp; (try with_reducible rfl)
    (try simp only [Act.put, List.setIfInBounds_toArray, List.set_cons_zero, List.set_cons_succ])
    refine wpAnyF_take (i := 5) (oi := { dst := some 10, op := Go.Op.move (Go.Operand.tmp 1), type := 3, pos := "bound.go:42", after := #[], guard := none }) (v := ?_) rfl (by kernel_rfl) (by kernel_rfl) (by kernel_rfl) (by kernel_rfl) (fun _ _ _ h => h) (Or.inl ⟨by rfl, ?_⟩) hHeld ?_
    rotate_left
    · intro w_ hSw_; (try dsimp only at hSw_); go_simp; (try with_reducible rfl)
    (try simp only [Act.put, List.setIfInBounds_toArray, List.set_cons_zero, List.set_cons_succ])
    refine wpAnyF_one (i := 4) (by kernel_rfl) rfl (fun K hK => ?_)
    go_simp
    (go_at_call 72; (with_reducible refine (Bits_c pq _ _ X3.iw.out L0).mono ?_); rintro e w1 ⟨rfl, hw1⟩; subst hw1)
    refine hK.out _ _ (by exact ⟨X3.ce, X4.ce, X5.ce⟩) (fun hHeld => ?_)
    clear hK K
    (try simp only [Act.put, List.setIfInBounds_toArray, List.set_cons_zero, List.set_cons_succ])
    refine wpAnyF_take (i := 6) (oi := { dst := some 11, op := Go.Op.binOp Go.BinOp.leq 3 (Go.Operand.tmp 9) (Go.Operand.tmp 10) 3, type := 4, pos := "bound.go:42", after := #[{ on := 4, ground := Go.Ground.data }, { on := 5, ground := Go.Ground.data }], guard := none }) (v := ?_) rfl (by kernel_rfl) (by kernel_rfl) (by kernel_rfl) (by kernel_rfl) (fun _ _ _ h => h) (Or.inl ⟨by rfl, ?_⟩) hHeld ?_
    rotate_left
    · intro w_ hSw_; (try dsimp only at hSw_); go_simp; (try with_reducible rfl)
    (try simp only [Act.put, List.setIfInBounds_toArray, List.set_cons_zero, List.set_cons_succ])
    refine wpAnyF_take (i := 7) (oi := { dst := some 12, op := Go.Op.move (Go.Operand.tmp 11), type := 4, pos := "bound.go:42", after := #[{ on := 6, ground := Go.Ground.data }, { on := 4, ground := Go.Ground.chain }], guard := none }) (v := ?_) rfl (by kernel_rfl) (by kernel_rfl) (by kernel_rfl) (by kernel_rfl) (fun _ _ _ h => h) (Or.inl ⟨by rfl, ?_⟩) hHeld ?_
    rotate_left
    · intro w_ hSw_; (try dsimp only at hSw_); go_simp; (try with_reducible rfl)
    (try simp only [Act.put, List.setIfInBounds_toArray, List.set_cons_zero, List.set_cons_succ])
    refine wpAnyF_take (i := 8) (oi := { dst := some 13, op := Go.Op.move (Go.Operand.tmp 0), type := 69, pos := "bound.go:42", after := #[{ on := 7, ground := Go.Ground.guard }], guard := some (7, true) }) (v := ?_) rfl (by kernel_rfl) (by kernel_rfl) (by kernel_rfl) (by kernel_rfl) (fun _ _ _ h => h) (Or.inl ⟨by rfl, ?_⟩) hHeld ?_
    rotate_left
    · intro w_ hSw_; (try dsimp only at hSw_); go_simp; (try with_reducible rfl)
    (try simp only [Act.put, List.setIfInBounds_toArray, List.set_cons_zero, List.set_cons_succ])
    refine wpAnyF_take (i := 9) (oi := { dst := some 14, op := Go.Op.nilCheck (Go.Operand.tmp 13), type := 0, pos := "bound.go:42", after := #[{ on := 8, ground := Go.Ground.data }, { on := 7, ground := Go.Ground.guard }], guard := some (7, true) }) (v := ?_) rfl (by kernel_rfl) (by kernel_rfl) (by kernel_rfl) (by kernel_rfl) (fun _ _ _ h => h) (Or.inl ⟨by rfl, ?_⟩) hHeld ?_
    rotate_left
    · intro w_ hSw_; (try dsimp only at hSw_); go_simp; (try with_reducible rfl)
    (try simp only [Act.put, List.setIfInBounds_toArray, List.set_cons_zero, List.set_cons_succ])
    refine wpAnyF_take (i := 10) (oi := { dst := some 15, op := Go.Op.fieldAddr 101 (Go.Operand.tmp 14) 4, type := 0, pos := "bound.go:42", after := #[{ on := 9, ground := Go.Ground.data }, { on := 7, ground := Go.Ground.guard }], guard := some (7, true) }) (v := ?_) rfl (by kernel_rfl) (by kernel_rfl) (by kernel_rfl) (by kernel_rfl) (fun _ _ _ h => h) (Or.inl ⟨by rfl, ?_⟩) hHeld ?_
    rotate_left
    · intro w_ hSw_; (try dsimp only at hSw_); go_simp; (try with_reducible rfl)
    (try simp only [Act.put, List.setIfInBounds_toArray, List.set_cons_zero, List.set_cons_succ])
    refine wpAnyF_take (i := 11) (oi := { dst := some 16, op := Go.Op.load 72 (Go.Operand.tmp 15), type := 72, pos := "bound.go:42", after := #[{ on := 10, ground := Go.Ground.data }, { on := 7, ground := Go.Ground.guard }], guard := some (7, true) }) (v := ?_) rfl (by kernel_rfl) (by kernel_rfl) (by kernel_rfl) (by kernel_rfl) (fun _ _ _ h => h) (Or.inl ⟨by rfl, ?_⟩) hHeld ?_
    rotate_left
    · intro w_ hSw_; (try dsimp only at hSw_); go_simp; (try with_reducible rfl)
    (try simp only [Act.put, List.setIfInBounds_toArray, List.set_cons_zero, List.set_cons_succ])
    refine wpAnyF_take (i := 12) (oi := { dst := some 17, op := Go.Op.move (Go.Operand.tmp 1), type := 3, pos := "bound.go:42", after := #[{ on := 7, ground := Go.Ground.guard }], guard := some (7, true) }) (v := ?_) rfl (by kernel_rfl) (by kernel_rfl) (by kernel_rfl) (by kernel_rfl) (fun _ _ _ h => h) (Or.inl ⟨by rfl, ?_⟩) hHeld ?_
    rotate_left
    · intro w_ hSw_; (try dsimp only at hSw_); go_simp; (try with_reducible rfl)
    (try simp only [Act.put, List.setIfInBounds_toArray, List.set_cons_zero, List.set_cons_succ])
    refine wpAnyF_take (i := 14) (oi := { dst := some 19, op := Go.Op.move (Go.Operand.tmp 0), type := 69, pos := "bound.go:42", after := #[{ on := 7, ground := Go.Ground.guard }], guard := some (7, true) }) (v := ?_) rfl (by kernel_rfl) (by kernel_rfl) (by kernel_rfl) (by kernel_rfl) (fun _ _ _ h => h) (Or.inl ⟨by rfl, ?_⟩) hHeld ?_
    rotate_left
    · intro w_ hSw_; (try dsimp only at hSw_); go_simp; (try with_reducible rfl)
    (try simp only [Act.put, List.setIfInBounds_toArray, List.set_cons_zero, List.set_cons_succ])
    refine wpAnyF_take (i := 15) (oi := { dst := some 20, op := Go.Op.nilCheck (Go.Operand.tmp 19), type := 0, pos := "bound.go:42", after := #[{ on := 14, ground := Go.Ground.data }, { on := 7, ground := Go.Ground.guard }], guard := some (7, true) }) (v := ?_) rfl (by kernel_rfl) (by kernel_rfl) (by kernel_rfl) (by kernel_rfl) (fun _ _ _ h => h) (Or.inl ⟨by rfl, ?_⟩) hHeld ?_
    rotate_left
    · intro w_ hSw_; (try dsimp only at hSw_); go_simp; (try with_reducible rfl)
    (try simp only [Act.put, List.setIfInBounds_toArray, List.set_cons_zero, List.set_cons_succ])
    refine wpAnyF_take (i := 16) (oi := { dst := some 21, op := Go.Op.fieldAddr 101 (Go.Operand.tmp 20) 5, type := 0, pos := "bound.go:42", after := #[{ on := 15, ground := Go.Ground.data }, { on := 7, ground := Go.Ground.guard }], guard := some (7, true) }) (v := ?_) rfl (by kernel_rfl) (by kernel_rfl) (by kernel_rfl) (by kernel_rfl) (fun _ _ _ h => h) (Or.inl ⟨by rfl, ?_⟩) hHeld ?_
    rotate_left
    · intro w_ hSw_; (try dsimp only at hSw_); go_simp; (try with_reducible rfl)
    (try simp only [Act.put, List.setIfInBounds_toArray, List.set_cons_zero, List.set_cons_succ])
    refine wpAnyF_take (i := 17) (oi := { dst := some 22, op := Go.Op.load 72 (Go.Operand.tmp 21), type := 72, pos := "bound.go:42", after := #[{ on := 16, ground := Go.Ground.data }, { on := 7, ground := Go.Ground.guard }], guard := some (7, true) }) (v := ?_) rfl (by kernel_rfl) (by kernel_rfl) (by kernel_rfl) (by kernel_rfl) (fun _ _ _ h => h) (Or.inl ⟨by rfl, ?_⟩) hHeld ?_
    rotate_left
    · intro w_ hSw_; (try dsimp only at hSw_); go_simp; (try with_reducible rfl)
    (try simp only [Act.put, List.setIfInBounds_toArray, List.set_cons_zero, List.set_cons_succ])
    refine wpAnyF_one (i := 13) (by kernel_rfl) rfl (fun K hK => ?_)
    go_simp
    (go_at_call 51; (with_reducible refine (Up_c pn k _ _ X4.iw.out hk L2).mono ?_); rintro e w2 ⟨v, rfl, hv, hb2⟩; obtain ⟨A6, m6, k6, rfl, T6⟩ := hv.form; clear hv; replace HB := below_step2 HB hb2 (by have := X0.lt; omega); replace X0 := X0.keep hb2; replace X1 := X1.keep hb2; replace X2 := X2.keep hb2; replace X3 := X3.keep hb2; replace X4 := X4.keep hb2; replace X5 := X5.keep hb2; clear hb2)
    refine hK.out _ _ (by exact ⟨X3.ce, X4.ce, X5.ce⟩) (fun hHeld => ?_)
    clear hK K
    (try simp only [Act.put, List.setIfInBounds_toArray, List.set_cons_zero, List.set_cons_succ])
    refine wpAnyF_one (i := 18) (by kernel_rfl) rfl (fun K hK => ?_)
    go_simp
    (go_at_call 73; (with_reducible refine (Compare_c (pn * 2 ^ k) pt _ _ _ T6.out X5.iw.out).mono ?_); rintro e w3 ⟨rfl, hw3⟩; subst hw3)
    refine hK.out _ _ (by exact ⟨X3.ce, X4.ce, X5.ce⟩) (fun hHeld => ?_)
    clear hK K
    (try simp only [Act.put, List.setIfInBounds_toArray, List.set_cons_zero, List.set_cons_succ])
    refine wpAnyF_take (i := 19) (oi := { dst := some 24, op := Go.Op.binOp Go.BinOp.leq 3 (Go.Operand.tmp 23) (Go.Operand.const (Go.Value.int Go.IntKind.i64 0)) 3, type := 4, pos := "bound.go:42", after := #[{ on := 18, ground := Go.Ground.data }, { on := 7, ground := Go.Ground.guard }], guard := some (7, true) }) (v := ?_) rfl (by kernel_rfl) (by kernel_rfl) (by kernel_rfl) (by kernel_rfl) (fun _ _ _ h => h) (Or.inl ⟨by rfl, ?_⟩) hHeld ?_
    rotate_left
    · intro w_ hSw_; (try dsimp only at hSw_); go_simp; (try with_reducible rfl)
    (try simp only [Act.put, List.setIfInBounds_toArray, List.set_cons_zero, List.set_cons_succ])
    refine wpAnyF_take (i := 20) (oi := { dst := some 25, op := Go.Op.pick (Go.Operand.tmp 12) (Go.Operand.tmp 24) (Go.Operand.const (Go.Value.bool false)), type := 4, pos := "bound.go:42", after := #[{ on := 7, ground := Go.Ground.data }, { on := 19, ground := Go.Ground.data }], guard := none }) (v := ?_) rfl (by kernel_rfl) (by kernel_rfl) (by kernel_rfl) (by kernel_rfl) (fun _ _ _ h => h) (Or.inl ⟨by rfl, ?_⟩) hHeld ?_
    rotate_left
    · intro w_ hSw_; (try dsimp only at hSw_); go_simp; (try with_reducible rfl)
    (try simp only [Act.put, List.setIfInBounds_toArray, List.set_cons_zero, List.set_cons_succ])
    refine wpAnyF_take (i := 21) (oi := { dst := some 4, op := Go.Op.assign (Go.Operand.tmp 25), type := 4, pos := "bound.go:42", after := #[{ on := 20, ground := Go.Ground.data }, { on := 18, ground := Go.Ground.chain }, { on := 0, ground := Go.Ground.phase }, { on := 1, ground := Go.Ground.phase }, { on := 2, ground := Go.Ground.phase }, { on := 3, ground := Go.Ground.phase }, { on := 4, ground := Go.Ground.phase }, { on := 5, ground := Go.Ground.phase }, { on := 6, ground := Go.Ground.phase }, { on := 7, ground := Go.Ground.phase }, { on := 8, ground := Go.Ground.phase }, { on := 9, ground := Go.Ground.phase }, { on := 10, ground := Go.Ground.phase }, { on := 11, ground := Go.Ground.phase }, { on := 12, ground := Go.Ground.phase }, { on := 13, ground := Go.Ground.phase }, { on := 14, ground := Go.Ground.phase }, { on := 15, ground := Go.Ground.phase }, { on := 16, ground := Go.Ground.phase }, { on := 17, ground := Go.Ground.phase }, { on := 18, ground := Go.Ground.phase }, { on := 19, ground := Go.Ground.phase }, { on := 20, ground := Go.Ground.phase }], guard := none }) (v := ?_) rfl (by kernel_rfl) (by kernel_rfl) (by kernel_rfl) (by kernel_rfl) (fun _ _ _ h => h) (Or.inl ⟨by rfl, ?_⟩) hHeld ?_
    rotate_left
    · intro w_ hSw_; (try dsimp only at hSw_); go_simp; (try with_reducible rfl)
    (try simp only [Act.put, List.setIfInBounds_toArray, List.set_cons_zero, List.set_cons_succ])
    refine wpAnyF_done (by kernel_rfl) ?_ _
    clear hHeld
    go_wp2
    go_ret
    exact ⟨by rw [← HR.out]; rfl, ⟨⟨_, _, _, X0⟩, ⟨_, _, _, X1⟩, ⟨_, _, _, X2⟩, ⟨_, _, _, X3⟩, ⟨_, _, _, X4⟩, ⟨_, _, _, X5⟩⟩, HB⟩
  · have hd : decide ((bl pq : Int) ≤ (k : Int)) = false := decide_eq_false (by omega); have hd2 : decide (bl pq ≤ k) = false := decide_eq_false hle; have hd3 : (k : Int) < (bl pq : Int) := by omega
    have HR : Hid (false = fitB pq pn pt k) := by
      show _ = _
      unfold fitB
      rw [decide_eq_false hle, Bool.false_and]
    clear hle
    go_enter Try.func44, Try.ntmps44
    go_wp2_with fail
    generalize hWd : w.drew = wd at *
    refine wp_region_F (fun w' => w'.cell? ⟨g, 3, none⟩ = some (.slice B3 b3 d3) ∧ w'.cell? ⟨g, 4, none⟩ = some (.slice B4 b4 d4) ∧ w'.cell? ⟨g, 5, none⟩ = some (.slice B5 b5 d5)) [] (by kernel_rfl) (by rw [hWd]; exact ⟨X3.ce, X4.ce, X5.ce⟩) (fun hHeld => ?_)
    rw [hWd] at hHeld ⊢
    refine wpAnyF_take (i := 0) (oi := { dst := some 5, op := Go.Op.move (Go.Operand.tmp 0), type := 69, pos := "bound.go:42", after := #[], guard := none }) (v := ?_) rfl (by kernel_rfl) (by kernel_rfl) (by kernel_rfl) (by kernel_rfl) (fun _ _ _ h => h) (Or.inl ⟨by rfl, ?_⟩) hHeld ?_
    rotate_left
    · intro w_ hSw_; (try dsimp only at hSw_); go_simp; (try with_reducible rfl)
    (try simp only [Act.put, List.setIfInBounds_toArray, List.set_cons_zero, List.set_cons_succ])
    refine wpAnyF_take (i := 1) (oi := { dst := some 6, op := Go.Op.nilCheck (Go.Operand.tmp 5), type := 0, pos := "bound.go:42", after := #[{ on := 0, ground := Go.Ground.data }], guard := none }) (v := ?_) rfl (by kernel_rfl) (by kernel_rfl) (by kernel_rfl) (by kernel_rfl) (fun _ _ _ h => h) (Or.inl ⟨by rfl, ?_⟩) hHeld ?_
    rotate_left
    · intro w_ hSw_; (try dsimp only at hSw_); go_simp; (try with_reducible rfl)
    (try simp only [Act.put, List.setIfInBounds_toArray, List.set_cons_zero, List.set_cons_succ])
    refine wpAnyF_take (i := 2) (oi := { dst := some 7, op := Go.Op.fieldAddr 101 (Go.Operand.tmp 6) 3, type := 0, pos := "bound.go:42", after := #[{ on := 1, ground := Go.Ground.data }], guard := none }) (v := ?_) rfl (by kernel_rfl) (by kernel_rfl) (by kernel_rfl) (by kernel_rfl) (fun _ _ _ h => h) (Or.inl ⟨by rfl, ?_⟩) hHeld ?_
    rotate_left
    · intro w_ hSw_; (try dsimp only at hSw_); go_simp; (try with_reducible rfl)
    (try simp only [Act.put, List.setIfInBounds_toArray, List.set_cons_zero, List.set_cons_succ])
    refine wpAnyF_take (i := 3) (oi := { dst := some 8, op := Go.Op.load 72 (Go.Operand.tmp 7), type := 72, pos := "bound.go:42", after := #[{ on := 2, ground := Go.Ground.data }], guard := none }) (v := ?_) rfl (by kernel_rfl) (by kernel_rfl) (by kernel_rfl) (by kernel_rfl) (fun _ _ _ h => h) (Or.inl ⟨by rfl, ?_⟩) hHeld ?_
    rotate_left
    · intro w_ hSw_; (try dsimp only at hSw_); go_simp; (try with_reducible rfl)
    (try simp only [Act.put, List.setIfInBounds_toArray, List.set_cons_zero, List.set_cons_succ])
    refine wpAnyF_take (i := 5) (oi := { dst := some 10, op := Go.Op.move (Go.Operand.tmp 1), type := 3, pos := "bound.go:42", after := #[], guard := none }) (v := ?_) rfl (by kernel_rfl) (by kernel_rfl) (by kernel_rfl) (by kernel_rfl) (fun _ _ _ h => h) (Or.inl ⟨by rfl, ?_⟩) hHeld ?_
    rotate_left
    · intro w_ hSw_; (try dsimp only at hSw_); go_simp; (try with_reducible rfl)
    (try simp only [Act.put, List.setIfInBounds_toArray, List.set_cons_zero, List.set_cons_succ])
    refine wpAnyF_one (i := 4) (by kernel_rfl) rfl (fun K hK => ?_)
    go_simp
    (go_at_call 72; (with_reducible refine (Bits_c pq _ _ X3.iw.out L0).mono ?_); rintro e w1 ⟨rfl, hw1⟩; subst hw1)
    refine hK.out _ _ (by exact ⟨X3.ce, X4.ce, X5.ce⟩) (fun hHeld => ?_)
    clear hK K
    (try simp only [Act.put, List.setIfInBounds_toArray, List.set_cons_zero, List.set_cons_succ])
    refine wpAnyF_take (i := 6) (oi := { dst := some 11, op := Go.Op.binOp Go.BinOp.leq 3 (Go.Operand.tmp 9) (Go.Operand.tmp 10) 3, type := 4, pos := "bound.go:42", after := #[{ on := 4, ground := Go.Ground.data }, { on := 5, ground := Go.Ground.data }], guard := none }) (v := ?_) rfl (by kernel_rfl) (by kernel_rfl) (by kernel_rfl) (by kernel_rfl) (fun _ _ _ h => h) (Or.inl ⟨by rfl, ?_⟩) hHeld ?_
    rotate_left
    · intro w_ hSw_; (try dsimp only at hSw_); go_simp; (try with_reducible rfl)
    (try simp only [Act.put, List.setIfInBounds_toArray, List.set_cons_zero, List.set_cons_succ])
    refine wpAnyF_take (i := 7) (oi := { dst := some 12, op := Go.Op.move (Go.Operand.tmp 11), type := 4, pos := "bound.go:42", after := #[{ on := 6, ground := Go.Ground.data }, { on := 4, ground := Go.Ground.chain }], guard := none }) (v := ?_) rfl (by kernel_rfl) (by kernel_rfl) (by kernel_rfl) (by kernel_rfl) (fun _ _ _ h => h) (Or.inl ⟨by rfl, ?_⟩) hHeld ?_
    rotate_left
    · intro w_ hSw_; (try dsimp only at hSw_); go_simp; (try with_reducible rfl)
    (try simp only [Act.put, List.setIfInBounds_toArray, List.set_cons_zero, List.set_cons_succ])
    refine wpAnyF_take (i := 8) (oi := { dst := some 13, op := Go.Op.move (Go.Operand.tmp 0), type := 69, pos := "bound.go:42", after := #[{ on := 7, ground := Go.Ground.guard }], guard := some (7, true) }) rfl (by kernel_rfl) (by kernel_rfl) (by kernel_rfl) (by kernel_rfl) (fun _ _ _ h => h) (Or.inr ⟨by rfl, rfl⟩) hHeld ?_
    (try simp only [Act.put, List.setIfInBounds_toArray, List.set_cons_zero, List.set_cons_succ])
    refine wpAnyF_take (i := 9) (oi := { dst := some 14, op := Go.Op.nilCheck (Go.Operand.tmp 13), type := 0, pos := "bound.go:42", after := #[{ on := 8, ground := Go.Ground.data }, { on := 7, ground := Go.Ground.guard }], guard := some (7, true) }) rfl (by kernel_rfl) (by kernel_rfl) (by kernel_rfl) (by kernel_rfl) (fun _ _ _ h => h) (Or.inr ⟨by rfl, rfl⟩) hHeld ?_
    (try simp only [Act.put, List.setIfInBounds_toArray, List.set_cons_zero, List.set_cons_succ])
    refine wpAnyF_take (i := 10) (oi := { dst := some 15, op := Go.Op.fieldAddr 101 (Go.Operand.tmp 14) 4, type := 0, pos := "bound.go:42", after := #[{ on := 9, ground := Go.Ground.data }, { on := 7, ground := Go.Ground.guard }], guard := some (7, true) }) rfl (by kernel_rfl) (by kernel_rfl) (by kernel_rfl) (by kernel_rfl) (fun _ _ _ h => h) (Or.inr ⟨by rfl, rfl⟩) hHeld ?_
    (try simp only [Act.put, List.setIfInBounds_toArray, List.set_cons_zero, List.set_cons_succ])
    refine wpAnyF_take (i := 11) (oi := { dst := some 16, op := Go.Op.load 72 (Go.Operand.tmp 15), type := 72, pos := "bound.go:42", after := #[{ on := 10, ground := Go.Ground.data }, { on := 7, ground := Go.Ground.guard }], guard := some (7, true) }) rfl (by kernel_rfl) (by kernel_rfl) (by kernel_rfl) (by kernel_rfl) (fun _ _ _ h => h) (Or.inr ⟨by rfl, rfl⟩) hHeld ?_
    (try simp only [Act.put, List.setIfInBounds_toArray, List.set_cons_zero, List.set_cons_succ])
    refine wpAnyF_take (i := 12) (oi := { dst := some 17, op := Go.Op.move (Go.Operand.tmp 1), type := 3, pos := "bound.go:42", after := #[{ on := 7, ground := Go.Ground.guard }], guard := some (7, true) }) rfl (by kernel_rfl) (by kernel_rfl) (by kernel_rfl) (by kernel_rfl) (fun _ _ _ h => h) (Or.inr ⟨by rfl, rfl⟩) hHeld ?_
    (try simp only [Act.put, List.setIfInBounds_toArray, List.set_cons_zero, List.set_cons_succ])
    refine wpAnyF_take (i := 13) (oi := { dst := some 18, op := Go.Op.call { callee := Go.Callee.value (Go.Operand.func 51), args := #[Go.Operand.tmp 16, Go.Operand.tmp 17], argTypes := #[72, 3] }, type := 72, pos := "bound.go:42", after := #[{ on := 11, ground := Go.Ground.data }, { on := 12, ground := Go.Ground.data }, { on := 7, ground := Go.Ground.chain }, { on := 7, ground := Go.Ground.guard }], guard := some (7, true) }) rfl (by kernel_rfl) (by kernel_rfl) (by kernel_rfl) (by kernel_rfl) (fun _ _ _ h => h) (Or.inr ⟨by rfl, rfl⟩) hHeld ?_
    (try simp only [Act.put, List.setIfInBounds_toArray, List.set_cons_zero, List.set_cons_succ])
    refine wpAnyF_take (i := 14) (oi := { dst := some 19, op := Go.Op.move (Go.Operand.tmp 0), type := 69, pos := "bound.go:42", after := #[{ on := 7, ground := Go.Ground.guard }], guard := some (7, true) }) rfl (by kernel_rfl) (by kernel_rfl) (by kernel_rfl) (by kernel_rfl) (fun _ _ _ h => h) (Or.inr ⟨by rfl, rfl⟩) hHeld ?_
    (try simp only [Act.put, List.setIfInBounds_toArray, List.set_cons_zero, List.set_cons_succ])
    refine wpAnyF_take (i := 15) (oi := { dst := some 20, op := Go.Op.nilCheck (Go.Operand.tmp 19), type := 0, pos := "bound.go:42", after := #[{ on := 14, ground := Go.Ground.data }, { on := 7, ground := Go.Ground.guard }], guard := some (7, true) }) rfl (by kernel_rfl) (by kernel_rfl) (by kernel_rfl) (by kernel_rfl) (fun _ _ _ h => h) (Or.inr ⟨by rfl, rfl⟩) hHeld ?_
    (try simp only [Act.put, List.setIfInBounds_toArray, List.set_cons_zero, List.set_cons_succ])
    refine wpAnyF_take (i := 16) (oi := { dst := some 21, op := Go.Op.fieldAddr 101 (Go.Operand.tmp 20) 5, type := 0, pos := "bound.go:42", after := #[{ on := 15, ground := Go.Ground.data }, { on := 7, ground := Go.Ground.guard }], guard := some (7, true) }) rfl (by kernel_rfl) (by kernel_rfl) (by kernel_rfl) (by kernel_rfl) (fun _ _ _ h => h) (Or.inr ⟨by rfl, rfl⟩) hHeld ?_
    (try simp only [Act.put, List.setIfInBounds_toArray, List.set_cons_zero, List.set_cons_succ])
    refine wpAnyF_take (i := 17) (oi := { dst := some 22, op := Go.Op.load 72 (Go.Operand.tmp 21), type := 72, pos := "bound.go:42", after := #[{ on := 16, ground := Go.Ground.data }, { on := 7, ground := Go.Ground.guard }], guard := some (7, true) }) rfl (by kernel_rfl) (by kernel_rfl) (by kernel_rfl) (by kernel_rfl) (fun _ _ _ h => h) (Or.inr ⟨by rfl, rfl⟩) hHeld ?_
    (try simp only [Act.put, List.setIfInBounds_toArray, List.set_cons_zero, List.set_cons_succ])
    refine wpAnyF_take (i := 18) (oi := { dst := some 23, op := Go.Op.call { callee := Go.Callee.value (Go.Operand.func 73), args := #[Go.Operand.tmp 18, Go.Operand.tmp 22], argTypes := #[72, 72] }, type := 3, pos := "bound.go:42", after := #[{ on := 13, ground := Go.Ground.data }, { on := 17, ground := Go.Ground.data }, { on := 13, ground := Go.Ground.chain }, { on := 7, ground := Go.Ground.guard }], guard := some (7, true) }) rfl (by kernel_rfl) (by kernel_rfl) (by kernel_rfl) (by kernel_rfl) (fun _ _ _ h => h) (Or.inr ⟨by rfl, rfl⟩) hHeld ?_
    (try simp only [Act.put, List.setIfInBounds_toArray, List.set_cons_zero, List.set_cons_succ])
    refine wpAnyF_take (i := 19) (oi := { dst := some 24, op := Go.Op.binOp Go.BinOp.leq 3 (Go.Operand.tmp 23) (Go.Operand.const (Go.Value.int Go.IntKind.i64 0)) 3, type := 4, pos := "bound.go:42", after := #[{ on := 18, ground := Go.Ground.data }, { on := 7, ground := Go.Ground.guard }], guard := some (7, true) }) rfl (by kernel_rfl) (by kernel_rfl) (by kernel_rfl) (by kernel_rfl) (fun _ _ _ h => h) (Or.inr ⟨by rfl, rfl⟩) hHeld ?_
    (try simp only [Act.put, List.setIfInBounds_toArray, List.set_cons_zero, List.set_cons_succ])
    refine wpAnyF_take (i := 20) (oi := { dst := some 25, op := Go.Op.pick (Go.Operand.tmp 12) (Go.Operand.tmp 24) (Go.Operand.const (Go.Value.bool false)), type := 4, pos := "bound.go:42", after := #[{ on := 7, ground := Go.Ground.data }, { on := 19, ground := Go.Ground.data }], guard := none }) (v := ?_) rfl (by kernel_rfl) (by kernel_rfl) (by kernel_rfl) (by kernel_rfl) (fun _ _ _ h => h) (Or.inl ⟨by rfl, ?_⟩) hHeld ?_
    rotate_left
    · intro w_ hSw_; (try dsimp only at hSw_); go_simp; (try with_reducible rfl)
    (try simp only [Act.put, List.setIfInBounds_toArray, List.set_cons_zero, List.set_cons_succ])
    refine wpAnyF_take (i := 21) (oi := { dst := some 4, op := Go.Op.assign (Go.Operand.tmp 25), type := 4, pos := "bound.go:42", after := #[{ on := 20, ground := Go.Ground.data }, { on := 18, ground := Go.Ground.chain }, { on := 0, ground := Go.Ground.phase }, { on := 1, ground := Go.Ground.phase }, { on := 2, ground := Go.Ground.phase }, { on := 3, ground := Go.Ground.phase }, { on := 4, ground := Go.Ground.phase }, { on := 5, ground := Go.Ground.phase }, { on := 6, ground := Go.Ground.phase }, { on := 7, ground := Go.Ground.phase }, { on := 8, ground := Go.Ground.phase }, { on := 9, ground := Go.Ground.phase }, { on := 10, ground := Go.Ground.phase }, { on := 11, ground := Go.Ground.phase }, { on := 12, ground := Go.Ground.phase }, { on := 13, ground := Go.Ground.phase }, { on := 14, ground := Go.Ground.phase }, { on := 15, ground := Go.Ground.phase }, { on := 16, ground := Go.Ground.phase }, { on := 17, ground := Go.Ground.phase }, { on := 18, ground := Go.Ground.phase }, { on := 19, ground := Go.Ground.phase }, { on := 20, ground := Go.Ground.phase }], guard := none }) (v := ?_) rfl (by kernel_rfl) (by kernel_rfl) (by kernel_rfl) (by kernel_rfl) (fun _ _ _ h => h) (Or.inl ⟨by rfl, ?_⟩) hHeld ?_
    rotate_left
    · intro w_ hSw_; (try dsimp only at hSw_); go_simp; (try with_reducible rfl)
    (try simp only [Act.put, List.setIfInBounds_toArray, List.set_cons_zero, List.set_cons_succ])
    refine wpAnyF_done (by kernel_rfl) ?_ _
    clear hHeld
    go_wp2
    go_ret
    exact ⟨by rw [← HR.out]; rfl, ⟨⟨_, _, _, X0⟩, ⟨_, _, _, X1⟩, ⟨_, _, _, X2⟩, ⟨_, _, _, X3⟩, ⟨_, _, _, X4⟩, ⟨_, _, _, X5⟩⟩, HB⟩
end Go.Proofs.Ytiaeeclmlchpoaa

set_option linter.unusedVariables false
set_option linter.unusedSimpArgs false
namespace Go.Proofs.Ytiaeeclmlchpoaa
open Go.RowKit

theorem wOfN (n : Nat) : True := trivial
/-- The error of a kin, a number and an exponent. -/
def askE (q c z a : Int) : Bool := kinB q c && decide (0 < z) && decide (1 ≤ a) && decide (a ≤ 20000)
theorem dig_of_valid {s : ByteArray} (h : vldL (codes s) = true) : ∃ z : Int, s = tS z ∧ dlN z.natAbs ≤ 2000 := by
  obtain ⟨z, hz, hd⟩ := vld_num h
  exact ⟨z, codes_inj (by rw [codes_tS]; exact hz), hd⟩
theorem lenB (z : Int) (h : dlN z.natAbs ≤ 2000) : (dg B64 z).length ≤ 2000 := by
  unfold dg
  rcases Nat.eq_zero_or_pos z.natAbs with h0 | h0
  · rw [h0, digs_zero]; simp
  · have := wlen_dl z.natAbs
    have e : dlN z.natAbs = (digs 10 z.natAbs).length := by unfold dlN; exact txN_length h0
    omega
theorem kinB_spec {q c : Int} (h : kinB q c = true) : 3 ≤ q ∧ q ≤ 999 ∧ q % 2 = 1 ∧ 1 ≤ c ∧ c ≤ 999999 ∧ c % 2 = 1 := by unfold kinB at h; simpa using h

set_option maxRecDepth 100000 in
set_option maxHeartbeats 4000000 in
theorem asks_c (q c a : Int) (s : ByteArray) (w : World) (hs : s.size ≤ 9223372036854775807) :
    Calls Try.prog 39 #[.int .i64 q, .int .i64 c, .string s, .int .i64 a] w fun e w' => Below w.heap.size w w' ∧
      ((vldL (codes s) = false ∧ e = .returned (.tuple #[.int .i64 0, .int .i64 1])) ∨
       ∃ z : Int, s = tS z ∧ dlN z.natAbs ≤ 2000 ∧ ((askE q c z a = false ∧ e = .returned (.tuple #[.int .i64 0, .int .i64 2])) ∨
         (askE q c z a = true ∧ e = .returned (.tuple #[.int .i64 (dlN (q * z + c).natAbs), .int .i64 0])))) := by
  by_cases hv : vldL (codes s) = true
  · obtain ⟨z, hsz, hz⟩ := dig_of_valid hv
    have HV := Lib.hid hv
    have HSz := Lib.hid hsz
    have hL : (dg B64 z).length ≤ 1000000000 := Nat.le_trans (lenB z hz) (by omega)
    have hL0 : (dg B64 0).length ≤ 1000000000 := by unfold dg; rw [show (0 : Int).natAbs = 0 from rfl, digs_zero]; simp
    clear hv hsz
    by_cases hk : kinB q c = true
    · by_cases hz0 : 0 < z
      · by_cases ha : 1 ≤ a
        · by_cases ha2 : a ≤ 20000
          · have hg3 : decide (a < 1) = false := decide_eq_false (by omega)
            have HE : Hid (askE q c z a = true) := by show _ = _; unfold askE; rw [hk, decide_eq_true hz0, decide_eq_true ha, decide_eq_true ha2]; rfl
            have hg : decide (icmp z 0 ≤ 0) = false := decide_eq_false (by unfold icmp; rw [if_neg (by omega), if_pos hz0]; omega)
            have hkk := Lib.hid (kinB_spec hk)
            skip
            go_enter Try.func39, Try.ntmps39
            go_wp2_with fail
            (with_reducible refine (nValid_c s _ hs).mono ?_)
            rintro e w1 ⟨rfl, hb1⟩
            rw [HV.out]
            go_wp2_with fail
            rw [HSz.out]
            (with_reducible refine (wParse_c z _ (by omega)).mono ?_)
            rintro e w2 ⟨v, rfl, hv, hb2⟩
            obtain ⟨n2, A2, m2, k2, rfl, H2⟩ := hv.form; clear hv
            have HB := below_step hb1 hb2
            have V := VX.new w2 74 H2.out
            replace HB := below_alloc HB (Obj.cells #[Value.bool n2, Value.slice A2 m2 k2] 74)
            have hbw : w.heap.size ≤ w2.heap.size := Nat.le_trans hb1.size hb2.size
            clear hb1 hb2 H2
            go_wp2_with fail
            generalize hW : w2.alloc (Obj.cells #[Value.bool n2, Value.slice A2 m2 k2] 74) = W at *
            generalize w2.heap.size = b at *
            clear hW
            replace V := V.drew
            replace HB := below_drew HB
            generalize hWd : W.drew = wd at *
            refine wp_region_F (fun w' => w'.cell? ⟨b, 0, none⟩ = some (.bool n2) ∧ w'.cell? ⟨b, 1, none⟩ = some (.slice A2 m2 k2)) [] (by kernel_rfl) (by rw [hWd]; exact ⟨V.c0, V.c1⟩) (fun hHeld => ?_)
            rw [hWd] at hHeld ⊢
            refine wpAnyF_take (i := 0) (oi := { dst := some 16, op := Go.Op.move (Go.Operand.tmp 0), type := 3, pos := "bound.go:54", after := #[], guard := none }) (v := ?_) rfl (by kernel_rfl) (by kernel_rfl) (by kernel_rfl) (by kernel_rfl) (fun _ _ _ h => h) (Or.inl ⟨by rfl, ?_⟩) hHeld ?_
            rotate_left
            · intro w_ hSw_; (try dsimp only at hSw_); go_simp; (try with_reducible rfl)
            (try simp only [Act.put, List.setIfInBounds_toArray, List.set_cons_zero, List.set_cons_succ])
            refine wpAnyF_take (i := 1) (oi := { dst := some 17, op := Go.Op.move (Go.Operand.tmp 1), type := 3, pos := "bound.go:54", after := #[], guard := none }) (v := ?_) rfl (by kernel_rfl) (by kernel_rfl) (by kernel_rfl) (by kernel_rfl) (fun _ _ _ h => h) (Or.inl ⟨by rfl, ?_⟩) hHeld ?_
            rotate_left
            · intro w_ hSw_; (try dsimp only at hSw_); go_simp; (try with_reducible rfl)
            (try simp only [Act.put, List.setIfInBounds_toArray, List.set_cons_zero, List.set_cons_succ])
            refine wpAnyF_one (i := 2) (by kernel_rfl) rfl (fun K hK => ?_)
            go_simp
            (go_at_call 48; (with_reducible refine (bkin_c q c _).mono ?_); rintro e w3 ⟨rfl, hw3⟩; subst hw3)
            refine hK.out _ _ (by exact ⟨V.c0, V.c1⟩) (fun hHeld => ?_)
            clear hK K
            (try simp only [Act.put, List.setIfInBounds_toArray, List.set_cons_zero, List.set_cons_succ])
            refine wpAnyF_take (i := 3) (oi := { dst := some 19, op := Go.Op.unOp Go.UnOp.not 4 (Go.Operand.tmp 18), type := 4, pos := "bound.go:54", after := #[{ on := 2, ground := Go.Ground.data }], guard := none }) (v := ?_) rfl (by kernel_rfl) (by kernel_rfl) (by kernel_rfl) (by kernel_rfl) (fun _ _ _ h => h) (Or.inl ⟨by rfl, ?_⟩) hHeld ?_
            rotate_left
            · intro w_ hSw_; (try dsimp only at hSw_); go_simp; (try with_reducible rfl)
            (try simp only [Act.put, List.setIfInBounds_toArray, List.set_cons_zero, List.set_cons_succ])
            refine wpAnyF_take (i := 4) (oi := { dst := some 20, op := Go.Op.move (Go.Operand.tmp 19), type := 4, pos := "bound.go:54", after := #[{ on := 3, ground := Go.Ground.data }, { on := 2, ground := Go.Ground.chain }], guard := none }) (v := ?_) rfl (by kernel_rfl) (by kernel_rfl) (by kernel_rfl) (by kernel_rfl) (fun _ _ _ h => h) (Or.inl ⟨by rfl, ?_⟩) hHeld ?_
            rotate_left
            · intro w_ hSw_; (try dsimp only at hSw_); go_simp; (try with_reducible rfl)
            (try simp only [Act.put, List.setIfInBounds_toArray, List.set_cons_zero, List.set_cons_succ])
            refine wpAnyF_take (i := 5) (oi := { dst := some 21, op := Go.Op.load 74 (Go.Operand.tmp 10), type := 74, pos := "bound.go:54", after := #[{ on := 4, ground := Go.Ground.guard }], guard := some (4, false) }) (v := ?_) rfl (by kernel_rfl) (by kernel_rfl) (by kernel_rfl) (by kernel_rfl) (fun _ _ _ h => h) (Or.inl ⟨by rfl, ?_⟩) hHeld ?_
            rotate_left
            · intro w_ hSw_; (try dsimp only at hSw_); go_simp; (try with_reducible rfl)
            (try simp only [Act.put, List.setIfInBounds_toArray, List.set_cons_zero, List.set_cons_succ])
            refine wpAnyF_one (i := 6) (by kernel_rfl) rfl (fun K hK => ?_)
            go_simp
            (go_at_call 65; (with_reducible refine (Small_c 0 _ (by omega) (by omega)).mono ?_); rintro e w4 ⟨v, rfl, hv, hb4⟩; obtain ⟨n4, A4, m4, k4, rfl, H4⟩ := hv.form; clear hv; replace HB := below_step HB hb4; replace V := V.keep hb4; clear hb4)
            refine hK.out _ _ (by exact ⟨V.c0, V.c1⟩) (fun hHeld => ?_)
            clear hK K
            (try simp only [Act.put, List.setIfInBounds_toArray, List.set_cons_zero, List.set_cons_succ])
            refine wpAnyF_one (i := 7) (by kernel_rfl) rfl (fun K hK => ?_)
            go_simp
            (go_at_call 64; (with_reducible refine (iCompare_c z 0 _ _ _ V.iz.out H4.out hL hL0).mono ?_); rintro e w5 ⟨rfl, hb5⟩; replace HB := below_step HB hb5; replace V := V.keep hb5; clear hb5)
            refine hK.out _ _ (by exact ⟨V.c0, V.c1⟩) (fun hHeld => ?_)
            clear hK K
            (try simp only [Act.put, List.setIfInBounds_toArray, List.set_cons_zero, List.set_cons_succ])
            refine wpAnyF_take (i := 8) (oi := { dst := some 24, op := Go.Op.binOp Go.BinOp.leq 3 (Go.Operand.tmp 23) (Go.Operand.const (Go.Value.int Go.IntKind.i64 0)) 3, type := 4, pos := "bound.go:54", after := #[{ on := 7, ground := Go.Ground.data }, { on := 4, ground := Go.Ground.guard }], guard := some (4, false) }) (v := ?_) rfl (by kernel_rfl) (by kernel_rfl) (by kernel_rfl) (by kernel_rfl) (fun _ _ _ h => h) (Or.inl ⟨by rfl, ?_⟩) hHeld ?_
            rotate_left
            · intro w_ hSw_; (try dsimp only at hSw_); go_simp; (try with_reducible rfl)
            (try simp only [Act.put, List.setIfInBounds_toArray, List.set_cons_zero, List.set_cons_succ])
            refine wpAnyF_take (i := 9) (oi := { dst := some 25, op := Go.Op.pick (Go.Operand.tmp 20) (Go.Operand.const (Go.Value.bool true)) (Go.Operand.tmp 24), type := 4, pos := "bound.go:54", after := #[{ on := 4, ground := Go.Ground.data }, { on := 8, ground := Go.Ground.data }], guard := none }) (v := ?_) rfl (by kernel_rfl) (by kernel_rfl) (by kernel_rfl) (by kernel_rfl) (fun _ _ _ h => h) (Or.inl ⟨by rfl, ?_⟩) hHeld ?_
            rotate_left
            · intro w_ hSw_; (try dsimp only at hSw_); go_simp; (try with_reducible rfl)
            (try simp only [Act.put, List.setIfInBounds_toArray, List.set_cons_zero, List.set_cons_succ])
            refine wpAnyF_take (i := 10) (oi := { dst := some 26, op := Go.Op.move (Go.Operand.tmp 25), type := 4, pos := "bound.go:54", after := #[{ on := 9, ground := Go.Ground.data }, { on := 7, ground := Go.Ground.chain }], guard := none }) (v := ?_) rfl (by kernel_rfl) (by kernel_rfl) (by kernel_rfl) (by kernel_rfl) (fun _ _ _ h => h) (Or.inl ⟨by rfl, ?_⟩) hHeld ?_
            rotate_left
            · intro w_ hSw_; (try dsimp only at hSw_); go_simp; (try with_reducible rfl)
            (try simp only [Act.put, List.setIfInBounds_toArray, List.set_cons_zero, List.set_cons_succ])
            refine wpAnyF_take (i := 11) (oi := { dst := some 27, op := Go.Op.move (Go.Operand.tmp 3), type := 3, pos := "bound.go:54", after := #[{ on := 10, ground := Go.Ground.guard }], guard := some (10, false) }) (v := ?_) rfl (by kernel_rfl) (by kernel_rfl) (by kernel_rfl) (by kernel_rfl) (fun _ _ _ h => h) (Or.inl ⟨by rfl, ?_⟩) hHeld ?_
            rotate_left
            · intro w_ hSw_; (try dsimp only at hSw_); go_simp; (try with_reducible rfl)
            (try simp only [Act.put, List.setIfInBounds_toArray, List.set_cons_zero, List.set_cons_succ])
            refine wpAnyF_take (i := 12) (oi := { dst := some 28, op := Go.Op.binOp Go.BinOp.lss 3 (Go.Operand.tmp 27) (Go.Operand.const (Go.Value.int Go.IntKind.i64 1)) 3, type := 4, pos := "bound.go:54", after := #[{ on := 11, ground := Go.Ground.data }, { on := 10, ground := Go.Ground.guard }], guard := some (10, false) }) (v := ?_) rfl (by kernel_rfl) (by kernel_rfl) (by kernel_rfl) (by kernel_rfl) (fun _ _ _ h => h) (Or.inl ⟨by rfl, ?_⟩) hHeld ?_
            rotate_left
            · intro w_ hSw_; (try dsimp only at hSw_); go_simp; (try with_reducible rfl)
            (try simp only [Act.put, List.setIfInBounds_toArray, List.set_cons_zero, List.set_cons_succ])
            refine wpAnyF_take (i := 13) (oi := { dst := some 29, op := Go.Op.pick (Go.Operand.tmp 26) (Go.Operand.const (Go.Value.bool true)) (Go.Operand.tmp 28), type := 4, pos := "bound.go:54", after := #[{ on := 10, ground := Go.Ground.data }, { on := 12, ground := Go.Ground.data }], guard := none }) (v := ?_) rfl (by kernel_rfl) (by kernel_rfl) (by kernel_rfl) (by kernel_rfl) (fun _ _ _ h => h) (Or.inl ⟨by rfl, ?_⟩) hHeld ?_
            rotate_left
            · intro w_ hSw_; (try dsimp only at hSw_); go_simp; (try with_reducible rfl)
            (try simp only [Act.put, List.setIfInBounds_toArray, List.set_cons_zero, List.set_cons_succ])
            refine wpAnyF_take (i := 14) (oi := { dst := some 30, op := Go.Op.move (Go.Operand.tmp 29), type := 4, pos := "bound.go:54", after := #[{ on := 13, ground := Go.Ground.data }, { on := 10, ground := Go.Ground.chain }], guard := none }) (v := ?_) rfl (by kernel_rfl) (by kernel_rfl) (by kernel_rfl) (by kernel_rfl) (fun _ _ _ h => h) (Or.inl ⟨by rfl, ?_⟩) hHeld ?_
            rotate_left
            · intro w_ hSw_; (try dsimp only at hSw_); go_simp; (try with_reducible rfl)
            (try simp only [Act.put, List.setIfInBounds_toArray, List.set_cons_zero, List.set_cons_succ])
            refine wpAnyF_take (i := 15) (oi := { dst := some 31, op := Go.Op.move (Go.Operand.tmp 3), type := 3, pos := "bound.go:54", after := #[{ on := 14, ground := Go.Ground.guard }], guard := some (14, false) }) (v := ?_) rfl (by kernel_rfl) (by kernel_rfl) (by kernel_rfl) (by kernel_rfl) (fun _ _ _ h => h) (Or.inl ⟨by rfl, ?_⟩) hHeld ?_
            rotate_left
            · intro w_ hSw_; (try dsimp only at hSw_); go_simp; (try with_reducible rfl)
            (try simp only [Act.put, List.setIfInBounds_toArray, List.set_cons_zero, List.set_cons_succ])
            refine wpAnyF_take (i := 16) (oi := { dst := some 32, op := Go.Op.binOp Go.BinOp.gtr 3 (Go.Operand.tmp 31) (Go.Operand.const (Go.Value.int Go.IntKind.i64 20000)) 3, type := 4, pos := "bound.go:54", after := #[{ on := 15, ground := Go.Ground.data }, { on := 14, ground := Go.Ground.guard }], guard := some (14, false) }) (v := ?_) rfl (by kernel_rfl) (by kernel_rfl) (by kernel_rfl) (by kernel_rfl) (fun _ _ _ h => h) (Or.inl ⟨by rfl, ?_⟩) hHeld ?_
            rotate_left
            · intro w_ hSw_; (try dsimp only at hSw_); go_simp; (try with_reducible rfl)
            (try simp only [Act.put, List.setIfInBounds_toArray, List.set_cons_zero, List.set_cons_succ])
            refine wpAnyF_take (i := 17) (oi := { dst := some 33, op := Go.Op.pick (Go.Operand.tmp 30) (Go.Operand.const (Go.Value.bool true)) (Go.Operand.tmp 32), type := 4, pos := "bound.go:54", after := #[{ on := 14, ground := Go.Ground.data }, { on := 16, ground := Go.Ground.data }], guard := none }) (v := ?_) rfl (by kernel_rfl) (by kernel_rfl) (by kernel_rfl) (by kernel_rfl) (fun _ _ _ h => h) (Or.inl ⟨by rfl, ?_⟩) hHeld ?_
            rotate_left
            · intro w_ hSw_; (try dsimp only at hSw_); go_simp; (try with_reducible rfl)
            (try simp only [Act.put, List.setIfInBounds_toArray, List.set_cons_zero, List.set_cons_succ])
            refine wpAnyF_done (by kernel_rfl) ?_ _
            clear hHeld
            obtain ⟨kk1, kk2, kk3, kk4, kk5, kk6⟩ := hkk.out
            clear kk3 kk6
            have ha2' : ¬ 20000 < a := by omega
            have HN : Hid ((tS ((q.toNat * z.natAbs + c.toNat : Nat) : Int)).size = dlN (q * z + c).natAbs) := by
              show _ = _
              have e1 : (q * z + c).natAbs = q.toNat * z.natAbs + c.toNat := by
                have h1 : (q.toNat : Int) = q := by omega
                have h2 : (z.natAbs : Int) = z := by omega
                have h3 : (c.toNat : Int) = c := by omega
                have h4 : ((q.toNat * z.natAbs + c.toNat : Nat) : Int) = q * z + c := by rw [Int.natCast_add, Int.natCast_mul, h1, h2, h3]
                omega
              rw [e1, tS_nat, mkS_size]; rfl
            have hqz : (digs B64 z.natAbs).length ≤ 2000 := lenB z hz
            have hD : (digs 10 (q.toNat * z.natAbs + c.toNat)).length ≤ 1000000000 := by
              have h1 := digs_len_lt (B := 10) (by omega) z.natAbs
              have h2 : (digs 10 z.natAbs).length ≤ 2000 := by
                rcases Nat.eq_zero_or_pos z.natAbs with h0 | h0
                · rw [h0, digs_zero]; simp
                · have e : dlN z.natAbs = (digs 10 z.natAbs).length := by unfold dlN; exact txN_length h0
                  omega
              have h3 := nlen_mul (B := 10) (by omega) q.toNat z.natAbs
              have h4 : (digs 10 q.toNat).length ≤ 3 := digs_len_le (by omega) (by show _ < 1000; omega)
              have h5 : (digs 10 c.toNat).length ≤ 6 := digs_len_le (by omega) (by show _ < 1000000; omega)
              have h6 := digs_len_lt (B := 10) (by omega) (q.toNat * z.natAbs)
              obtain ⟨E, hE⟩ : ∃ E : Nat, E = 2010 := ⟨_, rfl⟩
              have h7 : q.toNat * z.natAbs < 10 ^ E := Nat.lt_of_lt_of_le h6 (Nat.pow_le_pow_right (by omega) (by omega))
              have h8 : c.toNat < 10 ^ E := Nat.lt_of_lt_of_le (show c.toNat < 10 ^ 6 by show _ < 1000000; omega) (Nat.pow_le_pow_right (by omega) (by omega))
              have h9 : (10 : Nat) ^ E + 10 ^ E ≤ 10 ^ (E + 1) := by rw [Nat.pow_succ]; omega
              exact Nat.le_trans (digs_len_le (k := E + 1) (by omega) (Nat.lt_of_lt_of_le (Nat.add_lt_add h7 h8) h9)) (by omega)
            have vc0 := V.c0
            have vc1 := V.c1
            have vlt := V.lt
            go_wp2_with fail
            (with_reducible refine (wNat_c z _ _ V.iz.out).mono ?_)
            rintro e w6 ⟨v, rfl, hv, hb6⟩
            replace HB := below_step HB hb6
            clear hb6 V vc0 vc1 vlt
            have hqq : W64 q := And.intro (by omega) (by omega)
            have hcc : W64 c := And.intro (by omega) (by omega)
            go_wp2_with fail
            (with_reducible refine (begin_c q c z.natAbs _ _ hv hqq (by omega) hcc (by omega) (by omega)).mono ?_)
            rintro e w7 ⟨g, rfl, ⟨-, -, ⟨A5, m5, k5, X2⟩, -⟩, hb7, hg7⟩
            replace HB := below_step HB hb7
            have c2 := X2.ce
            have hltg := X2.lt
            clear hb7 hv
            go_wp2_with fail
            (with_reducible refine (wDigits_c _ _ _ X2.iw.out hD).mono ?_)
            rintro e w8 ⟨rfl, hb8⟩
            replace HB := below_step HB hb8
            clear hb8 X2 c2
            generalize tS ((q.toNat * z.natAbs + c.toNat : Nat) : Int) = TS at *
            go_wp2
            go_ret2
            exact ⟨HB, .inr ⟨z, HSz.out, hz, .inr ⟨HE.out, by rw [← HN.out]; rfl⟩⟩⟩
          · have hg3 : decide (a < 1) = false := decide_eq_false (by omega)
            have hg4 : 20000 < a := by omega
            have HE : Hid (askE q c z a = false) := by show _ = _; unfold askE; rw [decide_eq_false ha2]; simp
            have hg : decide (icmp z 0 ≤ 0) = false := decide_eq_false (by unfold icmp; rw [if_neg (by omega), if_pos hz0]; omega)
            skip
            go_enter Try.func39, Try.ntmps39
            go_wp2_with fail
            (with_reducible refine (nValid_c s _ hs).mono ?_)
            rintro e w1 ⟨rfl, hb1⟩
            rw [HV.out]
            go_wp2_with fail
            rw [HSz.out]
            (with_reducible refine (wParse_c z _ (by omega)).mono ?_)
            rintro e w2 ⟨v, rfl, hv, hb2⟩
            obtain ⟨n2, A2, m2, k2, rfl, H2⟩ := hv.form; clear hv
            have HB := below_step hb1 hb2
            have V := VX.new w2 74 H2.out
            replace HB := below_alloc HB (Obj.cells #[Value.bool n2, Value.slice A2 m2 k2] 74)
            have hbw : w.heap.size ≤ w2.heap.size := Nat.le_trans hb1.size hb2.size
            clear hb1 hb2 H2
            go_wp2_with fail
            generalize hW : w2.alloc (Obj.cells #[Value.bool n2, Value.slice A2 m2 k2] 74) = W at *
            generalize w2.heap.size = b at *
            clear hW
            replace V := V.drew
            replace HB := below_drew HB
            generalize hWd : W.drew = wd at *
            refine wp_region_F (fun w' => w'.cell? ⟨b, 0, none⟩ = some (.bool n2) ∧ w'.cell? ⟨b, 1, none⟩ = some (.slice A2 m2 k2)) [] (by kernel_rfl) (by rw [hWd]; exact ⟨V.c0, V.c1⟩) (fun hHeld => ?_)
            rw [hWd] at hHeld ⊢
            refine wpAnyF_take (i := 0) (oi := { dst := some 16, op := Go.Op.move (Go.Operand.tmp 0), type := 3, pos := "bound.go:54", after := #[], guard := none }) (v := ?_) rfl (by kernel_rfl) (by kernel_rfl) (by kernel_rfl) (by kernel_rfl) (fun _ _ _ h => h) (Or.inl ⟨by rfl, ?_⟩) hHeld ?_
            rotate_left
            · intro w_ hSw_; (try dsimp only at hSw_); go_simp; (try with_reducible rfl)
            (try simp only [Act.put, List.setIfInBounds_toArray, List.set_cons_zero, List.set_cons_succ])
            refine wpAnyF_take (i := 1) (oi := { dst := some 17, op := Go.Op.move (Go.Operand.tmp 1), type := 3, pos := "bound.go:54", after := #[], guard := none }) (v := ?_) rfl (by kernel_rfl) (by kernel_rfl) (by kernel_rfl) (by kernel_rfl) (fun _ _ _ h => h) (Or.inl ⟨by rfl, ?_⟩) hHeld ?_
            rotate_left
            · intro w_ hSw_; (try dsimp only at hSw_); go_simp; (try with_reducible rfl)
            (try simp only [Act.put, List.setIfInBounds_toArray, List.set_cons_zero, List.set_cons_succ])
            refine wpAnyF_one (i := 2) (by kernel_rfl) rfl (fun K hK => ?_)
            go_simp
            (go_at_call 48; (with_reducible refine (bkin_c q c _).mono ?_); rintro e w3 ⟨rfl, hw3⟩; subst hw3)
            refine hK.out _ _ (by exact ⟨V.c0, V.c1⟩) (fun hHeld => ?_)
            clear hK K
            (try simp only [Act.put, List.setIfInBounds_toArray, List.set_cons_zero, List.set_cons_succ])
            refine wpAnyF_take (i := 3) (oi := { dst := some 19, op := Go.Op.unOp Go.UnOp.not 4 (Go.Operand.tmp 18), type := 4, pos := "bound.go:54", after := #[{ on := 2, ground := Go.Ground.data }], guard := none }) (v := ?_) rfl (by kernel_rfl) (by kernel_rfl) (by kernel_rfl) (by kernel_rfl) (fun _ _ _ h => h) (Or.inl ⟨by rfl, ?_⟩) hHeld ?_
            rotate_left
            · intro w_ hSw_; (try dsimp only at hSw_); go_simp; (try with_reducible rfl)
            (try simp only [Act.put, List.setIfInBounds_toArray, List.set_cons_zero, List.set_cons_succ])
            refine wpAnyF_take (i := 4) (oi := { dst := some 20, op := Go.Op.move (Go.Operand.tmp 19), type := 4, pos := "bound.go:54", after := #[{ on := 3, ground := Go.Ground.data }, { on := 2, ground := Go.Ground.chain }], guard := none }) (v := ?_) rfl (by kernel_rfl) (by kernel_rfl) (by kernel_rfl) (by kernel_rfl) (fun _ _ _ h => h) (Or.inl ⟨by rfl, ?_⟩) hHeld ?_
            rotate_left
            · intro w_ hSw_; (try dsimp only at hSw_); go_simp; (try with_reducible rfl)
            (try simp only [Act.put, List.setIfInBounds_toArray, List.set_cons_zero, List.set_cons_succ])
            refine wpAnyF_take (i := 5) (oi := { dst := some 21, op := Go.Op.load 74 (Go.Operand.tmp 10), type := 74, pos := "bound.go:54", after := #[{ on := 4, ground := Go.Ground.guard }], guard := some (4, false) }) (v := ?_) rfl (by kernel_rfl) (by kernel_rfl) (by kernel_rfl) (by kernel_rfl) (fun _ _ _ h => h) (Or.inl ⟨by rfl, ?_⟩) hHeld ?_
            rotate_left
            · intro w_ hSw_; (try dsimp only at hSw_); go_simp; (try with_reducible rfl)
            (try simp only [Act.put, List.setIfInBounds_toArray, List.set_cons_zero, List.set_cons_succ])
            refine wpAnyF_one (i := 6) (by kernel_rfl) rfl (fun K hK => ?_)
            go_simp
            (go_at_call 65; (with_reducible refine (Small_c 0 _ (by omega) (by omega)).mono ?_); rintro e w4 ⟨v, rfl, hv, hb4⟩; obtain ⟨n4, A4, m4, k4, rfl, H4⟩ := hv.form; clear hv; replace HB := below_step HB hb4; replace V := V.keep hb4; clear hb4)
            refine hK.out _ _ (by exact ⟨V.c0, V.c1⟩) (fun hHeld => ?_)
            clear hK K
            (try simp only [Act.put, List.setIfInBounds_toArray, List.set_cons_zero, List.set_cons_succ])
            refine wpAnyF_one (i := 7) (by kernel_rfl) rfl (fun K hK => ?_)
            go_simp
            (go_at_call 64; (with_reducible refine (iCompare_c z 0 _ _ _ V.iz.out H4.out hL hL0).mono ?_); rintro e w5 ⟨rfl, hb5⟩; replace HB := below_step HB hb5; replace V := V.keep hb5; clear hb5)
            refine hK.out _ _ (by exact ⟨V.c0, V.c1⟩) (fun hHeld => ?_)
            clear hK K
            (try simp only [Act.put, List.setIfInBounds_toArray, List.set_cons_zero, List.set_cons_succ])
            refine wpAnyF_take (i := 8) (oi := { dst := some 24, op := Go.Op.binOp Go.BinOp.leq 3 (Go.Operand.tmp 23) (Go.Operand.const (Go.Value.int Go.IntKind.i64 0)) 3, type := 4, pos := "bound.go:54", after := #[{ on := 7, ground := Go.Ground.data }, { on := 4, ground := Go.Ground.guard }], guard := some (4, false) }) (v := ?_) rfl (by kernel_rfl) (by kernel_rfl) (by kernel_rfl) (by kernel_rfl) (fun _ _ _ h => h) (Or.inl ⟨by rfl, ?_⟩) hHeld ?_
            rotate_left
            · intro w_ hSw_; (try dsimp only at hSw_); go_simp; (try with_reducible rfl)
            (try simp only [Act.put, List.setIfInBounds_toArray, List.set_cons_zero, List.set_cons_succ])
            refine wpAnyF_take (i := 9) (oi := { dst := some 25, op := Go.Op.pick (Go.Operand.tmp 20) (Go.Operand.const (Go.Value.bool true)) (Go.Operand.tmp 24), type := 4, pos := "bound.go:54", after := #[{ on := 4, ground := Go.Ground.data }, { on := 8, ground := Go.Ground.data }], guard := none }) (v := ?_) rfl (by kernel_rfl) (by kernel_rfl) (by kernel_rfl) (by kernel_rfl) (fun _ _ _ h => h) (Or.inl ⟨by rfl, ?_⟩) hHeld ?_
            rotate_left
            · intro w_ hSw_; (try dsimp only at hSw_); go_simp; (try with_reducible rfl)
            (try simp only [Act.put, List.setIfInBounds_toArray, List.set_cons_zero, List.set_cons_succ])
            refine wpAnyF_take (i := 10) (oi := { dst := some 26, op := Go.Op.move (Go.Operand.tmp 25), type := 4, pos := "bound.go:54", after := #[{ on := 9, ground := Go.Ground.data }, { on := 7, ground := Go.Ground.chain }], guard := none }) (v := ?_) rfl (by kernel_rfl) (by kernel_rfl) (by kernel_rfl) (by kernel_rfl) (fun _ _ _ h => h) (Or.inl ⟨by rfl, ?_⟩) hHeld ?_
            rotate_left
            · intro w_ hSw_; (try dsimp only at hSw_); go_simp; (try with_reducible rfl)
            (try simp only [Act.put, List.setIfInBounds_toArray, List.set_cons_zero, List.set_cons_succ])
            refine wpAnyF_take (i := 11) (oi := { dst := some 27, op := Go.Op.move (Go.Operand.tmp 3), type := 3, pos := "bound.go:54", after := #[{ on := 10, ground := Go.Ground.guard }], guard := some (10, false) }) (v := ?_) rfl (by kernel_rfl) (by kernel_rfl) (by kernel_rfl) (by kernel_rfl) (fun _ _ _ h => h) (Or.inl ⟨by rfl, ?_⟩) hHeld ?_
            rotate_left
            · intro w_ hSw_; (try dsimp only at hSw_); go_simp; (try with_reducible rfl)
            (try simp only [Act.put, List.setIfInBounds_toArray, List.set_cons_zero, List.set_cons_succ])
            refine wpAnyF_take (i := 12) (oi := { dst := some 28, op := Go.Op.binOp Go.BinOp.lss 3 (Go.Operand.tmp 27) (Go.Operand.const (Go.Value.int Go.IntKind.i64 1)) 3, type := 4, pos := "bound.go:54", after := #[{ on := 11, ground := Go.Ground.data }, { on := 10, ground := Go.Ground.guard }], guard := some (10, false) }) (v := ?_) rfl (by kernel_rfl) (by kernel_rfl) (by kernel_rfl) (by kernel_rfl) (fun _ _ _ h => h) (Or.inl ⟨by rfl, ?_⟩) hHeld ?_
            rotate_left
            · intro w_ hSw_; (try dsimp only at hSw_); go_simp; (try with_reducible rfl)
            (try simp only [Act.put, List.setIfInBounds_toArray, List.set_cons_zero, List.set_cons_succ])
            refine wpAnyF_take (i := 13) (oi := { dst := some 29, op := Go.Op.pick (Go.Operand.tmp 26) (Go.Operand.const (Go.Value.bool true)) (Go.Operand.tmp 28), type := 4, pos := "bound.go:54", after := #[{ on := 10, ground := Go.Ground.data }, { on := 12, ground := Go.Ground.data }], guard := none }) (v := ?_) rfl (by kernel_rfl) (by kernel_rfl) (by kernel_rfl) (by kernel_rfl) (fun _ _ _ h => h) (Or.inl ⟨by rfl, ?_⟩) hHeld ?_
            rotate_left
            · intro w_ hSw_; (try dsimp only at hSw_); go_simp; (try with_reducible rfl)
            (try simp only [Act.put, List.setIfInBounds_toArray, List.set_cons_zero, List.set_cons_succ])
            refine wpAnyF_take (i := 14) (oi := { dst := some 30, op := Go.Op.move (Go.Operand.tmp 29), type := 4, pos := "bound.go:54", after := #[{ on := 13, ground := Go.Ground.data }, { on := 10, ground := Go.Ground.chain }], guard := none }) (v := ?_) rfl (by kernel_rfl) (by kernel_rfl) (by kernel_rfl) (by kernel_rfl) (fun _ _ _ h => h) (Or.inl ⟨by rfl, ?_⟩) hHeld ?_
            rotate_left
            · intro w_ hSw_; (try dsimp only at hSw_); go_simp; (try with_reducible rfl)
            (try simp only [Act.put, List.setIfInBounds_toArray, List.set_cons_zero, List.set_cons_succ])
            refine wpAnyF_take (i := 15) (oi := { dst := some 31, op := Go.Op.move (Go.Operand.tmp 3), type := 3, pos := "bound.go:54", after := #[{ on := 14, ground := Go.Ground.guard }], guard := some (14, false) }) (v := ?_) rfl (by kernel_rfl) (by kernel_rfl) (by kernel_rfl) (by kernel_rfl) (fun _ _ _ h => h) (Or.inl ⟨by rfl, ?_⟩) hHeld ?_
            rotate_left
            · intro w_ hSw_; (try dsimp only at hSw_); go_simp; (try with_reducible rfl)
            (try simp only [Act.put, List.setIfInBounds_toArray, List.set_cons_zero, List.set_cons_succ])
            refine wpAnyF_take (i := 16) (oi := { dst := some 32, op := Go.Op.binOp Go.BinOp.gtr 3 (Go.Operand.tmp 31) (Go.Operand.const (Go.Value.int Go.IntKind.i64 20000)) 3, type := 4, pos := "bound.go:54", after := #[{ on := 15, ground := Go.Ground.data }, { on := 14, ground := Go.Ground.guard }], guard := some (14, false) }) (v := ?_) rfl (by kernel_rfl) (by kernel_rfl) (by kernel_rfl) (by kernel_rfl) (fun _ _ _ h => h) (Or.inl ⟨by rfl, ?_⟩) hHeld ?_
            rotate_left
            · intro w_ hSw_; (try dsimp only at hSw_); go_simp; (try with_reducible rfl)
            (try simp only [Act.put, List.setIfInBounds_toArray, List.set_cons_zero, List.set_cons_succ])
            refine wpAnyF_take (i := 17) (oi := { dst := some 33, op := Go.Op.pick (Go.Operand.tmp 30) (Go.Operand.const (Go.Value.bool true)) (Go.Operand.tmp 32), type := 4, pos := "bound.go:54", after := #[{ on := 14, ground := Go.Ground.data }, { on := 16, ground := Go.Ground.data }], guard := none }) (v := ?_) rfl (by kernel_rfl) (by kernel_rfl) (by kernel_rfl) (by kernel_rfl) (fun _ _ _ h => h) (Or.inl ⟨by rfl, ?_⟩) hHeld ?_
            rotate_left
            · intro w_ hSw_; (try dsimp only at hSw_); go_simp; (try with_reducible rfl)
            (try simp only [Act.put, List.setIfInBounds_toArray, List.set_cons_zero, List.set_cons_succ])
            refine wpAnyF_done (by kernel_rfl) ?_ _
            clear hHeld
            go_wp2
            go_ret2
            exact ⟨HB, .inr ⟨z, HSz.out, hz, .inl ⟨HE.out, rfl⟩⟩⟩
        · have HE : Hid (askE q c z a = false) := by show _ = _; unfold askE; rw [decide_eq_false ha]; simp
          have hg : decide (icmp z 0 ≤ 0) = false := decide_eq_false (by unfold icmp; rw [if_neg (by omega), if_pos hz0]; omega)
          have ha3 : a < 1 := by omega
          skip
          go_enter Try.func39, Try.ntmps39
          go_wp2_with fail
          (with_reducible refine (nValid_c s _ hs).mono ?_)
          rintro e w1 ⟨rfl, hb1⟩
          rw [HV.out]
          go_wp2_with fail
          rw [HSz.out]
          (with_reducible refine (wParse_c z _ (by omega)).mono ?_)
          rintro e w2 ⟨v, rfl, hv, hb2⟩
          obtain ⟨n2, A2, m2, k2, rfl, H2⟩ := hv.form; clear hv
          have HB := below_step hb1 hb2
          have V := VX.new w2 74 H2.out
          replace HB := below_alloc HB (Obj.cells #[Value.bool n2, Value.slice A2 m2 k2] 74)
          have hbw : w.heap.size ≤ w2.heap.size := Nat.le_trans hb1.size hb2.size
          clear hb1 hb2 H2
          go_wp2_with fail
          generalize hW : w2.alloc (Obj.cells #[Value.bool n2, Value.slice A2 m2 k2] 74) = W at *
          generalize w2.heap.size = b at *
          clear hW
          replace V := V.drew
          replace HB := below_drew HB
          generalize hWd : W.drew = wd at *
          refine wp_region_F (fun w' => w'.cell? ⟨b, 0, none⟩ = some (.bool n2) ∧ w'.cell? ⟨b, 1, none⟩ = some (.slice A2 m2 k2)) [] (by kernel_rfl) (by rw [hWd]; exact ⟨V.c0, V.c1⟩) (fun hHeld => ?_)
          rw [hWd] at hHeld ⊢
          refine wpAnyF_take (i := 0) (oi := { dst := some 16, op := Go.Op.move (Go.Operand.tmp 0), type := 3, pos := "bound.go:54", after := #[], guard := none }) (v := ?_) rfl (by kernel_rfl) (by kernel_rfl) (by kernel_rfl) (by kernel_rfl) (fun _ _ _ h => h) (Or.inl ⟨by rfl, ?_⟩) hHeld ?_
          rotate_left
          · intro w_ hSw_; (try dsimp only at hSw_); go_simp; (try with_reducible rfl)
          (try simp only [Act.put, List.setIfInBounds_toArray, List.set_cons_zero, List.set_cons_succ])
          refine wpAnyF_take (i := 1) (oi := { dst := some 17, op := Go.Op.move (Go.Operand.tmp 1), type := 3, pos := "bound.go:54", after := #[], guard := none }) (v := ?_) rfl (by kernel_rfl) (by kernel_rfl) (by kernel_rfl) (by kernel_rfl) (fun _ _ _ h => h) (Or.inl ⟨by rfl, ?_⟩) hHeld ?_
          rotate_left
          · intro w_ hSw_; (try dsimp only at hSw_); go_simp; (try with_reducible rfl)
          (try simp only [Act.put, List.setIfInBounds_toArray, List.set_cons_zero, List.set_cons_succ])
          refine wpAnyF_one (i := 2) (by kernel_rfl) rfl (fun K hK => ?_)
          go_simp
          (go_at_call 48; (with_reducible refine (bkin_c q c _).mono ?_); rintro e w3 ⟨rfl, hw3⟩; subst hw3)
          refine hK.out _ _ (by exact ⟨V.c0, V.c1⟩) (fun hHeld => ?_)
          clear hK K
          (try simp only [Act.put, List.setIfInBounds_toArray, List.set_cons_zero, List.set_cons_succ])
          refine wpAnyF_take (i := 3) (oi := { dst := some 19, op := Go.Op.unOp Go.UnOp.not 4 (Go.Operand.tmp 18), type := 4, pos := "bound.go:54", after := #[{ on := 2, ground := Go.Ground.data }], guard := none }) (v := ?_) rfl (by kernel_rfl) (by kernel_rfl) (by kernel_rfl) (by kernel_rfl) (fun _ _ _ h => h) (Or.inl ⟨by rfl, ?_⟩) hHeld ?_
          rotate_left
          · intro w_ hSw_; (try dsimp only at hSw_); go_simp; (try with_reducible rfl)
          (try simp only [Act.put, List.setIfInBounds_toArray, List.set_cons_zero, List.set_cons_succ])
          refine wpAnyF_take (i := 4) (oi := { dst := some 20, op := Go.Op.move (Go.Operand.tmp 19), type := 4, pos := "bound.go:54", after := #[{ on := 3, ground := Go.Ground.data }, { on := 2, ground := Go.Ground.chain }], guard := none }) (v := ?_) rfl (by kernel_rfl) (by kernel_rfl) (by kernel_rfl) (by kernel_rfl) (fun _ _ _ h => h) (Or.inl ⟨by rfl, ?_⟩) hHeld ?_
          rotate_left
          · intro w_ hSw_; (try dsimp only at hSw_); go_simp; (try with_reducible rfl)
          (try simp only [Act.put, List.setIfInBounds_toArray, List.set_cons_zero, List.set_cons_succ])
          refine wpAnyF_take (i := 5) (oi := { dst := some 21, op := Go.Op.load 74 (Go.Operand.tmp 10), type := 74, pos := "bound.go:54", after := #[{ on := 4, ground := Go.Ground.guard }], guard := some (4, false) }) (v := ?_) rfl (by kernel_rfl) (by kernel_rfl) (by kernel_rfl) (by kernel_rfl) (fun _ _ _ h => h) (Or.inl ⟨by rfl, ?_⟩) hHeld ?_
          rotate_left
          · intro w_ hSw_; (try dsimp only at hSw_); go_simp; (try with_reducible rfl)
          (try simp only [Act.put, List.setIfInBounds_toArray, List.set_cons_zero, List.set_cons_succ])
          refine wpAnyF_one (i := 6) (by kernel_rfl) rfl (fun K hK => ?_)
          go_simp
          (go_at_call 65; (with_reducible refine (Small_c 0 _ (by omega) (by omega)).mono ?_); rintro e w4 ⟨v, rfl, hv, hb4⟩; obtain ⟨n4, A4, m4, k4, rfl, H4⟩ := hv.form; clear hv; replace HB := below_step HB hb4; replace V := V.keep hb4; clear hb4)
          refine hK.out _ _ (by exact ⟨V.c0, V.c1⟩) (fun hHeld => ?_)
          clear hK K
          (try simp only [Act.put, List.setIfInBounds_toArray, List.set_cons_zero, List.set_cons_succ])
          refine wpAnyF_one (i := 7) (by kernel_rfl) rfl (fun K hK => ?_)
          go_simp
          (go_at_call 64; (with_reducible refine (iCompare_c z 0 _ _ _ V.iz.out H4.out hL hL0).mono ?_); rintro e w5 ⟨rfl, hb5⟩; replace HB := below_step HB hb5; replace V := V.keep hb5; clear hb5)
          refine hK.out _ _ (by exact ⟨V.c0, V.c1⟩) (fun hHeld => ?_)
          clear hK K
          (try simp only [Act.put, List.setIfInBounds_toArray, List.set_cons_zero, List.set_cons_succ])
          refine wpAnyF_take (i := 8) (oi := { dst := some 24, op := Go.Op.binOp Go.BinOp.leq 3 (Go.Operand.tmp 23) (Go.Operand.const (Go.Value.int Go.IntKind.i64 0)) 3, type := 4, pos := "bound.go:54", after := #[{ on := 7, ground := Go.Ground.data }, { on := 4, ground := Go.Ground.guard }], guard := some (4, false) }) (v := ?_) rfl (by kernel_rfl) (by kernel_rfl) (by kernel_rfl) (by kernel_rfl) (fun _ _ _ h => h) (Or.inl ⟨by rfl, ?_⟩) hHeld ?_
          rotate_left
          · intro w_ hSw_; (try dsimp only at hSw_); go_simp; (try with_reducible rfl)
          (try simp only [Act.put, List.setIfInBounds_toArray, List.set_cons_zero, List.set_cons_succ])
          refine wpAnyF_take (i := 9) (oi := { dst := some 25, op := Go.Op.pick (Go.Operand.tmp 20) (Go.Operand.const (Go.Value.bool true)) (Go.Operand.tmp 24), type := 4, pos := "bound.go:54", after := #[{ on := 4, ground := Go.Ground.data }, { on := 8, ground := Go.Ground.data }], guard := none }) (v := ?_) rfl (by kernel_rfl) (by kernel_rfl) (by kernel_rfl) (by kernel_rfl) (fun _ _ _ h => h) (Or.inl ⟨by rfl, ?_⟩) hHeld ?_
          rotate_left
          · intro w_ hSw_; (try dsimp only at hSw_); go_simp; (try with_reducible rfl)
          (try simp only [Act.put, List.setIfInBounds_toArray, List.set_cons_zero, List.set_cons_succ])
          refine wpAnyF_take (i := 10) (oi := { dst := some 26, op := Go.Op.move (Go.Operand.tmp 25), type := 4, pos := "bound.go:54", after := #[{ on := 9, ground := Go.Ground.data }, { on := 7, ground := Go.Ground.chain }], guard := none }) (v := ?_) rfl (by kernel_rfl) (by kernel_rfl) (by kernel_rfl) (by kernel_rfl) (fun _ _ _ h => h) (Or.inl ⟨by rfl, ?_⟩) hHeld ?_
          rotate_left
          · intro w_ hSw_; (try dsimp only at hSw_); go_simp; (try with_reducible rfl)
          (try simp only [Act.put, List.setIfInBounds_toArray, List.set_cons_zero, List.set_cons_succ])
          refine wpAnyF_take (i := 11) (oi := { dst := some 27, op := Go.Op.move (Go.Operand.tmp 3), type := 3, pos := "bound.go:54", after := #[{ on := 10, ground := Go.Ground.guard }], guard := some (10, false) }) (v := ?_) rfl (by kernel_rfl) (by kernel_rfl) (by kernel_rfl) (by kernel_rfl) (fun _ _ _ h => h) (Or.inl ⟨by rfl, ?_⟩) hHeld ?_
          rotate_left
          · intro w_ hSw_; (try dsimp only at hSw_); go_simp; (try with_reducible rfl)
          (try simp only [Act.put, List.setIfInBounds_toArray, List.set_cons_zero, List.set_cons_succ])
          refine wpAnyF_take (i := 12) (oi := { dst := some 28, op := Go.Op.binOp Go.BinOp.lss 3 (Go.Operand.tmp 27) (Go.Operand.const (Go.Value.int Go.IntKind.i64 1)) 3, type := 4, pos := "bound.go:54", after := #[{ on := 11, ground := Go.Ground.data }, { on := 10, ground := Go.Ground.guard }], guard := some (10, false) }) (v := ?_) rfl (by kernel_rfl) (by kernel_rfl) (by kernel_rfl) (by kernel_rfl) (fun _ _ _ h => h) (Or.inl ⟨by rfl, ?_⟩) hHeld ?_
          rotate_left
          · intro w_ hSw_; (try dsimp only at hSw_); go_simp; (try with_reducible rfl)
          (try simp only [Act.put, List.setIfInBounds_toArray, List.set_cons_zero, List.set_cons_succ])
          refine wpAnyF_take (i := 13) (oi := { dst := some 29, op := Go.Op.pick (Go.Operand.tmp 26) (Go.Operand.const (Go.Value.bool true)) (Go.Operand.tmp 28), type := 4, pos := "bound.go:54", after := #[{ on := 10, ground := Go.Ground.data }, { on := 12, ground := Go.Ground.data }], guard := none }) (v := ?_) rfl (by kernel_rfl) (by kernel_rfl) (by kernel_rfl) (by kernel_rfl) (fun _ _ _ h => h) (Or.inl ⟨by rfl, ?_⟩) hHeld ?_
          rotate_left
          · intro w_ hSw_; (try dsimp only at hSw_); go_simp; (try with_reducible rfl)
          (try simp only [Act.put, List.setIfInBounds_toArray, List.set_cons_zero, List.set_cons_succ])
          refine wpAnyF_take (i := 14) (oi := { dst := some 30, op := Go.Op.move (Go.Operand.tmp 29), type := 4, pos := "bound.go:54", after := #[{ on := 13, ground := Go.Ground.data }, { on := 10, ground := Go.Ground.chain }], guard := none }) (v := ?_) rfl (by kernel_rfl) (by kernel_rfl) (by kernel_rfl) (by kernel_rfl) (fun _ _ _ h => h) (Or.inl ⟨by rfl, ?_⟩) hHeld ?_
          rotate_left
          · intro w_ hSw_; (try dsimp only at hSw_); go_simp; (try with_reducible rfl)
          (try simp only [Act.put, List.setIfInBounds_toArray, List.set_cons_zero, List.set_cons_succ])
          refine wpAnyF_take (i := 15) (oi := { dst := some 31, op := Go.Op.move (Go.Operand.tmp 3), type := 3, pos := "bound.go:54", after := #[{ on := 14, ground := Go.Ground.guard }], guard := some (14, false) }) rfl (by kernel_rfl) (by kernel_rfl) (by kernel_rfl) (by kernel_rfl) (fun _ _ _ h => h) (Or.inr ⟨by rfl, rfl⟩) hHeld ?_
          (try simp only [Act.put, List.setIfInBounds_toArray, List.set_cons_zero, List.set_cons_succ])
          refine wpAnyF_take (i := 16) (oi := { dst := some 32, op := Go.Op.binOp Go.BinOp.gtr 3 (Go.Operand.tmp 31) (Go.Operand.const (Go.Value.int Go.IntKind.i64 20000)) 3, type := 4, pos := "bound.go:54", after := #[{ on := 15, ground := Go.Ground.data }, { on := 14, ground := Go.Ground.guard }], guard := some (14, false) }) rfl (by kernel_rfl) (by kernel_rfl) (by kernel_rfl) (by kernel_rfl) (fun _ _ _ h => h) (Or.inr ⟨by rfl, rfl⟩) hHeld ?_
          (try simp only [Act.put, List.setIfInBounds_toArray, List.set_cons_zero, List.set_cons_succ])
          refine wpAnyF_take (i := 17) (oi := { dst := some 33, op := Go.Op.pick (Go.Operand.tmp 30) (Go.Operand.const (Go.Value.bool true)) (Go.Operand.tmp 32), type := 4, pos := "bound.go:54", after := #[{ on := 14, ground := Go.Ground.data }, { on := 16, ground := Go.Ground.data }], guard := none }) (v := ?_) rfl (by kernel_rfl) (by kernel_rfl) (by kernel_rfl) (by kernel_rfl) (fun _ _ _ h => h) (Or.inl ⟨by rfl, ?_⟩) hHeld ?_
          rotate_left
          · intro w_ hSw_; (try dsimp only at hSw_); go_simp; (try with_reducible rfl)
          (try simp only [Act.put, List.setIfInBounds_toArray, List.set_cons_zero, List.set_cons_succ])
          refine wpAnyF_done (by kernel_rfl) ?_ _
          clear hHeld
          go_wp2
          go_ret2
          exact ⟨HB, .inr ⟨z, HSz.out, hz, .inl ⟨HE.out, rfl⟩⟩⟩
      · have HE : Hid (askE q c z a = false) := by show _ = _; unfold askE; rw [decide_eq_false hz0]; simp
        have hg : icmp z 0 ≤ 0 := by unfold icmp; rw [if_neg (show ¬ (0 : Int) < z from hz0)]; split <;> omega
        skip
        go_enter Try.func39, Try.ntmps39
        go_wp2_with fail
        (with_reducible refine (nValid_c s _ hs).mono ?_)
        rintro e w1 ⟨rfl, hb1⟩
        rw [HV.out]
        go_wp2_with fail
        rw [HSz.out]
        (with_reducible refine (wParse_c z _ (by omega)).mono ?_)
        rintro e w2 ⟨v, rfl, hv, hb2⟩
        obtain ⟨n2, A2, m2, k2, rfl, H2⟩ := hv.form; clear hv
        have HB := below_step hb1 hb2
        have V := VX.new w2 74 H2.out
        replace HB := below_alloc HB (Obj.cells #[Value.bool n2, Value.slice A2 m2 k2] 74)
        have hbw : w.heap.size ≤ w2.heap.size := Nat.le_trans hb1.size hb2.size
        clear hb1 hb2 H2
        go_wp2_with fail
        generalize hW : w2.alloc (Obj.cells #[Value.bool n2, Value.slice A2 m2 k2] 74) = W at *
        generalize w2.heap.size = b at *
        clear hW
        replace V := V.drew
        replace HB := below_drew HB
        generalize hWd : W.drew = wd at *
        refine wp_region_F (fun w' => w'.cell? ⟨b, 0, none⟩ = some (.bool n2) ∧ w'.cell? ⟨b, 1, none⟩ = some (.slice A2 m2 k2)) [] (by kernel_rfl) (by rw [hWd]; exact ⟨V.c0, V.c1⟩) (fun hHeld => ?_)
        rw [hWd] at hHeld ⊢
        refine wpAnyF_take (i := 0) (oi := { dst := some 16, op := Go.Op.move (Go.Operand.tmp 0), type := 3, pos := "bound.go:54", after := #[], guard := none }) (v := ?_) rfl (by kernel_rfl) (by kernel_rfl) (by kernel_rfl) (by kernel_rfl) (fun _ _ _ h => h) (Or.inl ⟨by rfl, ?_⟩) hHeld ?_
        rotate_left
        · intro w_ hSw_; (try dsimp only at hSw_); go_simp; (try with_reducible rfl)
        (try simp only [Act.put, List.setIfInBounds_toArray, List.set_cons_zero, List.set_cons_succ])
        refine wpAnyF_take (i := 1) (oi := { dst := some 17, op := Go.Op.move (Go.Operand.tmp 1), type := 3, pos := "bound.go:54", after := #[], guard := none }) (v := ?_) rfl (by kernel_rfl) (by kernel_rfl) (by kernel_rfl) (by kernel_rfl) (fun _ _ _ h => h) (Or.inl ⟨by rfl, ?_⟩) hHeld ?_
        rotate_left
        · intro w_ hSw_; (try dsimp only at hSw_); go_simp; (try with_reducible rfl)
        (try simp only [Act.put, List.setIfInBounds_toArray, List.set_cons_zero, List.set_cons_succ])
        refine wpAnyF_one (i := 2) (by kernel_rfl) rfl (fun K hK => ?_)
        go_simp
        (go_at_call 48; (with_reducible refine (bkin_c q c _).mono ?_); rintro e w3 ⟨rfl, hw3⟩; subst hw3)
        refine hK.out _ _ (by exact ⟨V.c0, V.c1⟩) (fun hHeld => ?_)
        clear hK K
        (try simp only [Act.put, List.setIfInBounds_toArray, List.set_cons_zero, List.set_cons_succ])
        refine wpAnyF_take (i := 3) (oi := { dst := some 19, op := Go.Op.unOp Go.UnOp.not 4 (Go.Operand.tmp 18), type := 4, pos := "bound.go:54", after := #[{ on := 2, ground := Go.Ground.data }], guard := none }) (v := ?_) rfl (by kernel_rfl) (by kernel_rfl) (by kernel_rfl) (by kernel_rfl) (fun _ _ _ h => h) (Or.inl ⟨by rfl, ?_⟩) hHeld ?_
        rotate_left
        · intro w_ hSw_; (try dsimp only at hSw_); go_simp; (try with_reducible rfl)
        (try simp only [Act.put, List.setIfInBounds_toArray, List.set_cons_zero, List.set_cons_succ])
        refine wpAnyF_take (i := 4) (oi := { dst := some 20, op := Go.Op.move (Go.Operand.tmp 19), type := 4, pos := "bound.go:54", after := #[{ on := 3, ground := Go.Ground.data }, { on := 2, ground := Go.Ground.chain }], guard := none }) (v := ?_) rfl (by kernel_rfl) (by kernel_rfl) (by kernel_rfl) (by kernel_rfl) (fun _ _ _ h => h) (Or.inl ⟨by rfl, ?_⟩) hHeld ?_
        rotate_left
        · intro w_ hSw_; (try dsimp only at hSw_); go_simp; (try with_reducible rfl)
        (try simp only [Act.put, List.setIfInBounds_toArray, List.set_cons_zero, List.set_cons_succ])
        refine wpAnyF_take (i := 5) (oi := { dst := some 21, op := Go.Op.load 74 (Go.Operand.tmp 10), type := 74, pos := "bound.go:54", after := #[{ on := 4, ground := Go.Ground.guard }], guard := some (4, false) }) (v := ?_) rfl (by kernel_rfl) (by kernel_rfl) (by kernel_rfl) (by kernel_rfl) (fun _ _ _ h => h) (Or.inl ⟨by rfl, ?_⟩) hHeld ?_
        rotate_left
        · intro w_ hSw_; (try dsimp only at hSw_); go_simp; (try with_reducible rfl)
        (try simp only [Act.put, List.setIfInBounds_toArray, List.set_cons_zero, List.set_cons_succ])
        refine wpAnyF_one (i := 6) (by kernel_rfl) rfl (fun K hK => ?_)
        go_simp
        (go_at_call 65; (with_reducible refine (Small_c 0 _ (by omega) (by omega)).mono ?_); rintro e w4 ⟨v, rfl, hv, hb4⟩; obtain ⟨n4, A4, m4, k4, rfl, H4⟩ := hv.form; clear hv; replace HB := below_step HB hb4; replace V := V.keep hb4; clear hb4)
        refine hK.out _ _ (by exact ⟨V.c0, V.c1⟩) (fun hHeld => ?_)
        clear hK K
        (try simp only [Act.put, List.setIfInBounds_toArray, List.set_cons_zero, List.set_cons_succ])
        refine wpAnyF_one (i := 7) (by kernel_rfl) rfl (fun K hK => ?_)
        go_simp
        (go_at_call 64; (with_reducible refine (iCompare_c z 0 _ _ _ V.iz.out H4.out hL hL0).mono ?_); rintro e w5 ⟨rfl, hb5⟩; replace HB := below_step HB hb5; replace V := V.keep hb5; clear hb5)
        refine hK.out _ _ (by exact ⟨V.c0, V.c1⟩) (fun hHeld => ?_)
        clear hK K
        (try simp only [Act.put, List.setIfInBounds_toArray, List.set_cons_zero, List.set_cons_succ])
        refine wpAnyF_take (i := 8) (oi := { dst := some 24, op := Go.Op.binOp Go.BinOp.leq 3 (Go.Operand.tmp 23) (Go.Operand.const (Go.Value.int Go.IntKind.i64 0)) 3, type := 4, pos := "bound.go:54", after := #[{ on := 7, ground := Go.Ground.data }, { on := 4, ground := Go.Ground.guard }], guard := some (4, false) }) (v := ?_) rfl (by kernel_rfl) (by kernel_rfl) (by kernel_rfl) (by kernel_rfl) (fun _ _ _ h => h) (Or.inl ⟨by rfl, ?_⟩) hHeld ?_
        rotate_left
        · intro w_ hSw_; (try dsimp only at hSw_); go_simp; (try with_reducible rfl)
        (try simp only [Act.put, List.setIfInBounds_toArray, List.set_cons_zero, List.set_cons_succ])
        refine wpAnyF_take (i := 9) (oi := { dst := some 25, op := Go.Op.pick (Go.Operand.tmp 20) (Go.Operand.const (Go.Value.bool true)) (Go.Operand.tmp 24), type := 4, pos := "bound.go:54", after := #[{ on := 4, ground := Go.Ground.data }, { on := 8, ground := Go.Ground.data }], guard := none }) (v := ?_) rfl (by kernel_rfl) (by kernel_rfl) (by kernel_rfl) (by kernel_rfl) (fun _ _ _ h => h) (Or.inl ⟨by rfl, ?_⟩) hHeld ?_
        rotate_left
        · intro w_ hSw_; (try dsimp only at hSw_); go_simp; (try with_reducible rfl)
        (try simp only [Act.put, List.setIfInBounds_toArray, List.set_cons_zero, List.set_cons_succ])
        refine wpAnyF_take (i := 10) (oi := { dst := some 26, op := Go.Op.move (Go.Operand.tmp 25), type := 4, pos := "bound.go:54", after := #[{ on := 9, ground := Go.Ground.data }, { on := 7, ground := Go.Ground.chain }], guard := none }) (v := ?_) rfl (by kernel_rfl) (by kernel_rfl) (by kernel_rfl) (by kernel_rfl) (fun _ _ _ h => h) (Or.inl ⟨by rfl, ?_⟩) hHeld ?_
        rotate_left
        · intro w_ hSw_; (try dsimp only at hSw_); go_simp; (try with_reducible rfl)
        (try simp only [Act.put, List.setIfInBounds_toArray, List.set_cons_zero, List.set_cons_succ])
        refine wpAnyF_take (i := 11) (oi := { dst := some 27, op := Go.Op.move (Go.Operand.tmp 3), type := 3, pos := "bound.go:54", after := #[{ on := 10, ground := Go.Ground.guard }], guard := some (10, false) }) rfl (by kernel_rfl) (by kernel_rfl) (by kernel_rfl) (by kernel_rfl) (fun _ _ _ h => h) (Or.inr ⟨by rfl, rfl⟩) hHeld ?_
        (try simp only [Act.put, List.setIfInBounds_toArray, List.set_cons_zero, List.set_cons_succ])
        refine wpAnyF_take (i := 12) (oi := { dst := some 28, op := Go.Op.binOp Go.BinOp.lss 3 (Go.Operand.tmp 27) (Go.Operand.const (Go.Value.int Go.IntKind.i64 1)) 3, type := 4, pos := "bound.go:54", after := #[{ on := 11, ground := Go.Ground.data }, { on := 10, ground := Go.Ground.guard }], guard := some (10, false) }) rfl (by kernel_rfl) (by kernel_rfl) (by kernel_rfl) (by kernel_rfl) (fun _ _ _ h => h) (Or.inr ⟨by rfl, rfl⟩) hHeld ?_
        (try simp only [Act.put, List.setIfInBounds_toArray, List.set_cons_zero, List.set_cons_succ])
        refine wpAnyF_take (i := 13) (oi := { dst := some 29, op := Go.Op.pick (Go.Operand.tmp 26) (Go.Operand.const (Go.Value.bool true)) (Go.Operand.tmp 28), type := 4, pos := "bound.go:54", after := #[{ on := 10, ground := Go.Ground.data }, { on := 12, ground := Go.Ground.data }], guard := none }) (v := ?_) rfl (by kernel_rfl) (by kernel_rfl) (by kernel_rfl) (by kernel_rfl) (fun _ _ _ h => h) (Or.inl ⟨by rfl, ?_⟩) hHeld ?_
        rotate_left
        · intro w_ hSw_; (try dsimp only at hSw_); go_simp; (try with_reducible rfl)
        (try simp only [Act.put, List.setIfInBounds_toArray, List.set_cons_zero, List.set_cons_succ])
        refine wpAnyF_take (i := 14) (oi := { dst := some 30, op := Go.Op.move (Go.Operand.tmp 29), type := 4, pos := "bound.go:54", after := #[{ on := 13, ground := Go.Ground.data }, { on := 10, ground := Go.Ground.chain }], guard := none }) (v := ?_) rfl (by kernel_rfl) (by kernel_rfl) (by kernel_rfl) (by kernel_rfl) (fun _ _ _ h => h) (Or.inl ⟨by rfl, ?_⟩) hHeld ?_
        rotate_left
        · intro w_ hSw_; (try dsimp only at hSw_); go_simp; (try with_reducible rfl)
        (try simp only [Act.put, List.setIfInBounds_toArray, List.set_cons_zero, List.set_cons_succ])
        refine wpAnyF_take (i := 15) (oi := { dst := some 31, op := Go.Op.move (Go.Operand.tmp 3), type := 3, pos := "bound.go:54", after := #[{ on := 14, ground := Go.Ground.guard }], guard := some (14, false) }) rfl (by kernel_rfl) (by kernel_rfl) (by kernel_rfl) (by kernel_rfl) (fun _ _ _ h => h) (Or.inr ⟨by rfl, rfl⟩) hHeld ?_
        (try simp only [Act.put, List.setIfInBounds_toArray, List.set_cons_zero, List.set_cons_succ])
        refine wpAnyF_take (i := 16) (oi := { dst := some 32, op := Go.Op.binOp Go.BinOp.gtr 3 (Go.Operand.tmp 31) (Go.Operand.const (Go.Value.int Go.IntKind.i64 20000)) 3, type := 4, pos := "bound.go:54", after := #[{ on := 15, ground := Go.Ground.data }, { on := 14, ground := Go.Ground.guard }], guard := some (14, false) }) rfl (by kernel_rfl) (by kernel_rfl) (by kernel_rfl) (by kernel_rfl) (fun _ _ _ h => h) (Or.inr ⟨by rfl, rfl⟩) hHeld ?_
        (try simp only [Act.put, List.setIfInBounds_toArray, List.set_cons_zero, List.set_cons_succ])
        refine wpAnyF_take (i := 17) (oi := { dst := some 33, op := Go.Op.pick (Go.Operand.tmp 30) (Go.Operand.const (Go.Value.bool true)) (Go.Operand.tmp 32), type := 4, pos := "bound.go:54", after := #[{ on := 14, ground := Go.Ground.data }, { on := 16, ground := Go.Ground.data }], guard := none }) (v := ?_) rfl (by kernel_rfl) (by kernel_rfl) (by kernel_rfl) (by kernel_rfl) (fun _ _ _ h => h) (Or.inl ⟨by rfl, ?_⟩) hHeld ?_
        rotate_left
        · intro w_ hSw_; (try dsimp only at hSw_); go_simp; (try with_reducible rfl)
        (try simp only [Act.put, List.setIfInBounds_toArray, List.set_cons_zero, List.set_cons_succ])
        refine wpAnyF_done (by kernel_rfl) ?_ _
        clear hHeld
        go_wp2
        go_ret2
        exact ⟨HB, .inr ⟨z, HSz.out, hz, .inl ⟨HE.out, rfl⟩⟩⟩
    · have hk : kinB q c = false := by simpa using hk
      have HE : Hid (askE q c z a = false) := by show _ = _; unfold askE; rw [hk]; simp
      skip
      go_enter Try.func39, Try.ntmps39
      go_wp2_with fail
      (with_reducible refine (nValid_c s _ hs).mono ?_)
      rintro e w1 ⟨rfl, hb1⟩
      rw [HV.out]
      go_wp2_with fail
      rw [HSz.out]
      (with_reducible refine (wParse_c z _ (by omega)).mono ?_)
      rintro e w2 ⟨v, rfl, hv, hb2⟩
      obtain ⟨n2, A2, m2, k2, rfl, H2⟩ := hv.form; clear hv
      have HB := below_step hb1 hb2
      have V := VX.new w2 74 H2.out
      replace HB := below_alloc HB (Obj.cells #[Value.bool n2, Value.slice A2 m2 k2] 74)
      have hbw : w.heap.size ≤ w2.heap.size := Nat.le_trans hb1.size hb2.size
      clear hb1 hb2 H2
      go_wp2_with fail
      generalize hW : w2.alloc (Obj.cells #[Value.bool n2, Value.slice A2 m2 k2] 74) = W at *
      generalize w2.heap.size = b at *
      clear hW
      replace V := V.drew
      replace HB := below_drew HB
      generalize hWd : W.drew = wd at *
      refine wp_region_F (fun w' => w'.cell? ⟨b, 0, none⟩ = some (.bool n2) ∧ w'.cell? ⟨b, 1, none⟩ = some (.slice A2 m2 k2)) [] (by kernel_rfl) (by rw [hWd]; exact ⟨V.c0, V.c1⟩) (fun hHeld => ?_)
      rw [hWd] at hHeld ⊢
      refine wpAnyF_take (i := 0) (oi := { dst := some 16, op := Go.Op.move (Go.Operand.tmp 0), type := 3, pos := "bound.go:54", after := #[], guard := none }) (v := ?_) rfl (by kernel_rfl) (by kernel_rfl) (by kernel_rfl) (by kernel_rfl) (fun _ _ _ h => h) (Or.inl ⟨by rfl, ?_⟩) hHeld ?_
      rotate_left
      · intro w_ hSw_; (try dsimp only at hSw_); go_simp; (try with_reducible rfl)
      (try simp only [Act.put, List.setIfInBounds_toArray, List.set_cons_zero, List.set_cons_succ])
      refine wpAnyF_take (i := 1) (oi := { dst := some 17, op := Go.Op.move (Go.Operand.tmp 1), type := 3, pos := "bound.go:54", after := #[], guard := none }) (v := ?_) rfl (by kernel_rfl) (by kernel_rfl) (by kernel_rfl) (by kernel_rfl) (fun _ _ _ h => h) (Or.inl ⟨by rfl, ?_⟩) hHeld ?_
      rotate_left
      · intro w_ hSw_; (try dsimp only at hSw_); go_simp; (try with_reducible rfl)
      (try simp only [Act.put, List.setIfInBounds_toArray, List.set_cons_zero, List.set_cons_succ])
      refine wpAnyF_one (i := 2) (by kernel_rfl) rfl (fun K hK => ?_)
      go_simp
      (go_at_call 48; (with_reducible refine (bkin_c q c _).mono ?_); rintro e w3 ⟨rfl, hw3⟩; subst hw3)
      refine hK.out _ _ (by exact ⟨V.c0, V.c1⟩) (fun hHeld => ?_)
      clear hK K
      (try simp only [Act.put, List.setIfInBounds_toArray, List.set_cons_zero, List.set_cons_succ])
      refine wpAnyF_take (i := 3) (oi := { dst := some 19, op := Go.Op.unOp Go.UnOp.not 4 (Go.Operand.tmp 18), type := 4, pos := "bound.go:54", after := #[{ on := 2, ground := Go.Ground.data }], guard := none }) (v := ?_) rfl (by kernel_rfl) (by kernel_rfl) (by kernel_rfl) (by kernel_rfl) (fun _ _ _ h => h) (Or.inl ⟨by rfl, ?_⟩) hHeld ?_
      rotate_left
      · intro w_ hSw_; (try dsimp only at hSw_); go_simp; (try with_reducible rfl)
      (try simp only [Act.put, List.setIfInBounds_toArray, List.set_cons_zero, List.set_cons_succ])
      refine wpAnyF_take (i := 4) (oi := { dst := some 20, op := Go.Op.move (Go.Operand.tmp 19), type := 4, pos := "bound.go:54", after := #[{ on := 3, ground := Go.Ground.data }, { on := 2, ground := Go.Ground.chain }], guard := none }) (v := ?_) rfl (by kernel_rfl) (by kernel_rfl) (by kernel_rfl) (by kernel_rfl) (fun _ _ _ h => h) (Or.inl ⟨by rfl, ?_⟩) hHeld ?_
      rotate_left
      · intro w_ hSw_; (try dsimp only at hSw_); go_simp; (try with_reducible rfl)
      (try simp only [Act.put, List.setIfInBounds_toArray, List.set_cons_zero, List.set_cons_succ])
      refine wpAnyF_take (i := 5) (oi := { dst := some 21, op := Go.Op.load 74 (Go.Operand.tmp 10), type := 74, pos := "bound.go:54", after := #[{ on := 4, ground := Go.Ground.guard }], guard := some (4, false) }) rfl (by kernel_rfl) (by kernel_rfl) (by kernel_rfl) (by kernel_rfl) (fun _ _ _ h => h) (Or.inr ⟨by rfl, rfl⟩) hHeld ?_
      (try simp only [Act.put, List.setIfInBounds_toArray, List.set_cons_zero, List.set_cons_succ])
      refine wpAnyF_take (i := 6) (oi := { dst := some 22, op := Go.Op.call { callee := Go.Callee.value (Go.Operand.func 65), args := #[Go.Operand.const (Go.Value.int Go.IntKind.i64 0)], argTypes := #[3] }, type := 74, pos := "bound.go:54", after := #[{ on := 4, ground := Go.Ground.chain }, { on := 4, ground := Go.Ground.guard }], guard := some (4, false) }) rfl (by kernel_rfl) (by kernel_rfl) (by kernel_rfl) (by kernel_rfl) (fun _ _ _ h => h) (Or.inr ⟨by rfl, rfl⟩) hHeld ?_
      (try simp only [Act.put, List.setIfInBounds_toArray, List.set_cons_zero, List.set_cons_succ])
      refine wpAnyF_take (i := 7) (oi := { dst := some 23, op := Go.Op.call { callee := Go.Callee.value (Go.Operand.func 64), args := #[Go.Operand.tmp 21, Go.Operand.tmp 22], argTypes := #[74, 74] }, type := 3, pos := "bound.go:54", after := #[{ on := 5, ground := Go.Ground.data }, { on := 6, ground := Go.Ground.data }, { on := 6, ground := Go.Ground.chain }, { on := 4, ground := Go.Ground.guard }], guard := some (4, false) }) rfl (by kernel_rfl) (by kernel_rfl) (by kernel_rfl) (by kernel_rfl) (fun _ _ _ h => h) (Or.inr ⟨by rfl, rfl⟩) hHeld ?_
      (try simp only [Act.put, List.setIfInBounds_toArray, List.set_cons_zero, List.set_cons_succ])
      refine wpAnyF_take (i := 8) (oi := { dst := some 24, op := Go.Op.binOp Go.BinOp.leq 3 (Go.Operand.tmp 23) (Go.Operand.const (Go.Value.int Go.IntKind.i64 0)) 3, type := 4, pos := "bound.go:54", after := #[{ on := 7, ground := Go.Ground.data }, { on := 4, ground := Go.Ground.guard }], guard := some (4, false) }) rfl (by kernel_rfl) (by kernel_rfl) (by kernel_rfl) (by kernel_rfl) (fun _ _ _ h => h) (Or.inr ⟨by rfl, rfl⟩) hHeld ?_
      (try simp only [Act.put, List.setIfInBounds_toArray, List.set_cons_zero, List.set_cons_succ])
      refine wpAnyF_take (i := 9) (oi := { dst := some 25, op := Go.Op.pick (Go.Operand.tmp 20) (Go.Operand.const (Go.Value.bool true)) (Go.Operand.tmp 24), type := 4, pos := "bound.go:54", after := #[{ on := 4, ground := Go.Ground.data }, { on := 8, ground := Go.Ground.data }], guard := none }) (v := ?_) rfl (by kernel_rfl) (by kernel_rfl) (by kernel_rfl) (by kernel_rfl) (fun _ _ _ h => h) (Or.inl ⟨by rfl, ?_⟩) hHeld ?_
      rotate_left
      · intro w_ hSw_; (try dsimp only at hSw_); go_simp; (try with_reducible rfl)
      (try simp only [Act.put, List.setIfInBounds_toArray, List.set_cons_zero, List.set_cons_succ])
      refine wpAnyF_take (i := 10) (oi := { dst := some 26, op := Go.Op.move (Go.Operand.tmp 25), type := 4, pos := "bound.go:54", after := #[{ on := 9, ground := Go.Ground.data }, { on := 7, ground := Go.Ground.chain }], guard := none }) (v := ?_) rfl (by kernel_rfl) (by kernel_rfl) (by kernel_rfl) (by kernel_rfl) (fun _ _ _ h => h) (Or.inl ⟨by rfl, ?_⟩) hHeld ?_
      rotate_left
      · intro w_ hSw_; (try dsimp only at hSw_); go_simp; (try with_reducible rfl)
      (try simp only [Act.put, List.setIfInBounds_toArray, List.set_cons_zero, List.set_cons_succ])
      refine wpAnyF_take (i := 11) (oi := { dst := some 27, op := Go.Op.move (Go.Operand.tmp 3), type := 3, pos := "bound.go:54", after := #[{ on := 10, ground := Go.Ground.guard }], guard := some (10, false) }) rfl (by kernel_rfl) (by kernel_rfl) (by kernel_rfl) (by kernel_rfl) (fun _ _ _ h => h) (Or.inr ⟨by rfl, rfl⟩) hHeld ?_
      (try simp only [Act.put, List.setIfInBounds_toArray, List.set_cons_zero, List.set_cons_succ])
      refine wpAnyF_take (i := 12) (oi := { dst := some 28, op := Go.Op.binOp Go.BinOp.lss 3 (Go.Operand.tmp 27) (Go.Operand.const (Go.Value.int Go.IntKind.i64 1)) 3, type := 4, pos := "bound.go:54", after := #[{ on := 11, ground := Go.Ground.data }, { on := 10, ground := Go.Ground.guard }], guard := some (10, false) }) rfl (by kernel_rfl) (by kernel_rfl) (by kernel_rfl) (by kernel_rfl) (fun _ _ _ h => h) (Or.inr ⟨by rfl, rfl⟩) hHeld ?_
      (try simp only [Act.put, List.setIfInBounds_toArray, List.set_cons_zero, List.set_cons_succ])
      refine wpAnyF_take (i := 13) (oi := { dst := some 29, op := Go.Op.pick (Go.Operand.tmp 26) (Go.Operand.const (Go.Value.bool true)) (Go.Operand.tmp 28), type := 4, pos := "bound.go:54", after := #[{ on := 10, ground := Go.Ground.data }, { on := 12, ground := Go.Ground.data }], guard := none }) (v := ?_) rfl (by kernel_rfl) (by kernel_rfl) (by kernel_rfl) (by kernel_rfl) (fun _ _ _ h => h) (Or.inl ⟨by rfl, ?_⟩) hHeld ?_
      rotate_left
      · intro w_ hSw_; (try dsimp only at hSw_); go_simp; (try with_reducible rfl)
      (try simp only [Act.put, List.setIfInBounds_toArray, List.set_cons_zero, List.set_cons_succ])
      refine wpAnyF_take (i := 14) (oi := { dst := some 30, op := Go.Op.move (Go.Operand.tmp 29), type := 4, pos := "bound.go:54", after := #[{ on := 13, ground := Go.Ground.data }, { on := 10, ground := Go.Ground.chain }], guard := none }) (v := ?_) rfl (by kernel_rfl) (by kernel_rfl) (by kernel_rfl) (by kernel_rfl) (fun _ _ _ h => h) (Or.inl ⟨by rfl, ?_⟩) hHeld ?_
      rotate_left
      · intro w_ hSw_; (try dsimp only at hSw_); go_simp; (try with_reducible rfl)
      (try simp only [Act.put, List.setIfInBounds_toArray, List.set_cons_zero, List.set_cons_succ])
      refine wpAnyF_take (i := 15) (oi := { dst := some 31, op := Go.Op.move (Go.Operand.tmp 3), type := 3, pos := "bound.go:54", after := #[{ on := 14, ground := Go.Ground.guard }], guard := some (14, false) }) rfl (by kernel_rfl) (by kernel_rfl) (by kernel_rfl) (by kernel_rfl) (fun _ _ _ h => h) (Or.inr ⟨by rfl, rfl⟩) hHeld ?_
      (try simp only [Act.put, List.setIfInBounds_toArray, List.set_cons_zero, List.set_cons_succ])
      refine wpAnyF_take (i := 16) (oi := { dst := some 32, op := Go.Op.binOp Go.BinOp.gtr 3 (Go.Operand.tmp 31) (Go.Operand.const (Go.Value.int Go.IntKind.i64 20000)) 3, type := 4, pos := "bound.go:54", after := #[{ on := 15, ground := Go.Ground.data }, { on := 14, ground := Go.Ground.guard }], guard := some (14, false) }) rfl (by kernel_rfl) (by kernel_rfl) (by kernel_rfl) (by kernel_rfl) (fun _ _ _ h => h) (Or.inr ⟨by rfl, rfl⟩) hHeld ?_
      (try simp only [Act.put, List.setIfInBounds_toArray, List.set_cons_zero, List.set_cons_succ])
      refine wpAnyF_take (i := 17) (oi := { dst := some 33, op := Go.Op.pick (Go.Operand.tmp 30) (Go.Operand.const (Go.Value.bool true)) (Go.Operand.tmp 32), type := 4, pos := "bound.go:54", after := #[{ on := 14, ground := Go.Ground.data }, { on := 16, ground := Go.Ground.data }], guard := none }) (v := ?_) rfl (by kernel_rfl) (by kernel_rfl) (by kernel_rfl) (by kernel_rfl) (fun _ _ _ h => h) (Or.inl ⟨by rfl, ?_⟩) hHeld ?_
      rotate_left
      · intro w_ hSw_; (try dsimp only at hSw_); go_simp; (try with_reducible rfl)
      (try simp only [Act.put, List.setIfInBounds_toArray, List.set_cons_zero, List.set_cons_succ])
      refine wpAnyF_done (by kernel_rfl) ?_ _
      clear hHeld
      go_wp2
      go_ret2
      exact ⟨HB, .inr ⟨z, HSz.out, hz, .inl ⟨HE.out, rfl⟩⟩⟩
  · have hv : vldL (codes s) = false := by simpa using hv
    have HV := Lib.hid hv
    go_enter Try.func39, Try.ntmps39
    go_wp2_with fail
    (with_reducible refine (nValid_c s _ hs).mono ?_)
    rintro e w1 ⟨rfl, hb1⟩
    rw [HV.out]
    go_wp2
    go_ret2
    exact ⟨hb1, .inl ⟨HV.out, rfl⟩⟩
end Go.Proofs.Ytiaeeclmlchpoaa

set_option linter.unusedVariables false
set_option linter.unusedSimpArgs false
namespace Go.Proofs.Ytiaeeclmlchpoaa
open Go.RowKit

theorem bl_iff (x k : Nat) : bl x ≤ k ↔ x < 2 ^ k := by
  constructor
  · intro h; exact Nat.lt_of_lt_of_le (bl_lt x) (Nat.pow_le_pow_right (by omega) h)
  · exact bl_le
/-- Whether the sides of the exponent a fit. -/
def fitN (q c n a k : Nat) : Bool := decide (q ^ a < 2 ^ k) && decide (n ^ a * 2 ^ k ≤ (q * n + c) ^ a)
theorem fitB_N (q c n a k : Nat) : fitB (q ^ a) (n ^ a) ((q * n + c) ^ a) k = fitN q c n a k := by
  unfold fitB fitN
  rw [decide_eq_decide.2 (bl_iff (q ^ a) k)]
/-- What bound.Fits answers, of a valid number. -/
def bfit (q c z a k : Int) : Bool × Int :=
  if askE q c z a = false then (false, 2) else if k < 1 ∨ 200000 < k then (false, 2)
  else if 100000 < a * (dlN (q * z + c).natAbs : Int) then (false, 3) else (fitN q.toNat c.toNat z.natAbs a.toNat k.toNat, 0)
theorem askE_spec {q c z a : Int} (h : askE q c z a = true) : kinB q c = true ∧ 0 < z ∧ 1 ≤ a ∧ a ≤ 20000 := by
  unfold askE at h; simp only [Bool.and_eq_true, decide_eq_true_eq] at h; exact ⟨h.1.1.1, h.1.1.2, h.1.2, h.2⟩
theorem dl_top {q c z : Int} (hq : 0 ≤ q ∧ q ≤ 999) (hc : 0 ≤ c ∧ c ≤ 999999) (hz0 : 0 < z) (hz : dlN z.natAbs ≤ 2000) : dlN (q * z + c).natAbs ≤ 2011 ∧ (q * z + c).natAbs = q.toNat * z.natAbs + c.toNat ∧ (digs B64 (q.toNat * z.natAbs + c.toNat)).length ≤ 2011 ∧ (digs B64 z.natAbs).length ≤ 2000 := by
  have e1 : (q * z + c).natAbs = q.toNat * z.natAbs + c.toNat := by
    have h1 : (q.toNat : Int) = q := by omega
    have h2 : (z.natAbs : Int) = z := by omega
    have h3 : (c.toNat : Int) = c := by omega
    have h4 : ((q.toNat * z.natAbs + c.toNat : Nat) : Int) = q * z + c := by rw [Int.natCast_add, Int.natCast_mul, h1, h2, h3]
    omega
  have h2 : (digs 10 z.natAbs).length ≤ 2000 := by
    rcases Nat.eq_zero_or_pos z.natAbs with h0 | h0
    · rw [h0, digs_zero]; simp
    · have e : dlN z.natAbs = (digs 10 z.natAbs).length := by unfold dlN; exact txN_length h0
      omega
  have h3 := nlen_mul (B := 10) (by omega) q.toNat z.natAbs
  have h4 : (digs 10 q.toNat).length ≤ 3 := digs_len_le (by omega) (by show _ < 1000; omega)
  have h6 := digs_len_lt (B := 10) (by omega) (q.toNat * z.natAbs)
  obtain ⟨E, hE⟩ : ∃ E : Nat, E = 2010 := ⟨_, rfl⟩
  have h7 : q.toNat * z.natAbs < 10 ^ E := Nat.lt_of_lt_of_le h6 (Nat.pow_le_pow_right (by omega) (by omega))
  have h8 : c.toNat < 10 ^ E := Nat.lt_of_lt_of_le (show c.toNat < 10 ^ 6 by show _ < 1000000; omega) (Nat.pow_le_pow_right (by omega) (by omega))
  have h9 : (10 : Nat) ^ E + 10 ^ E ≤ 10 ^ (E + 1) := by rw [Nat.pow_succ]; omega
  have h10 : (digs 10 (q.toNat * z.natAbs + c.toNat)).length ≤ 2011 := Nat.le_trans (digs_len_le (k := E + 1) (by omega) (Nat.lt_of_lt_of_le (Nat.add_lt_add h7 h8) h9)) (by omega)
  refine ⟨?_, e1, Nat.le_trans (wlen_dl _) h10, lenB z hz⟩
  rw [e1]
  rcases Nat.eq_zero_or_pos (q.toNat * z.natAbs + c.toNat) with h0 | h0
  · rw [h0]; decide
  · have e : dlN (q.toNat * z.natAbs + c.toNat) = (digs 10 (q.toNat * z.natAbs + c.toNat)).length := by unfold dlN; exact txN_length h0
    omega
theorem pow_lim {x a L : Nat} (h : (digs B64 x).length ≤ L) (ha : a ≤ 20000) (hL : L ≤ 2011) : (digs B64 x).length * a + 1 ≤ 1000000000 := by
  have := Nat.mul_le_mul (Nat.le_trans h hL) ha
  omega
set_option maxRecDepth 100000 in
set_option maxHeartbeats 4000000 in
theorem bFits_c (q c a k : Int) (s : ByteArray) (w : World) (hs : s.size ≤ 9223372036854775807) (hk0 : -9223372036854775808 ≤ k) (hk1 : k ≤ 9223372036854775807) :
    Calls Try.prog 16 #[.int .i64 q, .int .i64 c, .string s, .int .i64 a, .int .i64 k] w fun e w' => Below w.heap.size w w' ∧
      ((vldL (codes s) = false ∧ e = .returned (.tuple #[.bool false, .int .i64 1])) ∨
       ∃ z : Int, s = tS z ∧ dlN z.natAbs ≤ 2000 ∧ e = .returned (.tuple #[.bool (bfit q c z a k).1, .int .i64 (bfit q c z a k).2])) := by
  go_enter Try.func16, Try.ntmps16
  go_wp2_with fail
  (with_reducible refine (asks_c q c a s _ hs).mono ?_)
  rintro e w1 ⟨HB, h⟩
  rcases h with ⟨hv, rfl⟩ | ⟨z, hsz, hz, ⟨hE, rfl⟩ | ⟨hE, rfl⟩⟩
  · have HV := Lib.hid hv
    clear hv
    go_wp2
    go_ret2
    exact ⟨HB, .inl ⟨HV.out, rfl⟩⟩
  · have HR : Hid (bfit q c z a k = (false, 2)) := by show _ = _; unfold bfit; rw [if_pos hE]
    have HSz := Lib.hid hsz
    clear hsz hE
    go_wp2
    go_ret2
    exact ⟨HB, .inr ⟨z, HSz.out, hz, by rw [HR.out]; rfl⟩⟩
  · have HE : Hid (¬ askE q c z a = false) := by rw [hE]; exact Bool.noConfusion
    obtain ⟨hkb, hz0, ha1, ha2⟩ := askE_spec hE
    obtain ⟨k1, k2, k3, k4, k5, k6⟩ := kinB_spec hkb
    obtain ⟨t1, t2, t3, t4⟩ := dl_top ⟨by omega, k2⟩ ⟨by omega, k5⟩ hz0 hz
    have T2 := Lib.hid t2
    have HSz := Lib.hid hsz
    obtain ⟨D, hD⟩ : ∃ D, dlN (q * z + c).natAbs = D := ⟨_, rfl⟩
    rw [hD] at t1 ⊢
    have HD := Lib.hid hD
    have m1 : 0 ≤ a * (D : Int) := Int.mul_nonneg (by omega) (by omega)
    have m2 : a * (D : Int) ≤ 20000 * 2011 := Int.mul_le_mul ha2 (by omega) (by omega) (by omega)
    clear hsz hE k3 k6 hkb t2 hD
    by_cases h1 : k < 1
    · have HR : Hid (bfit q c z a k = (false, 2)) := by show _ = _; unfold bfit; rw [if_neg HE.out, if_pos (.inl h1)]
      go_wp2
      go_ret2
      exact ⟨HB, .inr ⟨z, HSz.out, hz, by rw [HR.out]; rfl⟩⟩
    · by_cases h2 : 200000 < k
      · have HR : Hid (bfit q c z a k = (false, 2)) := by show _ = _; unfold bfit; rw [if_neg HE.out, if_pos (.inr h2)]
        go_wp2
        go_ret2
        exact ⟨HB, .inr ⟨z, HSz.out, hz, by rw [HR.out]; rfl⟩⟩
      · by_cases h3 : 100000 < a * (D : Int)
        · have HR : Hid (bfit q c z a k = (false, 3)) := by show _ = _; unfold bfit; rw [if_neg HE.out, if_neg (by omega), HD.out, if_pos h3]
          go_wp2
          go_ret2
          exact ⟨HB, .inr ⟨z, HSz.out, hz, by rw [HR.out]; rfl⟩⟩
        · obtain ⟨a, rfl⟩ := Int.eq_ofNat_of_zero_le (show 0 ≤ a by omega)
          obtain ⟨k, rfl⟩ := Int.eq_ofNat_of_zero_le (show 0 ≤ k by omega)
          have HR : Hid (bfit q c z a k = (fitB (q.toNat ^ a) (z.natAbs ^ a) ((q.toNat * z.natAbs + c.toNat) ^ a) k, 0)) := by
            show _ = _; unfold bfit; rw [if_neg HE.out, if_neg (by omega), HD.out, if_neg h3, fitB_N]; rfl
          have l0 : (digs B64 q.toNat).length ≤ 1 := small_len (by omega)
          have p0 := pow_lim (a := a) l0 (by omega) (by omega)
          have p1 := pow_lim (a := a) t4 (by omega) (by omega)
          have p2 := pow_lim (a := a) t3 (by omega) (by omega)
          have p3 : (digs B64 (q.toNat ^ a)).length ≤ 1000000000 := by have := nlen_pow B64two q.toNat a; omega
          have p4 : (digs B64 (z.natAbs ^ a)).length ≤ 1000000000 := by have := nlen_pow B64two z.natAbs a; omega
          have P := Lib.hid (And.intro p0 (And.intro p1 (And.intro p2 (And.intro p3 p4))))
          clear p0 p1 p2 p3 p4 l0
          have hqq : W64 q := And.intro (by omega) (by omega)
          have hcc : W64 c := And.intro (by omega) (by omega)
          go_wp2_with fail
          rw [HSz.out]
          (with_reducible refine (wParse_c z _ (by omega)).mono ?_)
          rintro e w2 ⟨v, rfl, hv, hb2⟩
          have HB2 := below_step HB hb2
          have IV := Lib.hid hv
          clear hb2 hv
          go_wp2_with fail
          (with_reducible refine (wNat_c z _ _ IV.out).mono ?_)
          rintro e w3 ⟨v3, rfl, hv, hb3⟩
          have HB3 := below_step HB2 hb3
          have IW := Lib.hid hv
          clear hb3 hv IV
          go_wp2_with fail
          (with_reducible refine (begin_c q c z.natAbs _ _ IW.out hqq (by omega) hcc (by omega) (by omega)).mono ?_)
          rintro e w4 ⟨g, rfl, hSD, hb4, hg4⟩
          have HB4 := below_step HB3 hb4
          have hg : w.heap.size ≤ g := Nat.le_trans HB3.size hg4
          have SD1 := Lib.hid hSD
          clear hb4 hSD IW
          go_wp2_with fail
          (with_reducible refine (raise_c g _ _ _ _ _ _ a w.heap.size w _ SD1.out HB4 hg (by omega) P.out.1 P.out.2.1 P.out.2.2.1).mono ?_)
          rintro e w5 ⟨rfl, hSD, HB5⟩
          have SD2 := Lib.hid hSD
          clear hSD SD1
          go_wp2_with fail
          (with_reducible refine (bfits_c g _ _ _ _ _ _ k w.heap.size w _ SD2.out HB5 hg (by omega) P.out.2.2.2.1 P.out.2.2.2.2).mono ?_)
          rintro e w6 ⟨rfl, hSD, HB6⟩
          clear hSD SD2
          generalize fitB (q.toNat ^ a) (z.natAbs ^ a) ((q.toNat * z.natAbs + c.toNat) ^ a) k = rb at *
          go_wp2
          go_ret2
          exact ⟨HB6, .inr ⟨z, HSz.out, hz, by rw [HR.out]; rfl⟩⟩
end Go.Proofs.Ytiaeeclmlchpoaa

set_option linter.unusedVariables false
set_option linter.unusedSimpArgs false
namespace Go.Proofs.Ytiaeeclmlchpoaa
open Go.RowKit

theorem bl_len (x : Nat) : bl x ≤ 64 * (digs B64 x).length := by
  have h := digs_len_lt B64two x
  generalize (digs B64 x).length = k at *
  refine bl_le ?_
  rw [Nat.pow_mul]
  exact h
def lstN (q c n : Nat) : Nat → Nat → Option (Nat × Nat)
  | _, 0 => none
  | i, f + 1 => if fitN q c n (i + 1) (bl (q ^ (i + 1))) then some (i + 1, bl (q ^ (i + 1))) else lstN q c n (i + 1) f
/-- What bound.Least answers, of a valid number. -/
def bleast (q c z a : Int) : Nat × Nat × Int :=
  if askE q c z a = false then (0, 0, 2) else if 100000 < a * (dlN (q * z + c).natAbs : Int) then (0, 0, 3)
  else match lstN q.toNat c.toNat z.natAbs 0 a.toNat with
    | some (i, j) => (i, j, 0)
    | none => (0, 0, 4)
set_option maxRecDepth 100000 in
set_option maxHeartbeats 4000000 in
theorem bLeast_c (q c a : Int) (s : ByteArray) (w : World) (hs : s.size ≤ 9223372036854775807) :
    Calls Try.prog 18 #[.int .i64 q, .int .i64 c, .string s, .int .i64 a] w fun e w' => Below w.heap.size w w' ∧
      ((vldL (codes s) = false ∧ e = .returned (.tuple #[.int .i64 0, .int .i64 0, .int .i64 1])) ∨
       ∃ z : Int, s = tS z ∧ dlN z.natAbs ≤ 2000 ∧ e = .returned (.tuple #[.int .i64 (bleast q c z a).1, .int .i64 (bleast q c z a).2.1, .int .i64 (bleast q c z a).2.2])) := by
  go_enter Try.func18, Try.ntmps18
  go_wp2_with fail
  (with_reducible refine (asks_c q c a s _ hs).mono ?_)
  rintro e w1 ⟨HB, h⟩
  rcases h with ⟨hv, rfl⟩ | ⟨z, hsz, hz, ⟨hE, rfl⟩ | ⟨hE, rfl⟩⟩
  · have HV := Lib.hid hv
    clear hv
    go_wp2
    refine bodyPost_ret (v := .tuple #[.int .i64 0, .int .i64 0, .int .i64 1]) (by simp [results, Try.results18, go_sem]) rfl ⟨HB, .inl ⟨HV.out, rfl⟩⟩
  · have HR : Hid (bleast q c z a = (0, 0, 2)) := by show _ = _; unfold bleast; rw [if_pos hE]
    have HSz := Lib.hid hsz
    clear hsz hE
    go_wp2
    refine bodyPost_ret (v := .tuple #[.int .i64 0, .int .i64 0, .int .i64 2]) (by simp [results, Try.results18, go_sem]) rfl ⟨HB, .inr ⟨z, HSz.out, hz, by rw [HR.out]; rfl⟩⟩
  · have HE : Hid (¬ askE q c z a = false) := by rw [hE]; exact Bool.noConfusion
    obtain ⟨hkb, hz0, ha1, ha2⟩ := askE_spec hE
    obtain ⟨k1, k2, k3, k4, k5, k6⟩ := kinB_spec hkb
    obtain ⟨t1, t2, t3, t4⟩ := dl_top ⟨by omega, k2⟩ ⟨by omega, k5⟩ hz0 hz
    have T2 := Lib.hid t2
    have HSz := Lib.hid hsz
    obtain ⟨D, hD⟩ : ∃ D, dlN (q * z + c).natAbs = D := ⟨_, rfl⟩
    rw [hD] at t1 ⊢
    have HD := Lib.hid hD
    have m1 : 0 ≤ a * (D : Int) := Int.mul_nonneg (by omega) (by omega)
    have m2 : a * (D : Int) ≤ 20000 * 2011 := Int.mul_le_mul ha2 (by omega) (by omega) (by omega)
    clear hsz hE k3 k6 hkb t2 hD
    by_cases h3 : 100000 < a * (D : Int)
    · have HR : Hid (bleast q c z a = (0, 0, 3)) := by show _ = _; unfold bleast; rw [if_neg HE.out, HD.out, if_pos h3]
      go_wp2
      refine bodyPost_ret (v := .tuple #[.int .i64 0, .int .i64 0, .int .i64 3]) (by simp [results, Try.results18, go_sem]) rfl ⟨HB, .inr ⟨z, HSz.out, hz, by rw [HR.out]; rfl⟩⟩
    · obtain ⟨a, rfl⟩ := Int.eq_ofNat_of_zero_le (show 0 ≤ a by omega)
      have HR0 : Hid (bleast q c z a = (match lstN q.toNat c.toNat z.natAbs 0 a with | some (i, j) => (i, j, 0) | none => (0, 0, 4))) := by
        show _ = _; unfold bleast; rw [if_neg HE.out, HD.out, if_neg h3]; rfl
      have l0 : (digs B64 q.toNat).length ≤ 1 := small_len (by omega)
      have hP : ∀ i, i ≤ a → (digs B64 (q.toNat ^ i)).length ≤ 1000000000 ∧ (digs B64 (z.natAbs ^ i)).length ≤ 1000000000 ∧ (digs B64 ((q.toNat * z.natAbs + c.toNat) ^ i)).length ≤ 1000000000 := fun i hi => by
        have p0 := pow_lim (a := i) l0 (by omega) (by omega)
        have p1 := pow_lim (a := i) t4 (by omega) (by omega)
        have p2 := pow_lim (a := i) t3 (by omega) (by omega)
        have q0 := nlen_pow B64two q.toNat i
        have q1 := nlen_pow B64two z.natAbs i
        have q2 := nlen_pow B64two (q.toNat * z.natAbs + c.toNat) i
        exact ⟨by omega, by omega, by omega⟩
      have P := Lib.hid hP
      have hqq : W64 q := And.intro (by omega) (by omega)
      have hcc : W64 c := And.intro (by omega) (by omega)
      clear hP
      go_wp2_with fail
      rw [HSz.out]
      (with_reducible refine (wParse_c z _ (by omega)).mono ?_)
      rintro e w2 ⟨v, rfl, hv, hb2⟩
      have HB2 := below_step HB hb2
      have IV := Lib.hid hv
      clear hb2 hv
      go_wp2_with fail
      (with_reducible refine (wNat_c z _ _ IV.out).mono ?_)
      rintro e w3 ⟨v3, rfl, hv, hb3⟩
      have HB3 := below_step HB2 hb3
      have IW := Lib.hid hv
      clear hb3 hv IV
      go_wp2_with fail
      (with_reducible refine (begin_c q c z.natAbs _ _ IW.out hqq (by omega) hcc (by omega) (by omega)).mono ?_)
      rintro e w4 ⟨g, rfl, hSD, hb4, hg4⟩
      have HB4 := below_step HB3 hb4
      have hg : w.heap.size ≤ g := Nat.le_trans HB3.size hg4
      have SD1 := Lib.hid hSD
      clear hb4 hSD IW hg4
      obtain ⟨Q, hQ⟩ : ∃ Q, q.toNat = Q := ⟨_, rfl⟩
      obtain ⟨C, hC⟩ : ∃ Q, c.toNat = Q := ⟨_, rfl⟩
      obtain ⟨N, hN⟩ : ∃ Q, z.natAbs = Q := ⟨_, rfl⟩
      rw [hQ, hC, hN] at SD1 HR0 P
      rw [hQ] at l0
      rw [hQ, hC, hN] at t3
      rw [hN] at t4
      clear hQ hC hN HB HB2 HB3
      go_wp2_with fail
      go_loopw [39] (fun iv wr => ∃ i : Nat, iv = .int .i64 i ∧ Hid (SD wr g Q N (Q * N + C) (Q ^ i) (N ^ i) ((Q * N + C) ^ i)) ∧ Below w.heap.size w wr ∧ i ≤ a ∧ Hid (lstN Q C N 0 a = lstN Q C N i (a - i))) (fun iv _ => a - (intOf iv).toNat)
      case atStart => exact ⟨0, rfl, by simpa using SD1, HB4, by omega, rfl⟩
      case round =>
        clear SD1 HB4
        obtain ⟨i, rfl, HS, HB, hi, HL⟩ := hrel
        by_cases hia : i < a
        · have P1 := P.out i (by omega)
          have P2 := Lib.hid (P.out (i + 1) (by omega))
          have P1' := Lib.hid P1
          clear P1
          go_wp2_with fail
          (with_reducible refine (next_c g _ _ _ _ _ _ w.heap.size w _ HS.out HB hg P1'.out.1 (by omega) P1'.out.2.1 (by omega) P1'.out.2.2 (by omega)).mono ?_)
          rintro e w5 ⟨rfl, hSD, HB5⟩
          rw [← Nat.pow_succ, ← Nat.pow_succ, ← Nat.pow_succ] at hSD
          have HS2 := Lib.hid hSD
          clear hSD HS HB
          go_wp2_with fail
          (with_reducible refine (least_c g _ _ _ _ _ _ _ HS2.out P2.out.1).mono ?_)
          rintro e w6 ⟨rfl, hw6⟩
          subst hw6
          obtain ⟨K, hK⟩ : ∃ K, bl (Q ^ (i + 1)) = K := ⟨_, rfl⟩
          have hK9 : K ≤ 1000000000 := by
            rw [← hK]
            have h1 := pow_lim (a := i + 1) l0 (by omega) (by omega)
            have h2 := nlen_pow B64two Q (i + 1)
            have h3 : (digs B64 (Q ^ (i + 1))).length ≤ 20001 := by
              have := Nat.mul_le_mul l0 (show i + 1 ≤ 20000 by omega); omega
            have h4 := bl_len (Q ^ (i + 1))
            omega
          rw [hK]
          have HK := Lib.hid hK
          clear hK
          go_wp2_with fail
          (with_reducible refine (bfits_c g _ _ _ _ _ _ K w.heap.size w _ HS2.out HB5 hg hK9 P2.out.1 P2.out.2.1).mono ?_)
          rintro e w7 ⟨rfl, hSD, HB7⟩
          have HS3 := Lib.hid hSD
          rw [fitB_N]
          clear hSD HS2 HB5
          have HST : Hid (lstN Q C N i (a - i) = if fitN Q C N (i + 1) K = true then some (i + 1, K) else lstN Q C N (i + 1) (a - (i + 1))) := by
            show _ = _
            rw [show a - i = (a - (i + 1)) + 1 by omega, lstN, HK.out]
          cases hf : fitN Q C N (i + 1) K with
          | true =>
            have HR : Hid (bleast q c z a = (i + 1, K, 0)) := by show _ = _; rw [HR0.out, HL.out, HST.out, hf]; rfl
            clear hf
            go_wp2_with fail
            (with_reducible refine (least_c g _ _ _ _ _ _ _ HS3.out P2.out.1).mono ?_)
            rintro e w8 ⟨rfl, hw8⟩
            subst hw8
            rw [HK.out]
            go_wp2
            refine bodyPost_ret (v := .tuple #[.int .i64 ((i : Int) + 1), .int .i64 K, .int .i64 0]) (by simp [results, Try.results18, go_sem]) rfl ⟨HB7, .inr ⟨z, HSz.out, hz, by rw [HR.out]; rfl⟩⟩
          | false =>
            have HL2 : Hid (lstN Q C N 0 a = lstN Q C N (i + 1) (a - (i + 1))) := by show _ = _; rw [HL.out, HST.out, hf]; rfl
            clear hf
            go_wp2
            go_roundw
            case rel => exact ⟨i + 1, by go_num, HS3, HB7, by omega, HL2⟩
            case measure => simp [intOf]; omega
        · have HR : Hid (bleast q c z a = (0, 0, 4)) := by show _ = _; rw [HR0.out, HL.out, show a - i = 0 by omega]; rfl
          go_wp2
          refine bodyPost_ret (v := .tuple #[.int .i64 0, .int .i64 0, .int .i64 4]) (by simp [results, Try.results18, go_sem]) rfl ⟨HB, .inr ⟨z, HSz.out, hz, by rw [HR.out]; rfl⟩⟩
end Go.Proofs.Ytiaeeclmlchpoaa

set_option linter.unusedVariables false
set_option linter.unusedSimpArgs false
namespace Go.Proofs.Ytiaeeclmlchpoaa
open Go.RowKit

/-- The least k makes the pair with a fit n. -/
def hasN (q c a n : Nat) : Bool := fitN q c n a (bl (q ^ a))
theorem hasN_iff {q c a n : Nat} : hasN q c a n = true ↔ n ^ a * 2 ^ bl (q ^ a) ≤ (q * n + c) ^ a := by
  unfold hasN fitN
  simp only [Bool.and_eq_true, decide_eq_true_eq]
  exact ⟨fun h => h.2, fun h => ⟨bl_lt _, h⟩⟩
theorem bern_ring {M c k P : Int} (h0 : 0 ≤ c) (h1 : 0 ≤ k) : (M + c) * (M - (k + 1) * c) ≤ M * (M - k * c) := by
  have e : M * (M - k * c) - (M + c) * (M - (k + 1) * c) = (k + 1) * (c * c) := by grind
  have : 0 ≤ (k + 1) * (c * c) := Int.mul_nonneg (by omega) (Int.mul_nonneg h0 h0)
  omega
theorem bern {M c : Int} (hM : 0 ≤ M) (hc : 0 ≤ c) (a : Nat) : (M + c) ^ a * (M - a * c) ≤ M ^ (a + 1) := by
  induction a with
  | zero => simp [Int.pow_succ]
  | succ a ih =>
    have hp : 0 ≤ (M + c) ^ a := Int.pow_nonneg (by omega)
    have h1 := bern_ring (M := M) (c := c) (k := a) (P := 0) hc (by omega)
    have h2 := Int.mul_le_mul_of_nonneg_left h1 hp
    have h3 := Int.mul_le_mul_of_nonneg_left ih hM
    have e1 : (M + c) ^ (a + 1) * (M - ((a + 1 : Nat) : Int) * c) = (M + c) ^ a * ((M + c) * (M - (a + 1) * c)) := by
      rw [Int.pow_succ, Int.mul_assoc]; congr 2
    have e2 : (M + c) ^ a * (M * (M - a * c)) = M * ((M + c) ^ a * (M - a * c)) := by grind
    have e3 : M ^ (a + 1 + 1) = M * M ^ (a + 1) := by rw [Int.pow_succ, Int.mul_comm]
    rw [e1, e3]
    omega
theorem has_ring {n q A M c a x : Int} (h : (M + n) * (x - a * c) ≤ M * x) : n * (x - a * c) ≤ a * c * M := by grind
/-- What fits is bounded. -/
theorem has_bound {q c a n : Nat} (h : hasN q c a n = true) (hn : 0 < n) : q * n ≤ a * c * (q ^ a + 1) := by
  rw [hasN_iff] at h
  have hlt := bl_lt (q ^ a)
  have h1 : n ^ a * (q ^ a + 1) ≤ (q * n + c) ^ a := Nat.le_trans (Nat.mul_le_mul_left _ hlt) h
  rw [Nat.mul_add, Nat.mul_one, ← Nat.mul_pow, Nat.mul_comm n q] at h1
  have h2 := bern (M := ((q * n : Nat) : Int)) (c := (c : Int)) (by omega) (by omega) a
  have hnp : 0 < n ^ a := Nat.pow_pos hn
  rcases Nat.lt_or_ge (a * c) (q * n) with hlt2 | hge
  · have h3 : (((q * n) ^ a + n ^ a : Nat) : Int) ≤ (((q * n + c) ^ a : Nat) : Int) := by omega
    have e1 : (((q * n + c) ^ a : Nat) : Int) = ((q * n : Nat) + (c : Int)) ^ a := by rw [Int.natCast_pow, Int.natCast_add]
    have e2 : (((q * n) ^ a + n ^ a : Nat) : Int) = ((q * n : Nat) : Int) ^ a + (n ^ a : Nat) := by rw [Int.natCast_add, Int.natCast_pow]
    rw [e1, e2] at h3
    have hpos : (0 : Int) < ((q * n : Nat) : Int) - (a : Int) * (c : Int) := by
      have : ((a * c : Nat) : Int) < ((q * n : Nat) : Int) := by omega
      rw [Int.natCast_mul] at this; omega
    have h4 := Int.mul_le_mul_of_nonneg_right h3 (Int.le_of_lt hpos)
    have h5 := Int.le_trans h4 h2
    rw [Int.pow_succ] at h5
    have h6 := has_ring (q := 0) (A := 0) h5
    -- n^a * (qn - ac) <= a c (qn)^a = a c q^a n^a
    have e3 : ((q * n : Nat) : Int) ^ a = ((q ^ a : Nat) : Int) * ((n ^ a : Nat) : Int) := by
      rw [← Int.natCast_mul, ← Nat.mul_pow, Int.natCast_pow]
    rw [e3] at h6
    have e4 : (a : Int) * c * (((q ^ a : Nat) : Int) * ((n ^ a : Nat) : Int)) = ((n ^ a : Nat) : Int) * ((a : Int) * c * ((q ^ a : Nat) : Int)) := by grind
    rw [e4] at h6
    have h7 := Int.le_of_mul_le_mul_left h6 (by omega)
    have e5 : ((a * c * (q ^ a + 1) : Nat) : Int) = (a : Int) * c * ((q ^ a : Nat) : Int) + (a : Int) * c := by
      rw [Int.natCast_mul, Int.natCast_mul, Int.natCast_add, Int.mul_add]; simp
    have h8 : ((q * n : Nat) : Int) ≤ ((a * c * (q ^ a + 1) : Nat) : Int) := by rw [e5]; omega
    omega
  · exact Nat.le_trans hge (Nat.le_mul_of_pos_right _ (by omega))
theorem has_mono {q c a n m : Nat} (h : hasN q c a n = true) (hm : 0 < m) (hmn : m ≤ n) : hasN q c a m = true := by
  rw [hasN_iff] at h ⊢
  have h1 : m * (q * n + c) ≤ n * (q * m + c) := by
    have : m * c ≤ n * c := Nat.mul_le_mul_right _ hmn
    have e : m * (q * n) = n * (q * m) := by grind
    rw [Nat.mul_add, Nat.mul_add]; omega
  have h2 := Nat.pow_le_pow_left h1 a
  rw [Nat.mul_pow, Nat.mul_pow] at h2
  have h3 := Nat.mul_le_mul_left (m ^ a) h
  have hnp : 0 < n ^ a := Nat.pow_pos (by omega)
  have h4 : n ^ a * (m ^ a * 2 ^ bl (q ^ a)) ≤ n ^ a * (q * m + c) ^ a := by
    have e : n ^ a * (m ^ a * 2 ^ bl (q ^ a)) = m ^ a * (n ^ a * 2 ^ bl (q ^ a)) := by grind
    rw [e]; exact Nat.le_trans h3 h2
  exact Nat.le_of_mul_le_mul_left h4 hnp
/-- The greatest number that fits. -/
def isThr (q c a T : Nat) : Prop := (T = 0 ∨ hasN q c a T = true) ∧ hasN q c a (T + 1) = false
theorem isThr.unique {q c a S T : Nat} (h : isThr q c a S) (k : isThr q c a T) : S = T := by
  have key : ∀ {S T : Nat}, isThr q c a S → isThr q c a T → ¬ S < T := fun {S T} h k hlt => by
    rcases k.1 with h0 | h0
    · omega
    · have := has_mono h0 (m := S + 1) (by omega) (by omega)
      rw [h.2] at this; cases this
  have := key h k; have := key k h; omega

/-- The number that a slice reads as. -/
noncomputable def valW (w : World) (v : Value) : Nat := by classical exact if h : ∃ n, IsW w v n then h.choose else 0
theorem IsW.unique {w : World} {v : Value} {m n : Nat} (h : IsW w v m) (k : IsW w v n) : m = n := by
  obtain ⟨A, c, rfl, hs⟩ := h
  obtain ⟨A', c', e, ks⟩ := k
  injection e with e1 e2 e3
  subst e1 e3
  have hl : digs B64 m = digs B64 n := by
    apply List.ext_getElem e2
    intro j h1 h2
    obtain ⟨b, off, e4, _, c1⟩ := hs.cell (j := j) h1
    obtain ⟨b', off', e5, _, c2⟩ := ks.cell (j := j) h2
    rw [e4] at e5
    injection e5 with e5
    injection e5 with e6 e7
    subst e6 e7
    rw [c1] at c2
    injection c2 with c2
    injection c2 with _ c2
    rw [← gd_lt h1, ← gd_lt h2]; exact c2
  have h1 := digs_V B64two m
  rw [hl, digs_V B64two] at h1
  omega
theorem valW_eq {w : World} {v : Value} {n : Nat} (h : IsW w v n) : valW w v = n := by
  classical
  unfold valW
  rw [dif_pos ⟨n, h⟩]
  exact (Exists.choose_spec (⟨n, h⟩ : ∃ n, IsW w v n)).unique h
end Go.Proofs.Ytiaeeclmlchpoaa

set_option linter.unusedVariables false
set_option linter.unusedSimpArgs false
namespace Go.Proofs.Ytiaeeclmlchpoaa
open Go.RowKit

/-- What the closure has caught: three numbers in memory. -/
structure Caught (w : World) (b0 b1 b2 : Nat) (q c a : Int) : Prop where
  c0 : w.cell? ⟨b0, 0, none⟩ = some (.int .i64 q)
  c1 : w.cell? ⟨b1, 0, none⟩ = some (.int .i64 c)
  c2 : w.cell? ⟨b2, 0, none⟩ = some (.int .i64 a)
  l0 : b0 < w.heap.size
  l1 : b1 < w.heap.size
  l2 : b2 < w.heap.size
theorem Caught.keep {w w' : World} {b0 b1 b2 : Nat} {q c a : Int} (h : Caught w b0 b1 b2 q c a) (hb : Below w.heap.size w w') : Caught w' b0 b1 b2 q c a :=
  ⟨kcell hb h.l0 h.c0, kcell hb h.l1 h.c1, kcell hb h.l2 h.c2, Nat.lt_of_lt_of_le h.l0 hb.size, Nat.lt_of_lt_of_le h.l1 hb.size, Nat.lt_of_lt_of_le h.l2 hb.size⟩
theorem nlen_add {B : Nat} (hB : 2 ≤ B) (x y : Nat) : (digs B (x + y)).length ≤ max (digs B x).length (digs B y).length + 1 := by
  have := len_add hB (x : Int) (y : Int)
  unfold dg at this
  rw [← Int.natCast_add, Int.natAbs_natCast, Int.natAbs_natCast, Int.natAbs_natCast] at this
  exact this
set_option maxRecDepth 100000 in
set_option maxHeartbeats 4000000 in
theorem has_c (q c : Int) (a n b0 b1 b2 : Nat) (v : Value) (w : World) (h : IsW w v n) (HC : Caught w b0 b1 b2 q c a) (hq : 3 ≤ q ∧ q ≤ 999) (hc : 1 ≤ c ∧ c ≤ 999999) (ha : a ≤ 1000) (sn : (digs B64 n).length ≤ 5000) :
    Calls Try.prog 49 #[v, .pointer (some ⟨b0, 0, none⟩), .pointer (some ⟨b1, 0, none⟩), .pointer (some ⟨b2, 0, none⟩)] w fun e w' => e = .returned (.bool (hasN q.toNat c.toNat a n)) ∧ Below w.heap.size w w' := by
  obtain ⟨A, m, k, rfl, H⟩ := h.form
  clear h
  have c0 := HC.c0; have c1 := HC.c1; have c2 := HC.c2
  have l0 := HC.l0; have l1 := HC.l1; have l2 := HC.l2
  have hqq : W64 q := And.intro (by omega) (by omega)
  have hcc : W64 c := And.intro (by omega) (by omega)
  have L0 : (digs B64 q.toNat).length ≤ 1 := small_len (by omega)
  have L1 : (digs B64 c.toNat).length ≤ 1 := small_len (by omega)
  have L2 : (digs B64 (q.toNat * n + c.toNat)).length ≤ 5002 := by
    have h1 := nlen_mul B64two q.toNat n
    have h2 := nlen_add B64two (q.toNat * n) c.toNat
    omega
  have P0 : (digs B64 q.toNat).length * a + 1 ≤ 1000000000 := by have := Nat.mul_le_mul L0 ha; omega
  have P1 : (digs B64 n).length * a + 1 ≤ 1000000000 := by have := Nat.mul_le_mul sn ha; omega
  have P2 : (digs B64 (q.toNat * n + c.toNat)).length * a + 1 ≤ 1000000000 := by have := Nat.mul_le_mul L2 ha; omega
  have P3 : (digs B64 (q.toNat ^ a)).length ≤ 1001 := by have := nlen_pow B64two q.toNat a; have := Nat.mul_le_mul L0 ha; omega
  have P4 : (digs B64 (n ^ a)).length ≤ 1000000000 := by have := nlen_pow B64two n a; omega
  have P5 : bl (q.toNat ^ a) ≤ 1000000000 := by have := bl_len (q.toNat ^ a); omega
  have hB0 : Below w.heap.size w w.drew := below_drew (Below.refl _ _)
  have H' := Lib.hid (H.out.below hB0)
  have HCd := HC.keep hB0
  go_enter Try.func49, Try.ntmps49
  go_wp2_with fail
  go_region_held3 (fun w' => w'.cell? ⟨b0, 0, none⟩ = some (.int .i64 q) ∧ w'.cell? ⟨b1, 0, none⟩ = some (.int .i64 c) ∧ w'.cell? ⟨b2, 0, none⟩ = some (.int .i64 a))
    (first | exact ⟨c0, c1, c2⟩ | exact ⟨K1.c0, K1.c1, K1.c2⟩ | exact ⟨K2.c0, K2.c1, K2.c2⟩)
    (first
      | (go_at_call 40; (with_reducible refine (begin_c q c n _ _ H'.out hqq (by omega) hcc (by omega) (by omega)).mono ?_); rintro e w1 ⟨g, rfl, hSD, hb1, hg⟩; have K1 := HCd.keep hb1; have S1 := Lib.hid hSD; clear hSD; have HB1 := below_step hB0 hb1; clear hb1; have hg' : w.heap.size ≤ g := hg)
      | (go_at_call 43; (with_reducible refine (raise_c g _ _ _ _ _ _ a w.heap.size w _ S1.out HB1 hg' (by omega) P0 P1 P2).mono ?_); rintro e w2 ⟨rfl, hSD, HB2⟩; have K2 : Caught w2 b0 b1 b2 q c a := ⟨kcellB HB2 l0 c0, kcellB HB2 l1 c1, kcellB HB2 l2 c2, Nat.lt_of_lt_of_le l0 HB2.size, Nat.lt_of_lt_of_le l1 HB2.size, Nat.lt_of_lt_of_le l2 HB2.size⟩; have S2 := Lib.hid hSD; clear hSD))
  clear c0 c1 c2
  go_wp2_with fail
  (with_reducible refine (least_c g _ _ _ _ _ _ _ S2.out (by omega)).mono ?_)
  rintro e w3 ⟨rfl, hw3⟩
  subst hw3
  go_wp2_with fail
  (with_reducible refine (bfits_c g _ _ _ _ _ _ (bl (q.toNat ^ a)) w.heap.size w _ S2.out HB2 hg' P5 (by omega) P4).mono ?_)
  rintro e w4 ⟨rfl, hSD, HB4⟩
  clear hSD
  rw [fitB_N]
  have HR : Hid (fitN q.toNat c.toNat n a (bl (q.toNat ^ a)) = hasN q.toNat c.toNat a n) := rfl
  generalize fitN q.toNat c.toNat n a (bl (q.toNat ^ a)) = rb at *
  go_wp2
  go_ret
  exact ⟨by rw [← HR.out]; rfl, HB4⟩
end Go.Proofs.Ytiaeeclmlchpoaa

set_option linter.unusedVariables false
set_option linter.unusedSimpArgs false
namespace Go.Proofs.Ytiaeeclmlchpoaa
open Go.RowKit

theorem wlen_mono {m n : Nat} (h : m ≤ n) : (digs B64 m).length ≤ (digs B64 n).length := digs_len_mono B64two h
set_option maxRecDepth 100000 in
set_option maxHeartbeats 4000000 in
theorem halves_c (q c : Int) (a lo hi b0 b1 b2 : Nat) (v1 v2 : Value) (w : World) (h1 : IsW w v1 lo) (h2 : IsW w v2 hi) (HC : Caught w b0 b1 b2 q c a) (hq : 3 ≤ q ∧ q ≤ 999) (hc : 1 ≤ c ∧ c ≤ 999999) (ha : a ≤ 1000) (sn : (digs B64 hi).length ≤ 4000)
    (hlo : hasN q.toNat c.toNat a lo = true) (hhi : hasN q.toNat c.toNat a hi = false) (hlt : lo < hi) :
    Calls Try.prog 53 #[v1, v2, .func (.func 49) #[] #[.pointer (some ⟨b0, 0, none⟩), .pointer (some ⟨b1, 0, none⟩), .pointer (some ⟨b2, 0, none⟩)]] w fun e w' => ∃ v T, e = .returned v ∧ IsW w' v T ∧ isThr q.toNat c.toNat a T ∧ T < hi ∧ Below w.heap.size w w' := by
  obtain ⟨A, m, k, rfl, H1⟩ := h1.form
  obtain ⟨A', m', k', rfl, H2⟩ := h2.form
  clear h1 h2
  have hLO := Lib.hid hlo
  have hHI := Lib.hid hhi
  clear hlo hhi
  go_enter Try.func53, Try.ntmps53
  go_wp2
  go_loopw [0, 1] (fun lv hv wr => ∃ (x y : Nat) (A A' : Option Addr) (m k m' k' : Nat), lv = .slice A m k ∧ hv = .slice A' m' k' ∧ Hid (IsW wr (.slice A m k) x) ∧ Hid (IsW wr (.slice A' m' k') y) ∧ Below w.heap.size w wr ∧ x < y ∧ y ≤ hi ∧ Hid (hasN q.toNat c.toNat a x = true) ∧ Hid (hasN q.toNat c.toNat a y = false)) (fun lv hv wr => valW wr hv - valW wr lv)
  case atStart => exact ⟨lo, hi, A, A', m, k, m', k', rfl, rfl, H1, H2, Below.refl _ _, hlt, Nat.le_refl _, hLO, hHI⟩
  case round =>
    clear H1 H2
    obtain ⟨x, y, A, A', m, k, m', k', rfl, rfl, H1, H2, HB, hxy, hy, hX, hY⟩ := hrel
    have e1 := Lib.hid (valW_eq H1.out)
    have e2 := Lib.hid (valW_eq H2.out)
    have s2 : (digs B64 y).length ≤ 4000 := Nat.le_trans (wlen_mono hy) sn
    have s1 : (digs B64 x).length ≤ 4000 := Nat.le_trans (wlen_mono (Nat.le_of_lt hxy)) s2
    have s3 : (digs B64 (x + y)).length ≤ 4001 := by have := nlen_add B64two x y; omega
    have s4 : (digs B64 ((x + y) / 2)).length ≤ 4001 := Nat.le_trans (wlen_mono (Nat.div_le_self _ _)) s3
    have K0 : Caught wr b0 b1 b2 q c a := ⟨kcellB HB HC.l0 HC.c0, kcellB HB HC.l1 HC.c1, kcellB HB HC.l2 HC.c2, Nat.lt_of_lt_of_le HC.l0 HB.size, Nat.lt_of_lt_of_le HC.l1 HB.size, Nat.lt_of_lt_of_le HC.l2 HB.size⟩
    have HO2 := fun v w h => Over_c (x + y) 2 v w h (by omega) (by omega) (by omega)
    rw [show ((2 : Nat) : Int) = 2 from rfl] at HO2
    obtain ⟨z, hz⟩ : ∃ z, (x + y) / 2 = z := ⟨_, rfl⟩
    obtain ⟨r, hr⟩ : ∃ r, (x + y) % 2 = r := ⟨_, rfl⟩
    have hz1 : x ≤ z := by omega
    have hz2 : z < y := by omega
    have hzx : z = x → y = x + 1 := by omega
    rw [hz] at s4
    rw [hz, hr] at HO2
    have HO := Lib.hid HO2
    have HZ := Lib.hid hzx
    clear HO2 hz hr hzx
    go_wp2_with fail
    (with_reducible refine (Plus_c x y _ _ _ H1.out H2.out (by omega) (by omega)).mono ?_)
    rintro e w1 ⟨v, rfl, hv, hb1⟩
    have HS := Lib.hid hv
    have K1 := K0.keep hb1
    have J1 := Lib.hid (H1.out.below hb1)
    have J2 := Lib.hid (H2.out.below hb1)
    have HB1 := below_step HB hb1
    clear hv hb1
    go_wp2_with fail
    (with_reducible refine (HO.out _ _ HS.out).mono ?_)
    rintro e w2 ⟨g, mz, cz, rfl, hv, hb2, hg⟩
    have HM := Lib.hid hv
    have K2 := K1.keep hb2
    have I1 := Lib.hid (J1.out.below hb2)
    have I2 := Lib.hid (J2.out.below hb2)
    have HB2 := below_step HB1 hb2
    clear hv hb2 hg J1 J2 HS HO
    go_wp2_with fail
    (with_reducible refine (Compare_c z x _ _ _ HM.out I1.out).mono ?_)
    rintro e w3 ⟨rfl, hw3⟩
    subst hw3
    by_cases hc0 : z = x
    · have hcb : (icmp (z : Int) (x : Int) == 0) = true := by rw [hc0]; unfold icmp; simp
      have HT : Hid (isThr q.toNat c.toNat a x) := ⟨.inr hX.out, by rw [← HZ.out hc0]; exact hY.out⟩
      clear hc0
      go_wp2
      go_ret
      exact ⟨_, x, rfl, I1.out, HT.out, by omega, HB2⟩
    · have hcb : (icmp (z : Int) (x : Int) == 0) = false := by unfold icmp; rw [if_neg (by omega), if_pos (by omega)]; rfl
      have hc1 : x < z := by omega
      clear hc0
      go_wp2_with fail
      (with_reducible refine (has_c q c a z b0 b1 b2 _ _ HM.out K2 hq hc ha (by omega)).mono ?_)
      rintro e w4 ⟨rfl, hb4⟩
      have HM4 := Lib.hid (HM.out.below hb4)
      have I14 := Lib.hid (I1.out.below hb4)
      have I24 := Lib.hid (I2.out.below hb4)
      have HB4 := below_step HB2 hb4
      have f1 := Lib.hid (valW_eq HM4.out)
      have f2 := Lib.hid (valW_eq I14.out)
      have f3 := Lib.hid (valW_eq I24.out)
      clear hb4 HM I1 I2
      cases hh : hasN q.toNat c.toNat a z with
      | true =>
        have hZ := Lib.hid hh
        clear hh
        go_wp2
        go_roundw
        case rel => exact ⟨z, y, _, _, _, _, _, _, rfl, rfl, HM4, I24, HB4, hz2, hy, hZ, hY⟩
        case measure => rw [f1.out, f3.out, e1.out, e2.out]; omega
      | false =>
        have hZ := Lib.hid hh
        clear hh
        go_wp2
        go_roundw
        case rel => exact ⟨x, z, _, _, _, _, _, _, rfl, rfl, I14, HM4, HB4, hc1, by omega, hX, hZ⟩
        case measure => rw [f1.out, f2.out, e1.out, e2.out]; omega
end Go.Proofs.Ytiaeeclmlchpoaa

set_option linter.unusedVariables false
set_option linter.unusedSimpArgs false
namespace Go.Proofs.Ytiaeeclmlchpoaa
open Go.RowKit

theorem dec_len (n : Nat) : (digs 10 n).length ≤ 20 * (digs B64 n).length := by
  have h := digs_len_lt B64two n
  generalize (digs B64 n).length = k at *
  apply digs_len_le (by omega)
  rw [Nat.pow_mul]
  exact Nat.lt_of_lt_of_le h (Nat.pow_le_pow_left (by decide) k)
/-- What bound.Below answers where the greatest number that fits is T. -/
def belS (T : Nat) : ByteArray := if vldL (codes (tS (T : Int))) then tS (T : Int) else { data := #[] }
def belE (T : Nat) : Int := if vldL (codes (tS (T : Int))) then 0 else 3
theorem Up1_c (x : Nat) (v : Value) (w : World) (h1 : IsW w v x) (sx : (digs B64 x).length ≤ 1000000000) :
    Calls Try.prog 51 #[v, .int .i64 1] w fun e w' => ∃ v', e = .returned v' ∧ IsW w' v' (x * 2) ∧ Below w.heap.size w w' := Up_c x 1 v w h1 (by omega) sx
theorem Over2_c (x : Nat) (v : Value) (w : World) (h1 : IsW w v x) (sx : (digs B64 x).length ≤ 1000000000) :
    Calls Try.prog 52 #[v, .int .u64 2] w fun e w' => ∃ g m c, e = .returned (.tuple #[.slice (some ⟨g, 0, none⟩) m c, .int .u64 ((x % 2 : Nat) : Int)]) ∧ IsW w' (.slice (some ⟨g, 0, none⟩) m c) (x / 2) ∧ Below w.heap.size w w' := 
  (Over_c x 2 v w h1 (by omega) (by omega) sx).mono fun _ _ ⟨g, m, c, e, h, hb, _⟩ => ⟨g, m, c, e, h, hb⟩
theorem wlen0 {w : World} {A : Option Addr} {m c n : Nat} (h : IsW w (.slice A m c) n) : (m = 0 ↔ n = 0) := by
  obtain ⟨A', c', e, _⟩ := h
  injection e with _ e _
  rw [e]
  constructor
  · intro h; exact digs_nil B64two (List.eq_nil_of_length_eq_zero h)
  · intro h; subst h; rw [digs_zero]; rfl
theorem thr_len {T X : Nat} (h : T ≤ X) (hX : (digs B64 X).length ≤ 2000) : (digs 10 T).length ≤ 1000000000 := by
  have h1 := dec_len T
  have h2 := wlen_mono h
  omega
theorem bel_ok {T : Nat} (h : vldL (codes (tS (T : Int))) = true) : belS T = tS (T : Int) ∧ belE T = 0 := by unfold belS belE; rw [if_pos h, if_pos h]; exact ⟨rfl, rfl⟩
theorem bel_no {T : Nat} (h : vldL (codes (tS (T : Int))) = false) : belS T = { data := #[] } ∧ belE T = 3 := by unfold belS belE; rw [h]; exact ⟨rfl, rfl⟩
theorem tS_size {n : Nat} (h : (digs 10 n).length ≤ 1000000000) : (tS (n : Int)).size ≤ 9223372036854775807 := by
  rw [tS_nat, mkS_size]
  rcases Nat.eq_zero_or_pos n with h0 | h0
  · subst h0; decide
  · rw [txN_length h0]; omega
/-- The bound of what fits. -/
def bnd (q c a : Nat) : Nat := a * c * (q ^ a + 1)
theorem bnd_len {q c a : Nat} (hq : q ≤ 999) (hc : c ≤ 999999) (ha : a ≤ 1000) : (digs B64 (2 * bnd q c a)).length ≤ 2000 := by
  have l0 : (digs B64 q).length ≤ 1 := small_len (by omega)
  have h1 := nlen_pow B64two q a
  have h2 := Nat.mul_le_mul l0 ha
  have h3 := nlen_add B64two (q ^ a) 1
  have h4 : (digs B64 1).length ≤ 1 := small_len (by omega)
  have h5 := nlen_mul B64two (a * c) (q ^ a + 1)
  have h6 : a * c ≤ 1000 * 999999 := Nat.mul_le_mul ha hc
  have h7 : (digs B64 (a * c)).length ≤ 1 := small_len (by omega)
  have h8 := nlen_mul B64two 2 (bnd q c a)
  have h9 : (digs B64 2).length ≤ 1 := small_len (by omega)
  unfold bnd at h8 ⊢
  omega
theorem has_le {q c a n : Nat} (hq : 1 ≤ q) (h : hasN q c a n = true) (hn : 0 < n) : n ≤ bnd q c a := by
  have := has_bound h hn
  exact Nat.le_trans (Nat.le_mul_of_pos_left n hq) this
set_option maxRecDepth 100000 in
set_option maxHeartbeats 4000000 in
theorem bBelow_c (q c a : Int) (w : World) :
    Calls Try.prog 22 #[.int .i64 q, .int .i64 c, .int .i64 a] w fun e w' => Below w.heap.size w w' ∧
      (((kinB q c && decide (1 ≤ a) && decide (a ≤ 1000)) = false ∧ e = .returned (.tuple #[.string { data := #[] }, .int .i64 2])) ∨
       ((kinB q c && decide (1 ≤ a) && decide (a ≤ 1000)) = true ∧ ∃ T, isThr q.toNat c.toNat a.toNat T ∧ T ≤ 2 * bnd q.toNat c.toNat a.toNat ∧ e = .returned (.tuple #[.string (belS T), .int .i64 (belE T)]))) := by
  have hB3 : ∀ o1 o2 o3, Below w.heap.size w (((w.alloc o1).alloc o2).alloc o3) := fun o1 o2 o3 => below_alloc (below_alloc (below_alloc (Below.refl _ _) _) _) _
  cases hk : kinB q c with
  | false =>
    go_enter Try.func22, Try.ntmps22
    go_wp2_with (go_at_call 48; (with_reducible refine (bkin_c q c _).mono ?_); rintro e w3 ⟨rfl, hw3⟩; subst hw3; rw [hk])
    go_ret2
    exact ⟨hB3 _ _ _, .inl ⟨by simp, rfl⟩⟩
  | true =>
    have HK := Lib.hid hk
    clear hk
    by_cases ha1 : a < 1
    · go_enter Try.func22, Try.ntmps22
      go_wp2_with (go_at_call 48; (with_reducible refine (bkin_c q c _).mono ?_); rintro e w3 ⟨rfl, hw3⟩; subst hw3; rw [HK.out])
      go_ret2
      exact ⟨hB3 _ _ _, .inl ⟨by rw [decide_eq_false (show ¬ 1 ≤ a by omega)]; simp, rfl⟩⟩
    · by_cases ha2 : 1000 < a
      · go_enter Try.func22, Try.ntmps22
        go_wp2_with (go_at_call 48; (with_reducible refine (bkin_c q c _).mono ?_); rintro e w3 ⟨rfl, hw3⟩; subst hw3; rw [HK.out])
        go_ret2
        exact ⟨hB3 _ _ _, .inl ⟨by rw [decide_eq_false (show ¬ a ≤ 1000 by omega)]; simp, rfl⟩⟩
      · obtain ⟨k1, k2, k3, k4, k5, k6⟩ := kinB_spec HK.out
        obtain ⟨a, rfl⟩ := Int.eq_ofNat_of_zero_le (show 0 ≤ a by omega)
        have hG : Hid ((true && decide (1 ≤ (a : Int)) && decide ((a : Int) ≤ 1000)) = true) := by show _ = _; rw [decide_eq_true (show (1 : Int) ≤ a by omega), decide_eq_true (show (a : Int) ≤ 1000 by omega)]; rfl
        have hq : 3 ≤ q ∧ q ≤ 999 := ⟨k1, k2⟩
        have hc : 1 ≤ c ∧ c ≤ 999999 := ⟨k4, k5⟩
        have HQ := Lib.hid hq
        have HCc := Lib.hid hc
        have hX := bnd_len (q := q.toNat) (c := c.toNat) (a := a) (by omega) (by omega) (by omega)
        have HXh := Lib.hid hX
        have HLE := Lib.hid (fun n h hn => has_le (q := q.toNat) (c := c.toNat) (a := a) (n := n) (by omega) h hn)
        rw [Int.toNat_natCast]
        clear k3 k6 hX hq hc
        go_enter Try.func22, Try.ntmps22
        go_wp2_with (go_at_call 48; (with_reducible refine (bkin_c q c _).mono ?_); rintro e w3 ⟨rfl, hw3⟩; subst hw3; rw [HK.out])
        generalize hW : ((w.alloc (Obj.cells #[Value.int IntKind.i64 q] 3)).alloc (Obj.cells #[Value.int IntKind.i64 c] 3)).alloc (Obj.cells #[Value.int IntKind.i64 (a : Int)] 3) = W
        have CA : Caught W w.heap.size (w.heap.size + 1) (w.heap.size + 1 + 1) q c a := by
          subst hW; constructor <;> simp [go_sem]
        have HB : Below w.heap.size w W := by subst hW; exact hB3 _ _ _
        clear hW hB3
        generalize w.heap.size + 1 + 1 = b2 at *
        generalize w.heap.size + 1 = b1 at *
        generalize hb0 : w.heap.size = b0 at CA ⊢
        rw [hb0] at HB
        have HB0 := Lib.hid hb0
        clear hb0
        (with_reducible refine (w1_c _).mono ?_)
        rintro e w1 ⟨v, rfl, hv, hb1⟩
        obtain ⟨A1, m1, k1', rfl, T1⟩ := hv.form
        replace CA := CA.keep hb1
        have hBs : b0 ≤ W.heap.size := by have := HB.size; have := HB0.out; omega
        replace HB := HB.trans (hb1.mono hBs)
        clear hv hb1 hBs
        go_wp2
        go_loopw [9] (fun hv wr => ∃ (j : Nat) (A : Option Addr) (m k : Nat), hv = .slice A m k ∧ Hid (IsW wr (.slice A m k) (2 ^ j)) ∧ Hid (Caught wr b0 b1 b2 q c a) ∧ Below b0 w wr ∧ Hid (b0 ≤ wr.heap.size) ∧ Hid (j = 0 ∨ hasN q.toNat c.toNat a (2 ^ (j - 1)) = true) ∧ Hid (2 ^ j ≤ 2 * bnd q.toNat c.toNat a ∨ j = 0)) (fun hv wr => 2 * bnd q.toNat c.toNat a + 1 - valW wr hv)
        case atStart => exact ⟨0, A1, m1, k1', rfl, T1, CA, HB, by have := HB.size; have := HB0.out; show _ ≤ _; omega, .inl rfl, .inr rfl⟩
        case round =>
          clear T1 CA HB
          obtain ⟨j, A, m, k, rfl, H, CA, HB, hsz, HJ, HX⟩ := hrel
          have e1 := Lib.hid (valW_eq H.out)
          have hlen : (digs B64 (2 ^ j)).length ≤ 2000 := by
            rcases HX.out with h | h
            · exact Nat.le_trans (wlen_mono h) HXh.out
            · subst h; exact Nat.le_trans (small_len (by decide)) (by omega)
          go_wp2_with fail
          (with_reducible refine (has_c q c a (2 ^ j) b0 b1 b2 _ _ H.out CA.out HQ.out HCc.out (by omega) (by omega)).mono ?_)
          rintro e w2 ⟨rfl, hb2⟩
          replace H := Lib.hid (H.out.below hb2)
          replace CA := Lib.hid (CA.out.keep hb2)
          replace HB := HB.trans (hb2.mono hsz.out)
          replace hsz : Hid (b0 ≤ w2.heap.size) := Nat.le_trans hsz.out hb2.size
          clear hb2
          cases hh : hasN q.toNat c.toNat a (2 ^ j) with
          | true =>
            have hle := HLE.out _ hh (Nat.pow_pos (by omega))
            have HH : Hid (2 ^ (j + 1) ≤ 2 * bnd q.toNat c.toNat a) := by show _ ≤ _; rw [Nat.pow_succ]; omega
            have HJ2 : Hid (j + 1 = 0 ∨ hasN q.toNat c.toNat a (2 ^ (j + 1 - 1)) = true) := .inr hh
            have hle' := Lib.hid hle
            clear hh HJ HX hle
            go_wp2_with fail
            (with_reducible refine (Up1_c (2 ^ j) _ _ H.out (by omega)).mono ?_)
            rintro e w3 ⟨v, rfl, hv, hb3⟩
            rw [← Nat.pow_succ] at hv
            obtain ⟨A3, m3, k3, rfl, T3⟩ := hv.form
            have f1 := Lib.hid (valW_eq T3.out)
            clear hv
            go_wp2
            go_roundw
            case rel => exact ⟨j + 1, _, _, _, rfl, T3, CA.out.keep hb3, HB.trans (hb3.mono hsz.out), Nat.le_trans hsz.out hb3.size, HJ2, .inl HH.out⟩
            case measure => rw [f1.out, e1.out, Nat.pow_succ]; have := hle'.out; have : 0 < 2 ^ j := Nat.pow_pos (by omega); omega
          | false =>
            have HF := Lib.hid hh
            clear hh
            have HO := Lib.hid (Over2_c (2 ^ j) _ _ H.out (by omega))
            rcases Nat.eq_zero_or_pos j with hj0 | hj0
            · subst hj0
              have hT1 : isThr q.toNat c.toNat a 0 := ⟨.inl rfl, HF.out⟩
              have hT2 : 0 ≤ 2 * bnd q.toNat c.toNat a := Nat.zero_le _
              obtain ⟨T, hT⟩ : ∃ T, T = 0 := ⟨_, rfl⟩
              have hTS : ({ data := #[48] } : ByteArray) = tS ((T : Nat) : Int) := by subst hT; rfl
              rw [← hT] at hT1 hT2
              have HTS := Lib.hid hTS
              clear hTS hT HJ HX
              go_wp2_with fail
              (with_reducible refine HO.out.mono ?_)
              rintro e w3 ⟨g, mz, cz, rfl, hv, hb3⟩
              obtain rfl : mz = 0 := (wlen0 hv).2 rfl
              replace HB := HB.trans (hb3.mono hsz.out)
              replace hsz : Hid (b0 ≤ w3.heap.size) := Nat.le_trans hsz.out hb3.size
              clear hv hb3 HO H CA
              go_wp2_with fail
              rw [HTS.out]
              (with_reducible refine (nValid_c (tS ((T : Nat) : Int)) _ (tS_size (thr_len hT2 HXh.out))).mono ?_)
              rintro e w9 ⟨rfl, hb9⟩
              replace HB := HB.trans (hb9.mono hsz.out)
              clear hb9
              cases hv : vldL (codes (tS (T : Int))) with
              | true =>
                have HV := Lib.hid (bel_ok hv)
                have HE1 := Lib.hid HV.out.1
                have HE2 := Lib.hid HV.out.2
                clear hv
                generalize tS ((T : Nat) : Int) = TS at *
                go_wp2
                go_ret2
                exact ⟨by rw [HB0.out]; exact HB, .inr ⟨hG.out, T, hT1, hT2, by rw [HE1.out, HE2.out]; rfl⟩⟩
              | false =>
                have HV := Lib.hid (bel_no hv)
                clear hv
                generalize tS ((T : Nat) : Int) = TS at *
                go_wp2
                go_ret2
                exact ⟨by rw [HB0.out]; exact HB, .inr ⟨hG.out, T, hT1, hT2, by rw [HV.out.1, HV.out.2]; rfl⟩⟩
            · obtain ⟨i, rfl⟩ : ∃ i, j = i + 1 := ⟨j - 1, by omega⟩
              have hL := Lib.hid (HJ.out.resolve_left (by omega))
              have hXX := Lib.hid (HX.out.resolve_right (by omega))
              rw [Nat.add_sub_cancel] at hL
              have e2 : 2 ^ (i + 1) / 2 = 2 ^ i := by rw [Nat.pow_succ]; omega
              rw [e2] at HO
              clear e2 HJ HX
              go_wp2_with fail
              (with_reducible refine HO.out.mono ?_)
              rintro e w3 ⟨g, mz, cz, rfl, hv, hb3⟩
              have hmz : 0 < mz := by
                rcases Nat.eq_zero_or_pos mz with h0 | h0
                · have := (wlen0 hv).1 h0; have : 0 < 2 ^ i := Nat.pow_pos (by omega); omega
                · exact h0
              have T3 := Lib.hid hv
              replace H := Lib.hid (H.out.below hb3)
              replace CA := Lib.hid (CA.out.keep hb3)
              replace HB := HB.trans (hb3.mono hsz.out)
              replace hsz : Hid (b0 ≤ w3.heap.size) := Nat.le_trans hsz.out hb3.size
              clear hv hb3 HO
              go_wp2_with fail
              (with_reducible refine (halves_c q c a (2 ^ i) (2 ^ (i + 1)) b0 b1 b2 _ _ _ T3.out H.out CA.out HQ.out HCc.out (by omega) (by omega) hL.out HF.out (Nat.pow_lt_pow_right (by omega) (by omega))).mono ?_)
              rintro e w4 ⟨v, T, rfl, hv, hT1, hTl, hb4⟩
              have hT2 : T ≤ 2 * bnd q.toNat c.toNat a := Nat.le_trans (Nat.le_of_lt hTl) hXX.out
              obtain ⟨A4, m4, k4, rfl, T4⟩ := hv.form
              replace HB := HB.trans (hb4.mono hsz.out)
              replace hsz : Hid (b0 ≤ w4.heap.size) := Nat.le_trans hsz.out hb4.size
              clear hv hb4 hTl T3 H CA
              go_wp2_with fail
              (with_reducible refine (wDigits_c T _ _ T4.out (thr_len hT2 HXh.out)).mono ?_)
              rintro e w5 ⟨rfl, hb5⟩
              replace HB := HB.trans (hb5.mono hsz.out)
              replace hsz : Hid (b0 ≤ w5.heap.size) := Nat.le_trans hsz.out hb5.size
              have HV5 := Lib.hid (nValid_c (tS ((T : Nat) : Int)) · (tS_size (thr_len hT2 HXh.out)))
              have HOK := Lib.hid (fun h => bel_ok (T := T) h)
              have HNO := Lib.hid (fun h => bel_no (T := T) h)
              clear hb5 T4
              generalize tS ((T : Nat) : Int) = TS at *
              go_wp2_with fail
              (with_reducible refine (HV5.out _).mono ?_)
              rintro e w9 ⟨rfl, hb9⟩
              replace HB := HB.trans (hb9.mono hsz.out)
              clear hb9
              cases hv : vldL (codes TS) with
              | true =>
                have HV := Lib.hid (HOK.out hv)
                have HE1 := Lib.hid HV.out.1
                have HE2 := Lib.hid HV.out.2
                clear hv
                go_wp2
                go_ret2
                exact ⟨by rw [HB0.out]; exact HB, .inr ⟨hG.out, T, hT1, hT2, by rw [HE1.out, HE2.out]; rfl⟩⟩
              | false =>
                have HV := Lib.hid (HNO.out hv)
                clear hv
                go_wp2
                go_ret2
                exact ⟨by rw [HB0.out]; exact HB, .inr ⟨hG.out, T, hT1, hT2, by rw [HV.out.1, HV.out.2]; rfl⟩⟩
end Go.Proofs.Ytiaeeclmlchpoaa

set_option linter.unusedVariables false
set_option linter.unusedSimpArgs false
namespace Go.Proofs.Ytiaeeclmlchpoaa
open Go.RowKit

theorem digs10_1 (d : Nat) (h : 0 < d) (h2 : d < 10) : digs 10 d = [(d : Int)] := by
  rw [digs_pos (by omega) h, Nat.mod_eq_of_lt h2, Nat.div_eq_of_lt h2, digs_zero]
theorem tS_1 (d : Nat) (h : 0 < d) (h2 : d < 10) : tS (d : Int) = mkS [(d : Int) + 48] := by
  rw [tS_nat]; unfold txN; rw [if_neg (by omega), digs10_1 d h h2]; rfl
theorem tS_31 : tS ((31 : Nat) : Int) = ({ data := #[51, 49] } : ByteArray) := by
  rw [tS_nat]; unfold txN
  rw [if_neg (by omega), digs_pos (by omega) (by omega), digs10_1 (31 / 10) (by omega) (by omega)]; rfl
theorem sz1 (d : Nat) (h : 0 < d) (h2 : d < 10) : dlN d = 1 := by unfold dlN; rw [txN_length h, digs10_1 d h h2]; rfl
theorem bl_eq {n k : Nat} (h1 : 2 ^ k ≤ n) (h2 : n < 2 ^ (k + 1)) : bl n = k + 1 := digs_len_eq (B := 2) (by omega) h1 h2
theorem askE_31 {z a : Int} (hz : 0 < z) (h1 : 1 ≤ a) (h2 : a ≤ 20000) : ¬ askE 3 1 z a = false := by
  unfold askE; rw [decide_eq_true hz, decide_eq_true h1, decide_eq_true h2]; decide
theorem dl_small {z : Int} (h : 0 < z) (h2 : z < 10) : (dlN (3 * z + 1).natAbs : Int) ≤ 2011 := by
  have h3 : dlN z.natAbs ≤ 2000 := by rw [sz1 z.natAbs (by omega) (by omega)]; omega
  have := (dl_top (q := 3) (c := 1) (z := z) ⟨by omega, by omega⟩ ⟨by omega, by omega⟩ h h3).1
  omega
theorem bfit_1 : bfit 3 1 1 1 2 = (true, 0) := by
  unfold bfit
  rw [if_neg (askE_31 (by omega) (by omega) (by omega)), if_neg (by omega), if_neg (by have := dl_small (z := 1) (by omega) (by omega); omega)]
  rfl
theorem bfit_2 : bfit 3 1 2 1 2 = (false, 0) := by
  unfold bfit
  rw [if_neg (askE_31 (by omega) (by omega) (by omega)), if_neg (by omega), if_neg (by have := dl_small (z := 2) (by omega) (by omega); omega)]
  rfl
theorem bl3 : bl (3 ^ 1) = 2 := bl_eq (k := 1) (by decide) (by decide)
theorem bl9 : bl (3 ^ 2) = 4 := bl_eq (k := 3) (by decide) (by decide)
theorem bl27 : bl (3 ^ 3) = 5 := bl_eq (k := 4) (by decide) (by decide)
theorem bl81 : bl (3 ^ 4) = 7 := bl_eq (k := 6) (by decide) (by decide)
theorem bl243 : bl (3 ^ 5) = 8 := bl_eq (k := 7) (by decide) (by decide)
theorem lst_6 : lstN 3 1 6 0 10 = some (5, 8) := by
  simp only [lstN, Nat.zero_add, Nat.reduceAdd]
  rw [bl3, bl9, bl27, bl81, bl243]
  rfl
theorem bleast_6 : bleast 3 1 6 10 = (5, 8, 0) := by
  unfold bleast
  rw [if_neg (askE_31 (by omega) (by omega) (by omega)), if_neg (by have := dl_small (z := 6) (by omega) (by omega); omega)]
  show (match lstN 3 1 6 0 10 with | some (i, j) => ((i, j, 0) : Nat × Nat × Int) | none => (0, 0, 4)) = _
  rw [lst_6]
theorem thr_31 : isThr 3 1 5 31 := by
  refine ⟨.inr ?_, ?_⟩
  · unfold hasN; rw [bl243]; rfl
  · unfold hasN; rw [bl243]; rfl
theorem vld_31 : vldL (codes (tS ((31 : Nat) : Int))) = true := by
  rw [codes_tS]
  apply vld_tx
  show dlN 31 ≤ 2000
  unfold dlN
  rw [txN_length (by omega), digs_pos (by omega) (by omega), digs10_1 (31 / 10) (by omega) (by omega)]
  decide
set_option maxRecDepth 100000 in
set_option maxHeartbeats 4000000 in
theorem awake_c (w : World) : Calls Try.prog 11 #[] w fun e w' => e = .returned (.bool true) ∧ Below w.heap.size w w' := by
  have s1 : ({ data := #[49] } : ByteArray) = tS 1 := (tS_1 1 (by omega) (by omega)).symm
  have s2 : ({ data := #[50] } : ByteArray) = tS 2 := (tS_1 2 (by omega) (by omega)).symm
  have s6 : ({ data := #[54] } : ByteArray) = tS 6 := (tS_1 6 (by omega) (by omega)).symm
  have v1 : ∀ {d : Int}, 0 < d → d < 10 → vldL (codes (tS d)) = true := fun {d} h1 h2 => by
    rw [codes_tS]; apply vld_tx; rw [sz1 d.natAbs (by omega) (by omega)]; omega
  have S1 := Lib.hid s1
  have S2 := Lib.hid s2
  have S6 := Lib.hid s6
  have V1 : Hid (vldL (codes (tS 1)) = true) := v1 (by omega) (by omega)
  have V2 : Hid (vldL (codes (tS 2)) = true) := v1 (by omega) (by omega)
  have V6 : Hid (vldL (codes (tS 6)) = true) := v1 (by omega) (by omega)
  have F1 := fun w => bFits_c 3 1 1 2 { data := #[49] } w (by decide) (by omega) (by omega)
  have F2 := fun w => bFits_c 3 1 1 2 { data := #[50] } w (by decide) (by omega) (by omega)
  have F6 := fun w => bLeast_c 3 1 10 { data := #[54] } w (by decide)
  have F1 := Lib.hid F1
  have F2 := Lib.hid F2
  have F6 := Lib.hid F6
  clear s1 s2 s6 v1
  go_enter Try.func11, Try.ntmps11
  go_wp2_with fail
  (with_reducible refine (F1.out _).mono ?_)
  rintro e w1 ⟨HB1, h⟩
  obtain rfl : e = .returned (.tuple #[.bool true, .int .i64 0]) := by
    rcases h with ⟨hv, _⟩ | ⟨z, hz, _, he⟩
    · rw [S1.out, V1.out] at hv; cases hv
    · rw [S1.out] at hz
      have := tS_inj hz
      subst this
      rw [bfit_1] at he; exact he
  clear h
  go_wp2_with fail
  (with_reducible refine (F2.out _).mono ?_)
  rintro e w2 ⟨HB2, h⟩
  obtain rfl : e = .returned (.tuple #[.bool false, .int .i64 0]) := by
    rcases h with ⟨hv, _⟩ | ⟨z, hz, _, he⟩
    · rw [S2.out, V2.out] at hv; cases hv
    · rw [S2.out] at hz
      have := tS_inj hz
      subst this
      rw [bfit_2] at he; exact he
  clear h
  go_wp2_with fail
  (with_reducible refine (F6.out _).mono ?_)
  rintro e w3 ⟨HB3, h⟩
  obtain rfl : e = .returned (.tuple #[.int .i64 5, .int .i64 8, .int .i64 0]) := by
    rcases h with ⟨hv, _⟩ | ⟨z, hz, _, he⟩
    · rw [S6.out, V6.out] at hv; cases hv
    · rw [S6.out] at hz
      have := tS_inj hz
      subst this
      rw [bleast_6] at he; exact he
  clear h
  go_wp2_with fail
  (with_reducible refine (bBelow_c 3 1 5 _).mono ?_)
  rintro e w4 ⟨HB4, h⟩
  obtain rfl : e = .returned (.tuple #[.string { data := #[51, 49] }, .int .i64 0]) := by
    rcases h with ⟨hv, _⟩ | ⟨_, T, hT, _, he⟩
    · exact absurd hv (by decide)
    · have := thr_31.unique hT
      subst this
      obtain ⟨e1, e2⟩ := bel_ok vld_31
      rw [e1, e2, tS_31] at he; exact he
  clear h
  have HB := below_step (below_step (below_step HB1 HB2) HB3) HB4
  clear HB1 HB2 HB3 HB4
  go_wp2
  go_ret
  exact ⟨rfl, HB⟩
end Go.Proofs.Ytiaeeclmlchpoaa
