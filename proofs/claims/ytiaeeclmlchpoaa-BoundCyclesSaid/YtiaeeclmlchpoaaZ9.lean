/- What the functions of the eighth reference do to memory and what they return. No condition. -/
import Derived.Test.YtiaeeclmlchpoaaZ5
import Derived.Test.YtiaeeclmlchpoaaZ6
import Derived.Test.YtiaeeclmlchpoaaZ4
set_option linter.unusedVariables false
set_option linter.unusedSimpArgs false
namespace Go.Proofs.Ytiaeeclmlchpoaa
open Go.RowKit

/-- k is the least with q^a < 2^k. -/
def Twos (q : Int) (a k : Nat) : Prop := q ^ a < 2 ^ k ∧ ∀ j, q ^ a < 2 ^ j → k ≤ j
theorem ipow_le {x y : Int} (h0 : 0 ≤ x) (h : x ≤ y) (a : Nat) : x ^ a ≤ y ^ a := by
  induction a with
  | zero => simp
  | succ a ih =>
    rw [Int.pow_succ, Int.pow_succ]
    exact Int.mul_le_mul ih h h0 (Int.pow_nonneg (by omega))
theorem pow_two_lt {q : Int} {a : Nat} (h0 : 0 ≤ q) (h1 : q < 1024) : q ^ a < 2 ^ (10 * a + 1) := by
  have h : q ^ a ≤ 1024 ^ a := ipow_le h0 (by omega) a
  have e : (2 : Int) ^ (10 * a + 1) = 1024 ^ a * 2 := by rw [Int.pow_succ, Int.pow_mul]; rfl
  have hp : (0 : Int) < 1024 ^ a := Int.pow_pos (by omega)
  rw [e]; omega
theorem Twos.le {q : Int} {a k : Nat} (h : Twos q a k) (h0 : 0 ≤ q) (h1 : q < 1024) : k ≤ 10 * a + 1 := h.2 _ (pow_two_lt h0 h1)
theorem two_le {k j : Nat} (h : k ≤ j) : (2 : Int) ^ k ≤ 2 ^ j := by
  have : (2 : Nat) ^ k ≤ 2 ^ j := Nat.pow_le_pow_right (by omega) h
  have h2 : ((2 ^ k : Nat) : Int) ≤ ((2 ^ j : Nat) : Int) := by omega
  rwa [Int.natCast_pow, Int.natCast_pow] at h2
theorem two_lt {k j : Nat} (h : (2 : Int) ^ k < 2 ^ j) : k < j := by
  rcases Nat.lt_or_ge k j with h1 | h1
  · exact h1
  · have := two_le h1; omega
theorem Twos.mk' {q : Int} {a k : Nat} (h : q ^ a < 2 ^ k) (h1 : k = 0 ∨ ∃ j, k = j + 1 ∧ 2 ^ j ≤ q ^ a) : Twos q a k := by
  refine ⟨h, fun j hj => ?_⟩
  rcases h1 with rfl | ⟨i, rfl, hi⟩
  · omega
  · exact two_lt (k := i) (j := j) (by omega)
theorem Twos.unique {q : Int} {a k k' : Nat} (h : Twos q a k) (h' : Twos q a k') : k = k' := by
  have := h.2 _ h'.1; have := h'.2 _ h.1; omega
theorem len_two {k : Nat} (h : k ≤ 900000000) : (dg B9 ((2 : Int) ^ k)).length ≤ 1000000000 := by
  have h1 := len_pow B9two 2 k
  have h2 : (dg B9 2).length ≤ 1 := len_le B9two (by decide)
  have := Nat.mul_le_mul_right k h2
  omega

set_option maxRecDepth 100000 in
set_option maxHeartbeats 2000000 in
theorem Twos_c (q : Int) (a : Nat) (w : World) (hq0 : 0 < q) (hq1 : q < 1024) (ha : a ≤ 1000000) :
    Calls Try.prog 26 #[.int .i64 q, .int .i64 a] w fun e w' => ∃ k : Nat, e = .returned (.int .i64 k) ∧ Twos q a k ∧ Below w.heap.size w w' := by
  have lq : Hid ((dg B9 q).length * (2 * a + 1) + 1 ≤ 1000000000) := by
    have h1 : (dg B9 q).length ≤ 2 := len_int (by omega) (by omega)
    have := Nat.mul_le_mul h1 (show 2 * a + 1 ≤ 2000001 by omega); show _ ≤ _; omega
  have hpos : 0 < q ^ a := Int.pow_pos hq0
  have hlim := pow_two_lt (a := a) (show 0 ≤ q by omega) hq1
  have HL := Lib.hid hlim
  have HP := Lib.hid hpos
  clear hlim hpos
  go_enter Try.func26, Try.ntmps26
  go_wp2_with (first
    | (go_at_call 28; (with_reducible refine (Of_c q w (by omega) (by omega)).mono ?_); rintro e w1 ⟨v, rfl, hv, hb1⟩; obtain ⟨n1, A1, m1, k1, rfl, H1⟩ := hv.form; clear hv)
    | (go_at_call 37; (with_reducible refine (Power_c q a _ _ H1.out (by omega) lq.out).mono ?_); rintro e w2 ⟨v, rfl, hv, hb2⟩; obtain ⟨n2, A2, m2, k2, rfl, H2⟩ := hv.form; clear hv; have VQ := VX.new w2 28 H2.out; have HB := below_alloc (below_step hb1 hb2) (Obj.cells #[Value.bool n2, Value.slice A2 m2 k2] 28))
    | (go_at_call 28; (with_reducible refine (Of_c 1 _ (by omega) (by omega)).mono ?_); rintro e w3 ⟨v, rfl, hv, hb3⟩; obtain ⟨n3, A3, m3, k3, rfl, H3⟩ := hv.form; clear hv; replace VQ := VQ.keep hb3; replace HB := below_step HB hb3))
  generalize hW : w3.alloc (Obj.cells #[Value.bool n3, Value.slice A3 m3 k3] 28) = W
  have VT : VN W w3.heap.size n3 A3 m3 k3 1 := by subst hW; exact VX.new w3 _ H3.out
  have hk : Below w3.heap.size w3 W := by subst hW; exact below_alloc (Below.refl _ _) _
  replace VQ := VQ.keep hk
  replace HB := below_step HB hk
  have hbt : w.heap.size ≤ w3.heap.size := by have := hb1.size; have := hb2.size; have := hb3.size; simp at this; omega
  have hne : w2.heap.size ≠ w3.heap.size := by have := hb3.size; simp at this; omega
  have hbq : w.heap.size ≤ w2.heap.size := Nat.le_trans hb1.size hb2.size
  clear hW hk H1 H2 H3 hb1 hb2 hb3
  generalize w2.heap.size = bq at *
  generalize w3.heap.size = bt at *
  go_loopw [5, 7] (fun kv tv wr => ∃ (k bt : Nat) (nb : Bool) (A' : Option Addr) (a' b' : Nat), kv = .int .i64 k ∧ tv = .pointer (some ⟨bt, 0, none⟩) ∧ bq ≠ bt ∧ w.heap.size ≤ bt ∧ VN wr bq n2 A2 m2 k2 (q ^ a) ∧ VN wr bt nb A' a' b' (2 ^ k) ∧ Below w.heap.size w wr ∧ k ≤ 10 * a + 1 ∧ Hid (k = 0 ∨ ∃ j, k = j + 1 ∧ 2 ^ j ≤ q ^ a)) (fun kv _ _ => 10 * a + 1 - (intOf kv).toNat)
  case atStart => exact ⟨0, bt, _, _, _, _, rfl, rfl, hne, hbt, VQ, VT, HB, by omega, .inl rfl⟩
  case round =>
    clear VQ VT HB hne hbt
    obtain ⟨k, bt, nb, A', a', b', rfl, rfl, hne, hbt, VQ, VT, HB, hk, HI⟩ := hrel
    have vq0 := VQ.c0; have vq1 := VQ.c1; have vqf := VQ.f0; have vqg := VQ.f1; have vql := VQ.lt
    have vt0 := VT.c0; have vt1 := VT.c1; have vtf := VT.f0; have vtg := VT.f1; have vtl := VT.lt
    by_cases hlt : q ^ a < 2 ^ k
    · have hg : decide (0 ≤ icmp (q ^ a) (2 ^ k)) = false := decide_eq_false (by have := (icmp_lt (q ^ a) (2 ^ k)).2 hlt; omega)
      have hg2 : icmp (q ^ a) (2 ^ k) < 0 := (icmp_lt _ _).2 hlt
      have HT := Lib.hid (Twos.mk' hlt HI.out)
      clear HI hlt
      go_wp2_with (go_at_call 23; (with_reducible refine (Cmp_c (q ^ a) (2 ^ k) _ _ _ VQ.iz.out VT.iz.out).mono ?_); rintro e w4 ⟨rfl, hb4⟩)
      go_ret
      exact ⟨k, rfl, HT.out, below_step HB hb4⟩
    · have hg : decide (0 ≤ icmp (q ^ a) (2 ^ k)) = true := decide_eq_true (by have := (icmp_lt (q ^ a) (2 ^ k)).1; omega)
      have hg2 : 0 ≤ icmp (q ^ a) (2 ^ k) := by have := (icmp_lt (q ^ a) (2 ^ k)).1; omega
      have hk2 : k < 10 * a + 1 := two_lt (by have := HL.out; omega)
      have HT : Hid (k + 1 = 0 ∨ ∃ j, k + 1 = j + 1 ∧ 2 ^ j ≤ q ^ a) := .inr ⟨k, rfl, by omega⟩
      have LT := Lib.hid (len_two (k := k) (by omega))
      have E2 : Hid ((2 : Int) ^ k + 2 ^ k = 2 ^ (k + 1)) := by show _ = _; rw [Int.pow_succ]; omega
      clear HI hlt
      go_wp2_with (first
        | (go_at_call 23; (with_reducible refine (Cmp_c (q ^ a) (2 ^ k) _ _ _ VQ.iz.out VT.iz.out).mono ?_); rintro e w4 ⟨rfl, hb4⟩; replace VQ := VQ.keep hb4; replace VT := VT.keep hb4; replace HB := below_step HB hb4; clear vq0 vq1 vqf vqg vql vt0 vt1 vtf vtg vtl; have vq0 := VQ.c0; have vq1 := VQ.c1; have vqf := VQ.f0; have vqg := VQ.f1; have vql := VQ.lt; have vt0 := VT.c0; have vt1 := VT.c1; have vtf := VT.f0; have vtg := VT.f1; have vtl := VT.lt)
        | (go_at_call 27; (with_reducible refine (Add_c (2 ^ k) (2 ^ k) _ _ _ (by exact VT.iz.out.below (by repeat (with_reducible first | assumption | exact Below.refl _ _ | apply below_drew | apply below_drewN | apply below_alloc | refine below_step ?_ (by assumption)))) (by exact VT.iz.out.below (by repeat (with_reducible first | assumption | exact Below.refl _ _ | apply below_drew | apply below_drewN | apply below_alloc | refine below_step ?_ (by assumption)))) (by have := LT.out; omega) (by have := LT.out; omega)).mono ?_); rintro e w5 ⟨v, rfl, hv, hb5⟩; obtain ⟨n5, A5, m5, k5, rfl, H5⟩ := hv.form; clear hv; have VT5 := (VX.new w4 28 VT.iz.out).keep hb5; have VQ5 := (VQ.keep (below_alloc (Below.refl _ _) (Obj.cells #[Value.bool nb, Value.slice A' a' b'] 28))).keep hb5; have vu0 := VT5.c0; have vu1 := VT5.c1; have vuf := VT5.f0; have vug := VT5.f1; have vul := VT5.lt; have vv0 := VQ5.c0; have vv1 := VQ5.c1; have vvf := VQ5.f0; have vvg := VQ5.f1; have vvl := VQ5.lt; have RT := VT5.res))
      go_roundw
      case rel => exact ⟨k + 1, w4.heap.size, _, _, _, _, by go_num, rfl, Nat.ne_of_lt vql, Nat.le_trans hbt (Nat.le_of_lt vtl), VQ5.far RT (Ne.symm (Nat.ne_of_lt vql)), by rw [← E2.out]; exact VX.store RT H5.out, below_set2 (below_step (below_alloc HB _) hb5) (Nat.le_trans hbt (Nat.le_of_lt vtl)) _ _, by omega, HT.out⟩
      case measure => simp [intOf]; omega
end Go.Proofs.Ytiaeeclmlchpoaa

set_option linter.unusedVariables false
set_option linter.unusedSimpArgs false
namespace Go.Proofs.Ytiaeeclmlchpoaa
open Go.RowKit

def tw (q : Int) (a : Nat) : Nat := Nat.log2 (q ^ a).toNat + 1
theorem tw_twos {q : Int} (h : 0 < q) (a : Nat) : Twos q a (tw q a) := by
  have hp : 0 < q ^ a := Int.pow_pos h
  obtain ⟨n, hn⟩ : ∃ n : Nat, q ^ a = n := ⟨(q ^ a).toNat, by omega⟩
  have hn0 : n ≠ 0 := by omega
  have e : tw q a = Nat.log2 n + 1 := by unfold tw; rw [hn]; rfl
  have h1 := Nat.log2_self_le hn0
  have h2 := @Nat.lt_log2_self n
  rw [e]
  apply Twos.mk'
  · rw [hn]
    have : ((n : Nat) : Int) < ((2 ^ (Nat.log2 n + 1) : Nat) : Int) := by omega
    rwa [Int.natCast_pow] at this
  · refine .inr ⟨Nat.log2 n, rfl, ?_⟩
    rw [hn]
    have : ((2 ^ Nat.log2 n : Nat) : Int) ≤ n := by omega
    rwa [Int.natCast_pow] at this
theorem Twos.eq {q : Int} (h : 0 < q) {a k : Nat} (hk : Twos q a k) : k = tw q a := hk.unique (tw_twos h a)
/-- Some pair with a fits. -/
def okA (q c n : Int) (a : Nat) : Bool := decide (2 ^ tw q a * n ^ a ≤ (q * n + c) ^ a)
def lst (q c n : Int) : Nat → Nat → Option (Nat × Nat)
  | _, 0 => none
  | a, f + 1 => if okA q c n a then some (a, tw q a) else lst q c n (a + 1) f

def resL : Option (Nat × Nat) → Value
  | some (a, k) => .tuple #[.int .i64 a, .int .i64 k, .bool true]
  | none => .tuple #[.int .i64 0, .int .i64 0, .bool false]
end Go.Proofs.Ytiaeeclmlchpoaa

set_option linter.unusedVariables false
set_option linter.unusedSimpArgs false
namespace Go.Proofs.Ytiaeeclmlchpoaa
open Go.RowKit

theorem tw_bl {q : Nat} (hq : 0 < q) (a : Nat) : tw (q : Int) a = bl (q ^ a) := by
  have hp : 0 < q ^ a := Nat.pow_pos hq
  have e : ((q : Int) ^ a).toNat = q ^ a := by rw [← Int.natCast_pow]; rfl
  unfold tw
  rw [e, bl_eq (Nat.log2_self_le (by omega)) Nat.lt_log2_self]
theorem okA_hasN {q c n : Nat} (hq : 0 < q) (a : Nat) : okA (q : Int) c n a = hasN q c a n := by
  unfold okA
  rw [tw_bl hq, Bool.eq_iff_iff, hasN_iff, decide_eq_true_eq]
  have e : (2 : Int) ^ bl (q ^ a) = ((2 ^ bl (q ^ a) : Nat) : Int) := by rw [Int.natCast_pow]; rfl
  rw [e]
  simp only [← Int.natCast_pow, ← Int.natCast_mul, ← Int.natCast_add]
  rw [Nat.mul_comm (n ^ a)]
  omega
theorem lst_lstN {q c n : Nat} (hq : 0 < q) (f : Nat) : ∀ i, lst (q : Int) c n (i + 1) f = lstN q c n i f := by
  induction f with
  | zero => intro i; rfl
  | succ f ih =>
    intro i
    unfold lst lstN
    rw [okA_hasN hq, ih, tw_bl hq]; rfl
theorem fitN_mono {q c a k n m : Nat} (h : fitN q c n a k = true) (hm : 0 < m) (hmn : m ≤ n) : fitN q c m a k = true := by
  unfold fitN at h ⊢
  simp only [Bool.and_eq_true, decide_eq_true_eq] at h ⊢
  refine ⟨h.1, ?_⟩
  have h1 : m * (q * n + c) ≤ n * (q * m + c) := by
    have : m * c ≤ n * c := Nat.mul_le_mul_right _ hmn
    have e : m * (q * n) = n * (q * m) := by grind
    rw [Nat.mul_add, Nat.mul_add]; omega
  have h2 := Nat.pow_le_pow_left h1 a
  rw [Nat.mul_pow, Nat.mul_pow] at h2
  have h3 := Nat.mul_le_mul_left (m ^ a) h.2
  have hnp : 0 < n ^ a := Nat.pow_pos (by omega)
  have h4 : n ^ a * (m ^ a * 2 ^ k) ≤ n ^ a * (q * m + c) ^ a := by
    have e : n ^ a * (m ^ a * 2 ^ k) = m ^ a * (n ^ a * 2 ^ k) := by grind
    rw [e]; exact Nat.le_trans h3 h2
  exact Nat.le_of_mul_le_mul_left h4 hnp
theorem lstN_ge {q c n : Nat} (f : Nat) : ∀ {i j k}, lstN q c n i f = some (j, k) → i < j ∧ j ≤ i + f ∧ k = bl (q ^ j) ∧ fitN q c n j k = true := by
  induction f with
  | zero => intro i j k h; cases h
  | succ f ih =>
    intro i j k h
    unfold lstN at h
    split at h
    · rename_i hf
      injection h with h
      injection h with h1 h2
      subst h1 h2
      exact ⟨by omega, by omega, rfl, hf⟩
    · have := ih h
      exact ⟨by omega, by omega, this.2.2.1, this.2.2.2⟩
theorem lstN_mono {q c n m : Nat} (hm : 0 < m) (hmn : m ≤ n) (f : Nat) : ∀ {i j k}, lstN q c n i f = some (j, k) → ∃ j' k', lstN q c m i f = some (j', k') ∧ j' ≤ j := by
  induction f with
  | zero => intro i j k h; cases h
  | succ f ih =>
    intro i j k h
    have hg := (lstN_ge (f + 1) h).1
    unfold lstN at h ⊢
    by_cases h1 : fitN q c m (i + 1) (bl (q ^ (i + 1))) = true
    · rw [if_pos h1]; exact ⟨_, _, rfl, by omega⟩
    · rw [if_neg h1]
      have h2 : ¬ fitN q c n (i + 1) (bl (q ^ (i + 1))) = true := fun h2 => h1 (fitN_mono h2 hm hmn)
      rw [if_neg h2] at h
      exact ih h
theorem lstN_of {q c n j : Nat} (f : Nat) : ∀ {i}, i < j → j ≤ i + f → fitN q c n j (bl (q ^ j)) = true → ∃ j' k', lstN q c n i f = some (j', k') ∧ j' ≤ j := by
  induction f with
  | zero => intro i h1 h2; omega
  | succ f ih =>
    intro i h1 h2 h
    unfold lstN
    by_cases hf : fitN q c n (i + 1) (bl (q ^ (i + 1))) = true
    · rw [if_pos hf]; exact ⟨_, _, rfl, by omega⟩
    · rw [if_neg hf]
      refine ih ?_ (by omega) h
      rcases Nat.lt_or_ge (i + 1) j with h3 | h3
      · exact h3
      · obtain rfl : j = i + 1 := by omega
        exact absurd h hf
theorem lstN_none {q c n : Nat} (f : Nat) : ∀ {i j k f'}, lstN q c n i f = some (j, k) → i + f' < j → lstN q c n i f' = none := by
  induction f with
  | zero => intro i j k f' h; cases h
  | succ f ih =>
    intro i j k f' h hj
    cases f' with
    | zero => rfl
    | succ f' =>
      unfold lstN at h ⊢
      by_cases h1 : fitN q c n (i + 1) (bl (q ^ (i + 1))) = true
      · rw [if_pos h1] at h
        injection h with h
        injection h with h2 h3
        omega
      · rw [if_neg h1] at h ⊢
        exact ih h (by omega)
theorem fitN_mul {q c n a k : Nat} (h : fitN q c n a k = true) (j : Nat) (hj : 0 < j) : fitN q c n (j * a) (j * k) = true := by
  unfold fitN at h ⊢
  simp only [Bool.and_eq_true, decide_eq_true_eq] at h ⊢
  have e : ∀ x y : Nat, x ^ (j * y) = (x ^ y) ^ j := fun x y => by rw [Nat.mul_comm, Nat.pow_mul]
  rw [e, e, e, e, ← Nat.mul_pow]
  exact ⟨Nat.pow_lt_pow_left h.1 (by omega), Nat.pow_le_pow_left h.2 j⟩
theorem dlN_mono {m n : Nat} (h : m ≤ n) : dlN m ≤ dlN n := by
  rcases Nat.eq_zero_or_pos m with h0 | h0
  · subst h0; exact dlN_pos n
  · unfold dlN
    rw [txN_length h0, txN_length (by omega)]
    exact digs_len_mono (by omega) h
theorem dlN_le {n k : Nat} (h : n < 10 ^ k) (hk : 0 < k) : dlN n ≤ k := by
  rcases Nat.eq_zero_or_pos n with h0 | h0
  · subst h0; unfold dlN txN; simp; omega
  · unfold dlN; rw [txN_length h0]; exact digs_len_le (by omega) h
/-- The error of a greater number is not less. -/
theorem sum_mono {q c x y : Int} (hq : 0 ≤ q) (hc : 0 ≤ c) (hx : 0 ≤ x) (h : x ≤ y) : dlN (q * x + c).natAbs ≤ dlN (q * y + c).natAbs := by
  have h1 : q * x ≤ q * y := Int.mul_le_mul_of_nonneg_left h hq
  have h2 : 0 ≤ q * x := Int.mul_nonneg hq hx
  exact dlN_mono (by omega)
/-- The pair with the least k decides. -/
theorem fit_has {q c n a k : Nat} (h : fitN q c n a k = true) : hasN q c a n = true := by
  rw [hasN_iff]
  unfold fitN at h
  simp only [Bool.and_eq_true, decide_eq_true_eq] at h
  have h1 : bl (q ^ a) ≤ k := bl_le h.1
  exact Nat.le_trans (Nat.mul_le_mul_left _ (Nat.pow_le_pow_right (by omega) h1)) h.2
theorem fit_less {q c n a k : Nat} (h : k < bl (q ^ a)) : fitN q c n a k = false := by
  unfold fitN
  rw [decide_eq_false (fun h2 => by have := bl_le h2; omega)]; rfl
end Go.Proofs.Ytiaeeclmlchpoaa

set_option linter.unusedVariables false
set_option linter.unusedSimpArgs false
namespace Go.Proofs.Ytiaeeclmlchpoaa
open Go.RowKit

theorem tS_sz {z : Int} (h : dlN z.natAbs ≤ 2000) : (tS z).size ≤ 9223372036854775807 := by
  unfold tS; rw [mkS_size]; unfold tx
  have : (txN z.natAbs).length ≤ 2000 := h
  split <;> simp <;> omega
theorem vld_tS {z : Int} (h : dlN z.natAbs ≤ 2000) : vldL (codes (tS z)) = true := by rw [codes_tS]; exact vld_tx z h
theorem vld_cases (s : ByteArray) : vldL (codes s) = false ∨ ∃ z : Int, s = tS z ∧ dlN z.natAbs ≤ 2000 := by
  rcases Bool.eq_false_or_eq_true (vldL (codes s)) with h | h
  · exact .inr (dig_of_valid h)
  · exact .inl h
theorem due_v (q c a z : Int) (w : World) (hz : dlN z.natAbs ≤ 2000) :
    Calls Try.prog 12 #[.int .i64 q, .int .i64 c, .string (tS z), .int .i64 a] w fun e w' => e = .returned (.int .i64 (dueE q c z a)) ∧ Below w.heap.size w w' := by
  refine (due_c q c a (tS z) w (tS_sz hz)).mono ?_
  rintro e w' ⟨hb, ⟨hv, _⟩ | ⟨z', h, _, rfl⟩⟩
  · rw [vld_tS hz] at hv; cases hv
  · have := tS_inj h; subst this; exact ⟨rfl, hb⟩
theorem due_no (q c a : Int) (s : ByteArray) (w : World) (hs : s.size ≤ 9223372036854775807) (hv : vldL (codes s) = false) :
    Calls Try.prog 12 #[.int .i64 q, .int .i64 c, .string s, .int .i64 a] w fun e w' => e = .returned (.int .i64 1) ∧ Below w.heap.size w w' := by
  refine (due_c q c a s w hs).mono ?_
  rintro e w' ⟨hb, ⟨_, rfl⟩ | ⟨z', h, hz, _⟩⟩
  · exact ⟨rfl, hb⟩
  · rw [h, vld_tS hz] at hv; cases hv
theorem heavy_v (q c a most z : Int) (w : World) (hz : dlN z.natAbs ≤ 2000) :
    Calls Try.prog 10 #[.int .i64 q, .int .i64 c, .string (tS z), .int .i64 a, .int .i64 most] w fun e w' => e = .returned (.bool (heavyB q c z a most)) ∧ Below w.heap.size w w' := by
  refine (heavy_c q c a most (tS z) w (tS_sz hz)).mono ?_
  rintro e w' ⟨hb, ⟨hv, _⟩ | ⟨z', h, _, rfl⟩⟩
  · rw [vld_tS hz] at hv; cases hv
  · have := tS_inj h; subst this; exact ⟨rfl, hb⟩
theorem heavy_no (q c a most : Int) (s : ByteArray) (w : World) (hs : s.size ≤ 9223372036854775807) (hv : vldL (codes s) = false) :
    Calls Try.prog 10 #[.int .i64 q, .int .i64 c, .string s, .int .i64 a, .int .i64 most] w fun e w' => e = .returned (.bool false) ∧ Below w.heap.size w w' := by
  refine (heavy_c q c a most s w hs).mono ?_
  rintro e w' ⟨hb, ⟨_, rfl⟩ | ⟨z', h, hz, _⟩⟩
  · exact ⟨rfl, hb⟩
  · rw [h, vld_tS hz] at hv; cases hv
theorem fits_v (q c a k z : Int) (w : World) (hz : dlN z.natAbs ≤ 2000) (hk0 : -9223372036854775808 ≤ k) (hk1 : k ≤ 9223372036854775807) :
    Calls Try.prog 16 #[.int .i64 q, .int .i64 c, .string (tS z), .int .i64 a, .int .i64 k] w fun e w' => e = .returned (.tuple #[.bool (bfit q c z a k).1, .int .i64 (bfit q c z a k).2]) ∧ Below w.heap.size w w' := by
  refine (bFits_c q c a k (tS z) w (tS_sz hz) hk0 hk1).mono ?_
  rintro e w' ⟨hb, ⟨hv, _⟩ | ⟨z', h, _, rfl⟩⟩
  · rw [vld_tS hz] at hv; cases hv
  · have := tS_inj h; subst this; exact ⟨rfl, hb⟩
theorem least_v (q c a z : Int) (w : World) (hz : dlN z.natAbs ≤ 2000) :
    Calls Try.prog 18 #[.int .i64 q, .int .i64 c, .string (tS z), .int .i64 a] w fun e w' => e = .returned (.tuple #[.int .i64 (bleast q c z a).1, .int .i64 (bleast q c z a).2.1, .int .i64 (bleast q c z a).2.2]) ∧ Below w.heap.size w w' := by
  refine (bLeast_c q c a (tS z) w (tS_sz hz)).mono ?_
  rintro e w' ⟨hb, ⟨hv, _⟩ | ⟨z', h, _, rfl⟩⟩
  · rw [vld_tS hz] at hv; cases hv
  · have := tS_inj h; subst this; exact ⟨rfl, hb⟩
theorem least_no (q c a : Int) (s : ByteArray) (w : World) (hs : s.size ≤ 9223372036854775807) (hv : vldL (codes s) = false) :
    Calls Try.prog 18 #[.int .i64 q, .int .i64 c, .string s, .int .i64 a] w fun e w' => e = .returned (.tuple #[.int .i64 0, .int .i64 0, .int .i64 1]) ∧ Below w.heap.size w w' := by
  refine (bLeast_c q c a s w hs).mono ?_
  rintro e w' ⟨hb, ⟨_, rfl⟩ | ⟨z', h, hz, _⟩⟩
  · exact ⟨rfl, hb⟩
  · rw [h, vld_tS hz] at hv; cases hv
/-- What bound.Fits answers, of arguments that are as they have to be. -/
theorem bfit_val {q c z a k : Int} (h : askE q c z a = true) (h1 : 1 ≤ k) (h2 : k ≤ 200000) :
    bfit q c z a k = if 100000 < a * (dlN (q * z + c).natAbs : Int) then (false, 3) else (fitN q.toNat c.toNat z.natAbs a.toNat k.toNat, 0) := by
  unfold bfit; rw [if_neg (by rw [h]; exact Bool.noConfusion), if_neg (by omega)]
theorem bleast_val {q c z a : Int} (h : askE q c z a = true) :
    bleast q c z a = if 100000 < a * (dlN (q * z + c).natAbs : Int) then ((0, 0, 3) : Nat × Nat × Int) else match lstN q.toNat c.toNat z.natAbs 0 a.toNat with
    | some (i, j) => (i, j, 0)
    | none => (0, 0, 4) := by
  unfold bleast; rw [if_neg (by rw [h]; exact Bool.noConfusion)]; rfl
end Go.Proofs.Ytiaeeclmlchpoaa

set_option linter.unusedVariables false
set_option linter.unusedSimpArgs false
namespace Go.Proofs.Ytiaeeclmlchpoaa
open Go.RowKit

set_option maxRecDepth 100000 in
set_option maxHeartbeats 4000000 in
theorem Least8_c (q c x : Int) (most : Nat) (v : Value) (w : World) (h : IsN w v x) (hq0 : 0 < q) (hq1 : q < 1024) (hc : -1000000 < c ∧ c < 1000000) (hx : 0 ≤ x) (sx : ((dg B9 x).length + 20) * (2 * most + 3) + 1 ≤ 100000000) (ha : most ≤ 1000000) :
    Calls Try.prog 17 #[.int .i64 q, .int .i64 c, v, .int .i64 most] w fun e w' => e = .returned (resL (lst q c x 1 most)) ∧ Below w.heap.size w w' := by
  obtain ⟨na, A, n, kk, rfl, H⟩ := h.form
  clear h
  have HC := Lib.hid hc
  have HQ : Hid (-1000000 < q ∧ q < 1000000) := ⟨by omega, by omega⟩
  have hlq : (dg B9 q).length ≤ 2 := len_int (by omega) (by omega)
  have hlc : (dg B9 c).length ≤ 2 := len_int (by have := HC.out; omega) (by have := HC.out; omega)
  have hl2 : (dg B9 2).length ≤ 1 := len_le B9two (by decide)
  have hsm := len_mul B9two q x
  have hsa := len_add B9two (q * x) c
  have hbig : ∀ L, L ≤ (dg B9 x).length + 20 → ∀ i, i ≤ most → L * i + 1 ≤ 200000000 := fun L hL i hi => by
    have h1 : L * i ≤ ((dg B9 x).length + 20) * (2 * most + 3) := Nat.mul_le_mul hL (by omega)
    omega
  have hx1 : (dg B9 x).length ≤ 100000000 := by
    have h1 : ((dg B9 x).length + 20) * 1 ≤ ((dg B9 x).length + 20) * (2 * most + 3) := Nat.mul_le_mul_left _ (by omega)
    omega
  have LN : Hid (∀ i, i ≤ most → (dg B9 (q ^ i)).length ≤ 200000000 ∧ (dg B9 (x ^ i)).length ≤ 200000000 ∧ (dg B9 ((q * x + c) ^ i)).length ≤ 200000000) := fun i hi => by
    have p1 := len_pow B9two q i
    have p2 := len_pow B9two x i
    have p3 := len_pow B9two (q * x + c) i
    have q1 := hbig _ (show (dg B9 q).length ≤ (dg B9 x).length + 20 by omega) i hi
    have q2 := hbig _ (show (dg B9 x).length ≤ (dg B9 x).length + 20 by omega) i hi
    have q3 := hbig _ (show (dg B9 (q * x + c)).length ≤ (dg B9 x).length + 20 by omega) i hi
    exact ⟨by omega, by omega, by omega⟩
  have LK : Hid (∀ k, k ≤ 10 * most + 11 → (dg B9 ((2 : Int) ^ k)).length ≤ 200000000) := fun k hk => by
    have p1 := len_pow B9two 2 k
    have p2 := Nat.mul_le_mul_right k hl2
    omega
  have lq : Hid ((dg B9 q).length ≤ 1000000000) := by show _ ≤ _; omega
  have lx : Hid ((dg B9 x).length ≤ 900000000) := by show _ ≤ _; omega
  have lsum : (dg B9 (q * x + c)).length ≤ 1000000000 := by omega
  clear hc hlq hlc hl2 hsm hsa hbig hx1 sx
  go_enter Try.func17, Try.ntmps17
  go_wp2_with fail
  have V6 := VX.new w 28 H.out
  have HB := below_alloc (Below.refl w.heap.size w) (Obj.cells #[Value.bool na, Value.slice A n kk] 28)
  have o6 : w.heap.size < (w.alloc (Obj.cells #[Value.bool na, Value.slice A n kk] 28)).heap.size := by simp
  generalize hW : w.alloc (Obj.cells #[Value.bool na, Value.slice A n kk] 28) = W0 at *
  clear hW H
  (with_reducible refine (Of_c 1 _ (by omega) (by omega)).mono ?_)
  rintro e w1 ⟨v, rfl, hv, hb1⟩
  obtain ⟨n1, A1, m1, k1, rfl, H1⟩ := hv.form; clear hv
  replace V6 := V6.keep hb1
  replace HB := below_step HB hb1
  go_wp2_with fail
  have V12 := VX.new w1 28 H1.out
  replace V6 := V6.keep (below_alloc (Below.refl w1.heap.size w1) (Obj.cells #[Value.bool n1, Value.slice A1 m1 k1] 28))
  replace HB := below_alloc HB (Obj.cells #[Value.bool n1, Value.slice A1 m1 k1] 28)
  have o12 : w.heap.size < w1.heap.size := Nat.lt_of_lt_of_le o6 hb1.size
  go_wp2_with fail
  (with_reducible refine (Of_c 1 _ (by omega) (by omega)).mono ?_)
  rintro e w2 ⟨v, rfl, hv, hb2⟩
  obtain ⟨n2, A2, m2, k2, rfl, H2⟩ := hv.form; clear hv
  replace V6 := V6.keep hb2; replace V12 := V12.keep hb2
  replace HB := below_step HB hb2
  go_wp2_with fail
  (with_reducible refine (Of_c 1 _ (by omega) (by omega)).mono ?_)
  rintro e w3 ⟨v, rfl, hv, hb3⟩
  obtain ⟨n3, A3, m3, k3, rfl, H3⟩ := hv.form; clear hv
  replace V6 := V6.keep hb3; replace V12 := V12.keep hb3
  replace HB := below_step HB hb3
  go_wp2_with fail
  (with_reducible refine (Of_c 1 _ (by omega) (by omega)).mono ?_)
  rintro e w4 ⟨v, rfl, hv, hb4⟩
  obtain ⟨n4, A4, m4, k4, rfl, H4⟩ := hv.form; clear hv
  replace V6 := V6.keep hb4; replace V12 := V12.keep hb4
  replace HB := below_step HB hb4
  go_wp2
  have o13 : w1.heap.size < w4.heap.size := V12.lt
  have H2b := Lib.hid ((H2.out.below hb3).below hb4)
  have V13 := VX.new w4 28 H2b.out; replace V6 := V6.keep (below_alloc (Below.refl w4.heap.size w4) (Obj.cells #[Value.bool n2, Value.slice A2 m2 k2] 28)); replace V12 := V12.keep (below_alloc (Below.refl w4.heap.size w4) (Obj.cells #[Value.bool n2, Value.slice A2 m2 k2] 28)); replace HB := below_alloc HB (Obj.cells #[Value.bool n2, Value.slice A2 m2 k2] 28)
  generalize hW5 : w4.alloc (Obj.cells #[Value.bool n2, Value.slice A2 m2 k2] 28) = W5 at *
  have s5 : W5.heap.size = w4.heap.size + 1 := by subst hW5; simp
  have H3' : Hid (IsN W5 (.agg #[.bool n3, .slice A3 m3 k3]) 1) := by subst hW5; exact (H3.out.below hb4).below (below_alloc (Below.refl _ _) _)
  have H4' : Hid (IsN W5 (.agg #[.bool n4, .slice A4 m4 k4]) 1) := by subst hW5; exact H4.out.below (below_alloc (Below.refl _ _) _)
  clear hW5 H1 H2 H2b H3 H4 hb1 hb2 hb3 hb4
  have V14 := VX.new W5 28 H3'.out; replace V6 := V6.keep (below_alloc (Below.refl W5.heap.size W5) (Obj.cells #[Value.bool n3, Value.slice A3 m3 k3] 28)); replace V12 := V12.keep (below_alloc (Below.refl W5.heap.size W5) (Obj.cells #[Value.bool n3, Value.slice A3 m3 k3] 28)); replace V13 := V13.keep (below_alloc (Below.refl W5.heap.size W5) (Obj.cells #[Value.bool n3, Value.slice A3 m3 k3] 28)); replace HB := below_alloc HB (Obj.cells #[Value.bool n3, Value.slice A3 m3 k3] 28)
  generalize hW6 : W5.alloc (Obj.cells #[Value.bool n3, Value.slice A3 m3 k3] 28) = W6 at *
  have s6 : W6.heap.size = w4.heap.size + 1 + 1 := by subst hW6; simp; omega
  have H4'' : Hid (IsN W6 (.agg #[.bool n4, .slice A4 m4 k4]) 1) := by subst hW6; exact H4'.out.below (below_alloc (Below.refl _ _) _)
  clear hW6 H3' H4'
  have V15 := VX.new W6 28 H4''.out; replace V6 := V6.keep (below_alloc (Below.refl W6.heap.size W6) (Obj.cells #[Value.bool n4, Value.slice A4 m4 k4] 28)); replace V12 := V12.keep (below_alloc (Below.refl W6.heap.size W6) (Obj.cells #[Value.bool n4, Value.slice A4 m4 k4] 28)); replace V13 := V13.keep (below_alloc (Below.refl W6.heap.size W6) (Obj.cells #[Value.bool n4, Value.slice A4 m4 k4] 28)); replace V14 := V14.keep (below_alloc (Below.refl W6.heap.size W6) (Obj.cells #[Value.bool n4, Value.slice A4 m4 k4] 28)); replace HB := below_alloc HB (Obj.cells #[Value.bool n4, Value.slice A4 m4 k4] 28)
  generalize hW7 : W6.alloc (Obj.cells #[Value.bool n4, Value.slice A4 m4 k4] 28) = W7 at *
  clear hW7 H4''
  rw [s5] at V14
  rw [s6] at V15
  clear s5 s6
  generalize w1.heap.size = b12 at *
  generalize w4.heap.size = b13 at *
  clear o6
  go_loopw [11, 16] (fun kv av wr => ∃ (i k : Nat) (nt : Bool) (At : Option Addr) (mt kt : Nat) (no : Bool) (Ao : Option Addr) (mo ko : Nat) (nl : Bool) (Al : Option Addr) (ml kl : Nat) (nr : Bool) (Ar : Option Addr) (mr kr : Nat), av = .int .i64 ((i : Int) + 1) ∧ kv = .int .i64 k ∧ VN wr w.heap.size na A n kk x ∧ VN wr b12 nt At mt kt (2 ^ k) ∧ VN wr b13 no Ao mo ko (q ^ i) ∧ VN wr (b13 + 1) nl Al ml kl (2 ^ k * x ^ i) ∧ VN wr (b13 + 1 + 1) nr Ar mr kr ((q * x + c) ^ i) ∧ Below w.heap.size w wr ∧ i ≤ most ∧ k ≤ 10 * most + 11 ∧ Hid (k = 0 ∨ ∃ j, k = j + 1 ∧ 2 ^ j ≤ q ^ i) ∧ Hid (lst q c x 1 most = lst q c x (i + 1) (most - i)))
    (fun _ av _ => most + 1 - (intOf av).toNat)
  case atStart => exact ⟨0, 0, _, _, _, _, _, _, _, _, _, _, _, _, _, _, _, _, rfl, rfl, V6, by simpa using V12, by simpa using V13, by simpa using V14, by simpa using V15, HB, by omega, by omega, .inl rfl, rfl⟩
  case round =>
    clear V6 V12 V13 V14 V15 HB
    obtain ⟨i, k, nt, At, mt, kt, no, Ao, mo, ko, nl, Al, ml, kl, nr, Ar, mr, kr, rfl, rfl, V6, V12, V13, V14, V15, HB, hi, hk, HK, HLS⟩ := hrel
    have va0 := V6.c0; have va1 := V6.c1; have vaf := V6.f0; have vag := V6.f1; have val := V6.lt
    have vt0 := V12.c0; have vt1 := V12.c1; have vtf := V12.f0; have vtg := V12.f1; have vtl := V12.lt
    have vo0 := V13.c0; have vo1 := V13.c1; have vof := V13.f0; have vog := V13.f1; have vol := V13.lt
    have vl0 := V14.c0; have vl1 := V14.c1; have vlf := V14.f0; have vlg := V14.f1; have vll := V14.lt
    have vr0 := V15.c0; have vr1 := V15.c1; have vrf := V15.f0; have vrg := V15.f1; have vrl := V15.lt
    have ne1 : b13 ≠ w.heap.size := by omega
    have ne2 : b13 ≠ b12 := by omega
    have ne3 : b12 ≠ b13 := by omega
    by_cases him : i < most
    · have P1 := LN.out i (by omega)
      have P2 := LK.out k (by omega)
      have HSUM := Lib.hid lsum
      have LM : Hid ((dg B9 (2 ^ k * x ^ i)).length ≤ 1000000000) := by have := len_mul B9two (2 ^ k) (x ^ i); show _ ≤ _; omega
      have L1 : Hid ((dg B9 (q ^ i)).length ≤ 1000000000) := by show _ ≤ _; omega
      have L2 : Hid ((dg B9 ((q * x + c) ^ i)).length ≤ 1000000000) := by show _ ≤ _; omega
      clear P1 P2
      go_wp2_with fail
      replace V6 := V6.drew; replace V12 := V12.drew; replace V13 := V13.drew; replace V14 := V14.drew; replace V15 := V15.drew; replace HB := below_drew HB
      generalize hWd : wr.drew = wd at *
      refine wp_region_F (fun w' => w'.cell? ⟨b13, 0, none⟩ = some (.bool no) ∧ w'.cell? ⟨b13, 1, none⟩ = some (.slice Ao mo ko)) [4] (by kernel_rfl) (by rw [hWd]; exact ⟨V13.c0, V13.c1⟩) (fun hHeld => ?_)
      rw [hWd] at hHeld ⊢
      refine wpAnyF_take (i := 0) (oi := { dst := some 26, op := Go.Op.load 28 (Go.Operand.tmp 13), type := 28, pos := "ref.go:44", after := #[], guard := none }) (v := ?_) rfl (by kernel_rfl) (by kernel_rfl) (by kernel_rfl) (by kernel_rfl) (fun _ _ _ h => h) (Or.inl ⟨by rfl, ?_⟩) hHeld ?_
      rotate_left
      · intro w_ hSw_; (try dsimp only at hSw_); go_simp; (try with_reducible rfl)
      (try simp only [Act.put, List.setIfInBounds_toArray, List.set_cons_zero, List.set_cons_succ])
      refine wpAnyF_take (i := 1) (oi := { dst := some 27, op := Go.Op.move (Go.Operand.tmp 0), type := 3, pos := "ref.go:44", after := #[], guard := none }) (v := ?_) rfl (by kernel_rfl) (by kernel_rfl) (by kernel_rfl) (by kernel_rfl) (fun _ _ _ h => h) (Or.inl ⟨by rfl, ?_⟩) hHeld ?_
      rotate_left
      · intro w_ hSw_; (try dsimp only at hSw_); go_simp; (try with_reducible rfl)
      (try simp only [Act.put, List.setIfInBounds_toArray, List.set_cons_zero, List.set_cons_succ])
      refine wpAnyF_one (i := 2) (by kernel_rfl) rfl (fun K hK => ?_)
      go_simp
      (go_at_call 28; (with_reducible refine (Of_c q _ (by omega) (by omega)).mono ?_); rintro e w2 ⟨v, rfl, hv, hb2⟩; obtain ⟨n2, A2, m2, k2, rfl, H2⟩ := hv.form; clear hv; replace V6 := V6.keep hb2; replace V12 := V12.keep hb2; replace V13 := V13.keep hb2; replace V14 := V14.keep hb2; replace V15 := V15.keep hb2; replace HB := below_step HB hb2; clear hb2)
      refine hK.out _ _ (by exact ⟨V13.c0, V13.c1⟩) (fun hHeld => ?_)
      clear hK K
      (try simp only [Act.put, List.setIfInBounds_toArray, List.set_cons_zero, List.set_cons_succ])
      refine wpAnyF_one (i := 3) (by kernel_rfl) rfl (fun K hK => ?_)
      go_simp
      (go_at_call 38; (with_reducible refine (Mul_c (q ^ i) q _ _ _ (by exact V13.iz.out) H2.out L1.out lq.out).mono ?_); rintro e w3 ⟨v, rfl, hv, hb3⟩; obtain ⟨n3, A3, m3, k3, rfl, H3⟩ := hv.form; clear hv; replace V6 := V6.keep hb3; replace V12 := V12.keep hb3; replace V13 := V13.keep hb3; replace V14 := V14.keep hb3; replace V15 := V15.keep hb3; replace HB := below_step HB hb3; clear hb3; clear vo0 vo1 vof vog vol; have vo0 := V13.c0; have vo1 := V13.c1; have vof := V13.f0; have vog := V13.f1; have vol := V13.lt)
      refine hK.out _ _ (by exact ⟨V13.c0, V13.c1⟩) (fun hHeld => ?_)
      clear hK K
      (try simp only [Act.put, List.setIfInBounds_toArray, List.set_cons_zero, List.set_cons_succ])
      refine wpAnyF_st (i := 4) (by kernel_rfl) (by kernel_rfl) rfl (fun K hK => ?_)
      go_simp
      refine hK.out _ _ ?_
      clear hK K
      (try simp only [Act.put, List.setIfInBounds_toArray, List.set_cons_zero, List.set_cons_succ])
      refine wpAnyF_done (by kernel_rfl) ?_ _
      clear hHeld
      clear vo0 vo1 vof vog vol va0 va1 vaf vag val vl0 vl1 vlf vlg vll vr0 vr1 vrf vrg vrl vt0 vt1 vtf vtg vtl
      have R_ := V13.res; replace V6 := V6.far (x := .bool n3) (y := .slice A3 m3 k3) R_ (by omega); replace V12 := V12.far (x := .bool n3) (y := .slice A3 m3 k3) R_ (by omega); replace V14 := V14.far (x := .bool n3) (y := .slice A3 m3 k3) R_ (by omega); replace V15 := V15.far (x := .bool n3) (y := .slice A3 m3 k3) R_ (by omega); replace V13 := VX.store R_ H3.out; replace HB := below_set2 (b := b13) HB (by omega) (.bool n3) (.slice A3 m3 k3); clear R_
      rw [← Int.pow_succ] at V13
      generalize hW : (w3.setCell ⟨b13, 0, none⟩ (.bool n3)).setCell ⟨b13, 1, none⟩ (.slice A3 m3 k3) = W1 at *
      clear hW hWd H2 H3
      have vl0 := V14.c0; have vl1 := V14.c1; have vlf := V14.f0; have vlg := V14.f1; have vll := V14.lt
      have va0 := V6.c0; have va1 := V6.c1; have vaf := V6.f0; have vag := V6.f1; have val := V6.lt
      go_wp2_with fail
      (with_reducible refine (Mul_c (2 ^ k * x ^ i) x _ _ _ V14.iz.out V6.iz.out LM.out (by have := lx.out; omega)).mono ?_)
      rintro e w4 ⟨v, rfl, hv, hb4⟩
      obtain ⟨n4, A4, m4, k4, rfl, H4⟩ := hv.form; clear hv
      replace V6 := V6.keep hb4; replace V12 := V12.keep hb4; replace V13 := V13.keep hb4; replace V14 := V14.keep hb4; replace V15 := V15.keep hb4
      replace HB := below_step HB hb4
      clear hb4
      clear vl0 vl1 vlf vlg vll va0 va1 vaf vag val
      have vl0 := V14.c0; have vl1 := V14.c1; have vlf := V14.f0; have vlg := V14.f1; have vll := V14.lt
      go_wp2_with fail
      clear vl0 vl1 vlf vlg vll
      have R_ := V14.res; replace V6 := V6.far (x := .bool n4) (y := .slice A4 m4 k4) R_ (by omega); replace V12 := V12.far (x := .bool n4) (y := .slice A4 m4 k4) R_ (by omega); replace V13 := V13.far (x := .bool n4) (y := .slice A4 m4 k4) R_ (by omega); replace V15 := V15.far (x := .bool n4) (y := .slice A4 m4 k4) R_ (by omega); replace V14 := VX.store R_ H4.out; replace HB := below_set2 (b := b13 + 1) HB (by omega) (.bool n4) (.slice A4 m4 k4); clear R_
      rw [Int.mul_assoc, ← Int.pow_succ] at V14
      generalize hW : (w4.setCell ⟨(b13 + 1), 0, none⟩ (.bool n4)).setCell ⟨(b13 + 1), 1, none⟩ (.slice A4 m4 k4) = W2 at *
      clear hW H4
      replace V6 := V6.drew; replace V12 := V12.drew; replace V13 := V13.drew; replace V14 := V14.drew; replace V15 := V15.drew; replace HB := below_drew HB
      generalize hWd : W2.drew = wd at *
      refine wp_region_F (fun w' => w'.cell? ⟨(b13 + 1 + 1), 0, none⟩ = some (.bool nr) ∧ w'.cell? ⟨(b13 + 1 + 1), 1, none⟩ = some (.slice Ar mr kr) ∧ w'.cell? ⟨w.heap.size, 0, none⟩ = some (.bool na) ∧ w'.cell? ⟨w.heap.size, 1, none⟩ = some (.slice A n kk)) [6] (by kernel_rfl) (by rw [hWd]; exact ⟨V15.c0, V15.c1, V6.c0, V6.c1⟩) (fun hHeld => ?_)
      rw [hWd] at hHeld ⊢
      refine wpAnyF_take (i := 0) (oi := { dst := some 33, op := Go.Op.load 28 (Go.Operand.tmp 15), type := 28, pos := "ref.go:46", after := #[], guard := none }) (v := ?_) rfl (by kernel_rfl) (by kernel_rfl) (by kernel_rfl) (by kernel_rfl) (fun _ _ _ h => h) (Or.inl ⟨by rfl, ?_⟩) hHeld ?_
      rotate_left
      · intro w_ hSw_; (try dsimp only at hSw_); go_simp; (try with_reducible rfl)
      (try simp only [Act.put, List.setIfInBounds_toArray, List.set_cons_zero, List.set_cons_succ])
      refine wpAnyF_take (i := 1) (oi := { dst := some 34, op := Go.Op.move (Go.Operand.tmp 0), type := 3, pos := "ref.go:46", after := #[], guard := none }) (v := ?_) rfl (by kernel_rfl) (by kernel_rfl) (by kernel_rfl) (by kernel_rfl) (fun _ _ _ h => h) (Or.inl ⟨by rfl, ?_⟩) hHeld ?_
      rotate_left
      · intro w_ hSw_; (try dsimp only at hSw_); go_simp; (try with_reducible rfl)
      (try simp only [Act.put, List.setIfInBounds_toArray, List.set_cons_zero, List.set_cons_succ])
      refine wpAnyF_take (i := 2) (oi := { dst := some 35, op := Go.Op.move (Go.Operand.tmp 1), type := 3, pos := "ref.go:46", after := #[], guard := none }) (v := ?_) rfl (by kernel_rfl) (by kernel_rfl) (by kernel_rfl) (by kernel_rfl) (fun _ _ _ h => h) (Or.inl ⟨by rfl, ?_⟩) hHeld ?_
      rotate_left
      · intro w_ hSw_; (try dsimp only at hSw_); go_simp; (try with_reducible rfl)
      (try simp only [Act.put, List.setIfInBounds_toArray, List.set_cons_zero, List.set_cons_succ])
      refine wpAnyF_take (i := 3) (oi := { dst := some 36, op := Go.Op.load 28 (Go.Operand.tmp 6), type := 28, pos := "ref.go:46", after := #[], guard := none }) (v := ?_) rfl (by kernel_rfl) (by kernel_rfl) (by kernel_rfl) (by kernel_rfl) (fun _ _ _ h => h) (Or.inl ⟨by rfl, ?_⟩) hHeld ?_
      rotate_left
      · intro w_ hSw_; (try dsimp only at hSw_); go_simp; (try with_reducible rfl)
      (try simp only [Act.put, List.setIfInBounds_toArray, List.set_cons_zero, List.set_cons_succ])
      refine wpAnyF_one (i := 4) (by kernel_rfl) rfl (fun K hK => ?_)
      go_simp
      (go_at_call 35; (with_reducible refine (Sum_c q c x _ _ (by exact V6.iz.out) HQ.out HC.out (by have := lx.out; omega)).mono ?_); rintro e w5 ⟨v, rfl, hv, hb5⟩; obtain ⟨n5, A5, m5, k5, rfl, H5⟩ := hv.form; clear hv; replace V6 := V6.keep hb5; replace V12 := V12.keep hb5; replace V13 := V13.keep hb5; replace V14 := V14.keep hb5; replace V15 := V15.keep hb5; replace HB := below_step HB hb5; clear hb5)
      refine hK.out _ _ (by exact ⟨V15.c0, V15.c1, V6.c0, V6.c1⟩) (fun hHeld => ?_)
      clear hK K
      (try simp only [Act.put, List.setIfInBounds_toArray, List.set_cons_zero, List.set_cons_succ])
      refine wpAnyF_one (i := 5) (by kernel_rfl) rfl (fun K hK => ?_)
      go_simp
      (go_at_call 38; (with_reducible refine (Mul_c ((q * x + c) ^ i) (q * x + c) _ _ _ (by exact V15.iz.out) H5.out L2.out HSUM.out).mono ?_); rintro e w6 ⟨v, rfl, hv, hb6⟩; obtain ⟨n6, A6, m6, k6, rfl, H6⟩ := hv.form; clear hv; replace V6 := V6.keep hb6; replace V12 := V12.keep hb6; replace V13 := V13.keep hb6; replace V14 := V14.keep hb6; replace V15 := V15.keep hb6; replace HB := below_step HB hb6; clear hb6; have vr0 := V15.c0; have vr1 := V15.c1; have vrf := V15.f0; have vrg := V15.f1; have vrl := V15.lt)
      refine hK.out _ _ (by exact ⟨V15.c0, V15.c1, V6.c0, V6.c1⟩) (fun hHeld => ?_)
      clear hK K
      (try simp only [Act.put, List.setIfInBounds_toArray, List.set_cons_zero, List.set_cons_succ])
      refine wpAnyF_st (i := 6) (by kernel_rfl) (by kernel_rfl) rfl (fun K hK => ?_)
      go_simp
      refine hK.out _ _ ?_
      clear hK K
      (try simp only [Act.put, List.setIfInBounds_toArray, List.set_cons_zero, List.set_cons_succ])
      refine wpAnyF_done (by kernel_rfl) ?_ _
      clear hHeld
      clear vr0 vr1 vrf vrg vrl
      have R_ := V15.res; replace V6 := V6.far (x := .bool n6) (y := .slice A6 m6 k6) R_ (by omega); replace V12 := V12.far (x := .bool n6) (y := .slice A6 m6 k6) R_ (by omega); replace V13 := V13.far (x := .bool n6) (y := .slice A6 m6 k6) R_ (by omega); replace V14 := V14.far (x := .bool n6) (y := .slice A6 m6 k6) R_ (by omega); replace V15 := VX.store R_ H6.out; replace HB := below_set2 (b := b13 + 1 + 1) HB (by omega) (.bool n6) (.slice A6 m6 k6); clear R_
      rw [← Int.pow_succ] at V15
      generalize hW : (w6.setCell ⟨(b13 + 1 + 1), 0, none⟩ (.bool n6)).setCell ⟨(b13 + 1 + 1), 1, none⟩ (.slice A6 m6 k6) = W3 at *
      clear hW hWd H5 H6 L1 L2 LM HSUM
      have HK1 : Hid (k = 0 ∨ ∃ j, k = j + 1 ∧ 2 ^ j ≤ q ^ (i + 1)) := by
        rcases HK.out with h | ⟨j, h1, h2⟩
        · exact .inl h
        · refine .inr ⟨j, h1, Int.le_trans h2 ?_⟩
          rw [Int.pow_succ]
          have hp : (0 : Int) ≤ q ^ i := Int.pow_nonneg (by omega)
          have := Int.mul_le_mul_of_nonneg_left (show 1 ≤ q by omega) hp
          omega
      have HLS1 : Hid (lst q c x 1 most = if okA q c x (i + 1) then some (i + 1, tw q (i + 1)) else lst q c x (i + 1 + 1) (most - (i + 1))) := by
        show _ = _
        rw [HLS.out, show most - i = (most - (i + 1)) + 1 by omega, lst]
      have HT := Lib.hid (pow_two_lt (q := q) (a := i + 1) (by omega) hq1)
      clear HK HLS
      go_wp2_with fail
      go_loopw [11] (fun kv wr => ∃ (k : Nat) (nt : Bool) (At : Option Addr) (mt kt : Nat) (nl : Bool) (Al : Option Addr) (ml kl : Nat), kv = .int .i64 k ∧ VN wr w.heap.size na A n kk x ∧ VN wr b12 nt At mt kt (2 ^ k) ∧ VN wr b13 n3 A3 m3 k3 (q ^ (i + 1)) ∧ VN wr (b13 + 1) nl Al ml kl (2 ^ k * x ^ (i + 1)) ∧ VN wr (b13 + 1 + 1) n6 A6 m6 k6 ((q * x + c) ^ (i + 1)) ∧ Below w.heap.size w wr ∧ k ≤ 10 * most + 11 ∧ Hid (k = 0 ∨ ∃ j, k = j + 1 ∧ 2 ^ j ≤ q ^ (i + 1)))
        (fun kv _ => 10 * most + 20 - (intOf kv).toNat)
      case atStart => exact ⟨k, _, _, _, _, _, _, _, _, rfl, V6, V12, V13, V14, V15, HB, hk, HK1⟩
      case round =>
        clear V6 V12 V13 V14 V15 HB hk HK1
        obtain ⟨k, nt, At, mt, kt, nl, Al, ml, kl, rfl, V6, V12, V13, V14, V15, HB, hk, HK⟩ := hrel
        have vt0 := V12.c0; have vt1 := V12.c1; have vtf := V12.f0; have vtg := V12.f1; have vtl := V12.lt
        have vo0 := V13.c0; have vo1 := V13.c1; have vof := V13.f0; have vog := V13.f1; have vol := V13.lt
        have vl0 := V14.c0; have vl1 := V14.c1; have vlf := V14.f0; have vlg := V14.f1; have vll := V14.lt
        have vr0 := V15.c0; have vr1 := V15.c1; have vrf := V15.f0; have vrg := V15.f1; have vrl := V15.lt
        by_cases hlt : q ^ (i + 1) < 2 ^ k
        · have hg : icmp (q ^ (i + 1)) (2 ^ k) < 0 := (icmp_lt _ _).2 hlt
          have hk2 : k = tw q (i + 1) := (Twos.mk' hlt HK.out).eq hq0
          have HK2 := Lib.hid hk2
          have HOK : Hid (okA q c x (i + 1) = decide (2 ^ k * x ^ (i + 1) ≤ (q * x + c) ^ (i + 1))) := by show _ = _; unfold okA; rw [← hk2]
          clear hlt hk2
          go_wp2_with fail
          (with_reducible refine (Cmp_c (q ^ (i + 1)) (2 ^ k) _ _ _ V13.iz.out V12.iz.out).mono ?_)
          rintro e w7 ⟨rfl, hb7⟩
          replace V6 := V6.keep hb7; replace V12 := V12.keep hb7; replace V13 := V13.keep hb7; replace V14 := V14.keep hb7; replace V15 := V15.keep hb7
          replace HB := below_step HB hb7
          clear hb7
          clear vt0 vt1 vtf vtg vtl vo0 vo1 vof vog vol vl0 vl1 vlf vlg vll vr0 vr1 vrf vrg vrl
          have vl0 := V14.c0; have vl1 := V14.c1; have vlf := V14.f0; have vlg := V14.f1; have vll := V14.lt
          have vr0 := V15.c0; have vr1 := V15.c1; have vrf := V15.f0; have vrg := V15.f1; have vrl := V15.lt
          go_wp2_with fail
          (with_reducible refine (Cmp_c (2 ^ k * x ^ (i + 1)) ((q * x + c) ^ (i + 1)) _ _ _ V14.iz.out V15.iz.out).mono ?_)
          rintro e w8 ⟨rfl, hb8⟩
          replace V6 := V6.keep hb8; replace V12 := V12.keep hb8; replace V13 := V13.keep hb8; replace V14 := V14.keep hb8; replace V15 := V15.keep hb8
          replace HB := below_step HB hb8
          clear hb8
          clear vl0 vl1 vlf vlg vll vr0 vr1 vrf vrg vrl
          by_cases hle : 2 ^ k * x ^ (i + 1) ≤ (q * x + c) ^ (i + 1)
          · have hg2 : icmp (2 ^ k * x ^ (i + 1)) ((q * x + c) ^ (i + 1)) ≤ 0 := (icmp_le _ _).2 hle
            have HR : Hid (lst q c x 1 most = some (i + 1, k)) := by show _ = _; rw [HLS1.out, HOK.out, decide_eq_true hle, if_pos rfl, ← HK2.out]
            clear hle
            generalize icmp (2 ^ k * x ^ (i + 1)) ((q * x + c) ^ (i + 1)) = cm at *
            go_wp2
            refine bodyPost_ret (v := .tuple #[.int .i64 ((i : Int) + 1), .int .i64 k, .bool true]) (by simp [results, Try.results17, go_sem]) rfl ⟨by rw [HR.out]; simp [resL], HB⟩
          · have hg2 : ¬ icmp (2 ^ k * x ^ (i + 1)) ((q * x + c) ^ (i + 1)) ≤ 0 := fun h => hle ((icmp_le _ _).1 h)
            have HR : Hid (lst q c x 1 most = lst q c x (i + 1 + 1) (most - (i + 1))) := by show _ = _; rw [HLS1.out, HOK.out, decide_eq_false hle]; rfl
            clear hle
            generalize icmp (2 ^ k * x ^ (i + 1)) ((q * x + c) ^ (i + 1)) = cm at *
            go_wp2
            go_roundw
            case rel => exact ⟨i + 1, k, _, _, _, _, _, _, _, _, _, _, _, _, _, _, _, _, by go_num, rfl, V6, V12, V13, V14, V15, HB, by omega, hk, HK, HR⟩
            case measure => simp [intOf]; omega
        · have hg : ¬ icmp (q ^ (i + 1)) (2 ^ k) < 0 := fun h => hlt ((icmp_lt _ _).1 h)
          have hk2 : k < 10 * (i + 1) + 1 := two_lt (by have := HT.out; omega)
          have HK2 : Hid (k + 1 = 0 ∨ ∃ j, k + 1 = j + 1 ∧ 2 ^ j ≤ q ^ (i + 1)) := .inr ⟨k, rfl, by omega⟩
          have P2 := LK.out k (by omega)
          have P1 := LN.out (i + 1) (by omega)
          have LT : Hid ((dg B9 (2 ^ k)).length ≤ 1000000000000) := by show _ ≤ _; omega
          have LL : Hid ((dg B9 (2 ^ k * x ^ (i + 1))).length ≤ 1000000000000) := by have := len_mul B9two (2 ^ k) (x ^ (i + 1)); show _ ≤ _; omega
          have E2 : Hid ((2 : Int) ^ k + 2 ^ k = 2 ^ (k + 1)) := by show _ = _; rw [Int.pow_succ]; omega
          have E3 : Hid ((2 : Int) ^ k * x ^ (i + 1) + 2 ^ k * x ^ (i + 1) = 2 ^ (k + 1) * x ^ (i + 1)) := by show _ = _; rw [← E2.out, Int.add_mul]
          clear hlt P1 P2 HK
          go_wp2_with fail
          (with_reducible refine (Cmp_c (q ^ (i + 1)) (2 ^ k) _ _ _ V13.iz.out V12.iz.out).mono ?_)
          rintro e w7 ⟨rfl, hb7⟩
          replace V6 := V6.keep hb7; replace V12 := V12.keep hb7; replace V13 := V13.keep hb7; replace V14 := V14.keep hb7; replace V15 := V15.keep hb7
          replace HB := below_step HB hb7
          clear hb7
          clear vt0 vt1 vtf vtg vtl vo0 vo1 vof vog vol vl0 vl1 vlf vlg vll vr0 vr1 vrf vrg vrl
          have vt0 := V12.c0; have vt1 := V12.c1; have vtf := V12.f0; have vtg := V12.f1; have vtl := V12.lt
          generalize icmp (q ^ (i + 1)) (2 ^ k) = cm at *
          go_wp2_with fail
          (with_reducible refine (Add_c (2 ^ k) (2 ^ k) _ _ _ V12.iz.out V12.iz.out LT.out LT.out).mono ?_)
          rintro e w8 ⟨v, rfl, hv, hb8⟩
          obtain ⟨n8, A8, m8, k8, rfl, H8⟩ := hv.form; clear hv
          replace V6 := V6.keep hb8; replace V12 := V12.keep hb8; replace V13 := V13.keep hb8; replace V14 := V14.keep hb8; replace V15 := V15.keep hb8
          replace HB := below_step HB hb8
          clear hb8
          clear vt0 vt1 vtf vtg vtl
          have vt0 := V12.c0; have vt1 := V12.c1; have vtf := V12.f0; have vtg := V12.f1; have vtl := V12.lt
          have vl0 := V14.c0; have vl1 := V14.c1; have vlf := V14.f0; have vlg := V14.f1; have vll := V14.lt
          go_wp2_with fail
          clear vt0 vt1 vtf vtg vtl vl0 vl1 vlf vlg vll
          have R_ := V12.res; replace V6 := V6.far (x := .bool n8) (y := .slice A8 m8 k8) R_ (by omega); replace V13 := V13.far (x := .bool n8) (y := .slice A8 m8 k8) R_ (by omega); replace V14 := V14.far (x := .bool n8) (y := .slice A8 m8 k8) R_ (by omega); replace V15 := V15.far (x := .bool n8) (y := .slice A8 m8 k8) R_ (by omega); replace V12 := VX.store R_ H8.out; replace HB := below_set2 (b := b12) HB (by omega) (.bool n8) (.slice A8 m8 k8); clear R_
          rw [E2.out] at V12
          generalize hW : (w8.setCell ⟨b12, 0, none⟩ (.bool n8)).setCell ⟨b12, 1, none⟩ (.slice A8 m8 k8) = W4 at *
          clear hW H8
          (with_reducible refine (Add_c (2 ^ k * x ^ (i + 1)) (2 ^ k * x ^ (i + 1)) _ _ _ V14.iz.out V14.iz.out LL.out LL.out).mono ?_)
          rintro e w10 ⟨v, rfl, hv, hb10⟩
          obtain ⟨n10, A10, m10, k10, rfl, H10⟩ := hv.form; clear hv
          replace V6 := V6.keep hb10; replace V12 := V12.keep hb10; replace V13 := V13.keep hb10; replace V14 := V14.keep hb10; replace V15 := V15.keep hb10
          replace HB := below_step HB hb10
          clear hb10
          have vl0 := V14.c0; have vl1 := V14.c1; have vlf := V14.f0; have vlg := V14.f1; have vll := V14.lt
          go_wp2
          go_roundw
          clear vl0 vl1 vlf vlg vll
          have R_ := V14.res; replace V6 := V6.far (x := .bool n10) (y := .slice A10 m10 k10) R_ (by omega); replace V12 := V12.far (x := .bool n10) (y := .slice A10 m10 k10) R_ (by omega); replace V13 := V13.far (x := .bool n10) (y := .slice A10 m10 k10) R_ (by omega); replace V15 := V15.far (x := .bool n10) (y := .slice A10 m10 k10) R_ (by omega); replace V14 := VX.store R_ H10.out; replace HB := below_set2 (b := b13 + 1) HB (by omega) (.bool n10) (.slice A10 m10 k10); clear R_
          rw [E3.out] at V14
          case rel => exact ⟨k + 1, _, _, _, _, _, _, _, _, by go_num, V6, V12, V13, V14, V15, HB, by omega, HK2⟩
          case measure => simp [intOf]; omega
    · have HR : Hid (lst q c x 1 most = none) := by show _ = _; rw [HLS.out, show most - i = 0 by omega]; rfl
      go_wp2
      refine bodyPost_ret (v := .tuple #[.int .i64 0, .int .i64 0, .bool false]) (by simp [results, Try.results17, go_sem]) rfl ⟨by rw [HR.out]; rfl, HB⟩
end Go.Proofs.Ytiaeeclmlchpoaa

set_option linter.unusedVariables false
set_option linter.unusedSimpArgs false
namespace Go.Proofs.Ytiaeeclmlchpoaa
open Go.RowKit

theorem SlI.unique {w : World} {k : IntKind} {A : Option Addr} {c c' : Nat} {l l' : List Int} (h : SlI w k A c l) (h' : SlI w k A c' l') (hl : l.length = l'.length) : l = l' := by
  apply List.ext_getElem hl
  intro j h1 h2
  obtain ⟨b, off, e4, _, c1⟩ := h.cell (j := j) h1
  obtain ⟨b', off', e5, _, c2⟩ := h'.cell (j := j) h2
  rw [e4] at e5
  injection e5 with e5
  injection e5 with e6 e7
  subst e6 e7
  rw [c1] at c2
  injection c2 with c2
  injection c2 with _ c2
  rw [← gd_lt h1, ← gd_lt h2]; exact c2
theorem IsZ.unique {B : Nat} {k : IntKind} {w : World} {v : Value} {z z' : Int} (hB : 2 ≤ B) (h : IsZ B k w v z) (h' : IsZ B k w v z') : z = z' := by
  obtain ⟨A, c, rfl, hs⟩ := h
  obtain ⟨A', c', e, ks⟩ := h'
  injection e with e
  simp only [Array.mk.injEq, List.cons.injEq, Value.bool.injEq, Value.slice.injEq, and_true] at e
  obtain ⟨e0, rfl, e2, rfl⟩ := e
  have hl := hs.unique ks e2
  have h1 := dg_V hB z
  rw [hl, dg_V hB] at h1
  have h2 : (z < 0) ↔ (z' < 0) := decide_eq_decide.1 e0
  omega
/-- The number in block b. -/
noncomputable def numAt (w : World) (b : Nat) : Int := by
  classical exact if h : ∃ z, ∃ nv A n c, VN w b nv A n c z then h.choose else 0
theorem numAt_eq {w : World} {b : Nat} {nv : Bool} {A : Option Addr} {n c : Nat} {z : Int} (h : VN w b nv A n c z) : numAt w b = z := by
  classical
  have he : ∃ z, ∃ nv A n c, VN w b nv A n c z := ⟨z, nv, A, n, c, h⟩
  unfold numAt
  rw [dif_pos he]
  obtain ⟨nv', A', n', c', h'⟩ := Exists.choose_spec he
  have e0 := h.c0
  rw [h'.c0] at e0
  have e1 := h.c1
  rw [h'.c1] at e1
  injection e0 with e0; injection e0 with e0
  injection e1 with e1; injection e1 with e1 e2 e3
  subst e0 e1 e2 e3
  exact IsZ.unique B9two h'.iz.out h.iz.out
end Go.Proofs.Ytiaeeclmlchpoaa

set_option linter.unusedVariables false
set_option linter.unusedSimpArgs false
namespace Go.Proofs.Ytiaeeclmlchpoaa
open Go.RowKit

theorem pow_dec {q a : Nat} (hq : q ≤ 999) (ha : 1 ≤ a) : q ^ a + 1 ≤ 10 ^ (3 * a) := by
  have h1 : q ^ a < 1000 ^ a := Nat.pow_lt_pow_left (by omega) (by omega)
  rw [Nat.pow_mul]
  exact h1
theorem thr_le {q c a T : Nat} (h : isThr q c a T) (hq : q ≤ 999) (hc : c ≤ 999999) (ha : 1 ≤ a) (ha2 : a ≤ 500) : q * T ≤ 499999500 * 10 ^ (3 * a) := by
  rcases h.1 with h0 | h0
  · subst h0; simp
  · rcases Nat.eq_zero_or_pos T with h1 | h1
    · subst h1; simp
    · exact Nat.le_trans (has_bound h0 h1) (Nat.mul_le_mul (Nat.mul_le_mul ha2 hc) (pow_dec hq ha))
theorem thr_sum {q c a T t : Nat} (h : isThr q c a T) (hq : q ≤ 999) (hc : c ≤ 999999) (ha : 1 ≤ a) (ha2 : a ≤ 500) (ht : t ≤ T + 1) : q * t + c < 10 ^ (3 * a + 9) := by
  have h1 := thr_le h hq hc ha ha2
  have h2 : q * t ≤ q * (T + 1) := Nat.mul_le_mul_left q ht
  rw [Nat.mul_add, Nat.mul_one] at h2
  have h3 : (10 : Nat) ^ (3 * a + 9) = 10 ^ (3 * a) * 1000000000 := by rw [Nat.pow_add]
  have h4 : (10 : Nat) ^ 3 ≤ 10 ^ (3 * a) := Nat.pow_le_pow_right (by omega) (by omega)
  rw [h3]
  have h5 : (10 : Nat) ^ 3 = 1000 := rfl
  rw [h5] at h4
  generalize (10 : Nat) ^ (3 * a) = X at *
  omega
theorem thr_dig {q c a T t : Nat} (h : isThr q c a T) (hq0 : 1 ≤ q) (hq : q ≤ 999) (hc : c ≤ 999999) (ha : 1 ≤ a) (ha2 : a ≤ 500) (ht : t ≤ T + 1) : dlN t ≤ 2000 := by
  have h1 := thr_sum h hq hc ha ha2 ht
  have h2 : t ≤ q * t := Nat.le_mul_of_pos_left t hq0
  have h3 := dlN_le (n := t) (k := 3 * a + 9) (by omega) (by omega)
  omega
theorem thr_err {q c a T t : Nat} (h : isThr q c a T) (hq : q ≤ 999) (hc : c ≤ 999999) (ha : 1 ≤ a) (ha2 : a ≤ 180) (ht : t ≤ T + 1) : ¬ 100000 < (a : Int) * (dlN (q * t + c) : Int) := by
  have h1 := thr_sum h hq hc ha (by omega) ht
  have h2 := dlN_le h1 (by omega)
  have h3 : a * dlN (q * t + c) ≤ 180 * 549 := Nat.mul_le_mul ha2 (by omega)
  have h4 : (a : Int) * (dlN (q * t + c) : Int) = ((a * dlN (q * t + c) : Nat) : Int) := by rw [Int.natCast_mul]
  rw [h4]
  omega
theorem thr_has {q c a T t : Nat} (h : isThr q c a T) (ht : hasN q c a t = true) : t ≤ T := by
  rcases Nat.lt_or_ge T t with h1 | h1
  · have := has_mono ht (m := T + 1) (by omega) (by omega)
    rw [h.2] at this; cases this
  · exact h1
theorem bel_val {q c a T : Nat} (h : isThr q c a T) (hq0 : 1 ≤ q) (hq : q ≤ 999) (hc : c ≤ 999999) (ha : 1 ≤ a) (ha2 : a ≤ 500) : belS T = tS (T : Int) ∧ belE T = 0 := by
  apply bel_ok
  rw [codes_tS]
  apply vld_tx
  exact thr_dig h hq0 hq hc ha ha2 (by omega)
theorem hasN_fit {q c a n : Nat} : hasN q c a n = fitN q c n a (bl (q ^ a)) := rfl
theorem fit_more {q c a n k : Nat} (h : hasN q c a n = false) : fitN q c n a k = false := by
  cases hf : fitN q c n a k with
  | false => rfl
  | true => rw [fit_has hf] at h; cases h
end Go.Proofs.Ytiaeeclmlchpoaa

set_option linter.unusedVariables false
namespace Go.Proofs.Ytiaeeclmlchpoaa
open Go

section
variable {P : Program} {ops : Array Oper} {Q : Exit → Act → World → Prop} {md : Region.Mode} {S : World → Prop} {st : List Nat}
/-- Two numbers may come up. -/
theorem wpAnyF_two {i j : Nat} {oi oj : Oper} {n : Nat} {done : Array Bool} {a : Act} {w : World} (hr : Region.ready md ops done = [i, j]) (hi : ops[i]? = some oi) (hj : ops[j]? = some oj)
    (h1 : ∀ K' : Act → World → Prop, Shut (∀ a w, S w → (S w → wpAnyF P md ops Q S st n (done.setIfInBounds i true) a w) → K' a w) → if Region.wanted oi (yielded ops a.tmps) = true then Oper.wp P oi a w K' Q else K' (a.put oi.dst undef) w)
    (h2 : ∀ K' : Act → World → Prop, Shut (∀ a w, S w → (S w → wpAnyF P md ops Q S st n (done.setIfInBounds j true) a w) → K' a w) → if Region.wanted oj (yielded ops a.tmps) = true then Oper.wp P oj a w K' Q else K' (a.put oj.dst undef) w) :
    wpAnyF P md ops Q S st (n + 1) done a w := by
  refine ⟨fun h0 => (by rw [hr] at h0; cases h0), fun k hk => ?_⟩
  rw [hr] at hk
  have hk' : k = i ∨ k = j := by simpa using hk
  rcases hk' with rfl | rfl
  · exact wpOp_step hi (fun K' hK => h1 K' (fun a w hS hW => hK a w ⟨fun _ => hS, hW hS⟩))
  · exact wpOp_step hj (fun K' hK => h2 K' (fun a w hS hW => hK a w ⟨fun _ => hS, hW hS⟩))
end
theorem newRes (w : World) (t : TypeId) : Res2 (w.alloc (.cells #[.bool false, .slice none 0 0] t)) w.heap.size :=
  ⟨⟨false, by simp [go_sem]⟩, ⟨none, 0, 0, by simp [go_sem]⟩, by simp [go_sem], by simp [go_sem], by simp⟩
end Go.Proofs.Ytiaeeclmlchpoaa

set_option linter.unusedVariables false
set_option linter.unusedSimpArgs false
namespace Go.Proofs.Ytiaeeclmlchpoaa
open Go.RowKit

theorem fits_has {q c z : Int} (hq : 0 < q) (hc : 0 ≤ c) (hz : 0 ≤ z) (a : Nat) : fits q c z a (tw q a) = hasN q.toNat c.toNat a z.toNat := by
  obtain ⟨q, rfl⟩ := Int.eq_ofNat_of_zero_le (show 0 ≤ q by omega)
  obtain ⟨c, rfl⟩ := Int.eq_ofNat_of_zero_le hc
  obtain ⟨z, rfl⟩ := Int.eq_ofNat_of_zero_le hz
  rw [tw_bl (by omega)]
  unfold fits hasN fitN
  have e2 : (2 : Int) ^ bl (q ^ a) = ((2 ^ bl (q ^ a) : Nat) : Int) := by rw [Int.natCast_pow]; rfl
  rw [Int.toNat_natCast, Int.toNat_natCast, Int.toNat_natCast, e2]
  simp only [← Int.natCast_pow, ← Int.natCast_mul, ← Int.natCast_add]
  congr 1
  · exact decide_eq_decide.2 (by omega)
  · exact decide_eq_decide.2 (by rw [Nat.mul_comm (z ^ a)]; omega)
theorem bnd_dec {q c a : Nat} (hq : q ≤ 999) (hc : c ≤ 999999) (ha : 1 ≤ a) (ha2 : a ≤ 500) : 2 * bnd q c a + 1 < 10 ^ (3 * a + 9) := by
  have h1 : bnd q c a ≤ 499999500 * 10 ^ (3 * a) := Nat.mul_le_mul (Nat.mul_le_mul ha2 hc) (pow_dec hq ha)
  have h3 : (10 : Nat) ^ (3 * a + 9) = 10 ^ (3 * a) * 1000000000 := by rw [Nat.pow_add]
  have h4 : (10 : Nat) ^ 3 ≤ 10 ^ (3 * a) := Nat.pow_le_pow_right (by omega) (by omega)
  have h5 : (10 : Nat) ^ 3 = 1000 := rfl
  rw [h5] at h4
  rw [h3]
  generalize (10 : Nat) ^ (3 * a) = X at *
  omega
theorem len_bnd {q c a n : Nat} (hq : q ≤ 999) (hc : c ≤ 999999) (ha : 1 ≤ a) (ha2 : a ≤ 500) (hn : n ≤ 2 * bnd q c a + 1) : (dg B9 (n : Int)).length ≤ 2000 := by
  have h1 := bnd_dec hq hc ha ha2
  have h2 : (10 : Nat) ^ (3 * a + 9) ≤ B9 ^ (3 * a + 9) := Nat.pow_le_pow_left (by decide) _
  have := len_le B9two (z := (n : Int)) (k := 3 * a + 9) (by rw [Int.natAbs_natCast]; omega)
  omega
set_option maxRecDepth 100000 in
set_option maxHeartbeats 4000000 in
theorem Below8_c (q c : Int) (a : Nat) (w : World) (hq0 : 3 ≤ q) (hq1 : q ≤ 999) (hc0 : 1 ≤ c) (hc1 : c ≤ 999999) (ha0 : 1 ≤ a) (ha1 : a ≤ 500) :
    Calls Try.prog 21 #[.int .i64 q, .int .i64 c, .int .i64 a] w fun e w' => ∃ v T, e = .returned v ∧ IsN w' v ((T : Nat) : Int) ∧ isThr q.toNat c.toNat a T ∧ Below w.heap.size w w' := by
  have HQ : Hid (-1000000 < q ∧ q < 1000000) := ⟨by omega, by omega⟩
  have HC : Hid (-1000000 < c ∧ c < 1000000) := ⟨by omega, by omega⟩
  have HLen : Hid (∀ n : Nat, n ≤ 2 * bnd q.toNat c.toNat a + 1 → (dg B9 (n : Int)).length ≤ 2000) := fun n hn => len_bnd (by omega) (by omega) ha0 ha1 hn
  have HF : Hid (∀ n : Nat, fits q c n a (tw q a) = hasN q.toNat c.toNat a n) := fun n => by rw [fits_has (by omega) (by omega) (by omega)]; rfl
  have HLe : Hid (∀ n, hasN q.toNat c.toNat a n = true → 0 < n → n ≤ bnd q.toNat c.toNat a) := fun n h1 h2 => has_le (by omega) h1 h2
  go_enter Try.func21, Try.ntmps21
  go_wp2_with fail
  have R6 : Res2 (w.alloc (Obj.cells #[Value.bool false, Value.slice none 0 0] 28)) w.heap.size := ⟨⟨false, by simp [go_sem]⟩, ⟨none, 0, 0, by simp [go_sem]⟩, by simp [go_sem], by simp [go_sem], by simp⟩
  have HB := below_alloc (Below.refl w.heap.size w) (Obj.cells #[Value.bool false, Value.slice none 0 0] 28)
  generalize hW : w.alloc (Obj.cells #[Value.bool false, Value.slice none 0 0] 28) = W0 at *
  clear hW
  (with_reducible refine (Twos_c q a _ (by omega) (by omega) (by omega)).mono ?_)
  rintro e w1 ⟨K, rfl, hk, hb1⟩
  have hkt : tw q a = K := (hk.eq (by omega)).symm
  have hk9 := hk.le (by omega) (by omega)
  replace HB := below_step HB hb1
  replace R6 := R6.keep hb1
  rw [hkt] at HF
  clear hk hkt hb1

  go_wp2_with fail
  (with_reducible refine (Of_c 0 _ (by omega) (by omega)).mono ?_)
  rintro e w2 ⟨v, rfl, hv, hb2⟩
  obtain ⟨n2, A2, m2, k2, rfl, H2⟩ := hv.form; clear hv
  replace HB := below_step HB hb2
  replace R6 := R6.keep hb2
  clear hb2
  go_wp2_with fail
  (with_reducible refine (Of_c 1 _ (by omega) (by omega)).mono ?_)
  rintro e w3 ⟨v, rfl, hv, hb3⟩
  obtain ⟨n3, A3, m3, k3, rfl, H3⟩ := hv.form; clear hv
  replace HB := below_step HB hb3
  replace R6 := R6.keep hb3
  have H2b := Lib.hid (H2.out.below hb3)
  clear H2 hb3
  have o6 := R6.2.2.2.2
  go_wp2_with fail
  have V8 := VX.new w3 28 H2b.out; replace HB := below_alloc HB (Obj.cells #[Value.bool n2, Value.slice A2 m2 k2] 28)
  replace R6 := R6.keep (below_alloc (Below.refl w3.heap.size w3) (Obj.cells #[Value.bool n2, Value.slice A2 m2 k2] 28))
  generalize hW5 : w3.alloc (Obj.cells #[Value.bool n2, Value.slice A2 m2 k2] 28) = W5 at *
  have s5 : W5.heap.size = w3.heap.size + 1 := by subst hW5; simp
  have H3' : Hid (IsN W5 (.agg #[.bool n3, .slice A3 m3 k3]) 1) := by subst hW5; exact H3.out.below (below_alloc (Below.refl _ _) _)
  clear hW5 H2b H3
  have V9 := VX.new W5 28 H3'.out; replace V8 := V8.keep (below_alloc (Below.refl W5.heap.size W5) (Obj.cells #[Value.bool n3, Value.slice A3 m3 k3] 28)); replace HB := below_alloc HB (Obj.cells #[Value.bool n3, Value.slice A3 m3 k3] 28)
  replace R6 := R6.keep (below_alloc (Below.refl W5.heap.size W5) (Obj.cells #[Value.bool n3, Value.slice A3 m3 k3] 28))
  generalize hW6 : W5.alloc (Obj.cells #[Value.bool n3, Value.slice A3 m3 k3] 28) = W6 at *
  clear hW6 H3'
  rw [s5] at V9
  clear s5
  generalize w3.heap.size = b8 at *
  go_loopw [] (fun wr => ∃ (lo hi : Nat) (nl : Bool) (Al : Option Addr) (ml kl : Nat) (nh : Bool) (Ah : Option Addr) (mh kh : Nat), Hid (Res2 wr w.heap.size) ∧ VN wr b8 nl Al ml kl ((lo : Int)) ∧ VN wr (b8 + 1) nh Ah mh kh ((hi : Int)) ∧ Below w.heap.size w wr ∧ lo < hi ∧ Hid (lo = 0 ∨ hasN q.toNat c.toNat a lo = true) ∧ Hid (hi ≤ 2 * bnd q.toNat c.toNat a + 1))
    (fun wr => 2 * bnd q.toNat c.toNat a + 2 - (numAt wr (b8 + 1)).toNat)
  case atStart => exact ⟨0, 1, _, _, _, _, _, _, _, _, R6, V8, V9, HB, by omega, .inl rfl, by show _ ≤ _; omega⟩
  case round =>
    clear V8 V9 HB R6
    obtain ⟨lo, hi, nl, Al, ml, kl, nh, Ah, mh, kh, R6, V8, V9, HB, hlt, HLO, HHI⟩ := hrel
    have hlen := HHI.out
    have vh0 := V9.c0; have vh1 := V9.c1; have vhf := V9.f0; have vhg := V9.f1; have vhl := V9.lt
    cases hh : hasN q.toNat c.toNat a hi with
    | true =>
      have hle := HLe.out hi hh (by omega)
      have HV : Hid (fits q c hi a K = true) := by show _ = _; rw [HF.out, hh]
      have HH := Lib.hid hh
      have HM : Hid ((numAt wr (b8 + 1)).toNat = hi) := by show _ = _; rw [numAt_eq V9]; rfl
      clear hh
      go_wp2_with fail
      (with_reducible refine (Fits8_c q c hi a K _ _ V9.iz.out HQ.out HC.out (by have := HLen.out _ hlen; have := Nat.mul_le_mul (show (dg B9 (hi)).length + 4 ≤ 2004 by omega) (show 2 * a + 1 ≤ 1001 by omega); omega) (by omega) (by omega)).mono ?_)
      rintro e w4 ⟨he, hb4⟩
      rw [HV.out] at he
      subst he
      replace V8 := V8.keep hb4; replace V9 := V9.keep hb4
      replace R6 := Lib.hid (R6.out.keep hb4)
      replace HB := below_step HB hb4
      clear hb4
      clear vh0 vh1 vhf vhg vhl
      have vl0 := V8.c0; have vl1 := V8.c1; have vlf := V8.f0; have vlg := V8.f1; have vll := V8.lt
      have vh0 := V9.c0; have vh1 := V9.c1; have vhf := V9.f0; have vhg := V9.f1; have vhl := V9.lt
      go_wp2_with fail
      clear vl0 vl1 vlf vlg vll vh0 vh1 vhf vhg vhl
      have RR := V8.res
      have V8' := VX.store RR V9.iz.out
      replace V9 := V9.far (x := .bool nh) (y := .slice Ah mh kh) RR (by omega)
      replace R6 := Lib.hid (R6.out.far (x := .bool nh) (y := .slice Ah mh kh) (b' := b8) (by omega))
      replace HB := below_set2 HB (b := b8) (by omega) (.bool nh) (.slice Ah mh kh)
      clear V8 RR
      generalize hW : (w4.setCell ⟨b8, 0, none⟩ (.bool nh)).setCell ⟨b8, 1, none⟩ (.slice Ah mh kh) = W1 at *
      clear hW
      have vh0 := V9.c0; have vh1 := V9.c1; have vhf := V9.f0; have vhg := V9.f1; have vhl := V9.lt
      (with_reducible refine (Add_c hi hi _ _ _ V9.iz.out V9.iz.out (by have := HLen.out _ hlen; omega) (by have := HLen.out _ hlen; omega)).mono ?_)
      rintro e w5 ⟨v, rfl, hv, hb5⟩
      obtain ⟨n5, A5, m5, k5, rfl, H5⟩ := hv.form; clear hv
      replace V8' := V8'.keep hb5; replace V9 := V9.keep hb5
      replace R6 := Lib.hid (R6.out.keep hb5)
      replace HB := below_step HB hb5
      clear hb5
      clear vh0 vh1 vhf vhg vhl
      have vh0 := V9.c0; have vh1 := V9.c1; have vhf := V9.f0; have vhg := V9.f1; have vhl := V9.lt
      go_wp2
      go_roundw
      case rel =>
        clear vh0 vh1 vhf vhg vhl
        have RR := V9.res
        replace V8' := V8'.far (x := .bool n5) (y := .slice A5 m5 k5) RR (by omega)
        replace R6 := Lib.hid (R6.out.far (x := .bool n5) (y := .slice A5 m5 k5) (b' := b8 + 1) (by omega))
        exact ⟨hi, hi + hi, _, _, _, _, _, _, _, _, R6, V8', by rw [Int.natCast_add]; exact VX.store RR H5.out, below_set2 HB (by omega) _ _, by omega, .inr HH.out, by show _ ≤ _; omega⟩
      case measure =>
        rw [HM.out, numAt_eq (VX.store V9.res H5.out)]
        omega
    | false =>
      have HV : Hid (fits q c hi a K = false) := by show _ = _; rw [HF.out, hh]
      have HH : Hid (hasN q.toNat c.toNat a hi = false) := hh
      clear hh
      go_wp2_with fail
      (with_reducible refine (Fits8_c q c hi a K _ _ V9.iz.out HQ.out HC.out (by have := HLen.out _ hlen; have := Nat.mul_le_mul (show (dg B9 (hi)).length + 4 ≤ 2004 by omega) (show 2 * a + 1 ≤ 1001 by omega); omega) (by omega) (by omega)).mono ?_)
      rintro e w4 ⟨he, hb4⟩
      rw [HV.out] at he
      subst he
      replace V8 := V8.keep hb4; replace V9 := V9.keep hb4
      replace R6 := Lib.hid (R6.out.keep hb4)
      replace HB := below_step HB hb4
      clear hb4 hlen
      clear vh0 vh1 vhf vhg vhl
      go_wp2_with fail
      go_loopw [] (fun wr => ∃ (lo hi : Nat) (nl : Bool) (Al : Option Addr) (ml kl : Nat) (nh : Bool) (Ah : Option Addr) (mh kh : Nat), Hid (Res2 wr w.heap.size) ∧ VN wr b8 nl Al ml kl ((lo : Int)) ∧ VN wr (b8 + 1) nh Ah mh kh ((hi : Int)) ∧ Below w.heap.size w wr ∧ lo < hi ∧ Hid (lo = 0 ∨ hasN q.toNat c.toNat a lo = true) ∧ Hid (hi ≤ 2 * bnd q.toNat c.toNat a + 1) ∧ Hid (hasN q.toNat c.toNat a hi = false))
        (fun wr => (numAt wr (b8 + 1)).toNat - (numAt wr b8).toNat)
      case atStart => exact ⟨lo, hi, _, _, _, _, _, _, _, _, R6, V8, V9, HB, hlt, HLO, HHI, HH⟩
      case round =>
        clear V8 V9 HB R6 hlt HLO HHI HH HV
        obtain ⟨lo, hi, nl, Al, ml, kl, nh, Ah, mh, kh, R6, V8, V9, HB, hlt, HLO, HHI, HH⟩ := hrel
        have hlen := HHI.out
        have LLo := Lib.hid (HLen.out lo (by omega))
        have LHi := Lib.hid (HLen.out hi (by omega))
        have L1 : Hid ((dg B9 1).length ≤ 1) := len_le B9two (by decide)
        have HM : Hid ((numAt wr (b8 + 1)).toNat = hi) := by show _ = _; rw [numAt_eq V9]; rfl
        have HM2 : Hid ((numAt wr b8).toNat = lo) := by show _ = _; rw [numAt_eq V8]; rfl
        have vl0 := V8.c0; have vl1 := V8.c1; have vlf := V8.f0; have vlg := V8.f1; have vll := V8.lt
        have vh0 := V9.c0; have vh1 := V9.c1; have vhf := V9.f0; have vhg := V9.f1; have vhl := V9.lt
        by_cases hend : lo + 1 < hi
        · have hg : icmp ((lo : Int) + 1) hi < 0 := (icmp_lt _ _).2 (by omega)
          go_wp2_with fail
          replace V8 := V8.drew; replace V9 := V9.drew; replace HB := below_drew HB
          replace R6 := Lib.hid R6.out.drew
          generalize hWd : wr.drew = wd at *
          refine wp_region_F (fun w' => w'.cell? ⟨b8, 0, none⟩ = some (.bool nl) ∧ w'.cell? ⟨b8, 1, none⟩ = some (.slice Al ml kl) ∧ w'.cell? ⟨(b8 + 1), 0, none⟩ = some (.bool nh) ∧ w'.cell? ⟨(b8 + 1), 1, none⟩ = some (.slice Ah mh kh)) [] (by kernel_rfl) (by rw [hWd]; exact ⟨V8.c0, V8.c1, V9.c0, V9.c1⟩) (fun hHeld => ?_)
          rw [hWd] at hHeld ⊢
          refine wpAnyF_take (i := 0) (oi := { dst := some 27, op := Go.Op.load 28 (Go.Operand.tmp 8), type := 28, pos := "ref.go:77", after := #[], guard := none }) (v := ?_) rfl (by kernel_rfl) (by kernel_rfl) (by kernel_rfl) (by kernel_rfl) (fun _ _ _ h => h) (Or.inl ⟨by rfl, ?_⟩) hHeld ?_
          rotate_left
          · intro w_ hSw_; (try dsimp only at hSw_); go_simp; (try with_reducible rfl)
          (try simp only [Act.put, List.setIfInBounds_toArray, List.set_cons_zero, List.set_cons_succ])
          refine wpAnyF_take (i := 3) (oi := { dst := some 30, op := Go.Op.load 28 (Go.Operand.tmp 9), type := 28, pos := "ref.go:77", after := #[], guard := none }) (v := ?_) rfl (by kernel_rfl) (by kernel_rfl) (by kernel_rfl) (by kernel_rfl) (fun _ _ _ h => h) (Or.inl ⟨by rfl, ?_⟩) hHeld ?_
          rotate_left
          · intro w_ hSw_; (try dsimp only at hSw_); go_simp; (try with_reducible rfl)
          (try simp only [Act.put, List.setIfInBounds_toArray, List.set_cons_zero, List.set_cons_succ])
          refine wpAnyF_one (i := 1) (by kernel_rfl) rfl (fun K hK => ?_)
          go_simp
          (go_at_call 28; (with_reducible refine (Of_c 1 _ (by omega) (by omega)).mono ?_); rintro e w5 ⟨v, rfl, hv, hb5⟩; obtain ⟨n5, A5, m5, k5, rfl, H5⟩ := hv.form; clear hv; replace V8 := V8.keep hb5; replace V9 := V9.keep hb5; replace R6 := Lib.hid (R6.out.keep hb5); replace HB := below_step HB hb5; clear hb5)
          refine hK.out _ _ (by exact ⟨V8.c0, V8.c1, V9.c0, V9.c1⟩) (fun hHeld => ?_)
          clear hK K
          (try simp only [Act.put, List.setIfInBounds_toArray, List.set_cons_zero, List.set_cons_succ])
          refine wpAnyF_one (i := 2) (by kernel_rfl) rfl (fun K hK => ?_)
          go_simp
          (go_at_call 27; (with_reducible refine (Add_c lo 1 _ _ _ (by exact V8.iz.out) H5.out (by have := LLo.out; omega) (by have := L1.out; omega)).mono ?_); rintro e w6 ⟨v, rfl, hv, hb6⟩; obtain ⟨n6, A6, m6, k6, rfl, H6⟩ := hv.form; clear hv; replace V8 := V8.keep hb6; replace V9 := V9.keep hb6; replace R6 := Lib.hid (R6.out.keep hb6); replace HB := below_step HB hb6; clear hb6)
          refine hK.out _ _ (by exact ⟨V8.c0, V8.c1, V9.c0, V9.c1⟩) (fun hHeld => ?_)
          clear hK K
          (try simp only [Act.put, List.setIfInBounds_toArray, List.set_cons_zero, List.set_cons_succ])
          refine wpAnyF_one (i := 4) (by kernel_rfl) rfl (fun K hK => ?_)
          go_simp
          (go_at_call 23; (with_reducible refine (Cmp_c ((lo : Int) + 1) hi _ _ _ H6.out (by exact V9.iz.out)).mono ?_); rintro e w7 ⟨rfl, hb7⟩; replace V8 := V8.keep hb7; replace V9 := V9.keep hb7; replace R6 := Lib.hid (R6.out.keep hb7); replace HB := below_step HB hb7; clear hb7)
          refine hK.out _ _ (by exact ⟨V8.c0, V8.c1, V9.c0, V9.c1⟩) (fun hHeld => ?_)
          clear hK K
          (try simp only [Act.put, List.setIfInBounds_toArray, List.set_cons_zero, List.set_cons_succ])
          refine wpAnyF_take (i := 5) (oi := { dst := some 32, op := Go.Op.binOp Go.BinOp.lss 3 (Go.Operand.tmp 31) (Go.Operand.const (Go.Value.int Go.IntKind.i64 0)) 3, type := 4, pos := "ref.go:77", after := #[{ on := 4, ground := Go.Ground.data }], guard := none }) (v := ?_) rfl (by kernel_rfl) (by kernel_rfl) (by kernel_rfl) (by kernel_rfl) (fun _ _ _ h => h) (Or.inl ⟨by rfl, ?_⟩) hHeld ?_
          rotate_left
          · intro w_ hSw_; (try dsimp only at hSw_); go_simp; (try with_reducible rfl)
          (try simp only [Act.put, List.setIfInBounds_toArray, List.set_cons_zero, List.set_cons_succ])
          refine wpAnyF_done (by kernel_rfl) ?_ _
          clear hHeld hWd H5 H6
          clear vl0 vl1 vlf vlg vll vh0 vh1 vhf vhg vhl
          generalize icmp ((lo : Int) + 1) hi = cm at *
          have vl0 := V8.c0; have vl1 := V8.c1; have vlf := V8.f0; have vlg := V8.f1; have vll := V8.lt
          have vh0 := V9.c0; have vh1 := V9.c1; have vhf := V9.f0; have vhg := V9.f1; have vhl := V9.lt
          go_wp2_with fail
          (with_reducible refine (Add_c lo hi _ _ _ V8.iz.out V9.iz.out (by have := LLo.out; omega) (by have := LHi.out; omega)).mono ?_)
          rintro e w8 ⟨v, rfl, hv, hb8⟩
          obtain ⟨n8, A8, m8, k8, rfl, H8⟩ := hv.form; clear hv
          replace V8 := V8.keep hb8; replace V9 := V9.keep hb8
          replace R6 := Lib.hid (R6.out.keep hb8)
          replace HB := below_step HB hb8
          clear hb8
          clear vl0 vl1 vlf vlg vll vh0 vh1 vhf vhg vhl
          have LS : Hid ((dg B9 ((lo : Int) + hi)).length ≤ 1000000000) := by have := len_add B9two (lo : Int) hi; have := LLo.out; have := LHi.out; show _ ≤ _; omega
          have LM : Hid (((lo : Int) + hi) / 2 = (((lo + hi) / 2 : Nat) : Int)) := by show _ = _; omega
          obtain ⟨M, hM⟩ : ∃ M, (lo + hi) / 2 = M := ⟨_, rfl⟩
          rw [hM] at LM
          go_wp2_with fail
          (with_reducible refine (Part_c ((lo : Int) + hi) 2 _ _ H8.out (by omega) (by omega) LS.out).mono ?_)
          rintro e w9 ⟨v, rfl, hv, hb9⟩
          rw [LM.out] at hv
          generalize ((lo : Int) + hi) % 2 = rr at *
          obtain ⟨n9, A9, m9, k9, rfl, H9⟩ := hv.form; clear hv
          replace V8 := V8.keep hb9; replace V9 := V9.keep hb9
          replace R6 := Lib.hid (R6.out.keep hb9)
          replace HB := below_step HB hb9
          have l9 := V9.lt
          clear hb9 H8 LS LM
          have V10 := VX.new w9 28 H9.out; replace V8 := V8.keep (below_alloc (Below.refl w9.heap.size w9) (Obj.cells #[Value.bool n9, Value.slice A9 m9 k9] 28)); replace V9 := V9.keep (below_alloc (Below.refl w9.heap.size w9) (Obj.cells #[Value.bool n9, Value.slice A9 m9 k9] 28)); replace HB := below_alloc HB (Obj.cells #[Value.bool n9, Value.slice A9 m9 k9] 28)
          replace R6 := Lib.hid (R6.out.keep (below_alloc (Below.refl w9.heap.size w9) (Obj.cells #[Value.bool n9, Value.slice A9 m9 k9] 28)))
          clear H9
          have hlo : lo < M := by omega
          have hhi : M < hi := by omega
          have hlenH := Lib.hid hlen
          replace hlen : M ≤ 2 * bnd q.toNat c.toNat a + 1 := by omega
          clear hM
          cases hm : hasN q.toNat c.toNat a M with
          | true =>
            have HV2 : Hid (fits q c M a K = true) := by show _ = _; rw [HF.out, hm]
            have HMM := Lib.hid hm
            clear hm
            go_wp2_with fail
            generalize hW : w9.alloc (Obj.cells #[Value.bool n9, Value.slice A9 m9 k9] 28) = W9 at *
            generalize w9.heap.size = b10 at *
            clear hW
            (with_reducible refine (Fits8_c q c M a K _ _ V10.iz.out HQ.out HC.out (by have := HLen.out _ hlen; have := Nat.mul_le_mul (show (dg B9 (M)).length + 4 ≤ 2004 by omega) (show 2 * a + 1 ≤ 1001 by omega); omega) (by omega) (by omega)).mono ?_)
            rintro e w10 ⟨he, hb10⟩
            rw [HV2.out] at he
            subst he
            replace V8 := V8.keep hb10; replace V9 := V9.keep hb10; replace V10 := V10.keep hb10
            replace R6 := Lib.hid (R6.out.keep hb10)
            replace HB := below_step HB hb10
            clear hb10
            have vl0 := V8.c0; have vl1 := V8.c1; have vlf := V8.f0; have vlg := V8.f1; have vll := V8.lt
            have vm0 := V10.c0; have vm1 := V10.c1; have vmf := V10.f0; have vmg := V10.f1; have vml := V10.lt
            go_wp2
            go_roundw
            clear vl0 vl1 vlf vlg vll vm0 vm1 vmf vmg vml
            case rel =>
              have RR := V8.res
              have NV8 := VX.store RR V10.iz.out
              have NV9 := V9.far (x := .bool n9) (y := .slice A9 m9 k9) RR (by omega)
              replace R6 := Lib.hid (R6.out.far (x := .bool n9) (y := .slice A9 m9 k9) (b' := b8) (by omega))
              exact ⟨M, hi, _, _, _, _, _, _, _, _, R6, NV8, NV9, below_set2 HB (by omega) _ _, by omega, .inr HMM.out, HHI, HH⟩
            case measure => rw [HM.out, HM2.out, numAt_eq (VX.store V8.res V10.iz.out), numAt_eq (V9.far (x := .bool n9) (y := .slice A9 m9 k9) V8.res (by omega))]; omega
          | false =>
            have HV2 : Hid (fits q c M a K = false) := by show _ = _; rw [HF.out, hm]
            have HMM := Lib.hid hm
            clear hm
            go_wp2_with fail
            generalize hW : w9.alloc (Obj.cells #[Value.bool n9, Value.slice A9 m9 k9] 28) = W9 at *
            generalize w9.heap.size = b10 at *
            clear hW
            (with_reducible refine (Fits8_c q c M a K _ _ V10.iz.out HQ.out HC.out (by have := HLen.out _ hlen; have := Nat.mul_le_mul (show (dg B9 (M)).length + 4 ≤ 2004 by omega) (show 2 * a + 1 ≤ 1001 by omega); omega) (by omega) (by omega)).mono ?_)
            rintro e w10 ⟨he, hb10⟩
            rw [HV2.out] at he
            subst he
            replace V8 := V8.keep hb10; replace V9 := V9.keep hb10; replace V10 := V10.keep hb10
            replace R6 := Lib.hid (R6.out.keep hb10)
            replace HB := below_step HB hb10
            clear hb10
            have vl0 := V9.c0; have vl1 := V9.c1; have vlf := V9.f0; have vlg := V9.f1; have vll := V9.lt
            have vm0 := V10.c0; have vm1 := V10.c1; have vmf := V10.f0; have vmg := V10.f1; have vml := V10.lt
            go_wp2
            go_roundw
            clear vl0 vl1 vlf vlg vll vm0 vm1 vmf vmg vml
            case rel =>
              have RR := V9.res
              have NV8 := VX.store RR V10.iz.out
              have NV9 := V8.far (x := .bool n9) (y := .slice A9 m9 k9) RR (by omega)
              replace R6 := Lib.hid (R6.out.far (x := .bool n9) (y := .slice A9 m9 k9) (b' := (b8 + 1)) (by omega))
              exact ⟨lo, M, _, _, _, _, _, _, _, _, R6, NV9, NV8, below_set2 HB (by omega) _ _, by omega, HLO, hlen, HMM⟩
            case measure => rw [HM.out, HM2.out, numAt_eq (VX.store V9.res V10.iz.out), numAt_eq (V8.far (x := .bool n9) (y := .slice A9 m9 k9) V9.res (by omega))]; omega
        · have hg : ¬ icmp ((lo : Int) + 1) hi < 0 := fun h => hend (by have := (icmp_lt _ _).1 h; omega)
          have hhi : hi = lo + 1 := by omega
          have HT : Hid (isThr q.toNat c.toNat a lo) := ⟨HLO.out, by rw [← hhi]; exact HH.out⟩
          clear hend hhi
          go_wp2_with fail
          replace V8 := V8.drew; replace V9 := V9.drew; replace HB := below_drew HB
          replace R6 := Lib.hid R6.out.drew
          generalize hWd : wr.drew = wd at *
          refine wp_region_F (fun w' => w'.cell? ⟨b8, 0, none⟩ = some (.bool nl) ∧ w'.cell? ⟨b8, 1, none⟩ = some (.slice Al ml kl) ∧ w'.cell? ⟨(b8 + 1), 0, none⟩ = some (.bool nh) ∧ w'.cell? ⟨(b8 + 1), 1, none⟩ = some (.slice Ah mh kh)) [] (by kernel_rfl) (by rw [hWd]; exact ⟨V8.c0, V8.c1, V9.c0, V9.c1⟩) (fun hHeld => ?_)
          rw [hWd] at hHeld ⊢
          refine wpAnyF_take (i := 0) (oi := { dst := some 27, op := Go.Op.load 28 (Go.Operand.tmp 8), type := 28, pos := "ref.go:77", after := #[], guard := none }) (v := ?_) rfl (by kernel_rfl) (by kernel_rfl) (by kernel_rfl) (by kernel_rfl) (fun _ _ _ h => h) (Or.inl ⟨by rfl, ?_⟩) hHeld ?_
          rotate_left
          · intro w_ hSw_; (try dsimp only at hSw_); go_simp; (try with_reducible rfl)
          (try simp only [Act.put, List.setIfInBounds_toArray, List.set_cons_zero, List.set_cons_succ])
          refine wpAnyF_take (i := 3) (oi := { dst := some 30, op := Go.Op.load 28 (Go.Operand.tmp 9), type := 28, pos := "ref.go:77", after := #[], guard := none }) (v := ?_) rfl (by kernel_rfl) (by kernel_rfl) (by kernel_rfl) (by kernel_rfl) (fun _ _ _ h => h) (Or.inl ⟨by rfl, ?_⟩) hHeld ?_
          rotate_left
          · intro w_ hSw_; (try dsimp only at hSw_); go_simp; (try with_reducible rfl)
          (try simp only [Act.put, List.setIfInBounds_toArray, List.set_cons_zero, List.set_cons_succ])
          refine wpAnyF_one (i := 1) (by kernel_rfl) rfl (fun K hK => ?_)
          go_simp
          (go_at_call 28; (with_reducible refine (Of_c 1 _ (by omega) (by omega)).mono ?_); rintro e w5 ⟨v, rfl, hv, hb5⟩; obtain ⟨n5, A5, m5, k5, rfl, H5⟩ := hv.form; clear hv; replace V8 := V8.keep hb5; replace V9 := V9.keep hb5; replace R6 := Lib.hid (R6.out.keep hb5); replace HB := below_step HB hb5; clear hb5)
          refine hK.out _ _ (by exact ⟨V8.c0, V8.c1, V9.c0, V9.c1⟩) (fun hHeld => ?_)
          clear hK K
          (try simp only [Act.put, List.setIfInBounds_toArray, List.set_cons_zero, List.set_cons_succ])
          refine wpAnyF_one (i := 2) (by kernel_rfl) rfl (fun K hK => ?_)
          go_simp
          (go_at_call 27; (with_reducible refine (Add_c lo 1 _ _ _ (by exact V8.iz.out) H5.out (by have := LLo.out; omega) (by have := L1.out; omega)).mono ?_); rintro e w6 ⟨v, rfl, hv, hb6⟩; obtain ⟨n6, A6, m6, k6, rfl, H6⟩ := hv.form; clear hv; replace V8 := V8.keep hb6; replace V9 := V9.keep hb6; replace R6 := Lib.hid (R6.out.keep hb6); replace HB := below_step HB hb6; clear hb6)
          refine hK.out _ _ (by exact ⟨V8.c0, V8.c1, V9.c0, V9.c1⟩) (fun hHeld => ?_)
          clear hK K
          (try simp only [Act.put, List.setIfInBounds_toArray, List.set_cons_zero, List.set_cons_succ])
          refine wpAnyF_one (i := 4) (by kernel_rfl) rfl (fun K hK => ?_)
          go_simp
          (go_at_call 23; (with_reducible refine (Cmp_c ((lo : Int) + 1) hi _ _ _ H6.out (by exact V9.iz.out)).mono ?_); rintro e w7 ⟨rfl, hb7⟩; replace V8 := V8.keep hb7; replace V9 := V9.keep hb7; replace R6 := Lib.hid (R6.out.keep hb7); replace HB := below_step HB hb7; clear hb7)
          refine hK.out _ _ (by exact ⟨V8.c0, V8.c1, V9.c0, V9.c1⟩) (fun hHeld => ?_)
          clear hK K
          (try simp only [Act.put, List.setIfInBounds_toArray, List.set_cons_zero, List.set_cons_succ])
          refine wpAnyF_take (i := 5) (oi := { dst := some 32, op := Go.Op.binOp Go.BinOp.lss 3 (Go.Operand.tmp 31) (Go.Operand.const (Go.Value.int Go.IntKind.i64 0)) 3, type := 4, pos := "ref.go:77", after := #[{ on := 4, ground := Go.Ground.data }], guard := none }) (v := ?_) rfl (by kernel_rfl) (by kernel_rfl) (by kernel_rfl) (by kernel_rfl) (fun _ _ _ h => h) (Or.inl ⟨by rfl, ?_⟩) hHeld ?_
          rotate_left
          · intro w_ hSw_; (try dsimp only at hSw_); go_simp; (try with_reducible rfl)
          (try simp only [Act.put, List.setIfInBounds_toArray, List.set_cons_zero, List.set_cons_succ])
          refine wpAnyF_done (by kernel_rfl) ?_ _
          clear hHeld hWd H5 H6
          clear vl0 vl1 vlf vlg vll vh0 vh1 vhf vhg vhl
          generalize icmp ((lo : Int) + 1) hi = cm at *
          have vl0 := V8.c0; have vl1 := V8.c1; have vlf := V8.f0; have vlg := V8.f1; have vll := V8.lt
          have R6h := R6.out
          obtain ⟨⟨u1, r1⟩, ⟨u2, u3, u4, r2⟩, r3, r4, r5⟩ := R6.out
          go_wp2

          refine bodyPost_ret (v := .agg #[.bool nl, .slice Al ml kl]) (by simp [results, Try.results21, go_sem, r1, r2, r5]) rfl ⟨_, lo, rfl, V8.iz.out.res2 R6h _ _, HT.out, below_set2 HB (by omega) _ _⟩
end Go.Proofs.Ytiaeeclmlchpoaa

set_option linter.unusedVariables false
set_option linter.unusedSimpArgs false
namespace Go.Proofs.Ytiaeeclmlchpoaa
open Go.RowKit

set_option maxRecDepth 100000 in
set_option maxHeartbeats 4000000 in
theorem BLeast_law (q c a : Int) (s : ByteArray) (w : World) (hs : s.size ≤ 9223372036854775807) :
    Calls Try.prog 4 #[.int .i64 q, .int .i64 c, .string s, .int .i64 a] w fun e w' => e = .returned (.bool true) ∧ Below w.heap.size w w' := by
  have HB : Below w.heap.size w w := Below.refl _ _
  rcases vld_cases s with hv | ⟨z, rfl, hz⟩
  · have HV := Lib.hid hv
    clear hv
    go_enter Try.func4, Try.ntmps4
    go_wp2_with fail
    (with_reducible refine (heavy_no q c a 30000 s _ hs HV.out).mono ?_)
    rintro e w1 ⟨he, hb⟩
    replace HB := below_step HB hb
    clear hb
    subst he
    go_wp2_with fail
    (with_reducible refine (due_no q c a s _ hs HV.out).mono ?_)
    rintro e w2 ⟨he, hb⟩
    replace HB := below_step HB hb
    clear hb
    subst he
    go_wp2_with fail
    (with_reducible refine (least_no q c a s _ hs HV.out).mono ?_)
    rintro e w3 ⟨he, hb⟩
    replace HB := below_step HB hb
    clear hb
    subst he
    go_wp2_with fail
    (with_reducible refine (awake_c _).mono ?_)
    rintro e w9 ⟨he, hb⟩
    replace HB := below_step HB hb
    clear hb
    subst he
    go_wp2
    go_ret
    exact ⟨rfl, HB⟩
  · rcases Bool.eq_false_or_eq_true (heavyB q c z a 30000) with hh | hh
    · have HH := Lib.hid hh
      clear hh
      go_enter Try.func4, Try.ntmps4
      go_wp2_with fail
      (with_reducible refine (heavy_v q c a 30000 z _ hz).mono ?_)
      rintro e w1 ⟨he, hb⟩
      replace HB := below_step HB hb
      clear hb
      obtain rfl : e = .returned (.bool true) := by rw [he, HH.out] <;> rfl
      clear he
      go_wp2_with fail
      (with_reducible refine (awake_c _).mono ?_)
      rintro e w9 ⟨he, hb⟩
      replace HB := below_step HB hb
      clear hb
      subst he
      go_wp2
      go_ret
      exact ⟨rfl, HB⟩
    · have HH := Lib.hid hh
      clear hh
      rcases Bool.eq_false_or_eq_true (askE q c z a) with hE | hE
      rotate_left
      · have HD : Hid (dueE q c z a = 2) := by show _ = _; unfold dueE; rw [hE]; rfl
        have HR : Hid (bleast q c z a = (0, 0, 2)) := by show _ = _; unfold bleast; rw [if_pos hE]
        clear hE
        go_enter Try.func4, Try.ntmps4

        go_wp2_with fail
        (with_reducible refine (heavy_v q c a 30000 z _ hz).mono ?_)
        rintro e w1 ⟨he, hb⟩
        replace HB := below_step HB hb
        clear hb
        obtain rfl : e = .returned (.bool false) := by rw [he, HH.out] <;> rfl
        clear he
        go_wp2_with fail
        (with_reducible refine (due_v q c a z _ hz).mono ?_)
        rintro e w2 ⟨he, hb⟩
        replace HB := below_step HB hb
        clear hb
        obtain rfl : e = .returned (.int .i64 2) := by rw [he, HD.out] <;> rfl
        clear he
        go_wp2_with fail
        (with_reducible refine (least_v q c a z _ hz).mono ?_)
        rintro e w3 ⟨he, hb⟩
        replace HB := below_step HB hb
        clear hb
        obtain rfl : e = .returned (.tuple #[.int .i64 0, .int .i64 0, .int .i64 2]) := by rw [he, HR.out] <;> rfl
        clear he
        go_wp2_with fail
        (with_reducible refine (awake_c _).mono ?_)
        rintro e w9 ⟨he, hb⟩
        replace HB := below_step HB hb
        clear hb
        subst he
        go_wp2
        go_ret
        exact ⟨rfl, HB⟩
      · have HD : Hid (dueE q c z a = 0) := by show _ = _; unfold dueE; rw [hE]; rfl
        have HR := Lib.hid (bleast_val hE)
        obtain ⟨hkb, hz0, ha1, ha2⟩ := askE_spec hE
        obtain ⟨k1, k2, k3, k4, k5, k6⟩ := kinB_spec hkb
        clear hE k3 k6 hkb
        have HQ : Hid (-1000000 < q ∧ q < 1000000) := ⟨by omega, by omega⟩
        have HC : Hid (-1000000 < c ∧ c < 1000000) := ⟨by omega, by omega⟩
        have hl9 := len9 hz
        have hlz : (dg B9 z).length ≤ 900000000 := by omega
        obtain ⟨a, rfl⟩ := Int.eq_ofNat_of_zero_le (show 0 ≤ a by omega)
        have SZ : Hid (((dg B9 z).length + 20) * (2 * a + 3) + 1 ≤ 100000000) := by
          have := Nat.mul_le_mul (show (dg B9 z).length + 20 ≤ 2020 by omega) (show 2 * a + 3 ≤ 40003 by omega)
          show _ ≤ _; omega
        have HL : Hid (lst q c z 1 a = lstN q.toNat c.toNat z.natAbs 0 a) := by
          obtain ⟨q, rfl⟩ := Int.eq_ofNat_of_zero_le (show 0 ≤ q by omega)
          obtain ⟨c, rfl⟩ := Int.eq_ofNat_of_zero_le (show 0 ≤ c by omega)
          obtain ⟨z, rfl⟩ := Int.eq_ofNat_of_zero_le (show 0 ≤ z by omega)
          exact lst_lstN (by omega) a 0
        obtain ⟨D, hD⟩ : ∃ D, dlN (q * z + c).natAbs = D := ⟨_, rfl⟩
        rw [hD] at HR
        have HDD : Hid (dl (q * z + c) = D) := by show _ = _; rw [dl_N, hD]
        clear hD
        by_cases h3 : 100000 < (a : Int) * (D : Int)
        · have HR2 : Hid (bleast q c z a = (0, 0, 3)) := by show _ = _; rw [HR.out, if_pos h3]
          have h3b : decide (100000 < (a : Int) * (D : Int)) = true := decide_eq_true h3
          have HT3 := Lib.hid h3b
          clear h3 h3b HR
          go_enter Try.func4, Try.ntmps4

          go_wp2_with fail
          (with_reducible refine (heavy_v q c a 30000 z _ hz).mono ?_)
          rintro e w1 ⟨he, hb⟩
          replace HB := below_step HB hb
          clear hb
          obtain rfl : e = .returned (.bool false) := by rw [he, HH.out] <;> rfl
          clear he
          go_wp2_with fail
          (with_reducible refine (due_v q c a z _ hz).mono ?_)
          rintro e w2 ⟨he, hb⟩
          replace HB := below_step HB hb
          clear hb
          obtain rfl : e = .returned (.int .i64 0) := by rw [he, HD.out] <;> rfl
          clear he
          go_wp2_with fail
          (with_reducible refine (Parse_c z _ (by omega)).mono ?_)
          rintro e w3 ⟨v, rfl, hv, hb3⟩
          obtain ⟨n3, A3, m3, k3, rfl, H3⟩ := hv.form; clear hv
          have V := VX.new w3 28 H3.out
          replace HB := below_alloc (below_step HB hb3) (Obj.cells #[Value.bool n3, Value.slice A3 m3 k3] 28)
          clear hb3 H3
          go_wp2_with fail
          generalize hW : w3.alloc (Obj.cells #[Value.bool n3, Value.slice A3 m3 k3] 28) = W at *
          generalize w3.heap.size = b at *
          clear hW
          (with_reducible refine (Long_c q c z a _ _ V.iz.out HQ.out HC.out hlz (by omega) (by omega)).mono ?_)
          rintro e w4 ⟨rfl, hb4⟩
          replace HB := below_step HB hb4
          replace V := V.keep hb4
          clear hb4
          rw [HDD.out, HT3.out]
          go_wp2_with fail
          (with_reducible refine (least_v q c a z _ hz).mono ?_)
          rintro e w3 ⟨he, hb⟩
          replace HB := below_step HB hb
          clear hb
          obtain rfl : e = .returned (.tuple #[.int .i64 0, .int .i64 0, .int .i64 3]) := by rw [he, HR2.out] <;> rfl
          clear he
          go_wp2_with fail
          (with_reducible refine (awake_c _).mono ?_)
          rintro e w9 ⟨he, hb⟩
          replace HB := below_step HB hb
          clear hb
          subst he
          go_wp2
          go_ret
          exact ⟨rfl, HB⟩
        · have HR2 : Hid (bleast q c z a = match lstN q.toNat c.toNat z.natAbs 0 a with | some (i, j) => (i, j, 0) | none => (0, 0, 4)) := by show _ = _; rw [HR.out, if_neg h3]; rfl
          have h3b : decide (100000 < (a : Int) * (D : Int)) = false := decide_eq_false h3
          have HT3 := Lib.hid h3b
          clear h3 h3b HR
          cases hl : lstN q.toNat c.toNat z.natAbs 0 a with
          | none =>
            have HR3 : Hid (bleast q c z a = (0, 0, 4)) := by show _ = _; rw [HR2.out, hl]
            have HLS : Hid (lst q c z 1 a = none) := by show _ = _; rw [HL.out, hl]
            clear hl HR2 HL
            go_enter Try.func4, Try.ntmps4

            go_wp2_with fail
            (with_reducible refine (heavy_v q c a 30000 z _ hz).mono ?_)
            rintro e w1 ⟨he, hb⟩
            replace HB := below_step HB hb
            clear hb
            obtain rfl : e = .returned (.bool false) := by rw [he, HH.out] <;> rfl
            clear he
            go_wp2_with fail
            (with_reducible refine (due_v q c a z _ hz).mono ?_)
            rintro e w2 ⟨he, hb⟩
            replace HB := below_step HB hb
            clear hb
            obtain rfl : e = .returned (.int .i64 0) := by rw [he, HD.out] <;> rfl
            clear he
            go_wp2_with fail
            (with_reducible refine (Parse_c z _ (by omega)).mono ?_)
            rintro e w3 ⟨v, rfl, hv, hb3⟩
            obtain ⟨n3, A3, m3, k3, rfl, H3⟩ := hv.form; clear hv
            have V := VX.new w3 28 H3.out
            replace HB := below_alloc (below_step HB hb3) (Obj.cells #[Value.bool n3, Value.slice A3 m3 k3] 28)
            clear hb3 H3
            go_wp2_with fail
            generalize hW : w3.alloc (Obj.cells #[Value.bool n3, Value.slice A3 m3 k3] 28) = W at *
            generalize w3.heap.size = b at *
            clear hW
            (with_reducible refine (Long_c q c z a _ _ V.iz.out HQ.out HC.out hlz (by omega) (by omega)).mono ?_)
            rintro e w4 ⟨rfl, hb4⟩
            replace HB := below_step HB hb4
            replace V := V.keep hb4
            clear hb4
            rw [HDD.out, HT3.out]
            have vc0 := V.c0; have vc1 := V.c1; have vl := V.lt
            go_wp2_with fail
            (with_reducible refine (Least8_c q c z a _ _ V.iz.out (by omega) (by omega) HC.out (by omega) SZ.out (by omega)).mono ?_)
            rintro e w5 ⟨he, hb5⟩
            rw [HLS.out] at he
            unfold resL at he
            subst he
            replace HB := below_step HB hb5
            clear hb5 V vc0 vc1 vl
            go_wp2_with fail
            (with_reducible refine (least_v q c a z _ hz).mono ?_)
            rintro e w3 ⟨he, hb⟩
            replace HB := below_step HB hb
            clear hb
            obtain rfl : e = .returned (.tuple #[.int .i64 0, .int .i64 0, .int .i64 4]) := by rw [he, HR3.out] <;> rfl
            clear he
            go_wp2_with fail
            (with_reducible refine (awake_c _).mono ?_)
            rintro e w9 ⟨he, hb⟩
            replace HB := below_step HB hb
            clear hb
            subst he
            go_wp2
            go_ret
            exact ⟨rfl, HB⟩
          | some p =>
            obtain ⟨i, j⟩ := p
            have HR3 : Hid (bleast q c z a = (i, j, 0)) := by show _ = _; rw [HR2.out, hl]
            have HLS : Hid (lst q c z 1 a = some (i, j)) := by show _ = _; rw [HL.out, hl]
            clear hl HR2 HL
            go_enter Try.func4, Try.ntmps4
            go_wp2_with fail
            (with_reducible refine (heavy_v q c a 30000 z _ hz).mono ?_)
            rintro e w1 ⟨he, hb⟩
            replace HB := below_step HB hb
            clear hb
            obtain rfl : e = .returned (.bool false) := by rw [he, HH.out] <;> rfl
            clear he
            go_wp2_with fail
            (with_reducible refine (due_v q c a z _ hz).mono ?_)
            rintro e w2 ⟨he, hb⟩
            replace HB := below_step HB hb
            clear hb
            obtain rfl : e = .returned (.int .i64 0) := by rw [he, HD.out] <;> rfl
            clear he
            go_wp2_with fail
            (with_reducible refine (Parse_c z _ (by omega)).mono ?_)
            rintro e w3 ⟨v, rfl, hv, hb3⟩
            obtain ⟨n3, A3, m3, k3, rfl, H3⟩ := hv.form; clear hv
            have V := VX.new w3 28 H3.out
            replace HB := below_alloc (below_step HB hb3) (Obj.cells #[Value.bool n3, Value.slice A3 m3 k3] 28)
            clear hb3 H3
            go_wp2_with fail
            generalize hW : w3.alloc (Obj.cells #[Value.bool n3, Value.slice A3 m3 k3] 28) = W at *
            generalize w3.heap.size = b at *
            clear hW
            (with_reducible refine (Long_c q c z a _ _ V.iz.out HQ.out HC.out hlz (by omega) (by omega)).mono ?_)
            rintro e w4 ⟨rfl, hb4⟩
            replace HB := below_step HB hb4
            replace V := V.keep hb4
            clear hb4
            rw [HDD.out, HT3.out]
            have vc0 := V.c0; have vc1 := V.c1; have vl := V.lt
            go_wp2_with fail
            (with_reducible refine (Least8_c q c z a _ _ V.iz.out (by omega) (by omega) HC.out (by omega) SZ.out (by omega)).mono ?_)
            rintro e w5 ⟨he, hb5⟩
            rw [HLS.out] at he
            unfold resL at he
            subst he
            replace HB := below_step HB hb5
            clear hb5 V vc0 vc1 vl
            go_wp2_with fail
            (with_reducible refine (least_v q c a z _ hz).mono ?_)
            rintro e w3 ⟨he, hb⟩
            replace HB := below_step HB hb
            clear hb
            obtain rfl : e = .returned (.tuple #[.int .i64 i, .int .i64 j, .int .i64 0]) := by rw [he, HR3.out] <;> rfl
            clear he
            go_wp2_with fail
            (with_reducible refine (awake_c _).mono ?_)
            rintro e w9 ⟨he, hb⟩
            replace HB := below_step HB hb
            clear hb
            subst he
            go_wp2
            go_ret
            exact ⟨rfl, HB⟩
end Go.Proofs.Ytiaeeclmlchpoaa

set_option linter.unusedVariables false
set_option linter.unusedSimpArgs false
namespace Go.Proofs.Ytiaeeclmlchpoaa
open Go.RowKit

theorem dueE_1 {q c z a : Int} (h : askE q c z a = true) : dueE q c z a = 0 := by unfold dueE; rw [h]; rfl
theorem dueE_0 {q c z a : Int} (h : askE q c z a = false) : dueE q c z a = 2 := by unfold dueE; rw [h]; rfl
theorem askE_mk {q c z a : Int} (h : kinB q c = true) (h1 : 0 < z) (h2 : 1 ≤ a) (h3 : a ≤ 20000) : askE q c z a = true := by
  unfold askE; rw [h, decide_eq_true h1, decide_eq_true h2, decide_eq_true h3]; rfl
set_option maxRecDepth 100000 in
set_option maxHeartbeats 4000000 in
theorem BMultiples_law (q c a k t : Int) (s : ByteArray) (w : World) (hs : s.size ≤ 9223372036854775807) (hk0 : -9223372036854775808 ≤ k) (hk1 : k ≤ 9223372036854775807) (ht0 : 0 ≤ t) (ht1 : t ≤ 255) :
    Calls Try.prog 8 #[.int .i64 q, .int .i64 c, .string s, .int .i64 a, .int .i64 k, .int .u8 t] w fun e w' => e = .returned (.bool true) ∧ Below w.heap.size w w' := by
  have HB : Below w.heap.size w w := Below.refl _ _
  rcases vld_cases s with hv | ⟨z, rfl, hz⟩
  · have HV := Lib.hid hv
    clear hv
    go_enter Try.func8, Try.ntmps8
    go_wp2_with fail
    (with_reducible refine (due_no q c a s _ hs HV.out).mono ?_)
    rintro e w2 ⟨he, hb⟩
    replace HB := below_step HB hb
    clear hb
    subst he
    go_wp2_with fail
    (with_reducible refine (awake_c _).mono ?_)
    rintro e w9 ⟨he, hb⟩
    replace HB := below_step HB hb
    clear hb
    subst he
    go_wp2
    go_ret
    exact ⟨rfl, HB⟩
  · rcases Bool.eq_false_or_eq_true (askE q c z a) with hE | hE
    rotate_left
    · have HD := Lib.hid (dueE_0 hE)
      clear hE
      go_enter Try.func8, Try.ntmps8
      go_wp2_with fail
      (with_reducible refine (due_v q c a z _ hz).mono ?_)
      rintro e w2 ⟨he, hb⟩
      replace HB := below_step HB hb
      clear hb
      obtain rfl : e = .returned (.int .i64 2) := by rw [he, HD.out]
      clear he
      go_wp2_with fail
      (with_reducible refine (awake_c _).mono ?_)
      rintro e w9 ⟨he, hb⟩
      replace HB := below_step HB hb
      clear hb
      subst he
      go_wp2
      go_ret
      exact ⟨rfl, HB⟩
    · have HD := Lib.hid (dueE_1 hE)
      obtain ⟨hkb, hz0, ha1, ha2⟩ := askE_spec hE
      have HE := Lib.hid hE
      have HK := Lib.hid hkb
      clear hE hkb
      by_cases h1 : k < 1
      · go_enter Try.func8, Try.ntmps8
        go_wp2_with fail
        (with_reducible refine (due_v q c a z _ hz).mono ?_)
        rintro e w2 ⟨he, hb⟩
        replace HB := below_step HB hb
        clear hb
        obtain rfl : e = .returned (.int .i64 0) := by rw [he, HD.out]
        clear he
        go_wp2_with fail
        (with_reducible refine (awake_c _).mono ?_)
        rintro e w9 ⟨he, hb⟩
        replace HB := below_step HB hb
        clear hb
        subst he
        go_wp2
        go_ret
        exact ⟨rfl, HB⟩
      · by_cases h2 : 200000 < k
        · go_enter Try.func8, Try.ntmps8
          go_wp2_with fail
          (with_reducible refine (due_v q c a z _ hz).mono ?_)
          rintro e w2 ⟨he, hb⟩
          replace HB := below_step HB hb
          clear hb
          obtain rfl : e = .returned (.int .i64 0) := by rw [he, HD.out]
          clear he
          go_wp2_with fail
          (with_reducible refine (awake_c _).mono ?_)
          rintro e w9 ⟨he, hb⟩
          replace HB := below_step HB hb
          clear hb
          subst he
          go_wp2
          go_ret
          exact ⟨rfl, HB⟩
        · have p1 : 1 ≤ (1 + t) * a := by have := Int.mul_le_mul (show 1 ≤ 1 + t by omega) ha1 (by omega) (show 0 ≤ 1 + t by omega); omega
          have p2 : (1 + t) * a ≤ 256 * 20000 := Int.mul_le_mul (by omega) ha2 (by omega) (by omega)
          have p3 : 1 ≤ (1 + t) * k := by have := Int.mul_le_mul (show 1 ≤ 1 + t by omega) (show 1 ≤ k by omega) (by omega) (show 0 ≤ 1 + t by omega); omega
          have p4 : (1 + t) * k ≤ 256 * 200000 := Int.mul_le_mul (by omega) (by omega) (by omega) (by omega)
          have HF0 : Hid (fitN q.toNat c.toNat z.natAbs a.toNat k.toNat = true → fitN q.toNat c.toNat z.natAbs ((1 + t) * a).toNat ((1 + t) * k).toNat = true) := fun h => by
            rw [Int.toNat_mul (by omega) (by omega), Int.toNat_mul (by omega) (by omega)]
            exact fitN_mul h _ (by omega)
          obtain ⟨P, hP⟩ : ∃ P, (1 + t) * a = P := ⟨_, rfl⟩
          obtain ⟨K, hK⟩ : ∃ P, (1 + t) * k = P := ⟨_, rfl⟩
          rw [hP] at HF0 p1 p2
          rw [hK] at HF0 p3 p4
          by_cases h3 : 20000 < P
          · go_enter Try.func8, Try.ntmps8
            go_wp2_with fail
            (with_reducible refine (due_v q c a z _ hz).mono ?_)
            rintro e w2 ⟨he, hb⟩
            replace HB := below_step HB hb
            clear hb
            obtain rfl : e = .returned (.int .i64 0) := by rw [he, HD.out]
            clear he
            go_wp2_with fail
            (with_reducible refine (awake_c _).mono ?_)
            rintro e w9 ⟨he, hb⟩
            replace HB := below_step HB hb
            clear hb
            subst he
            go_wp2
            go_ret
            exact ⟨rfl, HB⟩
          · obtain ⟨D, hD⟩ : ∃ D, dlN (q * z + c).natAbs = D := ⟨_, rfl⟩
            have HR0 := Lib.hid (bfit_val HE.out (show 1 ≤ k by omega) (show k ≤ 200000 by omega))
            have HEP := Lib.hid (askE_mk HK.out hz0 p1 (show P ≤ 20000 by omega))
            rw [hD] at HR0
            have HDD := Lib.hid hD
            clear hD
            by_cases h4 : 100000 < a * (D : Int)
            · have HR : Hid (bfit q c z a k = (false, 3)) := by show _ = _; rw [HR0.out, if_pos h4]
              clear h4 HR0
              go_enter Try.func8, Try.ntmps8
              go_wp2_with fail
              (with_reducible refine (due_v q c a z _ hz).mono ?_)
              rintro e w2 ⟨he, hb⟩
              replace HB := below_step HB hb
              clear hb
              obtain rfl : e = .returned (.int .i64 0) := by rw [he, HD.out]
              clear he
              go_wp2_with fail
              (with_reducible refine (fits_v q c a k z _ hz (by omega) (by omega)).mono ?_)
              rintro e w3 ⟨he, hb⟩
              replace HB := below_step HB hb
              clear hb
              obtain rfl : e = .returned (.tuple #[.bool false, .int .i64 3]) := by rw [he, HR.out]
              clear he
              go_wp2_with fail
              (with_reducible refine (awake_c _).mono ?_)
              rintro e w9 ⟨he, hb⟩
              replace HB := below_step HB hb
              clear hb
              subst he
              go_wp2
              go_ret
              exact ⟨rfl, HB⟩
            · cases hf : fitN q.toNat c.toNat z.natAbs a.toNat k.toNat with
              | false =>
                have HR : Hid (bfit q c z a k = (false, 0)) := by show _ = _; rw [HR0.out, if_neg h4, hf]
                clear h4 HR0 hf HF0
                go_enter Try.func8, Try.ntmps8
                go_wp2_with fail
                (with_reducible refine (due_v q c a z _ hz).mono ?_)
                rintro e w2 ⟨he, hb⟩
                replace HB := below_step HB hb
                clear hb
                obtain rfl : e = .returned (.int .i64 0) := by rw [he, HD.out]
                clear he
                go_wp2_with fail
                (with_reducible refine (fits_v q c a k z _ hz (by omega) (by omega)).mono ?_)
                rintro e w3 ⟨he, hb⟩
                replace HB := below_step HB hb
                clear hb
                obtain rfl : e = .returned (.tuple #[.bool false, .int .i64 0]) := by rw [he, HR.out]
                clear he
                go_wp2_with fail
                (with_reducible refine (awake_c _).mono ?_)
                rintro e w9 ⟨he, hb⟩
                replace HB := below_step HB hb
                clear hb
                subst he
                go_wp2
                go_ret
                exact ⟨rfl, HB⟩
              | true =>
                have HR : Hid (bfit q c z a k = (true, 0)) := by show _ = _; rw [HR0.out, if_neg h4, hf]
                have HF := Lib.hid (HF0.out hf)
                clear h4 HR0 hf HF0
                by_cases h5 : 200000 < K
                · have HS : Hid (bfit q c z P K = (false, 2)) := by show _ = _; unfold bfit; rw [if_neg (by rw [HEP.out]; exact Bool.noConfusion), if_pos (.inr h5)]
                  go_enter Try.func8, Try.ntmps8
                  go_wp2_with fail
                  (with_reducible refine (due_v q c a z _ hz).mono ?_)
                  rintro e w2 ⟨he, hb⟩
                  replace HB := below_step HB hb
                  clear hb
                  obtain rfl : e = .returned (.int .i64 0) := by rw [he, HD.out]
                  clear he
                  go_wp2_with fail
                  (with_reducible refine (fits_v q c a k z _ hz (by omega) (by omega)).mono ?_)
                  rintro e w3 ⟨he, hb⟩
                  replace HB := below_step HB hb
                  clear hb
                  obtain rfl : e = .returned (.tuple #[.bool true, .int .i64 0]) := by rw [he, HR.out]
                  clear he
                  go_wp2_with fail
                  (with_reducible refine (fits_v q c P K z _ hz (by omega) (by omega)).mono ?_)
                  rintro e w4 ⟨he, hb⟩
                  replace HB := below_step HB hb
                  clear hb
                  obtain rfl : e = .returned (.tuple #[.bool false, .int .i64 2]) := by rw [he, HS.out]
                  clear he
                  go_wp2_with fail
                  (with_reducible refine (awake_c _).mono ?_)
                  rintro e w9 ⟨he, hb⟩
                  replace HB := below_step HB hb
                  clear hb
                  subst he
                  go_wp2
                  go_ret
                  exact ⟨rfl, HB⟩
                · have HS0 := Lib.hid (bfit_val HEP.out p3 (show K ≤ 200000 by omega))
                  rw [HDD.out, HF.out] at HS0
                  by_cases h6 : 100000 < P * (D : Int)
                  · have HS : Hid (bfit q c z P K = (false, 3)) := by show _ = _; rw [HS0.out, if_pos h6]
                    clear h6 HS0
                    go_enter Try.func8, Try.ntmps8
                    go_wp2_with fail
                    (with_reducible refine (due_v q c a z _ hz).mono ?_)
                    rintro e w2 ⟨he, hb⟩
                    replace HB := below_step HB hb
                    clear hb
                    obtain rfl : e = .returned (.int .i64 0) := by rw [he, HD.out]
                    clear he
                    go_wp2_with fail
                    (with_reducible refine (fits_v q c a k z _ hz (by omega) (by omega)).mono ?_)
                    rintro e w3 ⟨he, hb⟩
                    replace HB := below_step HB hb
                    clear hb
                    obtain rfl : e = .returned (.tuple #[.bool true, .int .i64 0]) := by rw [he, HR.out]
                    clear he
                    go_wp2_with fail
                    (with_reducible refine (fits_v q c P K z _ hz (by omega) (by omega)).mono ?_)
                    rintro e w4 ⟨he, hb⟩
                    replace HB := below_step HB hb
                    clear hb
                    obtain rfl : e = .returned (.tuple #[.bool false, .int .i64 3]) := by rw [he, HS.out]
                    clear he
                    go_wp2_with fail
                    (with_reducible refine (awake_c _).mono ?_)
                    rintro e w9 ⟨he, hb⟩
                    replace HB := below_step HB hb
                    clear hb
                    subst he
                    go_wp2
                    go_ret
                    exact ⟨rfl, HB⟩
                  · have HS : Hid (bfit q c z P K = (true, 0)) := by show _ = _; rw [HS0.out, if_neg h6]
                    clear h6 HS0
                    go_enter Try.func8, Try.ntmps8
                    go_wp2_with fail
                    (with_reducible refine (due_v q c a z _ hz).mono ?_)
                    rintro e w2 ⟨he, hb⟩
                    replace HB := below_step HB hb
                    clear hb
                    obtain rfl : e = .returned (.int .i64 0) := by rw [he, HD.out]
                    clear he
                    go_wp2_with fail
                    (with_reducible refine (fits_v q c a k z _ hz (by omega) (by omega)).mono ?_)
                    rintro e w3 ⟨he, hb⟩
                    replace HB := below_step HB hb
                    clear hb
                    obtain rfl : e = .returned (.tuple #[.bool true, .int .i64 0]) := by rw [he, HR.out]
                    clear he
                    go_wp2_with fail
                    (with_reducible refine (fits_v q c P K z _ hz (by omega) (by omega)).mono ?_)
                    rintro e w4 ⟨he, hb⟩
                    replace HB := below_step HB hb
                    clear hb
                    obtain rfl : e = .returned (.tuple #[.bool true, .int .i64 0]) := by rw [he, HS.out]
                    clear he
                    go_wp2_with fail
                    (with_reducible refine (awake_c _).mono ?_)
                    rintro e w9 ⟨he, hb⟩
                    replace HB := below_step HB hb
                    clear hb
                    subst he
                    go_wp2
                    go_ret
                    exact ⟨rfl, HB⟩
end Go.Proofs.Ytiaeeclmlchpoaa
