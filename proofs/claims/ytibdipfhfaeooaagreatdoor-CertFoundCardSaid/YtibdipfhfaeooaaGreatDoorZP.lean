/- How great the bound of cert.down is. No condition. -/
import Derived.Test.YtibdipfhfaeooaaGreatDoorZK
import Derived.Test.YtibdipfhfaeooaaGreatDoorZH
import Derived.Test.YtibdipfhfaeooaaGreatDoorZA
import Derived.Test.YtibdipfhfaeooaaGreatDoorZD
import Derived.Test.YtibdipfhfaeooaaGreatDoorZG
set_option linter.unusedVariables false
set_option linter.unusedSimpArgs false
namespace Go.Proofs.YtibdipfhfaeooaaGreatDoor

theorem row_good {M : Mp} (hok : okM M) {k : Nat} {div : Int} {x : Lf} (hx : Bd k x) (hd0 : 0 ≤ div) (hd : div ≤ 10 ^ (2 * k)) {s : List Lf × Int} {cnt : Nat} (hs : Good (k + 1) cnt s) : ∀ j, j ≤ M.mod.toNat → ∃ c, Good (k + 1) c (rowN M div s x j)
 | 0, _ => ⟨cnt, hs⟩
 | j + 1, hj => by
  obtain ⟨c, hc⟩ := row_good hok hx hd0 hd hs j (by omega)
  rw [rowN_succ]
  exact ⟨c + 1, hc.put (hx.next hok hd0 hd (by omega)) _⟩
theorem lev_good {M : Mp} (hok : okM M) {k cnt : Nat} {div : Int} {l : List Lf} {top : Int} (h : Good k cnt (l, top)) (hd0 : 0 ≤ div) (hd : div ≤ 10 ^ (2 * k)) : ∀ i, i ≤ l.length → ∃ c, Good (k + 1) c (levN M div l top i)
 | 0, _ => ⟨0, by rw [levN_zero]; exact h.first'⟩
 | i + 1, hi => by
  obtain ⟨c, hc⟩ := lev_good hok h hd0 hd i (by omega)
  rw [levN_succ _ _ _ _ _ (by omega)]
  have hil : i < l.length := by omega
  have hx : Bd k (gF l i) := by rw [gF_lt hil]; exact h.bd _ (List.getElem_mem hil)
  exact row_good hok hx hd0 hd hc M.mod.toNat (Nat.le_refl _)
theorem dwn_le {M : Mp} (hok : okM M) : ∀ (m k : Nat) (l : List Lf) (top : Int) (cnt : Nat), Good k cnt (l, top) → k + m ≤ 16 → (dwn M m k l (M.mod ^ k) top).2.natAbs ≤ 10 ^ 200
 | 0, k, l, top, cnt, h, hk => by
  unfold dwn
  exact Nat.le_trans h.t1 (Nat.pow_le_pow_right (by omega) (by omega))
 | m + 1, k, l, top, cnt, h, hk => by
  have hp := pow_hund hok.1 hok.2.1 k
  obtain ⟨c, hc⟩ := lev_good hok h (show 0 ≤ M.mod ^ k by omega) hp.2.1 l.length (Nat.le_refl _)
  rw [levN_all] at hc
  unfold dwn
  split
  ·exact Nat.le_trans hc.t1 (Nat.pow_le_pow_right (by omega) (by omega))
  ·have := dwn_le hok m (k + 1) (lev M (M.mod ^ k) l top).1 (lev M (M.mod ^ k) l top).2 c hc (by omega)
   rw [Int.pow_succ] at this
   exact this
theorem downP_le {M : Mp} (hok : okM M) {most : Nat} (h : M.mod ^ most ≤ 65536) : (downP M most).2.natAbs ≤ 10 ^ 200 := by
 have hm : most ≤ 16 := pow_16 hok.1 hok.2.1 h
 have := dwn_le hok most 0 [⟨0, 1, 0⟩] 0 1 Good.first (by omega)
 rw [Int.pow_zero] at this
 exact this
theorem dg20 : (dg B64 20000).length ≤ 1000 := szI (by decide)
end Go.Proofs.YtibdipfhfaeooaaGreatDoor


set_option linter.unusedVariables false
set_option linter.unusedSimpArgs false
namespace Go.Proofs.YtibdipfhfaeooaaGreatDoor
open Go.RowKit

set_option maxRecDepth 100000 in
set_option maxHeartbeats 2000000 in
/-- Is a string no number? -/
theorem noNum_c (s : ByteArray) (w : World) (hs : s.size ≤ 9223372036854775807) :
  Calls Tryz.prog 94 #[.string s] w fun e w' => e = .returned (.bool (!vldL (codes s))) ∧ Below w.heap.size w w' := by
 have HB : Below w.heap.size w w := Below.refl _ _
 go_enter Tryz.func94, Tryz.ntmps94
 go_wp2_with fail
 (with_reducible refine (nValid_c s _ hs).mono ?_)
 rintro e w2 ⟨rfl, hb⟩
 go_wp2
 go_ret
 exact ⟨rfl, hb⟩
set_option maxHeartbeats 2000000 in
/-- Is a number less than 0? -/
theorem neg_c (a : Int) (w : World) :
  Calls Tryz.prog 100 #[.int .i64 a] w fun e w' => e = .returned (.bool (decide (a < 0))) ∧ Below w.heap.size w w' := by
 have HB : Below w.heap.size w w := Below.refl _ _
 go_enter Tryz.func100, Tryz.ntmps100
 go_wp2
 go_ret
 exact ⟨rfl, HB⟩
set_option maxRecDepth 100000 in
set_option maxHeartbeats 2000000 in
theorem sIndex_c (A : Option Addr) (c : Nat) (l : List ByteArray) (w : World) (h : LsS w A c l) (hsz : ∀ j, j < l.length → (gs l j).size ≤ 9223372036854775807) :
  Calls Tryz.prog 133 #[.slice A l.length c, .func (.func 94) #[] #[]] w fun e w' => (∃ n : Int, e = .returned (.int .i64 n) ∧ (0 ≤ n ↔ ∃ j, j < l.length ∧ (!vldL (codes (gs l j))) = true)) ∧ Below w.heap.size w w' := by
 have HB : Below w.heap.size w w := Below.refl _ _
 have hcl := h.2
 have H1 := Lib.hid h
 clear h
 go_enter Tryz.func133, Tryz.ntmps133
 go_wp2_with fail
 go_loopg [8] l.length (fun gg iv wr => ∃ j : Nat, gg = l.length - j ∧ iv = .int .i64 j ∧ j ≤ l.length ∧ Below w.heap.size w wr ∧ Hid (∀ i, i < j → (!vldL (codes (gs l i))) = false))
 case atStart => exact ⟨0, rfl, rfl, Nat.zero_le _, HB, fun i hi => absurd hi (by omega)⟩
 case round =>
  clear HB
  obtain ⟨j, hgj, rfl, hj, HB, HI⟩ := hrel
  have hj0 : (0 : Int) ≤ (j : Int) := by omega
  by_cases hjl : j < l.length
  ·have hj1 : (j : Int) < (l.length : Int) := by omega
   obtain ⟨b1, o1, rfl, hbl, k1⟩ := (H1.out.below HB).cell (j := j) hjl
   obtain ⟨x, hx⟩ : ∃ x, gs l j = x := ⟨_, rfl⟩
   rw [hx] at k1
   have HX := Lib.hid hx
   clear hx hbl
   cases hp : (!vldL (codes x)) with
   | true =>
    have HP := Lib.hid hp
    clear hp
    go_wp2_with fail
    (with_reducible refine (noNum_c x _ (by rw [← HX.out]; exact hsz j hjl)).mono ?_)
    rintro e w3 ⟨he, hb⟩
    obtain rfl : e = .returned (.bool true) := by rw [he, HP.out]
    clear he
    replace HB := below_step HB hb
    clear hb
    go_wp2
    go_ret
    exact ⟨⟨_, rfl, fun _ => ⟨j, hjl, by rw [HX.out]; exact HP.out⟩, fun _ => hj0⟩, HB⟩
   | false =>
    have HP := Lib.hid hp
    clear hp
    have HI2 : Hid (∀ i, i < j + 1 → (!vldL (codes (gs l i))) = false) := fun i hi => by
     rcases Nat.lt_or_ge i j with h2 | h2
     ·exact HI.out i h2
     ·obtain rfl : i = j := by omega
      rw [HX.out]; exact HP.out
    go_wp2_with fail
    (with_reducible refine (noNum_c x _ (by rw [← HX.out]; exact hsz j hjl)).mono ?_)
    rintro e w3 ⟨he, hb⟩
    obtain rfl : e = .returned (.bool false) := by rw [he, HP.out]
    clear he
    replace HB := below_step HB hb
    clear hb
    go_wp2
    go_roundg (l.length - (j + 1))
    case measure => omega
    case rel => exact ⟨j + 1, rfl, by go_num, by omega, HB, HI2⟩
  ·have hj1 : ¬ (j : Int) < (l.length : Int) := by omega
   go_wp2
   go_ret
   exact ⟨⟨_, rfl, fun h => absurd h (by decide), fun ⟨i, hi, hp⟩ => absurd hp (by have := HI.out i (by omega); simpa using this)⟩, HB⟩
set_option maxRecDepth 100000 in
set_option maxHeartbeats 2000000 in
theorem sContains_c (A : Option Addr) (c : Nat) (l : List ByteArray) (w : World) (h : LsS w A c l) (hsz : ∀ j, j < l.length → (gs l j).size ≤ 9223372036854775807) (B : Bool) (hB : B = true ↔ ∃ j, j < l.length ∧ (!vldL (codes (gs l j))) = true) :
  Calls Tryz.prog 93 #[.slice A l.length c, .func (.func 94) #[] #[]] w fun e w' => e = .returned (.bool B) ∧ Below w.heap.size w w' := by
 have hcl := h.2
 have H1 := Lib.hid h
 have HBB := Lib.hid hB
 clear h hB
 go_enter Tryz.func93, Tryz.ntmps93
 go_wp2_with fail
 (with_reducible refine (sIndex_c A c l _ H1.out hsz).mono ?_)
 rintro e w2 ⟨⟨n, rfl, hn⟩, hb⟩
 have HN := Lib.hid hn
 clear hn
 by_cases h0 : 0 ≤ n
 ·have HR : Hid (B = true) := HBB.out.2 (HN.out.1 h0)
  go_wp2
  go_ret
  exact ⟨by rw [HR.out] <;> rfl, hb⟩
 ·have HR : Hid (B = false) := by
   cases hq : B with
   | false => exact rfl
   | true => exact absurd (HN.out.2 (HBB.out.1 hq)) h0
  have hdf : decide (0 ≤ n) = false := decide_eq_false h0
  go_wp2
  go_ret
  exact ⟨by rw [HR.out] <;> rfl, hb⟩
set_option maxRecDepth 100000 in
set_option maxHeartbeats 2000000 in
theorem iIndex_c (A : Option Addr) (c : Nat) (l : List Int) (w : World) (h : SlI w .i64 A c l) :
  Calls Tryz.prog 137 #[.slice A l.length c, .func (.func 100) #[] #[]] w fun e w' => (∃ n : Int, e = .returned (.int .i64 n) ∧ (0 ≤ n ↔ ∃ j, j < l.length ∧ (decide ((gd l j) < 0)) = true)) ∧ Below w.heap.size w w' := by
 have HB : Below w.heap.size w w := Below.refl _ _
 have hcl := h.2
 have H1 := Lib.hid h
 clear h
 go_enter Tryz.func137, Tryz.ntmps137
 go_wp2_with fail
 go_loopg [8] l.length (fun gg iv wr => ∃ j : Nat, gg = l.length - j ∧ iv = .int .i64 j ∧ j ≤ l.length ∧ Below w.heap.size w wr ∧ Hid (∀ i, i < j → (decide ((gd l i) < 0)) = false))
 case atStart => exact ⟨0, rfl, rfl, Nat.zero_le _, HB, fun i hi => absurd hi (by omega)⟩
 case round =>
  clear HB
  obtain ⟨j, hgj, rfl, hj, HB, HI⟩ := hrel
  have hj0 : (0 : Int) ≤ (j : Int) := by omega
  by_cases hjl : j < l.length
  ·have hj1 : (j : Int) < (l.length : Int) := by omega
   obtain ⟨b1, o1, rfl, hbl, k1⟩ := (H1.out.below HB).cell (j := j) hjl
   obtain ⟨x, hx⟩ : ∃ x, gd l j = x := ⟨_, rfl⟩
   rw [hx] at k1
   have HX := Lib.hid hx
   clear hx hbl
   cases hp : (decide (x < 0)) with
   | true =>
    have HP := Lib.hid hp
    clear hp
    go_wp2_with fail
    (with_reducible refine (neg_c x _).mono ?_)
    rintro e w3 ⟨he, hb⟩
    obtain rfl : e = .returned (.bool true) := by rw [he, HP.out]
    clear he
    replace HB := below_step HB hb
    clear hb
    go_wp2
    go_ret
    exact ⟨⟨_, rfl, fun _ => ⟨j, hjl, by rw [HX.out]; exact HP.out⟩, fun _ => hj0⟩, HB⟩
   | false =>
    have HP := Lib.hid hp
    clear hp
    have HI2 : Hid (∀ i, i < j + 1 → (decide ((gd l i) < 0)) = false) := fun i hi => by
     rcases Nat.lt_or_ge i j with h2 | h2
     ·exact HI.out i h2
     ·obtain rfl : i = j := by omega
      rw [HX.out]; exact HP.out
    go_wp2_with fail
    (with_reducible refine (neg_c x _).mono ?_)
    rintro e w3 ⟨he, hb⟩
    obtain rfl : e = .returned (.bool false) := by rw [he, HP.out]
    clear he
    replace HB := below_step HB hb
    clear hb
    go_wp2
    go_roundg (l.length - (j + 1))
    case measure => omega
    case rel => exact ⟨j + 1, rfl, by go_num, by omega, HB, HI2⟩
  ·have hj1 : ¬ (j : Int) < (l.length : Int) := by omega
   go_wp2
   go_ret
   exact ⟨⟨_, rfl, fun h => absurd h (by decide), fun ⟨i, hi, hp⟩ => absurd hp (by have := HI.out i (by omega); simpa using this)⟩, HB⟩
set_option maxRecDepth 100000 in
set_option maxHeartbeats 2000000 in
theorem iContains_c (A : Option Addr) (c : Nat) (l : List Int) (w : World) (h : SlI w .i64 A c l) (B : Bool) (hB : B = true ↔ ∃ j, j < l.length ∧ (decide ((gd l j) < 0)) = true) :
  Calls Tryz.prog 99 #[.slice A l.length c, .func (.func 100) #[] #[]] w fun e w' => e = .returned (.bool B) ∧ Below w.heap.size w w' := by
 have hcl := h.2
 have H1 := Lib.hid h
 have HBB := Lib.hid hB
 clear h hB
 go_enter Tryz.func99, Tryz.ntmps99
 go_wp2_with fail
 (with_reducible refine (iIndex_c A c l _ H1.out).mono ?_)
 rintro e w2 ⟨⟨n, rfl, hn⟩, hb⟩
 have HN := Lib.hid hn
 clear hn
 by_cases h0 : 0 ≤ n
 ·have HR : Hid (B = true) := HBB.out.2 (HN.out.1 h0)
  go_wp2
  go_ret
  exact ⟨by rw [HR.out] <;> rfl, hb⟩
 ·have HR : Hid (B = false) := by
   cases hq : B with
   | false => exact rfl
   | true => exact absurd (HN.out.2 (HBB.out.1 hq)) h0
  have hdf : decide (0 ≤ n) = false := decide_eq_false h0
  go_wp2
  go_ret
  exact ⟨by rw [HR.out] <;> rfl, hb⟩
end Go.Proofs.YtibdipfhfaeooaaGreatDoor


set_option linter.unusedVariables false
set_option linter.unusedSimpArgs false
namespace Go.Proofs.YtibdipfhfaeooaaGreatDoor
open Go.RowKit

theorem VM.add_ {W : World} {b : Nat} {md : Int} {A : Option Addr} {n c : Nat} {A' : Option Addr} {n' c' : Nat} {M : Mp} (h : VM W b md A n c A' n' c' M) : n' = M.add.length ∧ SlI W .i64 A' c' M.add := by
 obtain ⟨-, -, e, -, h2⟩ := h.sl
 exact ⟨e, h2⟩
set_option maxRecDepth 100000 in
set_option maxHeartbeats 2000000 in
theorem rising_c (M : Mp) (v : Value) (w : World) (hM : IsM w v M) (B : Bool) (hB : B = true ↔ Rise M) :
  Calls Tryz.prog 54 #[v] w fun e w' => e = .returned (.bool B) ∧ Below w.heap.size w w' := by
 obtain ⟨md, A, n, c, A', n', c', rfl, HM⟩ := hM.form
 have V3 := VM.new w 24 HM.out
 have HB := below_alloc (Below.refl w.heap.size w) (Obj.cells #[Value.int .i64 md, Value.slice A n c, Value.slice A' n' c'] 24)
 obtain ⟨e1, hs⟩ := V3.add_
 have HS := Lib.hid hs
 subst e1
 have hcl := hs.2
 have HC : Hid ((!B) = true ↔ ∃ j, j < M.add.length ∧ (decide (gd M.add j < 0)) = true) := by
  show _ ↔ _
  cases B with
  | true =>
   have h1 := hB.1 rfl
   constructor
   ·intro h; cases h
   ·rintro ⟨j, hj, h⟩
    have := h1 j hj
    have := of_decide_eq_true h
    omega
  | false =>
   constructor
   ·intro _
    apply Classical.byContradiction
    intro h
    have : Rise M := fun r hr => by
     apply Classical.byContradiction
     intro h2
     exact h ⟨r, hr, decide_eq_true (by omega)⟩
    have := hB.2 this
    cases this
   ·intro _; rfl
 have x2 := V3.c2
 clear hM hB hs HM V3
 go_enter Tryz.func54, Tryz.ntmps54
 go_wp2_with fail
 (with_reducible refine (iContains_c A' c' M.add _ HS.out (!B) HC.out).mono ?_)
 rintro e w2 ⟨rfl, hb⟩
 cases B
 ·go_wp2
  go_ret
  exact ⟨rfl, below_step HB hb⟩
 ·go_wp2
  go_ret
  exact ⟨rfl, below_step HB hb⟩
theorem pow_le_pow {m : Int} (hm : 2 ≤ m) {a b : Nat} (h : a ≤ b) : m ^ a ≤ m ^ b := by
 obtain ⟨n, rfl⟩ := Int.eq_ofNat_of_zero_le (show 0 ≤ m by omega)
 have h2 : ((n ^ a : Nat) : Int) ≤ ((n ^ b : Nat) : Int) := Int.ofNat_le.2 (Nat.pow_le_pow_right (by omega) h)
 rw [Int.natCast_pow, Int.natCast_pow] at h2
 exact h2
set_option maxRecDepth 100000 in
set_option maxHeartbeats 2000000 in
theorem rests_c (m k : Int) (w : World) (hm : 2 ≤ m) (hm2 : m ≤ 12) (B : Bool) (hB : B = true ↔ (1 ≤ k ∧ m ^ k.toNat ≤ 65536)) :
  Calls Tryz.prog 55 #[.int .i64 m, .int .i64 k] w fun e w' => e = .returned (.bool B) ∧ Below w.heap.size w w' := by
 have HB : Below w.heap.size w w := Below.refl _ _
 have HBB := Lib.hid hB
 clear hB
 obtain ⟨kk, hkk⟩ : ∃ kk : Nat, kk = k.toNat := ⟨_, rfl⟩
 have hmx : max k 0 = (kk : Int) := by omega
 obtain ⟨N, hN⟩ : ∃ N : Nat, N = min kk 20 := ⟨_, rfl⟩
 have hmn : min (kk : Int) 20 = (N : Int) := by omega
 have HKK := Lib.hid hkk
 have HN := Lib.hid hN
 have hN20 : N ≤ 20 := by omega
 have hNk : N ≤ kk := by omega
 clear hkk hN
 go_enter Tryz.func55, Tryz.ntmps55
 go_wp2_with fail
 go_loopg [5, 9] N (fun g nv iv wr => ∃ i : Nat, g = N - i ∧ nv = .int .i64 (m ^ i) ∧ iv = .int .i64 i ∧ i ≤ N ∧ m ^ i ≤ 65536 ∧ 1 ≤ m ^ i ∧ Below w.heap.size w wr)
 case atStart => exact ⟨0, rfl, by rw [Int.pow_zero], rfl, Nat.zero_le _, by rw [Int.pow_zero]; omega, by rw [Int.pow_zero]; omega, HB⟩
 case round =>
  clear HB
  obtain ⟨i, hgi, rfl, rfl, hi, hp1, hp0, HB⟩ := hrel
  have hi0 : (0 : Int) ≤ (i : Int) := by omega
  have HPS := Lib.hid (Int.pow_succ m i)
  by_cases hiN : i < N
  ·have hi1 : (i : Int) < (N : Int) := by omega
   obtain ⟨p, hp⟩ : ∃ p, m ^ i = p := ⟨_, rfl⟩
   rw [hp] at hp1 hp0 HPS ⊢
   have HP := Lib.hid hp
   clear hp
   have hq1 : p * m ≤ 65536 * 12 := Int.mul_le_mul hp1 hm2 (by omega) (by omega)
   have hq0 : 1 * 1 ≤ p * m := Int.mul_le_mul hp0 (by omega) (by omega) (by omega)
   have hpw : IntKind.i64.wrap (p * m) = p * m := by rw [IntKind.wrap_i64]; omega
   by_cases hbig : 65536 < p * m
   ·have HR : Hid (B = false) := by
     cases hq : B with
     | false => exact rfl
     | true =>
      have h1 := (HBB.out.1 hq).2
      have h2 := pow_le_pow hm (show i + 1 ≤ k.toNat by have := HKK.out; omega)
      rw [HPS.out] at h2
      omega
    go_wp2
    go_ret
    exact ⟨by rw [HR.out] <;> rfl, HB⟩
   ·go_wp2
    go_roundg (N - (i + 1))
    case measure => omega
    case rel => exact ⟨i + 1, rfl, by rw [HPS.out], by go_num, by omega, by rw [HPS.out]; omega, by rw [HPS.out]; omega, HB⟩
  ·obtain rfl : i = N := by omega
   have hi1 : ¬ (i : Int) < (i : Int) := by omega
   by_cases hk1 : 1 ≤ k
   ·have hk20 : k ≤ 20 := by
     apply Classical.byContradiction
     intro h
     have h1 : i = 20 := by have := HN.out; have := HKK.out; omega
     subst h1
     have h2 : (2 : Int) ^ 20 ≤ m ^ 20 := by
      obtain ⟨n, rfl⟩ := Int.eq_ofNat_of_zero_le (show 0 ≤ m by omega)
      have h3 : ((2 ^ 20 : Nat) : Int) ≤ ((n ^ 20 : Nat) : Int) := Int.ofNat_le.2 (Nat.pow_le_pow_left (by omega) 20)
      rw [Int.natCast_pow, Int.natCast_pow] at h3
      exact h3
     have h4 : (2 : Int) ^ 20 = 1048576 := by decide
     omega
    have HR : Hid (B = true) := HBB.out.2 ⟨hk1, by rw [show k.toNat = i by have := HN.out; have := HKK.out; omega]; exact hp1⟩
    go_wp2
    go_ret
    exact ⟨by rw [HR.out] <;> rfl, HB⟩
   ·have HR : Hid (B = false) := by
     cases hq : B with
     | false => exact rfl
     | true => exact absurd (HBB.out.1 hq).1 hk1
    have hkd : decide (1 ≤ k) = false := decide_eq_false hk1
    go_wp2
    go_ret
    exact ⟨by rw [HR.out] <;> rfl, HB⟩
end Go.Proofs.YtibdipfhfaeooaaGreatDoor

