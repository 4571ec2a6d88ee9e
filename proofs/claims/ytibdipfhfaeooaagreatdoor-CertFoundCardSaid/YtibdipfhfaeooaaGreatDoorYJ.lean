/- The plain law behind CertFound: where every multiplier is less than the modulus one step is enough; a regular map with a greater one never comes down. No condition. -/
import Derived.Test.YtibdipfhfaeooaaGreatDoorZR
import Derived.Test.YtibdipfhfaeooaaGreatDoorZP
import Derived.Maps.RangeWalk
set_option linter.unusedVariables false
set_option linter.unusedSimpArgs false
namespace Go.Proofs.YtibdipfhfaeooaaGreatDoor

def SmallM (M : Mp) : Prop := ∀ r, r < M.mul.length → gd M.mul r < M.mod
/-- No common divisor but 1. -/
def PrimeP (a b : Int) : Prop := ∀ d : Nat, 2 ≤ d → (d : Int) ≤ a → (d : Int) ≤ b → ¬ (a % (d : Int) = 0 ∧ b % (d : Int) = 0)
def RegM (M : Mp) : Prop := ∀ r, r < M.mul.length → PrimeP (gd M.mul r) M.mod
theorem mod_lt {M : Mp} (hok : okM M) (z : Int) : (z % M.mod).toNat < M.mul.length := by
 have h := (rest_lt hok z).1
 have h1 := hok.2.2.1
 have h2 := hok.2.2.2.1
 omega
theorem fold_none {M : Mp} {div dv : Int} {x : Lf} (h : ∀ j, (nxt M div x j).mul < dv) : ∀ (l : List Nat) (s : List Lf × Int), s.1 = [] → (l.foldl (fun s j => put1 dv s (nxt M div x j)) s).1 = []
 | [], s, hs => hs
 | j :: l, s, hs => by
  rw [List.foldl_cons]
  refine fold_none h l _ ?_
  have := h j
  unfold put1
  rw [if_neg (by omega)]
  split
  ·exact hs
  ·exact hs
theorem small_down {M : Mp} (hok : okM M) (hs : SmallM M) {most : Nat} (h : 1 ≤ most) : (downP M most).1 = 1 := by
 obtain ⟨m, rfl⟩ : ∃ m, most = m + 1 := ⟨most - 1, by omega⟩
 have e : (lev M 1 [⟨0, 1, 0⟩] 0).1 = [] := by
  unfold lev
  rw [List.foldl_cons, List.foldl_nil]
  unfold row1
  refine fold_none (fun j => ?_) _ _ rfl
  have e : ∀ z : Int, 1 * gd M.mul (z % M.mod).toNat < 1 * M.mod := fun z => by
   rw [Int.one_mul, Int.one_mul]
   exact hs _ (mod_lt hok z)
  exact e _
 unfold downP dwn
 rw [if_pos e]
/-- A number without a common divisor with a modulus has an inverse. -/
theorem inv_fin : ∀ m ∈ List.range 13, ∀ a ∈ List.range 13, 2 ≤ m → (∀ d ∈ List.range 13, 2 ≤ d → ¬ (a % d = 0 ∧ m % d = 0)) → ∃ i ∈ List.range 13, a * i % m = 1 := by decide +kernel
theorem inv_of {q m : Int} (hq : 1 ≤ q) (hm : 2 ≤ m) (hm2 : m ≤ 12) (h : PrimeP q m) : ∃ i : Int, m ∣ q * i - 1 := by
 obtain ⟨n, rfl⟩ := Int.eq_ofNat_of_zero_le (show 0 ≤ m by omega)
 obtain ⟨p, rfl⟩ := Int.eq_ofNat_of_zero_le (show 0 ≤ q by omega)
 have hlt := Nat.mod_lt p (show 0 < n by omega)
 obtain ⟨i, -, hi⟩ := inv_fin n (List.mem_range.2 (by omega)) (p % n) (List.mem_range.2 (by omega)) (by omega) (fun d hd1 hd2 ⟨h1, h2⟩ => by
  have d2 := Nat.dvd_of_mod_eq_zero h2
  have d1 : d ∣ p := (Nat.dvd_mod_iff d2).1 (Nat.dvd_of_mod_eq_zero h1)
  refine h d hd2 (Int.ofNat_le.2 (Nat.le_of_dvd (by omega) d1)) (Int.ofNat_le.2 (Nat.le_of_dvd (by omega) d2)) ⟨?_, ?_⟩
  ·exact Int.emod_eq_zero_of_dvd (Int.ofNat_dvd.2 d1)
  ·exact Int.emod_eq_zero_of_dvd (Int.ofNat_dvd.2 d2))
 refine ⟨i, ?_⟩
 have e : p * i % n = 1 := by
  rw [Nat.mul_mod, Nat.mod_mod_of_dvd _ (Nat.dvd_refl n)] at hi
  rw [Nat.mul_mod]
  exact hi
 have e2 : ((p : Int) * (i : Int)) % (n : Int) = 1 := by
  rw [← Int.natCast_mul, ← Int.natCast_emod, e]
  rfl
 have e3 := Int.mul_ediv_add_emod ((p : Int) * i) n
 exact ⟨(p : Int) * i / n, by omega⟩
theorem inv_pow {q i m : Int} (h : m ∣ q * i - 1) : ∀ k, m ∣ q ^ k * i ^ k - 1
 | 0 => by rw [Int.pow_zero, Int.pow_zero]; exact ⟨0, by omega⟩
 | k + 1 => by
  obtain ⟨a, ha⟩ := h
  obtain ⟨b, hb⟩ := inv_pow (q := q) (i := i) (m := m) ⟨a, ha⟩ k
  refine ⟨q * i * b + a, ?_⟩
  have e1 : q ^ (k + 1) * i ^ (k + 1) = q * i * (q ^ k * i ^ k) := by rw [Int.pow_succ, Int.pow_succ]; ac_rfl
  have e2 : q ^ k * i ^ k = m * b + 1 := by omega
  rw [e1, e2, Int.mul_add, Int.mul_add]
  have e3 : q * i * (m * b) = m * (q * i * b) := by ac_rfl
  rw [e3, Int.mul_one]
  omega
/-- One of the next rests has any rest that is asked. -/
theorem rest_at {a m s r : Int} (hm : 0 < m) (hr0 : 0 ≤ r) (hr : r < m) (h : ∃ i, m ∣ a * i - 1) : ∃ j : Nat, j < m.toNat ∧ (s + a * (j : Int)) % m = r := by
 obtain ⟨i, b, hb⟩ := h
 have h0 := Int.emod_nonneg (i * (r - s)) (show m ≠ 0 by omega)
 have h1 := Int.emod_lt_of_pos (i * (r - s)) hm
 have h2 := Int.mul_ediv_add_emod (i * (r - s)) m
 refine ⟨(i * (r - s) % m).toNat, by omega, ?_⟩
 rw [Int.toNat_of_nonneg h0]
 obtain ⟨w, hw⟩ : ∃ w, i * (r - s) / m = w := ⟨_, rfl⟩
 obtain ⟨j, hj⟩ : ∃ j, i * (r - s) % m = j := ⟨_, rfl⟩
 rw [hw, hj] at h2
 rw [hj]
 have e : s + a * j = r + m * (b * (r - s) - a * w) := by
  have e1 : j = i * (r - s) - m * w := by omega
  have e2 : a * (i * (r - s)) = (a * i) * (r - s) := by rw [Int.mul_assoc]
  have e3 : a * i = m * b + 1 := by omega
  rw [e1, Int.mul_sub a (i * (r - s)) (m * w), e2, e3, Int.add_mul, Int.mul_sub m (b * (r - s)) (a * w)]
  have e4 : m * b * (r - s) = m * (b * (r - s)) := Int.mul_assoc _ _ _
  have e5 : a * (m * w) = m * (a * w) := by ac_rfl
  rw [e4, e5]
  omega
 rw [e, Int.add_mul_emod_self_left, Int.emod_eq_of_lt hr0 hr]
theorem pow_le_of {a b : Int} (ha : 0 ≤ a) (h : a ≤ b) : ∀ k : Nat, a ^ k ≤ b ^ k
 | 0 => by rw [Int.pow_zero, Int.pow_zero]; omega
 | k + 1 => by
  rw [Int.pow_succ, Int.pow_succ]
  exact Int.mul_le_mul (pow_le_of ha h k) h ha (Int.pow_nonneg (by omega))
theorem reg_dwn {M : Mp} (hok : okM M) {r : Nat} (hr : r < M.mul.length) (hq : M.mod ≤ gd M.mul r) (hi : ∃ i, M.mod ∣ gd M.mul r * i - 1) : ∀ (m k : Nat) (l : List Lf) (top : Int), (∃ x ∈ l, x.mul = gd M.mul r ^ k) → (dwn M m k l (M.mod ^ k) top).1 = 0
 | 0, k, l, top, h => by unfold dwn; rfl
 | m + 1, k, l, top, ⟨x, hx, hm⟩ => by
  have hmod := hok.1
  have hlen := hok.2.2.1
  obtain ⟨i, hi'⟩ := hi
  obtain ⟨j, hj, hrest⟩ := rest_at (a := x.mul) (m := M.mod) (s := x.at_) (r := (r : Int)) (by omega) (by omega) (by omega) ⟨i ^ k, by rw [hm]; exact inv_pow hi' k⟩
  have e1 : (nxt M (M.mod ^ k) x j).mul = gd M.mul r ^ (k + 1) := by
   show x.mul * gd M.mul ((x.at_ + x.mul * (j : Int)) % M.mod).toNat = _
   rw [hrest, Int.toNat_natCast, hm, Int.pow_succ]
  have hin : nxt M (M.mod ^ k) x j ∈ (lev M (M.mod ^ k) l top).1 := by
   rcases lev_has (M := M) (div := M.mod ^ k) (top := top) hx hj with h | ⟨h, -⟩
   ·exact h
   ·rw [e1, ← Int.pow_succ] at h
    exact absurd h (Int.not_lt.2 (pow_le_of (show 0 ≤ M.mod by omega) hq (k + 1)))
  unfold dwn
  rw [if_neg (fun e => by rw [e] at hin; cases hin), ← Int.pow_succ]
  exact reg_dwn hok hr hq ⟨i, hi'⟩ m (k + 1) _ _ ⟨_, hin, e1⟩
theorem reg_down {M : Mp} (hok : okM M) (hr : RegM M) (hn : ¬ SmallM M) (most : Nat) : (downP M most).1 = 0 := by
 have h : ∃ r, r < M.mul.length ∧ M.mod ≤ gd M.mul r := by
  apply Classical.byContradiction
  intro h
  exact hn (fun r hr => by
   apply Classical.byContradiction
   intro h2
   exact h ⟨r, hr, by omega⟩)
 obtain ⟨r, h1, h2⟩ := h
 have hm := hok.1
 have := reg_dwn hok h1 h2 (inv_of (by omega) hm hok.2.1 (hr r h1)) most 0 [⟨0, 1, 0⟩] 0 ⟨_, List.mem_singleton.2 rfl, by rw [Int.pow_zero]⟩
 rw [Int.pow_zero] at this
 exact this
/-- With fewer steps, or a lesser bound, a certificate is not accepted. -/
theorem down_less {M : Mp} (hok : okM M) {most : Nat} {K' : Nat} {B : Int} {ls : List (List Int)} (hK : K' < (downP M most).1) (h : Acc M K' B ls) : False := by
 have h1 := downP_falls hok (most := K') (K := (downP M K').1) (T := (downP M K').2) rfl h.down
 have h2 := downP_falls hok (most := most) (K := (downP M most).1) (T := (downP M most).2) rfl (by omega)
 have h3 := dwn_same K' 0 _ _ _ (downP M K').1 (downP M K').2 rfl h.down most (by omega)
 have h4 : (downP M most).1 = (downP M K').1 := by
  show (dwn M most 0 [⟨0, 1, 0⟩] 1 0).1 = _
  rw [h3]
 omega
theorem down_here {M : Mp} (hok : okM M) {most : Nat} (hK : (downP M most).1 ≠ 0) : downP M (downP M most).1 = ((downP M most).1, (downP M most).2) :=
 dwn_same most 0 _ _ _ (downP M most).1 (downP M most).2 rfl hK _ (by omega)
theorem down_lower {M : Mp} (hok : okM M) {most : Nat} {B : Int} {ls : List (List Int)} (hK : (downP M most).1 ≠ 0) (hB : B < (downP M most).2) (h : Acc M (downP M most).1 B ls) : False := by
 have h1 := h.top
 rw [down_here hok hK] at h1
 omega
end Go.Proofs.YtibdipfhfaeooaaGreatDoor


set_option linter.unusedVariables false
set_option linter.unusedSimpArgs false
namespace Go.Proofs.YtibdipfhfaeooaaGreatDoor
open Go.RowKit

def restsP (m k : Int) : Int := if 1 ≤ k ∧ m ^ k.toNat ≤ 65536 then m ^ k.toNat else 0
set_option maxRecDepth 100000 in
set_option maxHeartbeats 4000000 in
theorem Rests_c (M : Mp) (k : Int) (v : Value) (w : World) (hM : IsM w v M) (hm : 2 ≤ M.mod) (hm2 : M.mod ≤ 12) :
  Calls Tryz.prog 29 #[v, .int .i64 k] w fun e w' => e = .returned (.int .i64 (restsP M.mod k)) ∧ Below w.heap.size w w' := by
 obtain ⟨md, A, n, c, A', n', c', rfl, HM⟩ := hM.form
 have V3 := VM.new w 24 HM.out
 have HB := below_alloc (Below.refl w.heap.size w) (Obj.cells #[Value.int .i64 md, Value.slice A n c, Value.slice A' n' c'] 24)
 obtain ⟨hmd, -, -, -, -⟩ := V3.sl
 rw [← hmd] at hm hm2 ⊢
 clear hM HM hmd
 go_enter Tryz.func29, Tryz.ntmps29
 go_wp2_with fail
 go_loopg [5, 6] 17 (fun g nv iv wr => ∃ i : Nat, g = 17 - i ∧ nv = .int .i64 (md ^ i) ∧ iv = .int .i64 i ∧ i ≤ 16 ∧ (i = 0 ∨ (i : Int) ≤ k) ∧ md ^ i ≤ 65536 ∧ 1 ≤ md ^ i ∧ VM wr w.heap.size md A n c A' n' c' M ∧ Below w.heap.size w wr)
 case atStart => exact ⟨0, rfl, by rw [Int.pow_zero], rfl, Nat.zero_le _, .inl rfl, by rw [Int.pow_zero]; omega, by rw [Int.pow_zero]; omega, V3, HB⟩
 case round =>
  clear V3 HB
  obtain ⟨i, hgi, rfl, rfl, hi, hik, hp1, hp0, V3, HB⟩ := hrel
  have hi0 : (0 : Int) ≤ (i : Int) := by omega
  have HPS := Lib.hid (Int.pow_succ md i)
  have m0 := V3.c0
  by_cases hin : (i : Int) < k
  ·obtain ⟨p, hp⟩ : ∃ p, md ^ i = p := ⟨_, rfl⟩
   rw [hp] at hp1 hp0 HPS ⊢
   have HP := Lib.hid hp
   clear hp
   have hq1 : p * md ≤ 65536 * 12 := Int.mul_le_mul hp1 hm2 (by omega) (by omega)
   have hq0 : 1 * 1 ≤ p * md := Int.mul_le_mul hp0 (by omega) (by omega) (by omega)
   have hpw : IntKind.i64.wrap (p * md) = p * md := by rw [IntKind.wrap_i64]; omega
   by_cases hbig : 65536 < p * md
   ·have HR : Hid (restsP md k = 0) := by
     show _ = _
     unfold restsP
     rw [if_neg]
     rintro ⟨-, h1⟩
     have h2 := pow_le_pow hm (show i + 1 ≤ k.toNat by omega)
     rw [HPS.out] at h2
     omega
    go_wp2
    go_ret
    exact ⟨by rw [HR.out] <;> rfl, HB⟩
   ·have hi16 : i + 1 ≤ 16 := rests_le (M := ⟨md, [], []⟩) hm (by show md ^ (i + 1) ≤ 65536; rw [HPS.out]; omega)
    go_wp2
    go_roundg (17 - (i + 1))
    case measure => omega
    case rel => exact ⟨i + 1, rfl, by rw [HPS.out], by go_num, hi16, .inr (by omega), by rw [HPS.out]; omega, by rw [HPS.out]; omega, V3, HB⟩
  ·have hi1 : ¬ (i : Int) < k := hin
   clear hin
   by_cases hk1 : k < 1
   ·have HR : Hid (restsP md k = 0) := by
     show _ = _
     unfold restsP
     rw [if_neg]
     rintro ⟨h1, -⟩
     omega
    have hkd : decide (k < 1) = true := decide_eq_true hk1
    go_wp2
    go_ret
    exact ⟨by rw [HR.out] <;> rfl, HB⟩
   ·have hki : k = (i : Int) := by omega
    subst hki
    have HR : Hid (restsP md (i : Int) = md ^ i) := by
     show _ = _
     unfold restsP
     rw [Int.toNat_natCast, if_pos ⟨by omega, hp1⟩]
    have hkd : decide ((i : Int) < 1) = false := decide_eq_false hk1
    go_wp2
    go_ret
    exact ⟨by rw [HR.out] <;> rfl, HB⟩
set_option maxRecDepth 100000 in
set_option maxHeartbeats 4000000 in
theorem Natural_c (M : Mp) (v : Value) (w : World) (hM : IsM w v M) (hok : okM M) (B : Bool) (hB : B = true ↔ Rise M) :
  Calls Tryz.prog 28 #[v] w fun e w' => e = .returned (.bool B) ∧ Below w.heap.size w w' := by
 obtain ⟨md, A, n, c, A', n', c', rfl, HM⟩ := hM.form
 have V3 := VM.new w 24 HM.out
 have HB := below_alloc (Below.refl w.heap.size w) (Obj.cells #[Value.int .i64 md, Value.slice A n c, Value.slice A' n' c'] 24)
 obtain ⟨hmd, hn1, hn2, -, hs2⟩ := V3.sl
 have HS := Lib.hid hs2
 have HBB := Lib.hid hB
 have e1 := hok.2.2.1
 have e2 := hok.2.2.2.1
 have h12 := hok.2.1
 obtain ⟨L, hL⟩ : ∃ L, M.add.length = L := ⟨_, rfl⟩
 have HL := Lib.hid hL
 have hl12 : L ≤ 12 := by omega
 obtain rfl : md = (L : Int) := by omega
 obtain rfl : n' = L := by omega
 clear hM HM hmd hn1 hn2 hs2 hB e1 e2 hL
 go_enter Tryz.func28, Tryz.ntmps28
 go_wp2_with fail
 go_loopg [3] n' (fun g iv wr => ∃ r : Nat, g = n' - r ∧ iv = .int .i64 r ∧ r ≤ n' ∧ VM wr w.heap.size (n' : Int) A n c A' n' c' M ∧ Below w.heap.size w wr ∧ Hid (∀ j, j < r → 0 ≤ gd M.add j))
 case atStart => exact ⟨0, rfl, rfl, Nat.zero_le _, V3, HB, fun j h => absurd h (by omega)⟩
 case round =>
  clear V3 HB
  obtain ⟨r, hgr, rfl, hr, V3, HB, HI⟩ := hrel
  have hr0 : (0 : Int) ≤ (r : Int) := by omega
  have m0 := V3.c0; have m2 := V3.c2
  by_cases hrn : r < n'
  ·have hr1 : (r : Int) < (n' : Int) := by omega
   obtain ⟨-, -, -, -, s2⟩ := V3.sl
   obtain ⟨bB, oB, rfl, hlB, cB⟩ := s2.cell (j := r) (by rw [HL.out]; exact hrn)
   clear s2
   obtain ⟨y, hy⟩ : ∃ y, gd M.add r = y := ⟨_, rfl⟩
   rw [hy] at cB
   have HY := Lib.hid hy
   clear hy hlB
   by_cases hy0 : y < 0
   ·have HR : Hid (B = false) := by
     show _ = _
     cases q : B with
     | false => rfl
     | true =>
      have := HBB.out.1 q r (by rw [HL.out]; exact hrn)
      rw [HY.out] at this
      omega
    go_wp2
    go_ret
    exact ⟨by rw [HR.out] <;> rfl, HB⟩
   ·have HI2 : Hid (∀ j, j < r + 1 → 0 ≤ gd M.add j) := fun j hj => by
     rcases Nat.lt_or_ge j r with h | h
     ·exact HI.out j h
     ·obtain rfl : j = r := by omega
      rw [HY.out]
      omega
    clear HI
    go_wp2
    go_roundg (n' - (r + 1))
    case measure => omega
    case rel => exact ⟨r + 1, rfl, by go_num, by omega, V3, HB, HI2⟩
  ·obtain rfl : r = n' := by omega
   have hr1 : ¬ (r : Int) < (r : Int) := by omega
   have HR : Hid (B = true) := HBB.out.2 (fun j hj => HI.out j (by rw [← HL.out]; exact hj))
   clear HI
   go_wp2
   go_ret
   exact ⟨by rw [HR.out] <;> rfl, HB⟩
set_option maxRecDepth 100000 in
set_option maxHeartbeats 4000000 in
theorem Prime_c (a b : Int) (w : World) (ha : 1 ≤ a) (ha2 : a ≤ 999) (hb : 2 ≤ b) (hb2 : b ≤ 12) (B : Bool) (hB : B = true ↔ PrimeP a b) :
  Calls Tryz.prog 85 #[.int .i64 a, .int .i64 b] w fun e w' => e = .returned (.bool B) ∧ Below w.heap.size w w' := by
 have HB : Below w.heap.size w w := Below.refl _ _
 have HBB := Lib.hid hB
 clear hB
 go_enter Tryz.func85, Tryz.ntmps85
 go_wp2_with fail
 go_loopg [5] 11 (fun g iv wr => ∃ d : Nat, g = 13 - d ∧ iv = .int .i64 d ∧ 2 ≤ d ∧ d ≤ 13 ∧ (d : Int) ≤ b + 1 ∧ Below w.heap.size w wr ∧ Hid (∀ j : Nat, 2 ≤ j → j < d → ¬ (a % (j : Int) = 0 ∧ b % (j : Int) = 0)))
 case atStart => exact ⟨2, rfl, rfl, by omega, by omega, by omega, HB, fun j h1 h => absurd h (by omega)⟩
 case round =>
  clear HB
  obtain ⟨d, hgd, rfl, hd2, hd, hdb, HB, HI⟩ := hrel
  have hd0 : (0 : Int) ≤ (d : Int) := by omega
  have hdn : ¬ d = 0 := by omega
  have hdi : ¬ (d : Int) = 0 := by omega
  by_cases h1 : (d : Int) ≤ a
  ·by_cases h2 : (d : Int) ≤ b
   ·obtain ⟨x, hx⟩ : ∃ x, a.tmod (d : Int) = x := ⟨_, rfl⟩
    obtain ⟨y, hy⟩ : ∃ y, b.tmod (d : Int) = y := ⟨_, rfl⟩
    have HX := Lib.hid hx
    have HY := Lib.hid hy
    have HI2 : ¬ (x = 0 ∧ y = 0) → Hid (∀ j : Nat, 2 ≤ j → j < d + 1 → ¬ (a % (j : Int) = 0 ∧ b % (j : Int) = 0)) := fun hn j hj1 hj => by
     rcases Nat.lt_or_ge j d with h | h
     ·exact HI.out j hj1 h
     ·obtain rfl : j = d := by omega
      rw [← tmod_zero, ← tmod_zero, HX.out, HY.out]
      exact hn
    by_cases hx0 : x = 0
    ·have hx1 : (x == 0) = true := by rw [hx0]; rfl
     by_cases hy0 : y = 0
     ·have hy1 : (y == 0) = true := by rw [hy0]; rfl
      have HR : Hid (B = false) := by
       show _ = _
       cases q : B with
       | false => rfl
       | true => exact absurd ⟨tmod_zero.1 (by rw [HX.out]; exact hx0), tmod_zero.1 (by rw [HY.out]; exact hy0)⟩ (HBB.out.1 q d hd2 h1 h2)
      clear hx0 hy0 HI2
      go_wp2
      go_ret
      exact ⟨by rw [HR.out] <;> rfl, HB⟩
     ·have hy1 : (y == 0) = false := by simpa using hy0
      replace HI2 := HI2 (fun h => hy0 h.2)
      clear hx0 hy0 HI
      go_wp2
      go_roundg (13 - (d + 1))
      case measure => omega
      case rel => exact ⟨d + 1, rfl, by go_num, by omega, by omega, by omega, HB, HI2⟩
    ·have hx1 : (x == 0) = false := by simpa using hx0
     replace HI2 := HI2 (fun h => hx0 h.1)
     clear hx0 HI
     go_wp2
     go_roundg (13 - (d + 1))
     case measure => omega
     case rel => exact ⟨d + 1, rfl, by go_num, by omega, by omega, by omega, HB, HI2⟩
   ·have hb1 : decide ((d : Int) ≤ b) = false := decide_eq_false h2
    have HR : Hid (B = true) := HBB.out.2 (fun j h3 h4 h5 => HI.out j h3 (by omega))
    clear HI
    go_wp2
    go_ret
    exact ⟨by rw [HR.out] <;> rfl, HB⟩
  ·have hb1 : decide ((d : Int) ≤ a) = false := decide_eq_false h1
   have HR : Hid (B = true) := HBB.out.2 (fun j h3 h4 h5 => HI.out j h3 (by omega))
   clear HI
   go_wp2
   go_ret
   exact ⟨by rw [HR.out] <;> rfl, HB⟩
set_option maxRecDepth 100000 in
set_option maxHeartbeats 4000000 in
theorem Regular_c (M : Mp) (v : Value) (w : World) (hM : IsM w v M) (hok : okM M) (B : Bool) (hB : B = true ↔ RegM M) :
  Calls Tryz.prog 40 #[v] w fun e w' => e = .returned (.bool B) ∧ Below w.heap.size w w' := by
 obtain ⟨md, A, n, c, A', n', c', rfl, HM⟩ := hM.form
 have V3 := VM.new w 24 HM.out
 have HB := below_alloc (Below.refl w.heap.size w) (Obj.cells #[Value.int .i64 md, Value.slice A n c, Value.slice A' n' c'] 24)
 obtain ⟨hmd, hn1, hn2, hs1, -⟩ := V3.sl
 have HBB := Lib.hid hB
 have HOK := Lib.hid hok
 have e1 := hok.2.2.1
 have h2 := hok.1
 have h12 := hok.2.1
 obtain ⟨L, hL⟩ : ∃ L, M.mul.length = L := ⟨_, rfl⟩
 have HL := Lib.hid hL
 obtain rfl : md = (L : Int) := by omega
 obtain rfl : n = L := by omega
 have HMD := Lib.hid hmd
 rw [← hmd] at h2 h12
 clear hM HM hmd hn1 hn2 hs1 hB e1 hL hok
 go_enter Tryz.func40, Tryz.ntmps40
 go_wp2_with fail
 go_loopg [3] n (fun g iv wr => ∃ r : Nat, g = n - r ∧ iv = .int .i64 r ∧ r ≤ n ∧ VM wr w.heap.size (n : Int) A n c A' n' c' M ∧ Below w.heap.size w wr ∧ Hid (∀ j, j < r → PrimeP (gd M.mul j) M.mod))
 case atStart => exact ⟨0, rfl, rfl, Nat.zero_le _, V3, HB, fun j h => absurd h (by omega)⟩
 case round =>
  clear V3 HB
  obtain ⟨r, hgr, rfl, hr, V3, HB, HI⟩ := hrel
  have hr0 : (0 : Int) ≤ (r : Int) := by omega
  have m0 := V3.c0; have m1 := V3.c1
  by_cases hrn : r < n
  ·have hr1 : (r : Int) < (n : Int) := by omega
   obtain ⟨-, -, -, s1, -⟩ := V3.sl
   obtain ⟨bB, oB, rfl, hlB, cB⟩ := s1.cell (j := r) (by rw [HL.out]; exact hrn)
   clear s1
   obtain ⟨y, hy⟩ : ∃ y, gd M.mul r = y := ⟨_, rfl⟩
   rw [hy] at cB
   have hy1 : 1 ≤ y ∧ y ≤ 999 := by
    have := HOK.out.2.2.2.2 r (by have := HMD.out; omega)
    rw [← hy]
    exact ⟨this.1, this.2.1⟩
   have HY := Lib.hid hy
   clear hy hlB
   obtain ⟨b, hb⟩ : ∃ b : Bool, b = true ↔ PrimeP y (n : Int) := by
    by_cases h : PrimeP y (n : Int)
    ·exact ⟨true, by simp [h]⟩
    ·exact ⟨false, by simp [h]⟩
   have HPC : Hid (∀ W : World, Calls Tryz.prog 85 #[.int .i64 y, .int .i64 n] W fun e w' => e = .returned (.bool b) ∧ Below W.heap.size W w') := fun W => Prime_c y n W hy1.1 hy1.2 h2 h12 b hb
   have HBP := Lib.hid hb
   clear hb
   go_wp2_with fail
   clear m0 m1
   replace V3 := V3.drew; replace HB := below_drew HB
   have x0 : wr.drew.cell? ⟨bB, oB + r, none⟩ = some (.int .i64 y) := cB
   clear cB
   generalize hWd : wr.drew = wd at *

   refine wp_region_F (fun w' => w'.cell? ⟨w.heap.size, 0, none⟩ = some (.int .i64 n) ∧ w'.cell? ⟨w.heap.size, 1, none⟩ = some (.slice (some ⟨bB, oB, none⟩) n c) ∧ w'.cell? ⟨bB, oB + r, none⟩ = some (.int .i64 y)) [] (by kernel_rfl) (by rw [hWd]; exact ⟨V3.c0, V3.c1, x0⟩) (fun hHeld => ?_)
   rw [hWd] at hHeld ⊢
   refine tF 0 ({ dst := some 10, op := Go.Op.fieldAddr 24 (Go.Operand.tmp 1) 1, type := 0, pos := "ref.go:67", after := #[], guard := none }) hHeld ?_; try go_frame
   refine tF 1 ({ dst := some 11, op := Go.Op.load 22 (Go.Operand.tmp 10), type := 22, pos := "ref.go:67", after := #[{ on := 0, ground := Go.Ground.data }], guard := none }) hHeld ?_; try go_frame
   refine tF 2 ({ dst := some 12, op := Go.Op.move (Go.Operand.tmp 3), type := 3, pos := "ref.go:67", after := #[], guard := none }) hHeld ?_; try go_frame
   refine tF 3 ({ dst := some 13, op := Go.Op.indexAddr 22 (Go.Operand.tmp 11) (Go.Operand.tmp 12), type := 0, pos := "ref.go:67", after := #[{ on := 1, ground := Go.Ground.data }, { on := 2, ground := Go.Ground.data }], guard := none }) hHeld ?_; try go_frame
   refine tF 4 ({ dst := some 14, op := Go.Op.load 3 (Go.Operand.tmp 13), type := 3, pos := "ref.go:67", after := #[{ on := 3, ground := Go.Ground.data }], guard := none }) hHeld ?_; try go_frame
   refine tF 5 ({ dst := some 15, op := Go.Op.fieldAddr 24 (Go.Operand.tmp 1) 0, type := 0, pos := "ref.go:67", after := #[], guard := none }) hHeld ?_; try go_frame
   refine tF 6 ({ dst := some 16, op := Go.Op.load 3 (Go.Operand.tmp 15), type := 3, pos := "ref.go:67", after := #[{ on := 5, ground := Go.Ground.data }], guard := none }) hHeld ?_; try go_frame
   refine wpAnyF_one (i := 7) (by kernel_rfl) rfl (fun K hK => ?_)
   go_simp
   (go_at_call 85; (with_reducible refine (HPC.out _).mono ?_); rintro e w2 ⟨rfl, hb⟩; obtain ⟨-, -, -, s1, -⟩ := (V3.keep hb).sl; obtain ⟨_, _, hpp, -, x1⟩ := s1.cell (j := r) (by rw [HL.out]; exact hrn); cases hpp; rw [HY.out] at x1; replace x0 := x1; clear s1 x1; replace V3 := V3.keep hb; replace HB := below_step HB hb; clear hb)
   refine hK.out _ _ (by exact ⟨V3.c0, V3.c1, x0⟩) (fun hHeld => ?_)
   clear hK K
   try go_frame
   refine tF 8 ({ dst := some 18, op := Go.Op.unOp Go.UnOp.not 4 (Go.Operand.tmp 17), type := 4, pos := "ref.go:67", after := #[{ on := 7, ground := Go.Ground.data }], guard := none }) hHeld ?_; try go_frame
   refine wpAnyF_done (by kernel_rfl) ?_ _
   clear hHeld hWd
   cases b with
   | false =>
    have HR : Hid (B = false) := by
     show _ = _
     cases q : B with
     | false => rfl
     | true =>
      have h := HBB.out.1 q r (by rw [HL.out]; exact hrn)
      rw [HY.out, ← HMD.out] at h
      have := HBP.out.2 h
      cases this
    go_wp2
    go_ret
    exact ⟨by rw [HR.out] <;> rfl, HB⟩
   | true =>
    have HI2 : Hid (∀ j, j < r + 1 → PrimeP (gd M.mul j) M.mod) := fun j hj => by
     rcases Nat.lt_or_ge j r with h | h
     ·exact HI.out j h
     ·obtain rfl : j = r := by omega
      rw [HY.out, ← HMD.out]
      exact HBP.out.1 rfl
    clear HI
    go_wp2
    go_roundg (n - (r + 1))
    case measure => omega
    case rel => exact ⟨r + 1, rfl, by go_num, by omega, V3, HB, HI2⟩
  ·obtain rfl : r = n := by omega
   have hr1 : ¬ (r : Int) < (r : Int) := by omega
   have HR : Hid (B = true) := HBB.out.2 (fun j hj => HI.out j (by rw [← HL.out]; exact hj))
   clear HI
   go_wp2
   go_ret
   exact ⟨by rw [HR.out] <;> rfl, HB⟩
end Go.Proofs.YtibdipfhfaeooaaGreatDoor

