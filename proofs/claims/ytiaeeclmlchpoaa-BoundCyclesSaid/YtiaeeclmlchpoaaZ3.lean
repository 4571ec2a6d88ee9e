/- What math/bits' functions return. No condition. -/
import Derived.Test.YtiaeeclmlchpoaaZ1
import Derived.Test.YtiaeeclmlchpoaaZ2
import Derived.Laws.Externs
import Derived.Lib.Mul64
import Derived.Lib.Strings
import Derived.Lib.Slices
import Derived.Lib.Small
import Derived.Lib.Walk
import Derived.Lib.BitFns
import Derived.Laws.Bits64b
import Derived.Laws.BitsLemmas
import Derived.Deep.OwnRows
import Derived.IntWalk
set_option linter.unusedVariables false
set_option linter.unusedSimpArgs false
namespace Go.Proofs.Ytiaeeclmlchpoaa
open Go.RowKit

/-- A word. -/
def W64 (x : Int) : Prop := 0 ≤ x ∧ x < 18446744073709551616
theorem add64 (x y c : Int) (hx : 0 ≤ x) (hy : 0 ≤ y) (hc0 : 0 ≤ c) (hc : c ≤ 1) (w : World) : (callFunc 80 #[.int .u64 x, .int .u64 y, .int .u64 c]).run Try.prog w =
    .ok (.value (.tuple #[.int .u64 ((x + y + c) % 18446744073709551616), .int .u64 ((x + y + c) / 18446744073709551616)])) w := by
  rw [run_callFunc_extern Try.func80 (by kernel_rfl) (by kernel_rfl) (by kernel_rfl) (e := add64Entry) (by kernel_rfl), run_add64 x y c hx hy hc0 hc]
  rfl
theorem add64_0 (x y : Int) (hx : 0 ≤ x) (hy : 0 ≤ y) (w : World) : (callFunc 80 #[.int .u64 x, .int .u64 y, .int .u64 0]).run Try.prog w =
    .ok (.value (.tuple #[.int .u64 ((x + y) % 18446744073709551616), .int .u64 ((x + y) / 18446744073709551616)])) w := by
  simpa using add64 x y 0 hx hy (Int.le_refl 0) (by decide) w
/-- What a difference borrows. -/
def bor (x y : Int) : Int := if x < y then 1 else 0
theorem sub64 (x y b : Int) (hx : 0 ≤ x) (hy : 0 ≤ y) (hy' : y < 18446744073709551616) (hb0 : 0 ≤ b) (hb : b ≤ 1) (w : World) : (callFunc 89 #[.int .u64 x, .int .u64 y, .int .u64 b]).run Try.prog w =
    .ok (.value (.tuple #[.int .u64 ((x - y - b) % 18446744073709551616), .int .u64 (bor x (y + b))])) w := by
  obtain ⟨x, rfl⟩ := Int.eq_ofNat_of_zero_le hx
  obtain ⟨y, rfl⟩ := Int.eq_ofNat_of_zero_le hy
  obtain ⟨b, rfl⟩ := Int.eq_ofNat_of_zero_le hb0
  have e1 : (((x + 18446744073709551616 - y - b) % 18446744073709551616 : Nat) : Int) = ((x : Int) - y - b) % 18446744073709551616 := by omega
  have e2 : ((if x < y + b then 1 else 0 : Nat) : Int) = bor x (y + b) := by unfold bor; split <;> split <;> omega
  have key : ∀ k : Nat, k ≤ 1 → (callFunc 89 #[.int .u64 x, .int .u64 y, .int .u64 k]).run Try.prog w =
    .ok (.value (.tuple #[.int .u64 (((x + 18446744073709551616 - y - k) % 18446744073709551616 : Nat) : Int), .int .u64 ((if x < y + k then 1 else 0 : Nat) : Int)])) w := by
    intro k hk
    rw [run_callFunc_extern Try.func89 (by kernel_rfl) (by kernel_rfl) (by kernel_rfl) rfl]
    have : k = 0 ∨ k = 1 := by omega
    rcases this with rfl | rfl <;> rfl
  rw [← e1, ← e2]
  exact key b (by omega)
theorem sub64_0 (x y : Int) (hx : 0 ≤ x) (hy : 0 ≤ y) (hy' : y < 18446744073709551616) (w : World) : (callFunc 89 #[.int .u64 x, .int .u64 y, .int .u64 0]).run Try.prog w =
    .ok (.value (.tuple #[.int .u64 ((x - y) % 18446744073709551616), .int .u64 (bor x y)])) w := by
  simpa using sub64 x y 0 hx hy hy' (Int.le_refl 0) (by decide) w

namespace M64
theorem maskN (a : Nat) (ha : a < 18446744073709551616) : bits .and .u64 (a : Int) 4294967295 = ((a % 4294967296 : Nat) : Int) := by
  have h := bits_and_u64_nat a 4294967295 ha (by omega)
  have e : a &&& 4294967295 = a % 4294967296 := Nat.and_two_pow_sub_one_eq_mod a 32
  rw [e] at h
  exact h
theorem divN (a : Nat) : (a : Int) / 4294967296 = ((a / 4294967296 : Nat) : Int) := by omega
theorem mulN (a b : Nat) : (a : Int) * (b : Int) = ((a * b : Nat) : Int) := (Int.natCast_mul a b).symm
theorem addN (a b : Nat) : (a : Int) + (b : Int) = ((a + b : Nat) : Int) := (Int.natCast_add a b).symm
theorem wrapN (a : Nat) (ha : a < 18446744073709551616) : IntKind.u64.wrap (a : Int) = (a : Int) := by rw [IntKind.wrap_u64]; omega
theorem wrapM (a : Nat) : IntKind.u64.wrap (a : Int) = ((a % 18446744073709551616 : Nat) : Int) := by rw [IntKind.wrap_u64]; omega
end M64
set_option maxHeartbeats 1000000 in
theorem Mul64_n (x y : Nat) (hx : x < 18446744073709551616) (hy : y < 18446744073709551616) (w : World) :
    Calls Try.prog 79 #[.int .u64 x, .int .u64 y] w fun e w' => e = .returned (.tuple #[.int .u64 ((x * y / 18446744073709551616 : Nat) : Int), .int .u64 ((x * y % 18446744073709551616 : Nat) : Int)]) ∧ w' = w := by
  obtain ⟨bd, bt, bw, hhi⟩ := Lib.mul64_hi x y hx hy
  have ba := Lib.half_mul_le (a := x / 4294967296) (b := y / 4294967296) (by omega) (by omega)
  have bb := Lib.half_mul_le (a := x / 4294967296) (b := y % 4294967296) (by omega) (by omega)
  have bc := Lib.half_mul_le (a := x % 4294967296) (b := y / 4294967296) (by omega) (by omega)
  have ba' : x / 4294967296 * (y / 4294967296) < 18446744073709551616 := by omega
  have bb' : x / 4294967296 * (y % 4294967296) < 18446744073709551616 := by omega
  have bc' : x % 4294967296 * (y / 4294967296) < 18446744073709551616 := by omega
  have bh1 : x / 4294967296 * (y / 4294967296) + (x / 4294967296 * (y % 4294967296) + x % 4294967296 * (y % 4294967296) / 4294967296) / 4294967296 < 18446744073709551616 := by omega
  have bh : x / 4294967296 * (y / 4294967296) + (x / 4294967296 * (y % 4294967296) + x % 4294967296 * (y % 4294967296) / 4294967296) / 4294967296 + ((x / 4294967296 * (y % 4294967296) + x % 4294967296 * (y % 4294967296) / 4294967296) % 4294967296 + x % 4294967296 * (y / 4294967296)) / 4294967296 < 18446744073709551616 := by omega
  go_enter Try.func79, Try.ntmps79
  go_wp2
  simp only [M64.maskN x hx, M64.maskN y hy, M64.divN, M64.mulN, M64.addN, M64.wrapN _ bd, M64.wrapN _ bb', M64.wrapN _ bt, M64.maskN _ bt, M64.wrapN _ bc', M64.wrapN _ bw, M64.wrapN _ ba', M64.wrapN _ bh1, M64.wrapN _ bh, M64.wrapM (x * y)]
  rw [hhi]
  go_ret2
  exact ⟨rfl, rfl⟩
theorem Mul64_c (x y : Int) (hx : W64 x) (hy : W64 y) (w : World) :
    Calls Try.prog 79 #[.int .u64 x, .int .u64 y] w fun e w' => e = .returned (.tuple #[.int .u64 (x * y / 18446744073709551616), .int .u64 (x * y % 18446744073709551616)]) ∧ w' = w := by
  obtain ⟨x, rfl⟩ := Int.eq_ofNat_of_zero_le hx.1
  obtain ⟨y, rfl⟩ := Int.eq_ofNat_of_zero_le hy.1
  have := Mul64_n x y (by have := hx.2; omega) (by have := hy.2; omega) w
  rw [Int.natCast_ediv, Int.natCast_emod, Int.natCast_mul] at this
  exact this

/-- How many binary digits. -/
def bl (n : Nat) : Nat := (digs 2 n).length
theorem bl_zero : bl 0 = 0 := by unfold bl; rw [digs_zero]; rfl
theorem bl_pos {n : Nat} (h : 0 < n) : bl n = bl (n / 2) + 1 := by unfold bl; rw [digs_pos (by omega) h]; rfl
theorem bl_aux (f : Nat) : ∀ x : Nat, x < 2 ^ f → Lib.bitLenAux f x = bl x := by
  induction f with
  | zero => intro x h; have : x = 0 := by simpa using h
            subst this; rw [bl_zero]; rfl
  | succ f ih =>
    intro x h
    rw [Lib.bitLenAux]
    split
    · rename_i h0; subst h0; rw [bl_zero]
    · rw [bl_pos (by omega), ih _ (by rw [Nat.pow_succ] at h; omega)]; omega
theorem Len64_n (x : Int) (w : World) (h : W64 x) : Calls Try.prog 83 #[.int .u64 x] w fun e w' => e = .returned (.int .i64 (bl x.toNat)) ∧ w' = w := by
  have := Len64_c x w h.1 (by have := h.2; omega)
  rw [show Lib.bitLen x.toNat = bl x.toNat from bl_aux 64 _ (by have := h.1; have := h.2; omega)] at this
  exact this
theorem bl_le {n k : Nat} (h : n < 2 ^ k) : bl n ≤ k := digs_len_le (by omega) h
theorem bl_lt (n : Nat) : n < 2 ^ bl n := digs_len_lt (by omega) n
theorem bl_ge {n : Nat} (h : 0 < n) : 2 ^ (bl n - 1) ≤ n := by
  have h1 : digs 2 n ≠ [] := fun e => by have := digs_nil (by omega) e; omega
  have h2 := V_pos (by omega) (digs_dg (B := 2) (by omega) n) (digs_nm (by omega) n) h1
  rw [digs_V (by omega)] at h2
  have : ((2 ^ (bl n - 1) : Nat) : Int) ≤ n := by rw [Int.natCast_pow]; exact h2
  omega
theorem Lead64_c (x : Int) (w : World) (h : W64 x) : Calls Try.prog 84 #[.int .u64 x] w fun e w' => e = .returned (.int .i64 (64 - (bl x.toNat : Int))) ∧ w' = w := by
  have hb : bl x.toNat ≤ 64 := bl_le (by have := h.1; have := h.2; omega)
  go_enter Try.func84, Try.ntmps84
  go_wp2_with (go_at_call 83; (with_reducible refine (Len64_n x _ h).mono ?_); rintro e w' ⟨rfl, rfl⟩)
  go_ret
  exact ⟨rfl, rfl⟩
end Go.Proofs.Ytiaeeclmlchpoaa

set_option linter.unusedVariables false
set_option linter.unusedSimpArgs false
namespace Go.Proofs.Ytiaeeclmlchpoaa
open Go.RowKit

def B64 : Nat := 18446744073709551616
theorem B64c : ((B64 : Nat) : Int) = 18446744073709551616 := rfl
theorem B64two : 2 ≤ B64 := by decide
abbrev IsW (w : World) (v : Value) (n : Nat) : Prop := IsU B64 .u64 w v n
/-- The words of a number. -/
abbrev wd (n : Nat) : List Int := digs B64 n
theorem IsU.form {B : Nat} {k : IntKind} {w : World} {v : Value} {n : Nat} (h : IsU B k w v n) : ∃ A m c, v = .slice A m c ∧ Hid (IsU B k w (.slice A m c) n) := by
  obtain ⟨A, c, rfl, hs⟩ := h
  exact ⟨A, _, c, rfl, A, c, rfl, hs⟩
theorem isU_trim {B : Nat} (hB : 2 ≤ B) {k : IntKind} {w : World} {A : Option Addr} {c : Nat} {l : List Int} (hd : Dg B l) (h : SlI w k A c l) :
    IsU B k w (.slice A (trimmed l).length c) (V B l).toNat := by
  have e : trimmed l = digs B (V B l).toNat := trimmed_digs hB hd
  refine ⟨A, c, by rw [← e], ?_⟩
  rw [← e, trimmed_take]
  exact h.take (trimmed_len l)
theorem gdw {l : List Int} (h : Dg B64 l) (i : Nat) : 0 ≤ gd l i ∧ gd l i < 18446744073709551616 := h.getD (by decide) i

def slen : Value → Nat
  | .slice _ n _ => n
  | _ => 0
set_option maxHeartbeats 400000 in
theorem wtrim_c (A : Option Addr) (c : Nat) (l : List Int) (w : World) (h : SlI w .u64 A c l) :
    Calls Try.prog 74 #[.slice A l.length c] w fun e w' => e = .returned (.slice A (trimmed l).length c) ∧ w' = w := by
  have hc1 := h.2.1
  have hc2 := h.2.2
  go_enter Try.func74, Try.ntmps74
  go_wp2
  go_loop [0] (fun v => ∃ k : Nat, k ≤ l.length ∧ v = .slice A k c ∧ trimmed (l.take k) = trimmed l) (fun v => slen v)
  case atStart => exact ⟨l.length, Nat.le_refl _, rfl, by rw [List.take_of_length_le (Nat.le_refl _)]⟩
  case round =>
    obtain ⟨k, hk, rfl, ht⟩ := hrel
    rcases Nat.eq_zero_or_pos k with rfl | hk0
    · have HT : Hid (trimmed l = []) := by rw [← ht]; rfl
      clear ht
      go_wp2
      go_ret
      exact ⟨by rw [HT.out]; rfl, rfl⟩
    · obtain ⟨k, rfl⟩ : ∃ m, k = m + 1 := ⟨k - 1, by omega⟩
      obtain ⟨b, off, rfl, hl, hcell⟩ := h.cell (j := k) (by omega)
      have HT := Lib.hid ht
      clear ht
      by_cases hz : gd l k = 0
      · have hz' : (gd l k == 0) = true := by simpa using hz
        have HZ := Lib.hid hz
        clear hz
        go_wp2
        go_round
        case rel => exact ⟨k, by omega, rfl, trimmed_step (by omega) HZ.out HT.out⟩
        case measure => simp [slen]
      · have hz' : (gd l k == 0) = false := by simpa using hz
        have HZ : Hid (trimmed l = l.take (k + 1)) := by rw [← HT.out, trimmed_stop (by omega) hz]; rfl
        clear hz
        go_wp2
        go_ret
        refine ⟨?_, rfl⟩
        have e2 : (l.take (k + 1)).length = k + 1 := by rw [List.length_take, Nat.min_eq_left (by omega)]
        rw [HZ.out, e2]; rfl
theorem wtrim_n (A : Option Addr) (c : Nat) (l : List Int) (w : World) (h : SlI w .u64 A c l) (hd : Dg B64 l) :
    Calls Try.prog 74 #[.slice A l.length c] w fun e w' => ∃ v, e = .returned v ∧ IsW w v (V B64 l).toNat ∧ w' = w :=
  (wtrim_c A c l w h).mono fun _ _ ⟨he, hb⟩ => ⟨_, he, isU_trim B64two hd h, hb⟩

theorem wtrim_f (A : Option Addr) (c : Nat) (l : List Int) (w : World) (h : SlI w .u64 A c l) (hd : Dg B64 l) :
    Calls Try.prog 74 #[.slice A l.length c] w fun e w' => ∃ n, e = .returned (.slice A n c) ∧ IsW w (.slice A n c) (V B64 l).toNat ∧ w' = w :=
  (wtrim_c A c l w h).mono fun _ _ ⟨he, hb⟩ => ⟨_, he, isU_trim B64two hd h, hb⟩
theorem at_c (A : Option Addr) (c : Nat) (l : List Int) (i : Nat) (w : World) (h : SlI w .u64 A c l) :
    Calls Try.prog 81 #[.slice A l.length c, .int .i64 i] w fun e w' => e = .returned (.int .u64 (gd l i)) ∧ w' = w := by
  by_cases hi : i < l.length
  · obtain ⟨b, off, rfl, hl, hcell⟩ := h.cell hi
    go_enter Try.func81, Try.ntmps81
    go_wp2
    go_ret
    exact ⟨rfl, rfl⟩
  · have HG : Hid (gd l i = 0) := gd_ge (by omega)
    go_enter Try.func81, Try.ntmps81
    go_wp2
    go_ret
    exact ⟨by rw [HG.out]; rfl, rfl⟩

theorem wOf_c (n : Int) (h : W64 n) (w : World) :
    Calls Try.prog 50 #[.int .u64 n] w fun e w' => ∃ v, e = .returned v ∧ IsW w' v n.toNat ∧ Below w.heap.size w w' := by
  have hD : Dg B64 [n] := Dg.cons h.1 h.2 (Dg.nil _)
  have hB := below_alloc (Below.refl w.heap.size w) (.cells #[.int .u64 n] 85)
  have hS : SlI (w.alloc (.cells #[.int .u64 n] 85)) .u64 (some ⟨w.heap.size, 0, none⟩) 1 [n] := by
    have : BlkI (w.alloc (.cells #[.int .u64 n] 85)) w.heap.size 85 .u64 [n] := by
      unfold BlkI; rw [heap_alloc_new]; rfl
    exact this.slI (by simp)
  have e : (V B64 [n]).toNat = n.toNat := by simp [V]
  have hT := wtrim_n _ 1 [n] _ hS hD
  rw [show [n].length = 1 from rfl] at hT
  go_enter Try.func50, Try.ntmps50
  go_wp2_with fail
  ( (with_reducible refine hT.mono ?_); rintro e w' ⟨v, rfl, hv, rfl⟩)
  go_wp2
  go_ret
  exact ⟨_, rfl, by rw [← e]; exact hv, hB⟩
end Go.Proofs.Ytiaeeclmlchpoaa

set_option linter.unusedVariables false
set_option linter.unusedSimpArgs false
namespace Go.Proofs.Ytiaeeclmlchpoaa
open Go.RowKit

theorem info_i64 : (Try.prog.info? 3).map (fun i => (i.zero, i.size, i.bytes)) = some (some (.int .i64 0), 1, 8) := by kernel_rfl

theorem part_c (A : Option Addr) (c : Nat) (l : List Int) (i : Nat) (w : World) (h : SlI w .i64 A c l) :
    Calls Try.prog 63 #[.slice A l.length c, .int .i64 (i : Int)] w fun e w' => e = .returned (.int .i64 (gd l i)) ∧ w = w' := by
  have hc1 := h.2.1
  have hc2 := h.2.2
  by_cases hi : i < l.length
  · obtain ⟨b, off, rfl, hl, hcell⟩ := h.cell hi
    go_enter Try.func63, Try.ntmps63
    go_wp2
    go_ret
    exact ⟨rfl, rfl⟩
  · rw [gd_ge (Nat.le_of_not_lt hi)]
    go_enter Try.func63, Try.ntmps63
    go_wp2
    go_ret
    exact ⟨rfl, rfl⟩

def MoreInv (a b l : List Int) (k : Nat) (cy : Int) : Prop :=
  l.length = k ∧ Dg B9 l ∧ 0 ≤ cy ∧ cy ≤ 1 ∧ V B9 l + (B9 : Int) ^ k * cy = V B9 (a.take k) + V B9 (b.take k) ∧ k ≤ max a.length b.length + 1 ∧ (max a.length b.length < k → cy = 0)
theorem carry_ring {x p u v cy a b m q B : Int} (h : x + p * cy = u + v) (e : m + B * q = a + b + cy) : x + p * m + p * B * q = u + p * a + (v + p * b) := by grind
theorem more_step {a b l : List Int} {k : Nat} {cy : Int} (ha : Dg B9 a) (hb : Dg B9 b) (h : MoreInv a b l k cy) (hk : k ≤ max a.length b.length) :
    MoreInv a b (l ++ [(gd a k + gd b k + cy) % 1000000000]) (k + 1) ((gd a k + gd b k + cy) / 1000000000) := by
  obtain ⟨h1, h2, h3, h4, h5, h6, h7⟩ := h
  have a1 := ha.getD (by decide) k
  have b1 := hb.getD (by decide) k
  have ea := V_getD B9 a k
  have eb := V_getD B9 b k
  change 0 ≤ gd a k ∧ gd a k < _ at a1
  change 0 ≤ gd b k ∧ gd b k < _ at b1
  change _ = _ + _ * gd a k at ea
  change _ = _ + _ * gd b k at eb
  rw [B9c] at *
  refine ⟨by simp [h1], Dg.append h2 (Dg.cons (by omega) (by rw [B9c]; omega) (Dg.nil _)), by omega, by omega, ?_, by omega, fun hlt => ?_⟩
  · rw [V_snoc, h1, ea, eb, Int.pow_succ, B9c]
    exact carry_ring h5 (by omega)
  · have e1 : gd a k = 0 := gd_ge (by omega)
    have e2 : gd b k = 0 := gd_ge (by omega)
    omega
theorem more_end {a b l : List Int} {k : Nat} (h : MoreInv a b l k 0) (hk : max a.length b.length ≤ k) : V B9 l = V B9 a + V B9 b := by
  obtain ⟨h1, h2, h3, h4, h5, h6, h7⟩ := h
  rw [List.take_of_length_le (by omega), List.take_of_length_le (by omega)] at h5
  simpa using h5

set_option maxRecDepth 100000 in
set_option maxHeartbeats 1000000 in
theorem more_c (A A' : Option Addr) (c c' : Nat) (a b : List Int) (w : World) (h : SlI w .i64 A c a) (h' : SlI w .i64 A' c' b) (ha : Dg B9 a) (hb : Dg B9 b)
    (sa : a.length ≤ 1000000000000) (sb : b.length ≤ 1000000000000) :
    Calls Try.prog 57 #[.slice A a.length c, .slice A' b.length c'] w fun e w' =>
      ∃ A1 c1 l, e = .returned (.slice A1 l.length c1) ∧ SlI w' .i64 A1 c1 l ∧ Dg B9 l ∧ V B9 l = V B9 a + V B9 b ∧ l.length ≤ max a.length b.length + 1 ∧ Below w.heap.size w w' := by
  have HH := Lib.hid ha
  have HH' := Lib.hid hb
  clear ha hb
  go_enter Try.func57, Try.ntmps57
  go_wp2
  go_loopw [5, 6, 7] (fun out cr i wr => ∃ (k : Nat) (cy : Int) (l : List Int), i = .int .i64 k ∧ cr = .int .i64 cy ∧ OwI wr w.heap.size 3 .i64 out l ∧ Below w.heap.size w wr ∧ Hid (MoreInv a b l k cy))
    (fun _ _ i _ => (max a.length b.length + 1) - (intOf i).toNat)
  case atStart => exact ⟨0, 0, [], rfl, rfl, OwI.nil _ _ _ _, Below.refl _ _, ⟨rfl, Dg.nil _, by simp, by simp, by simp [V], by omega, fun _ => rfl⟩⟩
  case round =>
    obtain ⟨k, cy, l, rfl, rfl, HO, HB, HI⟩ := hrel
    obtain ⟨i1, i2, i3, i4, i5, i6, i7⟩ := HI.out
    have H0 := Lib.hid (h.below HB)
    have H1 := Lib.hid (h'.below HB)
    have hB := HB.size
    have x1 := (HH.out.getD (by decide) k)
    have x2 := (HH'.out.getD (by decide) k)
    change 0 ≤ gd a k ∧ gd a k < _ at x1
    change 0 ≤ gd b k ∧ gd b k < _ at x2
    rw [B9c] at x1 x2
    obtain ⟨x1, x1'⟩ := x1
    obtain ⟨x2, x2'⟩ := x2
    have I5 := Lib.hid i5
    have I1 := Lib.hid i1
    have I2 := Lib.hid i2
    clear i5 i1 i2 h h'
    have hL : (l.length + 1) * 8 ≤ 140737488355328 := by have := I1.out; omega
    have HL := Lib.hid hL
    clear hL
    have HM : Hid (max a.length b.length < k → cy = 0) := i7
    clear i7
    by_cases q : k < a.length ∨ k < b.length ∨ 0 < cy
    · have hk : Hid (k ≤ max a.length b.length) := by
        show _
        rcases Nat.lt_or_ge (max a.length b.length) k with hlt | hge
        · have := HM.out hlt; omega
        · exact hge
      have HS := Lib.hid (more_step HH.out HH'.out HI.out hk.out)
      have hkk : k ≤ 1000000000001 := by omega
      clear HI
      have q' : k < a.length ∨ (¬ k < a.length ∧ k < b.length) ∨ (¬ k < a.length ∧ ¬ k < b.length ∧ 0 < cy) := by omega
      clear q
      rcases q' with q1 | ⟨q1, q2⟩ | ⟨q1, q2, q3⟩
      all_goals
        go_wp2_with (first
          | (go_at_call 63; (with_reducible refine (part_c A c a _ _ H0.out).mono ?_); rintro e w' ⟨rfl, rfl⟩)
          | (go_at_call 63; (with_reducible refine (part_c A' c' b _ _ H1.out).mono ?_); rintro e w' ⟨rfl, rfl⟩)
          | (at_builtin; (refine app_I w.heap.size rfl _ _ 26 3 .i64 8 rfl Try.underlying26 info_i64 (by decide) _ l _ HO rfl rfl HB hB HL.out ?_); intro v1 w1 HO1 HB1 hB1))
        go_roundw
        case rel => exact ⟨k + 1, _, _, by go_num, rfl, HO1, HB1, HS.out⟩
        case measure => have h_ := hk.out; unfold Hid at h_; simp [intOf]; omega
    · have q1 : ¬ k < a.length := fun h => q (.inl h)
      have q2 : ¬ k < b.length := fun h => q (.inr (.inl h))
      have q3 : ¬ 0 < cy := fun h => q (.inr (.inr h))
      clear q
      obtain rfl : cy = 0 := by omega
      have HE := Lib.hid (more_end HI.out (by omega))
      clear HI
      obtain ⟨A1, c1, rfl, hs⟩ := HO.form
      go_wp2
      go_ret
      exact ⟨A1, c1, l, rfl, hs, I2.out, HE.out, by have := I1.out; omega, HB⟩
end Go.Proofs.Ytiaeeclmlchpoaa

set_option linter.unusedVariables false
set_option linter.unusedSimpArgs false
namespace Go.Proofs.Ytiaeeclmlchpoaa
open Go.RowKit

theorem Minus_c (x : Int) (v : Value) (w : World) (h : IsN w v x) :
    Calls Try.prog 62 #[v] w fun e w' => ∃ v', e = .returned v' ∧ IsN w' v' (-x) ∧ Below w.heap.size w w' := by
  obtain ⟨A, c, rfl, hs⟩ := h
  have hB : Below w.heap.size w w := Below.refl _ _
  have hc1 := hs.2.1
  have hc2 := hs.2.2
  have ed : dg B9 (-x) = dg B9 x := by unfold dg; rw [Int.natAbs_neg]
  have el : decide (0 < (dg B9 x).length) = !(dg B9 x).isEmpty := by cases dg B9 x <;> simp
  have en : (!decide (x < 0) && decide (0 < (dg B9 x).length)) = decide (-x < 0) := by
    rw [el, dg, isEmpty_digs B9two]
    rw [Bool.eq_iff_iff]
    simp
    omega
  have HD := Lib.hid ed
  have HN := Lib.hid en
  clear ed el en
  generalize dg B9 x = l at *
  obtain ⟨neg, hneg⟩ : ∃ neg, decide (x < 0) = neg := ⟨_, rfl⟩
  rw [hneg]
  have HG := Lib.hid hneg
  clear hneg
  cases neg
  all_goals
    go_enter Try.func62, Try.ntmps62
    go_wp2
  all_goals
    refine bodyPost_ret (v := _) (by simp [results, Try.results62, go_sem]; rfl) rfl ⟨_, rfl, ⟨A, c, ?_, ?_⟩, ?_⟩
  all_goals rw [HD.out] at *
  all_goals first
    | exact below_alloc (below_alloc hB _) _
    | exact hs.below (below_alloc (below_alloc hB _) _)
    | (rw [← HN.out, HG.out]; simp; done)
    | (rw [← HN.out, HG.out]; rfl)

theorem Sign_c (x : Int) (v : Value) (w : World) (h : IsN w v x) :
    Calls Try.prog 25 #[v] w fun e w' => e = .returned (.int .i64 (if x = 0 then 0 else if x < 0 then -1 else 1)) ∧ Below w.heap.size w w' := by
  obtain ⟨A, c, rfl, hs⟩ := h
  have hB : Below w.heap.size w w := Below.refl _ _
  have hc1 := hs.2.1
  have hc2 := hs.2.2
  have el : ((dg B9 x).length : Int) = 0 ↔ x = 0 := by
    unfold dg
    rcases Nat.eq_zero_or_pos x.natAbs with h0 | h0
    · rw [h0, digs_zero]; simp; omega
    · rw [digs_pos B9two h0]; simp only [List.length_cons]; omega
  by_cases h0 : x = 0
  · have hl : (((dg B9 x).length : Int) == 0) = true := by simpa using el.2 h0
    rw [if_pos h0]
    have hd : decide (x < 0) = false := by simp; omega
    rw [hd]
    generalize dg B9 x = l at *
    clear el h0 hd
    go_enter Try.func25, Try.ntmps25
    go_wp2
    go_ret
    exact ⟨rfl, below_alloc hB _⟩
  · have hl : (((dg B9 x).length : Int) == 0) = false := by simpa using fun h => h0 (el.1 h)
    rw [if_neg h0]
    by_cases hx : x < 0
    · have hd : decide (x < 0) = true := by simpa using hx
      rw [if_pos hx, hd]
      generalize dg B9 x = l at *
      clear el h0 hd hx
      go_enter Try.func25, Try.ntmps25
      go_wp2
      go_ret
      exact ⟨rfl, below_alloc hB _⟩
    · have hd : decide (x < 0) = false := by simpa using hx
      rw [if_neg hx, hd]
      generalize dg B9 x = l at *
      clear el h0 hd hx
      go_enter Try.func25, Try.ntmps25
      go_wp2
      go_ret
      exact ⟨rfl, below_alloc hB _⟩

/-- -1, 0 or 1. -/
def icmp (x y : Int) : Int := if x < y then -1 else if y < x then 1 else 0

theorem V_top {B : Nat} (hB : 2 ≤ B) {a b : List Int} {k : Nat} (ha : Dg B a) (hb : Dg B b) (hlen : a.length = b.length) (hk : k < a.length) (he : V B (a.drop (k + 1)) = V B (b.drop (k + 1)))
    (h : gd a k < gd b k) : V B a < V B b := by
  have ea := V_split B a k (by omega)
  have eb := V_split B b k (by omega)
  rw [V_drop] at ea eb
  have la := V_lt (ha.take k)
  have lb := V_nonneg (hb.take k)
  rw [List.length_take, Nat.min_eq_left (by omega)] at la
  change V B a = _ + _ * (gd a k + _) at ea
  change V B b = _ + _ * (gd b k + _) at eb
  have hp : (0 : Int) ≤ (B : Int) ^ k := Int.pow_nonneg (by omega)
  have h1 := Int.mul_le_mul_of_nonneg_left (show gd a k + 1 ≤ gd b k by omega) hp
  rw [he] at ea
  rw [Int.mul_add] at ea eb h1
  omega
theorem V_long {B : Nat} (hB : 2 ≤ B) {a b : List Int} (ha : Dg B a) (hb : Dg B b) (nb : Nm b) (h : a.length < b.length) : V B a < V B b := by
  have h1 := V_lt ha
  have h2 := V_pos (by omega) hb nb (by intro e; rw [e] at h; simp at h)
  have h3 : (B : Int) ^ a.length ≤ (B : Int) ^ (b.length - 1) := by
    have : B ^ a.length ≤ B ^ (b.length - 1) := Nat.pow_le_pow_right (by omega) (by omega)
    have h4 : ((B ^ a.length : Nat) : Int) ≤ ((B ^ (b.length - 1) : Nat) : Int) := by omega
    rwa [Int.natCast_pow, Int.natCast_pow] at h4
  omega

set_option maxRecDepth 100000 in
set_option maxHeartbeats 1000000 in
theorem size_c (A A' : Option Addr) (c c' : Nat) (a b : List Int) (w : World) (h : SlI w .i64 A c a) (h' : SlI w .i64 A' c' b) (ha : Dg B9 a) (hb : Dg B9 b) (na : Nm a) (nb : Nm b) :
    Calls Try.prog 56 #[.slice A a.length c, .slice A' b.length c'] w fun e w' => e = .returned (.int .i64 (icmp (V B9 a) (V B9 b))) ∧ ∃ n, w' = w.drewN n := by
  have hc1 := h.2.1
  have hc2 := h.2.2
  have hc3 := h'.2.1
  have hc4 := h'.2.2
  by_cases hl : a.length = b.length
  · have hne : ((a.length : Int) != (b.length : Int)) = false := by simp; omega
    have HL := Lib.hid hl
    have hll : a.length ≤ b.length := by omega
    have H1 := Lib.hid h
    have H2 := Lib.hid h'
    clear hl na nb h h'
    have HA := Lib.hid ha
    have HB := Lib.hid hb
    clear ha hb
    go_enter Try.func56, Try.ntmps56
    go_wp2
    go_loopw [5] (fun i wr => ∃ k : Nat, k ≤ a.length ∧ i = .int .i64 ((k : Int) - 1) ∧ Hid (V B9 (a.drop k) = V B9 (b.drop k)) ∧ ∃ n, wr = w.drewN n) (fun i _ => (intOf i + 1).toNat)
    case atStart => exact ⟨a.length, Nat.le_refl _, rfl, by show _ = _; rw [List.drop_of_length_le (Nat.le_refl _), List.drop_of_length_le (by have := HL.out; omega)], 0, rfl⟩
    case round =>
      obtain ⟨k, hk, rfl, HE, n, rfl⟩ := hrel
      rcases Nat.eq_zero_or_pos k with rfl | hk0
      · go_wp2
        go_ret
        refine ⟨?_, n, rfl⟩
        have e := HE.out
        simp only [List.drop_zero] at e
        rw [e]; unfold icmp; rw [if_neg (by omega), if_neg (by omega)]; rfl
      · obtain ⟨m, rfl⟩ : ∃ m, k = m + 1 := ⟨k - 1, by omega⟩
        obtain ⟨b1, o1, rfl, hl1, hcell1⟩ := (Hid.out H1).cell (j := m) (by omega)
        obtain ⟨b2, o2, rfl, hl2, hcell2⟩ := (Hid.out H2).cell (j := m) (by omega)
        have hi0 : (0 : Int) ≤ (m : Int) := by omega
        have hi1 : (m : Int) < (a.length : Int) := by omega
        have hi2 : (m : Int) < (b.length : Int) := by omega
        by_cases q1 : gd a m < gd b m
        · have HR : Hid (icmp (V B9 a) (V B9 b) = -1) := by
            have := V_top B9two HA.out HB.out HL.out (by omega) HE.out q1
            show _ = _; unfold icmp; rw [if_pos this]
          go_wp2
          go_quiet (fail)
          go_wp2
          go_ret
          exact ⟨by rw [HR.out]; rfl, by first | exact ⟨_, rfl⟩ | (simp only [World.drewN_drewN]; exact ⟨_, rfl⟩)⟩
        · by_cases q2 : gd b m < gd a m
          · have HR : Hid (icmp (V B9 a) (V B9 b) = 1) := by
              have := V_top B9two HB.out HA.out HL.out.symm (by have := HL.out; omega) HE.out.symm q2
              show _ = _; unfold icmp; rw [if_neg (by omega), if_pos this]
            go_wp2
            go_quiet (fail)
            go_wp2
            go_quiet (fail)
            go_wp2
            go_ret
            exact ⟨by rw [HR.out]; rfl, by first | exact ⟨_, rfl⟩ | (simp only [World.drewN_drewN]; exact ⟨_, rfl⟩)⟩
          · have HR : Hid (V B9 (a.drop m) = V B9 (b.drop m)) := by
              show _ = _
              rw [V_drop B9 a m, V_drop B9 b m, HE.out]
              have : gd a m = gd b m := by omega
              unfold gd at this
              rw [this]
            go_wp2
            go_quiet (fail)
            go_wp2
            go_quiet (fail)
            go_wp2
            go_roundw
            case rel => exact ⟨m, by omega, by go_num, HR, by first | exact ⟨_, rfl⟩ | (simp only [World.drewN_drewN]; exact ⟨_, rfl⟩)⟩
            case measure => simp [intOf]
  · by_cases hlt : a.length < b.length
    · have e : icmp (V B9 a) (V B9 b) = -1 := by have := V_long B9two ha hb nb hlt; unfold icmp; rw [if_pos this]
      rw [e]
      have hne : ((a.length : Int) != (b.length : Int)) = true := by simp; omega
      clear e ha hb na nb hl
      go_enter Try.func56, Try.ntmps56
      go_wp2
      go_ret
      exact ⟨rfl, 0, rfl⟩
    · have e : icmp (V B9 a) (V B9 b) = 1 := by have := V_long B9two hb ha na (by omega); unfold icmp; rw [if_neg (by omega), if_pos this]
      rw [e]
      have hne : ((a.length : Int) != (b.length : Int)) = true := by simp; omega
      clear e ha hb na nb hl
      go_enter Try.func56, Try.ntmps56
      go_wp2
      go_ret
      exact ⟨rfl, 0, rfl⟩
theorem size_b (A A' : Option Addr) (c c' : Nat) (a b : List Int) (w : World) (h : SlI w .i64 A c a) (h' : SlI w .i64 A' c' b) (ha : Dg B9 a) (hb : Dg B9 b) (na : Nm a) (nb : Nm b) :
    Calls Try.prog 56 #[.slice A a.length c, .slice A' b.length c'] w fun e w' => e = .returned (.int .i64 (icmp (V B9 a) (V B9 b))) ∧ Below w.heap.size w w' :=
  (size_c A A' c c' a b w h h' ha hb na nb).mono fun _ _ ⟨he, n, hw⟩ => ⟨he, by rw [hw]; exact below_drewN (Below.refl _ _) n⟩
end Go.Proofs.Ytiaeeclmlchpoaa

set_option linter.unusedVariables false
set_option linter.unusedSimpArgs false
namespace Go.Proofs.Ytiaeeclmlchpoaa
open Go.RowKit

def LessInv (a b l : List Int) (k : Nat) (cy : Int) : Prop :=
  l.length = k ∧ Dg B9 l ∧ 0 ≤ cy ∧ cy ≤ 1 ∧ V B9 l = V B9 (a.take k) - V B9 (b.take k) + (B9 : Int) ^ k * cy ∧ k ≤ a.length
theorem borrow_ring {x p u v cy a b m q B : Int} (h : x = u - v + p * cy) (e : m = a - b - cy + B * q) : x + p * m = u + p * a - (v + p * b) + p * B * q := by grind
theorem less_step {a b l : List Int} {k : Nat} {cy q : Int} (h : LessInv a b l k cy) (hk : k < a.length) (hq : q = 0 ∨ q = 1)
    (h0 : 0 ≤ gd a k - gd b k - cy + 1000000000 * q) (h1 : gd a k - gd b k - cy + 1000000000 * q < 1000000000) :
    LessInv a b (l ++ [gd a k - gd b k - cy + 1000000000 * q]) (k + 1) q := by
  obtain ⟨h1, h2, h3, h4, h5, h6⟩ := h
  have ea := V_getD B9 a k
  have eb := V_getD B9 b k
  change _ = _ + _ * gd a k at ea
  change _ = _ + _ * gd b k at eb
  refine ⟨by simp [h1], Dg.append h2 (Dg.cons (by omega) (by rw [B9c]; omega) (Dg.nil _)), by omega, by omega, ?_, by omega⟩
  rw [V_snoc, h1, ea, eb, Int.pow_succ, B9c]
  rw [B9c] at h5
  exact borrow_ring h5 rfl
theorem less_end {a b l : List Int} {k : Nat} {cy : Int} (h : LessInv a b l k cy) (hk : a.length ≤ k) (hlen : b.length ≤ a.length) (ha : Dg B9 a) (hb : Dg B9 b) (hle : V B9 b ≤ V B9 a) : V B9 l = V B9 a - V B9 b := by
  obtain ⟨h1, h2, h3, h4, h5, h6⟩ := h
  rw [List.take_of_length_le (by omega), List.take_of_length_le (by omega)] at h5
  have hlt := V_lt h2
  rw [h1] at hlt
  rcases (show cy = 0 ∨ cy = 1 by omega) with rfl | rfl
  · simpa using h5
  · rw [Int.mul_one] at h5; omega

set_option maxRecDepth 100000 in
set_option maxHeartbeats 1000000 in
theorem less_c (A A' : Option Addr) (c c' : Nat) (a b : List Int) (w : World) (h : SlI w .i64 A c a) (h' : SlI w .i64 A' c' b) (ha : Dg B9 a) (hb : Dg B9 b)
    (sa : a.length ≤ 1000000000000) (hlen : b.length ≤ a.length) (hle : V B9 b ≤ V B9 a) :
    Calls Try.prog 58 #[.slice A a.length c, .slice A' b.length c'] w fun e w' =>
      ∃ A1 c1 l, e = .returned (.slice A1 l.length c1) ∧ SlI w' .i64 A1 c1 l ∧ Dg B9 l ∧ V B9 l = V B9 a - V B9 b ∧ l.length ≤ a.length ∧ Below w.heap.size w w' := by
  have HH := Lib.hid ha
  have HH' := Lib.hid hb
  have HLE := Lib.hid hle
  have HLN := Lib.hid hlen
  clear ha hb hle hlen
  go_enter Try.func58, Try.ntmps58
  go_wp2
  go_loopw [5, 6, 7] (fun out cr i wr => ∃ (k : Nat) (cy : Int) (l : List Int), i = .int .i64 k ∧ cr = .int .i64 cy ∧ OwI wr w.heap.size 3 .i64 out l ∧ Below w.heap.size w wr ∧ Hid (LessInv a b l k cy))
    (fun _ _ i _ => a.length - (intOf i).toNat)
  case atStart => exact ⟨0, 0, [], rfl, rfl, OwI.nil _ _ _ _, Below.refl _ _, ⟨rfl, Dg.nil _, by simp, by simp, by simp [V], by omega⟩⟩
  case round =>
    obtain ⟨k, cy, l, rfl, rfl, HO, HB, HI⟩ := hrel
    obtain ⟨i1, i2, i3, i4, i5, i6⟩ := HI.out
    have hB := HB.size
    have x1 := (HH.out.getD (by decide) k)
    have x2 := (HH'.out.getD (by decide) k)
    change 0 ≤ gd a k ∧ gd a k < _ at x1
    change 0 ≤ gd b k ∧ gd b k < _ at x2
    rw [B9c] at x1 x2
    obtain ⟨x1, x1'⟩ := x1
    obtain ⟨x2, x2'⟩ := x2
    have I1 := Lib.hid i1
    have I2 := Lib.hid i2
    clear i5 i1 i2
    by_cases q : k < a.length
    · have H1 := Lib.hid (h'.below HB)
      obtain ⟨b1, o1, rfl, hl1, hcell1⟩ := (h.below HB).cell (j := k) q
      clear h h'
      have hL : (l.length + 1) * 8 ≤ 140737488355328 := by have := I1.out; omega
      have HL := Lib.hid hL
      clear hL
      have hi0 : (0 : Int) ≤ (k : Int) := by omega
      have hi1 : (k : Int) < (a.length : Int) := by omega
      by_cases hq : gd a k - gd b k - cy < 0
      · have HS := Lib.hid (less_step (q := 1) HI.out q (.inr rfl) (by omega) (by omega))
        rw [Int.mul_one] at HS
        clear HI
        go_wp2
        go_region_held3 (fun w' => w'.cell? ⟨b1, o1 + k, none⟩ = some (.int .i64 (gd a k))) (exact hcell1) (first
          | (go_at_call 63; (with_reducible refine (part_c A' c' b k _ (by exact H1.out.below (by repeat (with_reducible first | assumption | exact Below.refl _ _ | apply below_drew | apply below_drewN | apply below_alloc | refine below_step ?_ (by assumption))))).mono ?_); rintro e w' ⟨rfl, rfl⟩))
        have HO2 := HO.below (w' := wr.drew) (by repeat (with_reducible first | assumption | exact Below.refl _ _ | apply below_drew | apply below_drewN | apply below_alloc | refine below_step ?_ (by assumption)))
        have HB2 := below_drew HB
        have hB2 : w.heap.size ≤ wr.drew.heap.size := hB
        generalize wr.drew = w2 at HO2 HB2 hB2 ⊢
        clear HO HB hB hcell1 H1 hl1
        go_wp2_with (at_builtin; refine app_I w.heap.size rfl _ _ 26 3 .i64 8 rfl Try.underlying26 info_i64 (by decide) _ l _ HO2 rfl rfl HB2 hB2 HL.out ?_; intro v1 w1 HO1 HB1 hB1)
        go_roundw
        case rel => exact ⟨k + 1, _, _, by go_num, rfl, HO1, HB1, HS.out⟩
        case measure => simp [intOf]; omega
      · have HS := Lib.hid (less_step (q := 0) HI.out q (.inl rfl) (by omega) (by omega))
        rw [Int.mul_zero, Int.add_zero] at HS
        clear HI
        go_wp2
        go_region_held3 (fun w' => w'.cell? ⟨b1, o1 + k, none⟩ = some (.int .i64 (gd a k))) (exact hcell1) (first
          | (go_at_call 63; (with_reducible refine (part_c A' c' b k _ (by exact H1.out.below (by repeat (with_reducible first | assumption | exact Below.refl _ _ | apply below_drew | apply below_drewN | apply below_alloc | refine below_step ?_ (by assumption))))).mono ?_); rintro e w' ⟨rfl, rfl⟩))
        have HO2 := HO.below (w' := wr.drew) (by repeat (with_reducible first | assumption | exact Below.refl _ _ | apply below_drew | apply below_drewN | apply below_alloc | refine below_step ?_ (by assumption)))
        have HB2 := below_drew HB
        have hB2 : w.heap.size ≤ wr.drew.heap.size := hB
        generalize wr.drew = w2 at HO2 HB2 hB2 ⊢
        clear HO HB hB hcell1 H1 hl1
        go_wp2_with (at_builtin; refine app_I w.heap.size rfl _ _ 26 3 .i64 8 rfl Try.underlying26 info_i64 (by decide) _ l _ HO2 rfl rfl HB2 hB2 HL.out ?_; intro v1 w1 HO1 HB1 hB1)
        go_roundw
        case rel => exact ⟨k + 1, _, _, by go_num, rfl, HO1, HB1, HS.out⟩
        case measure => simp [intOf]; omega
    · have HE := Lib.hid (less_end HI.out (by omega) HLN.out HH.out HH'.out HLE.out)
      clear HI
      obtain ⟨A1, c1, rfl, hs⟩ := HO.form
      go_wp2
      go_ret
      exact ⟨A1, c1, l, rfl, hs, I2.out, HE.out, by have := I1.out; omega, HB⟩
end Go.Proofs.Ytiaeeclmlchpoaa

set_option linter.unusedVariables false
set_option linter.unusedSimpArgs false
namespace Go.Proofs.Ytiaeeclmlchpoaa
open Go.RowKit

/-- What a function with two numbers as parameters holds in memory. -/
theorem keep2 {n : Nat} {W w1 : World} {na nb : Bool} {sa sb : Value} (hb : Below W.heap.size W w1) (h : W.cell? ⟨n, 0, none⟩ = some (.bool na) ∧ W.cell? ⟨n, 1, none⟩ = some sa ∧ W.cell? ⟨n + 1, 0, none⟩ = some (.bool nb) ∧ W.cell? ⟨n + 1, 1, none⟩ = some sb ∧ n + 1 + 1 < W.heap.size) :
    w1.cell? ⟨n, 0, none⟩ = some (.bool na) ∧ w1.cell? ⟨n, 1, none⟩ = some sa ∧ w1.cell? ⟨n + 1, 0, none⟩ = some (.bool nb) ∧ w1.cell? ⟨n + 1, 1, none⟩ = some sb ∧ n + 1 + 1 < w1.heap.size := by
  obtain ⟨h1, h2, h3, h4, h9⟩ := h
  have hz := hb.size
  exact ⟨kcell hb (by omega) h1, kcell hb (by omega) h2, kcell hb (by omega) h3, kcell hb (by omega) h4, by omega⟩
theorem keep2s {n o : Nat} {W : World} {na nb : Bool} {sa sb u : Value} (h : W.cell? ⟨n, 0, none⟩ = some (.bool na) ∧ W.cell? ⟨n, 1, none⟩ = some sa ∧ W.cell? ⟨n + 1, 0, none⟩ = some (.bool nb) ∧ W.cell? ⟨n + 1, 1, none⟩ = some sb ∧ n + 1 + 1 < W.heap.size) :
    (W.setCell ⟨n + 1 + 1, o, none⟩ u).cell? ⟨n, 0, none⟩ = some (.bool na) ∧ (W.setCell ⟨n + 1 + 1, o, none⟩ u).cell? ⟨n, 1, none⟩ = some sa ∧ (W.setCell ⟨n + 1 + 1, o, none⟩ u).cell? ⟨n + 1, 0, none⟩ = some (.bool nb) ∧ (W.setCell ⟨n + 1 + 1, o, none⟩ u).cell? ⟨n + 1, 1, none⟩ = some sb ∧ n + 1 + 1 < (W.setCell ⟨n + 1 + 1, o, none⟩ u).heap.size := by
  obtain ⟨h1, h2, h3, h4, h9⟩ := h
  have hz : (W.setCell ⟨n + 1 + 1, o, none⟩ u).heap.size = W.heap.size := by simp [World.setCell]
  refine ⟨?_, ?_, ?_, ?_, by omega⟩ <;> rw [World.cell?_setCell_other _ _ _ _ (by simp)] <;> assumption
theorem start2 (w : World) (na nb : Bool) (sa sb : Value) (t : TypeId) (W : World)
    (hW : ((w.alloc (.cells #[.bool na, sa] t)).alloc (.cells #[.bool nb, sb] t)).alloc (.cells #[.bool false, .slice none 0 0] t) = W) :
    (W.cell? ⟨w.heap.size, 0, none⟩ = some (.bool na) ∧ W.cell? ⟨w.heap.size, 1, none⟩ = some sa ∧ W.cell? ⟨w.heap.size + 1, 0, none⟩ = some (.bool nb) ∧ W.cell? ⟨w.heap.size + 1, 1, none⟩ = some sb ∧ w.heap.size + 1 + 1 < W.heap.size) ∧ Res2 W (w.heap.size + 1 + 1) ∧ Below w.heap.size w W := by
  subst hW
  refine ⟨⟨?_, ?_, ?_, ?_, ?_⟩, ⟨⟨false, ?_⟩, ⟨none, 0, 0, ?_⟩, ?_, ?_, ?_⟩, below_alloc (below_alloc (below_alloc (Below.refl _ _) _) _) _⟩ <;> simp [go_sem]

set_option maxRecDepth 100000 in
set_option maxHeartbeats 1000000 in
theorem Add_c (x y : Int) (v1 v2 : Value) (w : World) (h1 : IsN w v1 x) (h2 : IsN w v2 y) (sx : (dg B9 x).length ≤ 1000000000000) (sy : (dg B9 y).length ≤ 1000000000000) :
    Calls Try.prog 27 #[v1, v2] w fun e w' => ∃ v, e = .returned v ∧ IsN w' v (x + y) ∧ Below w.heap.size w w' := by
  obtain ⟨A1, c1, rfl, hs1⟩ := h1
  obtain ⟨A2, c2, rfl, hs2⟩ := h2
  have D1 := Lib.hid (dg_dg B9two x)
  have D2 := Lib.hid (dg_dg B9two y)
  have V1 := Lib.hid (dg_V B9two x)
  have V2 := Lib.hid (dg_V B9two y)
  have N1 := Lib.hid (dg_nm B9two x)
  have N2 := Lib.hid (dg_nm B9two y)
  generalize dg B9 x = a at *
  generalize dg B9 y = b at *
  obtain ⟨na, hna⟩ : ∃ na, decide (x < 0) = na := ⟨_, rfl⟩
  obtain ⟨nb, hnb⟩ : ∃ nb, decide (y < 0) = nb := ⟨_, rfl⟩
  rw [hna, hnb]
  have HNA := Lib.hid hna
  have HNB := Lib.hid hnb
  clear hna hnb
  by_cases hsame : na = nb
  · subst hsame
    have HR : Hid (sgnd na (V B9 a + V B9 b) = x + y) := by
      show _ = _
      have e1 := HNA.out; have e2 := HNB.out
      rw [V1.out, V2.out]; unfold sgnd
      cases na <;> simp at e1 e2 <;> simp <;> omega
    cases na
    · go_enter Try.func27, Try.ntmps27
      go_wp2
      generalize hW : ((w.alloc (Obj.cells #[Value.bool _, Value.slice A1 a.length c1] 28)).alloc _).alloc _ = W
      obtain ⟨hS, HR2, HBW⟩ := start2 w _ _ _ _ _ W hW
      clear hW
      have hs1' := Lib.hid (hs1.below HBW)
      have hs2' := Lib.hid (hs2.below HBW)
      go_region_held3 (fun w' => w'.cell? ⟨w.heap.size, 0, none⟩ = some (.bool false) ∧ w'.cell? ⟨w.heap.size, 1, none⟩ = some (.slice A1 a.length c1) ∧ w'.cell? ⟨w.heap.size + 1, 0, none⟩ = some (.bool false) ∧ w'.cell? ⟨w.heap.size + 1, 1, none⟩ = some (.slice A2 b.length c2) ∧ w.heap.size + 1 + 1 < w'.heap.size)
        (first | exact hS | exact keep2 hb1 hS | exact keep2 hb2 (keep2 hb1 hS) | exact keep2s (keep2s (keep2 hb2 (keep2 hb1 hS))))
        (first
          | (go_at_call 57; (with_reducible refine (more_c A1 A2 c1 c2 a b _ (by exact hs1'.out.below (by repeat (with_reducible first | assumption | exact Below.refl _ _ | apply below_drew | apply below_drewN | apply below_alloc | refine below_step ?_ (by assumption)))) (by exact hs2'.out.below (by repeat (with_reducible first | assumption | exact Below.refl _ _ | apply below_drew | apply below_drewN | apply below_alloc | refine below_step ?_ (by assumption)))) D1.out D2.out sx sy).mono ?_); rintro e w1 ⟨A3, c3, l, rfl, hs3, hd3, hv3, hl3, hb1⟩; have HV3 := Lib.hid hv3; have HS3 := Lib.hid hs3; clear hv3 hs3)
          | (go_at_call 36; (with_reducible refine (trim_n _ A3 c3 l _ (by exact HS3.out.below (by repeat (with_reducible first | assumption | exact Below.refl _ _ | apply below_drew | apply below_drewN | apply below_alloc | refine below_step ?_ (by assumption)))) hd3).mono ?_); rintro e w2 ⟨v, rfl, hv, hb2⟩; obtain ⟨nv, A4, n4, c4, rfl, HV⟩ := hv.form; clear hv; have HR4 := Lib.hid ((HR2.drew.keep hb1).keep hb2); obtain ⟨⟨u1, r1⟩, ⟨u2, u3, u4, r2⟩, r3, r4, r5⟩ := HR4.out))
      go_wp2
      refine bodyPost_ret (v := .agg #[.bool nv, .slice A4 n4 c4]) (by simp [results, Try.results27, go_sem, r1, r2, r5]) rfl ⟨_, rfl, ?_, ?_⟩
      · have := HV.out
        rw [HV3.out, HR.out] at this
        exact this.res2 HR4.out _ _
      · exact below_set (below_set (below_step (below_step (below_drew HBW) hb1) hb2) (by omega) _) (by omega) _
    · go_enter Try.func27, Try.ntmps27
      go_wp2
      generalize hW : ((w.alloc (Obj.cells #[Value.bool _, Value.slice A1 a.length c1] 28)).alloc _).alloc _ = W
      obtain ⟨hS, HR2, HBW⟩ := start2 w _ _ _ _ _ W hW
      clear hW
      have hs1' := Lib.hid (hs1.below HBW)
      have hs2' := Lib.hid (hs2.below HBW)
      go_region_held3 (fun w' => w'.cell? ⟨w.heap.size, 0, none⟩ = some (.bool true) ∧ w'.cell? ⟨w.heap.size, 1, none⟩ = some (.slice A1 a.length c1) ∧ w'.cell? ⟨w.heap.size + 1, 0, none⟩ = some (.bool true) ∧ w'.cell? ⟨w.heap.size + 1, 1, none⟩ = some (.slice A2 b.length c2) ∧ w.heap.size + 1 + 1 < w'.heap.size)
        (first | exact hS | exact keep2 hb1 hS | exact keep2 hb2 (keep2 hb1 hS) | exact keep2s (keep2s (keep2 hb2 (keep2 hb1 hS))))
        (first
          | (go_at_call 57; (with_reducible refine (more_c A1 A2 c1 c2 a b _ (by exact hs1'.out.below (by repeat (with_reducible first | assumption | exact Below.refl _ _ | apply below_drew | apply below_drewN | apply below_alloc | refine below_step ?_ (by assumption)))) (by exact hs2'.out.below (by repeat (with_reducible first | assumption | exact Below.refl _ _ | apply below_drew | apply below_drewN | apply below_alloc | refine below_step ?_ (by assumption)))) D1.out D2.out sx sy).mono ?_); rintro e w1 ⟨A3, c3, l, rfl, hs3, hd3, hv3, hl3, hb1⟩; have HV3 := Lib.hid hv3; have HS3 := Lib.hid hs3; clear hv3 hs3)
          | (go_at_call 36; (with_reducible refine (trim_n _ A3 c3 l _ (by exact HS3.out.below (by repeat (with_reducible first | assumption | exact Below.refl _ _ | apply below_drew | apply below_drewN | apply below_alloc | refine below_step ?_ (by assumption)))) hd3).mono ?_); rintro e w2 ⟨v, rfl, hv, hb2⟩; obtain ⟨nv, A4, n4, c4, rfl, HV⟩ := hv.form; clear hv; have HR4 := Lib.hid ((HR2.drew.keep hb1).keep hb2); obtain ⟨⟨u1, r1⟩, ⟨u2, u3, u4, r2⟩, r3, r4, r5⟩ := HR4.out))
      go_wp2
      refine bodyPost_ret (v := .agg #[.bool nv, .slice A4 n4 c4]) (by simp [results, Try.results27, go_sem, r1, r2, r5]) rfl ⟨_, rfl, ?_, ?_⟩
      · have := HV.out
        rw [HV3.out, HR.out] at this
        exact this.res2 HR4.out _ _
      · exact below_set (below_set (below_step (below_step (below_drew HBW) hb1) hb2) (by omega) _) (by omega) _
  · have hdiff : ((na : Bool) == nb) = false := by simpa using hsame
    by_cases hge : V B9 b ≤ V B9 a
    · have hq : 0 ≤ icmp (V B9 a) (V B9 b) := by unfold icmp; split <;> (try split) <;> omega
      have HLE := Lib.hid hge
      have hlen : b.length ≤ a.length := by
        rcases Nat.lt_or_ge a.length b.length with h | h
        · have := V_long B9two D1.out D2.out N2.out h; omega
        · exact h
      have HR : Hid (sgnd na (V B9 a - V B9 b) = x + y) := by
        show _ = _
        have e1 := HNA.out; have e2 := HNB.out
        rw [V1.out, V2.out]; unfold sgnd
        cases na <;> cases nb <;> simp at e1 e2 hdiff <;> simp <;> omega
      clear hge
      have hnb : nb = !na := by cases na <;> cases nb <;> simp at hdiff ⊢
      subst hnb
      cases na
      · go_enter Try.func27, Try.ntmps27
        go_wp2_with fail
        generalize hW : ((w.alloc (Obj.cells #[Value.bool _, Value.slice A1 a.length c1] 28)).alloc _).alloc _ = W
        obtain ⟨hS, HR2, HBW⟩ := start2 w _ _ _ _ _ W hW
        clear hW
        have hs1' := Lib.hid (hs1.below HBW)
        have hs2' := Lib.hid (hs2.below HBW)
        (with_reducible refine (size_b A1 A2 c1 c2 a b _ (by exact hs1'.out.below (by repeat (with_reducible first | assumption | exact Below.refl _ _ | apply below_drew | apply below_drewN | apply below_alloc | refine below_step ?_ (by assumption)))) (by exact hs2'.out.below (by repeat (with_reducible first | assumption | exact Below.refl _ _ | apply below_drew | apply below_drewN | apply below_alloc | refine below_step ?_ (by assumption)))) D1.out D2.out N1.out N2.out).mono ?_)
        rintro e w0 ⟨rfl, hb0⟩
        replace hS := keep2 hb0 hS
        replace HR2 := HR2.keep hb0
        replace HBW := below_step HBW hb0
        replace hs1' := Lib.hid (hs1'.out.below hb0)
        replace hs2' := Lib.hid (hs2'.out.below hb0)
        clear hb0
        go_wp2
        go_region_held3 (fun w' => w'.cell? ⟨w.heap.size, 0, none⟩ = some (.bool false) ∧ w'.cell? ⟨w.heap.size, 1, none⟩ = some (.slice A1 a.length c1) ∧ w'.cell? ⟨w.heap.size + 1, 0, none⟩ = some (.bool true) ∧ w'.cell? ⟨w.heap.size + 1, 1, none⟩ = some (.slice A2 b.length c2) ∧ w.heap.size + 1 + 1 < w'.heap.size)
          (first | exact hS | exact keep2 hb1 hS | exact keep2 hb2 (keep2 hb1 hS) | exact keep2s (keep2s (keep2 hb2 (keep2 hb1 hS))))
          (first
            | (go_at_call 58; (with_reducible refine (less_c A1 A2 c1 c2 a b _ (by exact hs1'.out.below (by repeat (with_reducible first | assumption | exact Below.refl _ _ | apply below_drew | apply below_drewN | apply below_alloc | refine below_step ?_ (by assumption)))) (by exact hs2'.out.below (by repeat (with_reducible first | assumption | exact Below.refl _ _ | apply below_drew | apply below_drewN | apply below_alloc | refine below_step ?_ (by assumption)))) D1.out D2.out sx hlen HLE.out).mono ?_); rintro e w1 ⟨A3, c3, l, rfl, hs3, hd3, hv3, hl3, hb1⟩; have HV3 := Lib.hid hv3; have HS3 := Lib.hid hs3; clear hv3 hs3)
            | (go_at_call 36; (with_reducible refine (trim_n _ A3 c3 l _ (by exact HS3.out.below (by repeat (with_reducible first | assumption | exact Below.refl _ _ | apply below_drew | apply below_drewN | apply below_alloc | refine below_step ?_ (by assumption)))) hd3).mono ?_); rintro e w2 ⟨v, rfl, hv, hb2⟩; obtain ⟨nv, A4, n4, c4, rfl, HV⟩ := hv.form; clear hv; have HR4 := Lib.hid ((HR2.drew.keep hb1).keep hb2); obtain ⟨⟨u1, r1⟩, ⟨u2, u3, u4, r2⟩, r3, r4, r5⟩ := HR4.out))
        go_wp2
        refine bodyPost_ret (v := .agg #[.bool nv, .slice A4 n4 c4]) (by simp [results, Try.results27, go_sem, r1, r2, r5]) rfl ⟨_, rfl, ?_, ?_⟩
        · have := HV.out
          rw [HV3.out, HR.out] at this
          exact this.res2 HR4.out _ _
        · exact below_set (below_set (below_step (below_step (below_drew HBW) hb1) hb2) (by omega) _) (by omega) _
      · go_enter Try.func27, Try.ntmps27
        go_wp2_with fail
        generalize hW : ((w.alloc (Obj.cells #[Value.bool _, Value.slice A1 a.length c1] 28)).alloc _).alloc _ = W
        obtain ⟨hS, HR2, HBW⟩ := start2 w _ _ _ _ _ W hW
        clear hW
        have hs1' := Lib.hid (hs1.below HBW)
        have hs2' := Lib.hid (hs2.below HBW)
        (with_reducible refine (size_b A1 A2 c1 c2 a b _ (by exact hs1'.out.below (by repeat (with_reducible first | assumption | exact Below.refl _ _ | apply below_drew | apply below_drewN | apply below_alloc | refine below_step ?_ (by assumption)))) (by exact hs2'.out.below (by repeat (with_reducible first | assumption | exact Below.refl _ _ | apply below_drew | apply below_drewN | apply below_alloc | refine below_step ?_ (by assumption)))) D1.out D2.out N1.out N2.out).mono ?_)
        rintro e w0 ⟨rfl, hb0⟩
        replace hS := keep2 hb0 hS
        replace HR2 := HR2.keep hb0
        replace HBW := below_step HBW hb0
        replace hs1' := Lib.hid (hs1'.out.below hb0)
        replace hs2' := Lib.hid (hs2'.out.below hb0)
        clear hb0
        go_wp2
        go_region_held3 (fun w' => w'.cell? ⟨w.heap.size, 0, none⟩ = some (.bool true) ∧ w'.cell? ⟨w.heap.size, 1, none⟩ = some (.slice A1 a.length c1) ∧ w'.cell? ⟨w.heap.size + 1, 0, none⟩ = some (.bool false) ∧ w'.cell? ⟨w.heap.size + 1, 1, none⟩ = some (.slice A2 b.length c2) ∧ w.heap.size + 1 + 1 < w'.heap.size)
          (first | exact hS | exact keep2 hb1 hS | exact keep2 hb2 (keep2 hb1 hS) | exact keep2s (keep2s (keep2 hb2 (keep2 hb1 hS))))
          (first
            | (go_at_call 58; (with_reducible refine (less_c A1 A2 c1 c2 a b _ (by exact hs1'.out.below (by repeat (with_reducible first | assumption | exact Below.refl _ _ | apply below_drew | apply below_drewN | apply below_alloc | refine below_step ?_ (by assumption)))) (by exact hs2'.out.below (by repeat (with_reducible first | assumption | exact Below.refl _ _ | apply below_drew | apply below_drewN | apply below_alloc | refine below_step ?_ (by assumption)))) D1.out D2.out sx hlen HLE.out).mono ?_); rintro e w1 ⟨A3, c3, l, rfl, hs3, hd3, hv3, hl3, hb1⟩; have HV3 := Lib.hid hv3; have HS3 := Lib.hid hs3; clear hv3 hs3)
            | (go_at_call 36; (with_reducible refine (trim_n _ A3 c3 l _ (by exact HS3.out.below (by repeat (with_reducible first | assumption | exact Below.refl _ _ | apply below_drew | apply below_drewN | apply below_alloc | refine below_step ?_ (by assumption)))) hd3).mono ?_); rintro e w2 ⟨v, rfl, hv, hb2⟩; obtain ⟨nv, A4, n4, c4, rfl, HV⟩ := hv.form; clear hv; have HR4 := Lib.hid ((HR2.drew.keep hb1).keep hb2); obtain ⟨⟨u1, r1⟩, ⟨u2, u3, u4, r2⟩, r3, r4, r5⟩ := HR4.out))
        go_wp2
        refine bodyPost_ret (v := .agg #[.bool nv, .slice A4 n4 c4]) (by simp [results, Try.results27, go_sem, r1, r2, r5]) rfl ⟨_, rfl, ?_, ?_⟩
        · have := HV.out
          rw [HV3.out, HR.out] at this
          exact this.res2 HR4.out _ _
        · exact below_set (below_set (below_step (below_step (below_drew HBW) hb1) hb2) (by omega) _) (by omega) _
    · have hq : icmp (V B9 a) (V B9 b) < 0 := by unfold icmp; split <;> (try split) <;> omega
      have HLE : Hid (V B9 a ≤ V B9 b) := by show _ ≤ _; omega
      have hlen : a.length ≤ b.length := by
        rcases Nat.lt_or_ge b.length a.length with h | h
        · have := V_long B9two D2.out D1.out N1.out h; omega
        · exact h
      have HR : Hid (sgnd nb (V B9 b - V B9 a) = x + y) := by
        show _ = _
        have e1 := HNA.out; have e2 := HNB.out
        rw [V1.out, V2.out]; unfold sgnd
        cases na <;> cases nb <;> simp at e1 e2 hdiff <;> simp <;> omega
      clear hge
      have hnb : nb = !na := by cases na <;> cases nb <;> simp at hdiff ⊢
      subst hnb
      cases na
      · go_enter Try.func27, Try.ntmps27
        go_wp2_with fail
        generalize hW : ((w.alloc (Obj.cells #[Value.bool _, Value.slice A1 a.length c1] 28)).alloc _).alloc _ = W
        obtain ⟨hS, HR2, HBW⟩ := start2 w _ _ _ _ _ W hW
        clear hW
        have hs1' := Lib.hid (hs1.below HBW)
        have hs2' := Lib.hid (hs2.below HBW)
        (with_reducible refine (size_b A1 A2 c1 c2 a b _ (by exact hs1'.out.below (by repeat (with_reducible first | assumption | exact Below.refl _ _ | apply below_drew | apply below_drewN | apply below_alloc | refine below_step ?_ (by assumption)))) (by exact hs2'.out.below (by repeat (with_reducible first | assumption | exact Below.refl _ _ | apply below_drew | apply below_drewN | apply below_alloc | refine below_step ?_ (by assumption)))) D1.out D2.out N1.out N2.out).mono ?_)
        rintro e w0 ⟨rfl, hb0⟩
        replace hS := keep2 hb0 hS
        replace HR2 := HR2.keep hb0
        replace HBW := below_step HBW hb0
        replace hs1' := Lib.hid (hs1'.out.below hb0)
        replace hs2' := Lib.hid (hs2'.out.below hb0)
        clear hb0
        go_wp2
        go_region_held3 (fun w' => w'.cell? ⟨w.heap.size, 0, none⟩ = some (.bool false) ∧ w'.cell? ⟨w.heap.size, 1, none⟩ = some (.slice A1 a.length c1) ∧ w'.cell? ⟨w.heap.size + 1, 0, none⟩ = some (.bool true) ∧ w'.cell? ⟨w.heap.size + 1, 1, none⟩ = some (.slice A2 b.length c2) ∧ w.heap.size + 1 + 1 < w'.heap.size)
          (first | exact hS | exact keep2 hb1 hS | exact keep2 hb2 (keep2 hb1 hS) | exact keep2s (keep2s (keep2 hb2 (keep2 hb1 hS))))
          (first
            | (go_at_call 58; (with_reducible refine (less_c A2 A1 c2 c1 b a _ (by exact hs2'.out.below (by repeat (with_reducible first | assumption | exact Below.refl _ _ | apply below_drew | apply below_drewN | apply below_alloc | refine below_step ?_ (by assumption)))) (by exact hs1'.out.below (by repeat (with_reducible first | assumption | exact Below.refl _ _ | apply below_drew | apply below_drewN | apply below_alloc | refine below_step ?_ (by assumption)))) D2.out D1.out sy hlen HLE.out).mono ?_); rintro e w1 ⟨A3, c3, l, rfl, hs3, hd3, hv3, hl3, hb1⟩; have HV3 := Lib.hid hv3; have HS3 := Lib.hid hs3; clear hv3 hs3)
            | (go_at_call 36; (with_reducible refine (trim_n _ A3 c3 l _ (by exact HS3.out.below (by repeat (with_reducible first | assumption | exact Below.refl _ _ | apply below_drew | apply below_drewN | apply below_alloc | refine below_step ?_ (by assumption)))) hd3).mono ?_); rintro e w2 ⟨v, rfl, hv, hb2⟩; obtain ⟨nv, A4, n4, c4, rfl, HV⟩ := hv.form; clear hv; have HR4 := Lib.hid ((HR2.drew.keep hb1).keep hb2); obtain ⟨⟨u1, r1⟩, ⟨u2, u3, u4, r2⟩, r3, r4, r5⟩ := HR4.out))
        go_wp2
        refine bodyPost_ret (v := .agg #[.bool nv, .slice A4 n4 c4]) (by simp [results, Try.results27, go_sem, r1, r2, r5]) rfl ⟨_, rfl, ?_, ?_⟩
        · have := HV.out
          have e : sgnd true (V B9 b - V B9 a) = x + y := HR.out
          rw [HV3.out, e] at this
          exact this.res2 HR4.out _ _
        · exact below_set (below_set (below_step (below_step (below_drew HBW) hb1) hb2) (by omega) _) (by omega) _
      · go_enter Try.func27, Try.ntmps27
        go_wp2_with fail
        generalize hW : ((w.alloc (Obj.cells #[Value.bool _, Value.slice A1 a.length c1] 28)).alloc _).alloc _ = W
        obtain ⟨hS, HR2, HBW⟩ := start2 w _ _ _ _ _ W hW
        clear hW
        have hs1' := Lib.hid (hs1.below HBW)
        have hs2' := Lib.hid (hs2.below HBW)
        (with_reducible refine (size_b A1 A2 c1 c2 a b _ (by exact hs1'.out.below (by repeat (with_reducible first | assumption | exact Below.refl _ _ | apply below_drew | apply below_drewN | apply below_alloc | refine below_step ?_ (by assumption)))) (by exact hs2'.out.below (by repeat (with_reducible first | assumption | exact Below.refl _ _ | apply below_drew | apply below_drewN | apply below_alloc | refine below_step ?_ (by assumption)))) D1.out D2.out N1.out N2.out).mono ?_)
        rintro e w0 ⟨rfl, hb0⟩
        replace hS := keep2 hb0 hS
        replace HR2 := HR2.keep hb0
        replace HBW := below_step HBW hb0
        replace hs1' := Lib.hid (hs1'.out.below hb0)
        replace hs2' := Lib.hid (hs2'.out.below hb0)
        clear hb0
        go_wp2
        go_region_held3 (fun w' => w'.cell? ⟨w.heap.size, 0, none⟩ = some (.bool true) ∧ w'.cell? ⟨w.heap.size, 1, none⟩ = some (.slice A1 a.length c1) ∧ w'.cell? ⟨w.heap.size + 1, 0, none⟩ = some (.bool false) ∧ w'.cell? ⟨w.heap.size + 1, 1, none⟩ = some (.slice A2 b.length c2) ∧ w.heap.size + 1 + 1 < w'.heap.size)
          (first | exact hS | exact keep2 hb1 hS | exact keep2 hb2 (keep2 hb1 hS) | exact keep2s (keep2s (keep2 hb2 (keep2 hb1 hS))))
          (first
            | (go_at_call 58; (with_reducible refine (less_c A2 A1 c2 c1 b a _ (by exact hs2'.out.below (by repeat (with_reducible first | assumption | exact Below.refl _ _ | apply below_drew | apply below_drewN | apply below_alloc | refine below_step ?_ (by assumption)))) (by exact hs1'.out.below (by repeat (with_reducible first | assumption | exact Below.refl _ _ | apply below_drew | apply below_drewN | apply below_alloc | refine below_step ?_ (by assumption)))) D2.out D1.out sy hlen HLE.out).mono ?_); rintro e w1 ⟨A3, c3, l, rfl, hs3, hd3, hv3, hl3, hb1⟩; have HV3 := Lib.hid hv3; have HS3 := Lib.hid hs3; clear hv3 hs3)
            | (go_at_call 36; (with_reducible refine (trim_n _ A3 c3 l _ (by exact HS3.out.below (by repeat (with_reducible first | assumption | exact Below.refl _ _ | apply below_drew | apply below_drewN | apply below_alloc | refine below_step ?_ (by assumption)))) hd3).mono ?_); rintro e w2 ⟨v, rfl, hv, hb2⟩; obtain ⟨nv, A4, n4, c4, rfl, HV⟩ := hv.form; clear hv; have HR4 := Lib.hid ((HR2.drew.keep hb1).keep hb2); obtain ⟨⟨u1, r1⟩, ⟨u2, u3, u4, r2⟩, r3, r4, r5⟩ := HR4.out))
        go_wp2
        refine bodyPost_ret (v := .agg #[.bool nv, .slice A4 n4 c4]) (by simp [results, Try.results27, go_sem, r1, r2, r5]) rfl ⟨_, rfl, ?_, ?_⟩
        · have := HV.out
          have e : sgnd false (V B9 b - V B9 a) = x + y := HR.out
          rw [HV3.out, e] at this
          exact this.res2 HR4.out _ _
        · exact below_set (below_set (below_step (below_step (below_drew HBW) hb1) hb2) (by omega) _) (by omega) _
end Go.Proofs.Ytiaeeclmlchpoaa

set_option linter.unusedVariables false
set_option linter.unusedSimpArgs false
namespace Go.Proofs.Ytiaeeclmlchpoaa
open Go.RowKit

theorem dg_neg (B : Nat) (z : Int) : dg B (-z) = dg B z := by unfold dg; rw [Int.natAbs_neg]

set_option maxRecDepth 100000 in
set_option maxHeartbeats 1000000 in
theorem Sub_c (x y : Int) (v1 v2 : Value) (w : World) (h1 : IsN w v1 x) (h2 : IsN w v2 y) (sx : (dg B9 x).length ≤ 1000000000000) (sy : (dg B9 y).length ≤ 1000000000000) :
    Calls Try.prog 33 #[v1, v2] w fun e w' => ∃ v, e = .returned v ∧ IsN w' v (x - y) ∧ Below w.heap.size w w' := by
  obtain ⟨na, A1, n1, c1, rfl, H1⟩ := h1.form
  obtain ⟨nb, A2, n2, c2, rfl, H2⟩ := h2.form
  clear h1 h2
  have sy' : (dg B9 (-y)).length ≤ 1000000000000 := by rw [dg_neg]; exact sy
  go_enter Try.func33, Try.ntmps33
  go_wp2_with fail
  generalize hW : ((w.alloc (Obj.cells #[Value.bool na, Value.slice A1 n1 c1] 28)).alloc _).alloc _ = W
  obtain ⟨hS, HR2, HBW⟩ := start2 w _ _ _ _ _ W hW
  clear hW
  have K1 := Lib.hid (H1.out.below HBW)
  have K2 := Lib.hid (H2.out.below HBW)
  go_region_held3 (fun w' => w'.cell? ⟨w.heap.size, 0, none⟩ = some (.bool na) ∧ w'.cell? ⟨w.heap.size, 1, none⟩ = some (.slice A1 n1 c1) ∧ w'.cell? ⟨w.heap.size + 1, 0, none⟩ = some (.bool nb) ∧ w'.cell? ⟨w.heap.size + 1, 1, none⟩ = some (.slice A2 n2 c2) ∧ w.heap.size + 1 + 1 < w'.heap.size)
    (first | exact hS | exact keep2 hb1 hS | exact keep2 hb2 (keep2 hb1 hS) | exact keep2s (keep2s (keep2 hb2 (keep2 hb1 hS))))
    (first
      | (go_at_call 62; (with_reducible refine (Minus_c y _ _ (by exact K2.out.below (by repeat (with_reducible first | assumption | exact Below.refl _ _ | apply below_drew | apply below_drewN | apply below_alloc | refine below_step ?_ (by assumption))))).mono ?_); rintro e w1 ⟨v, rfl, hv, hb1⟩; obtain ⟨nm, Am, nn, cm, rfl, HM⟩ := hv.form; clear hv)
      | (go_at_call 27; (with_reducible refine (Add_c x (-y) _ _ _ (by exact K1.out.below (by repeat (with_reducible first | assumption | exact Below.refl _ _ | apply below_drew | apply below_drewN | apply below_alloc | refine below_step ?_ (by assumption)))) HM.out sx sy').mono ?_); rintro e w2 ⟨v, rfl, hv, hb2⟩; obtain ⟨nv, A4, n4, c4, rfl, HV⟩ := hv.form; clear hv; have HR4 := Lib.hid ((HR2.drew.keep hb1).keep hb2); obtain ⟨⟨u1, r1⟩, ⟨u2, u3, u4, r2⟩, r3, r4, r5⟩ := HR4.out))
  go_wp2
  refine bodyPost_ret (v := .agg #[.bool nv, .slice A4 n4 c4]) (by simp [results, Try.results33, go_sem, r1, r2, r5]) rfl ⟨_, rfl, ?_, ?_⟩
  · rw [Int.sub_eq_add_neg]; exact HV.out.res2 HR4.out _ _
  · exact below_set (below_set (below_step (below_step (below_drew HBW) hb1) hb2) (by omega) _) (by omega) _

/-- The sign. -/
def sgn (x : Int) : Int := if x = 0 then 0 else if x < 0 then -1 else 1
theorem Sign_s (x : Int) (v : Value) (w : World) (h : IsN w v x) :
    Calls Try.prog 25 #[v] w fun e w' => e = .returned (.int .i64 (sgn x)) ∧ Below w.heap.size w w' := Sign_c x v w h

theorem keepC {n : Nat} {W w1 : World} {na nb : Bool} {sa sb : Value} (hb : Below W.heap.size W w1) (h : W.cell? ⟨n, 0, none⟩ = some (.bool na) ∧ W.cell? ⟨n, 1, none⟩ = some sa ∧ W.cell? ⟨n + 1, 0, none⟩ = some (.bool nb) ∧ W.cell? ⟨n + 1, 1, none⟩ = some sb ∧ n + 1 < W.heap.size) : w1.cell? ⟨n, 0, none⟩ = some (.bool na) ∧ w1.cell? ⟨n, 1, none⟩ = some sa ∧ w1.cell? ⟨n + 1, 0, none⟩ = some (.bool nb) ∧ w1.cell? ⟨n + 1, 1, none⟩ = some sb ∧ n + 1 < w1.heap.size := by
  obtain ⟨h1, h2, h3, h4, h9⟩ := h
  have hz := hb.size
  exact ⟨kcell hb (by omega) h1, kcell hb (by omega) h2, kcell hb (by omega) h3, kcell hb (by omega) h4, by omega⟩
theorem startC (w : World) (na nb : Bool) (sa sb : Value) (t : TypeId) (W : World) (hW : (w.alloc (.cells #[.bool na, sa] t)).alloc (.cells #[.bool nb, sb] t) = W) :
    (W.cell? ⟨w.heap.size, 0, none⟩ = some (.bool na) ∧ W.cell? ⟨w.heap.size, 1, none⟩ = some sa ∧ W.cell? ⟨w.heap.size + 1, 0, none⟩ = some (.bool nb) ∧ W.cell? ⟨w.heap.size + 1, 1, none⟩ = some sb ∧ w.heap.size + 1 < W.heap.size) ∧ Below w.heap.size w W := by
  subst hW
  refine ⟨⟨?_, ?_, ?_, ?_, ?_⟩, below_alloc (below_alloc (Below.refl _ _) _) _⟩ <;> simp [go_sem]

theorem icmp_neg (x y : Int) : icmp (-x) (-y) = icmp y x := by
  unfold icmp
  by_cases a : -x < -y
  · rw [if_pos a, if_pos (by omega)]
  · rw [if_neg a, if_neg (show ¬ y < x by omega)]
    by_cases b : x < y
    · rw [if_pos (by omega), if_pos b]
    · rw [if_neg (by omega), if_neg b]
set_option maxRecDepth 100000 in
set_option maxHeartbeats 1000000 in
theorem Cmp_c (x y : Int) (v1 v2 : Value) (w : World) (h1 : IsN w v1 x) (h2 : IsN w v2 y) :
    Calls Try.prog 23 #[v1, v2] w fun e w' => e = .returned (.int .i64 (icmp x y)) ∧ Below w.heap.size w w' := by
  obtain ⟨A1, c1, rfl, hs1⟩ := h1
  obtain ⟨A2, c2, rfl, hs2⟩ := h2
  have H1 : Hid (IsN w (.agg #[.bool (decide (x < 0)), .slice A1 (dg B9 x).length c1]) x) := ⟨A1, c1, rfl, hs1⟩
  have H2 : Hid (IsN w (.agg #[.bool (decide (y < 0)), .slice A2 (dg B9 y).length c2]) y) := ⟨A2, c2, rfl, hs2⟩
  have D1 := Lib.hid (dg_dg B9two x)
  have D2 := Lib.hid (dg_dg B9two y)
  have N1 := Lib.hid (dg_nm B9two x)
  have N2 := Lib.hid (dg_nm B9two y)
  have V1 := Lib.hid (dg_V B9two x)
  have V2 := Lib.hid (dg_V B9two y)
  have L1 := Lib.hid hs1
  have L2 := Lib.hid hs2
  clear hs1 hs2
  generalize dg B9 x = a at *
  generalize dg B9 y = b at *
  obtain ⟨na, hna⟩ : ∃ na, decide (x < 0) = na := ⟨_, rfl⟩
  obtain ⟨nb, hnb⟩ : ∃ nb, decide (y < 0) = nb := ⟨_, rfl⟩
  rw [hna] at H1 ⊢
  rw [hnb] at H2 ⊢
  by_cases hne : sgn x = sgn y
  · have hq : (sgn x != sgn y) = false := by simpa using hne
    by_cases hneg : x < 0
    · have hn : na = true := by rw [← hna]; simpa using hneg
      have hy : y < 0 := by unfold sgn at hne; rw [if_neg (by omega), if_pos hneg] at hne; split at hne <;> (try split at hne) <;> omega
      have HR : Hid (icmp (V B9 b) (V B9 a) = icmp x y) := by
        show _ = _
        rw [V1.out, V2.out, ← icmp_neg, show -((y.natAbs : Nat) : Int) = y by omega, show -((x.natAbs : Nat) : Int) = x by omega]
      subst hn
      clear hne hna hnb hneg hy
      go_enter Try.func23, Try.ntmps23
      go_wp2_with fail
      generalize hW : (w.alloc (Obj.cells #[Value.bool _, Value.slice A1 a.length c1] 28)).alloc _ = W
      obtain ⟨hS, HB⟩ := startC w _ _ _ _ _ W hW
      clear hW
      replace L1 := Lib.hid (L1.out.below HB)
      replace L2 := Lib.hid (L2.out.below HB)
      replace H1 := Lib.hid (H1.out.below HB)
      replace H2 := Lib.hid (H2.out.below HB)
      go_region_held3 (fun w' => w'.cell? ⟨w.heap.size, 0, none⟩ = some (.bool true) ∧ w'.cell? ⟨w.heap.size, 1, none⟩ = some (.slice A1 a.length c1) ∧ w'.cell? ⟨w.heap.size + 1, 0, none⟩ = some (.bool nb) ∧ w'.cell? ⟨w.heap.size + 1, 1, none⟩ = some (.slice A2 b.length c2) ∧ w.heap.size + 1 < w'.heap.size)
        (first | exact hS | exact keepC hba1 hS | exact keepC hbb1 (keepC hba1 hS))
        (first
          | (go_at_call 25; (with_reducible refine (Sign_s x (.agg #[.bool true, .slice A1 a.length c1]) _ (by exact H1.out.below (by repeat (with_reducible first | assumption | exact Below.refl _ _ | apply below_drew | apply below_drewN | apply below_alloc | refine below_step ?_ (by assumption))))).mono ?_); rintro e wa1 ⟨rfl, hba1⟩)
          | (go_at_call 25; (with_reducible refine (Sign_s y (.agg #[.bool nb, .slice A2 b.length c2]) _ (by exact H2.out.below (by repeat (with_reducible first | assumption | exact Below.refl _ _ | apply below_drew | apply below_drewN | apply below_alloc | refine below_step ?_ (by assumption))))).mono ?_); rintro e wb1 ⟨rfl, hbb1⟩))
      replace hS := keepC hbb1 (keepC hba1 hS)
      replace HB := below_step (below_step (below_drew HB) hba1) hbb1
      replace L1 := Lib.hid (L1.out.below (below_step (below_step (below_drew (Below.refl _ _)) hba1) hbb1))
      replace L2 := Lib.hid (L2.out.below (below_step (below_step (below_drew (Below.refl _ _)) hba1) hbb1))
      replace H1 := Lib.hid (H1.out.below (below_step (below_step (below_drew (Below.refl _ _)) hba1) hbb1))
      replace H2 := Lib.hid (H2.out.below (below_step (below_step (below_drew (Below.refl _ _)) hba1) hbb1))
      clear hba1 hbb1
      go_wp2_with (go_at_call 56; (with_reducible refine (size_b A2 A1 c2 c1 b a _ L2.out L1.out D2.out D1.out N2.out N1.out).mono ?_); rintro e w3 ⟨rfl, hb3⟩)
      go_ret
      exact ⟨by rw [← HR.out]; rfl, below_step HB hb3⟩
    · have hn : na = false := by rw [← hna]; simpa using hneg
      have hy : ¬ y < 0 := by unfold sgn at hne; split at hne <;> (try split at hne) <;> (try split at hne) <;> omega
      have HR : Hid (icmp (V B9 a) (V B9 b) = icmp x y) := by
        show _ = _
        rw [V1.out, V2.out, show ((y.natAbs : Nat) : Int) = y by omega, show ((x.natAbs : Nat) : Int) = x by omega]
      subst hn
      clear hne hna hnb hneg hy
      go_enter Try.func23, Try.ntmps23
      go_wp2_with fail
      generalize hW : (w.alloc (Obj.cells #[Value.bool _, Value.slice A1 a.length c1] 28)).alloc _ = W
      obtain ⟨hS, HB⟩ := startC w _ _ _ _ _ W hW
      clear hW
      replace L1 := Lib.hid (L1.out.below HB)
      replace L2 := Lib.hid (L2.out.below HB)
      replace H1 := Lib.hid (H1.out.below HB)
      replace H2 := Lib.hid (H2.out.below HB)
      go_region_held3 (fun w' => w'.cell? ⟨w.heap.size, 0, none⟩ = some (.bool false) ∧ w'.cell? ⟨w.heap.size, 1, none⟩ = some (.slice A1 a.length c1) ∧ w'.cell? ⟨w.heap.size + 1, 0, none⟩ = some (.bool nb) ∧ w'.cell? ⟨w.heap.size + 1, 1, none⟩ = some (.slice A2 b.length c2) ∧ w.heap.size + 1 < w'.heap.size)
        (first | exact hS | exact keepC hba1 hS | exact keepC hbb1 (keepC hba1 hS))
        (first
          | (go_at_call 25; (with_reducible refine (Sign_s x (.agg #[.bool false, .slice A1 a.length c1]) _ (by exact H1.out.below (by repeat (with_reducible first | assumption | exact Below.refl _ _ | apply below_drew | apply below_drewN | apply below_alloc | refine below_step ?_ (by assumption))))).mono ?_); rintro e wa1 ⟨rfl, hba1⟩)
          | (go_at_call 25; (with_reducible refine (Sign_s y (.agg #[.bool nb, .slice A2 b.length c2]) _ (by exact H2.out.below (by repeat (with_reducible first | assumption | exact Below.refl _ _ | apply below_drew | apply below_drewN | apply below_alloc | refine below_step ?_ (by assumption))))).mono ?_); rintro e wb1 ⟨rfl, hbb1⟩))
      replace hS := keepC hbb1 (keepC hba1 hS)
      replace HB := below_step (below_step (below_drew HB) hba1) hbb1
      replace L1 := Lib.hid (L1.out.below (below_step (below_step (below_drew (Below.refl _ _)) hba1) hbb1))
      replace L2 := Lib.hid (L2.out.below (below_step (below_step (below_drew (Below.refl _ _)) hba1) hbb1))
      replace H1 := Lib.hid (H1.out.below (below_step (below_step (below_drew (Below.refl _ _)) hba1) hbb1))
      replace H2 := Lib.hid (H2.out.below (below_step (below_step (below_drew (Below.refl _ _)) hba1) hbb1))
      clear hba1 hbb1
      go_wp2_with (go_at_call 56; (with_reducible refine (size_b A1 A2 c1 c2 a b _ L1.out L2.out D1.out D2.out N1.out N2.out).mono ?_); rintro e w3 ⟨rfl, hb3⟩)
      go_ret
      exact ⟨by rw [← HR.out]; rfl, below_step HB hb3⟩
  · have hq : (sgn x != sgn y) = true := by simpa using hne
    by_cases hlt : sgn x < sgn y
    · have HR : Hid (icmp x y = -1) := by
        show _ = _; unfold icmp; rw [if_pos]; unfold sgn at hlt; split at hlt <;> split at hlt <;> (try split at hlt) <;> (try split at hlt) <;> omega
      clear hne hna hnb
      go_enter Try.func23, Try.ntmps23
      go_wp2_with fail
      generalize hW : (w.alloc (Obj.cells #[Value.bool _, Value.slice A1 a.length c1] 28)).alloc _ = W
      obtain ⟨hS, HB⟩ := startC w _ _ _ _ _ W hW
      clear hW
      replace L1 := Lib.hid (L1.out.below HB)
      replace L2 := Lib.hid (L2.out.below HB)
      replace H1 := Lib.hid (H1.out.below HB)
      replace H2 := Lib.hid (H2.out.below HB)
      go_region_held3 (fun w' => w'.cell? ⟨w.heap.size, 0, none⟩ = some (.bool na) ∧ w'.cell? ⟨w.heap.size, 1, none⟩ = some (.slice A1 a.length c1) ∧ w'.cell? ⟨w.heap.size + 1, 0, none⟩ = some (.bool nb) ∧ w'.cell? ⟨w.heap.size + 1, 1, none⟩ = some (.slice A2 b.length c2) ∧ w.heap.size + 1 < w'.heap.size)
        (first | exact hS | exact keepC hba1 hS | exact keepC hbb1 (keepC hba1 hS))
        (first
          | (go_at_call 25; (with_reducible refine (Sign_s x (.agg #[.bool na, .slice A1 a.length c1]) _ (by exact H1.out.below (by repeat (with_reducible first | assumption | exact Below.refl _ _ | apply below_drew | apply below_drewN | apply below_alloc | refine below_step ?_ (by assumption))))).mono ?_); rintro e wa1 ⟨rfl, hba1⟩)
          | (go_at_call 25; (with_reducible refine (Sign_s y (.agg #[.bool nb, .slice A2 b.length c2]) _ (by exact H2.out.below (by repeat (with_reducible first | assumption | exact Below.refl _ _ | apply below_drew | apply below_drewN | apply below_alloc | refine below_step ?_ (by assumption))))).mono ?_); rintro e wb1 ⟨rfl, hbb1⟩))
      replace hS := keepC hbb1 (keepC hba1 hS)
      replace HB := below_step (below_step (below_drew HB) hba1) hbb1
      replace L1 := Lib.hid (L1.out.below (below_step (below_step (below_drew (Below.refl _ _)) hba1) hbb1))
      replace L2 := Lib.hid (L2.out.below (below_step (below_step (below_drew (Below.refl _ _)) hba1) hbb1))
      replace H1 := Lib.hid (H1.out.below (below_step (below_step (below_drew (Below.refl _ _)) hba1) hbb1))
      replace H2 := Lib.hid (H2.out.below (below_step (below_step (below_drew (Below.refl _ _)) hba1) hbb1))
      clear hba1 hbb1
      go_wp2
      go_region_held3 (fun w' => w'.cell? ⟨w.heap.size, 0, none⟩ = some (.bool na) ∧ w'.cell? ⟨w.heap.size, 1, none⟩ = some (.slice A1 a.length c1) ∧ w'.cell? ⟨w.heap.size + 1, 0, none⟩ = some (.bool nb) ∧ w'.cell? ⟨w.heap.size + 1, 1, none⟩ = some (.slice A2 b.length c2) ∧ w.heap.size + 1 < w'.heap.size)
        (first | exact hS | exact keepC hba2 hS | exact keepC hbb2 (keepC hba2 hS))
        (first
          | (go_at_call 25; (with_reducible refine (Sign_s x (.agg #[.bool na, .slice A1 a.length c1]) _ (by exact H1.out.below (by repeat (with_reducible first | assumption | exact Below.refl _ _ | apply below_drew | apply below_drewN | apply below_alloc | refine below_step ?_ (by assumption))))).mono ?_); rintro e wa2 ⟨rfl, hba2⟩)
          | (go_at_call 25; (with_reducible refine (Sign_s y (.agg #[.bool nb, .slice A2 b.length c2]) _ (by exact H2.out.below (by repeat (with_reducible first | assumption | exact Below.refl _ _ | apply below_drew | apply below_drewN | apply below_alloc | refine below_step ?_ (by assumption))))).mono ?_); rintro e wb2 ⟨rfl, hbb2⟩))
      replace hS := keepC hbb2 (keepC hba2 hS)
      replace HB := below_step (below_step (below_drew HB) hba2) hbb2
      replace L1 := Lib.hid (L1.out.below (below_step (below_step (below_drew (Below.refl _ _)) hba2) hbb2))
      replace L2 := Lib.hid (L2.out.below (below_step (below_step (below_drew (Below.refl _ _)) hba2) hbb2))
      replace H1 := Lib.hid (H1.out.below (below_step (below_step (below_drew (Below.refl _ _)) hba2) hbb2))
      replace H2 := Lib.hid (H2.out.below (below_step (below_step (below_drew (Below.refl _ _)) hba2) hbb2))
      clear hba2 hbb2
      go_wp2
      go_ret
      exact ⟨by rw [HR.out]; rfl, HB⟩
    · have HR : Hid (icmp x y = 1) := by
        show _ = _; unfold icmp; rw [if_neg, if_pos] <;> (unfold sgn at hlt hne; split at hlt <;> split at hlt <;> (try split at hlt) <;> (try split at hlt) <;> omega)
      clear hne hna hnb
      go_enter Try.func23, Try.ntmps23
      go_wp2_with fail
      generalize hW : (w.alloc (Obj.cells #[Value.bool _, Value.slice A1 a.length c1] 28)).alloc _ = W
      obtain ⟨hS, HB⟩ := startC w _ _ _ _ _ W hW
      clear hW
      replace L1 := Lib.hid (L1.out.below HB)
      replace L2 := Lib.hid (L2.out.below HB)
      replace H1 := Lib.hid (H1.out.below HB)
      replace H2 := Lib.hid (H2.out.below HB)
      go_region_held3 (fun w' => w'.cell? ⟨w.heap.size, 0, none⟩ = some (.bool na) ∧ w'.cell? ⟨w.heap.size, 1, none⟩ = some (.slice A1 a.length c1) ∧ w'.cell? ⟨w.heap.size + 1, 0, none⟩ = some (.bool nb) ∧ w'.cell? ⟨w.heap.size + 1, 1, none⟩ = some (.slice A2 b.length c2) ∧ w.heap.size + 1 < w'.heap.size)
        (first | exact hS | exact keepC hba1 hS | exact keepC hbb1 (keepC hba1 hS))
        (first
          | (go_at_call 25; (with_reducible refine (Sign_s x (.agg #[.bool na, .slice A1 a.length c1]) _ (by exact H1.out.below (by repeat (with_reducible first | assumption | exact Below.refl _ _ | apply below_drew | apply below_drewN | apply below_alloc | refine below_step ?_ (by assumption))))).mono ?_); rintro e wa1 ⟨rfl, hba1⟩)
          | (go_at_call 25; (with_reducible refine (Sign_s y (.agg #[.bool nb, .slice A2 b.length c2]) _ (by exact H2.out.below (by repeat (with_reducible first | assumption | exact Below.refl _ _ | apply below_drew | apply below_drewN | apply below_alloc | refine below_step ?_ (by assumption))))).mono ?_); rintro e wb1 ⟨rfl, hbb1⟩))
      replace hS := keepC hbb1 (keepC hba1 hS)
      replace HB := below_step (below_step (below_drew HB) hba1) hbb1
      replace L1 := Lib.hid (L1.out.below (below_step (below_step (below_drew (Below.refl _ _)) hba1) hbb1))
      replace L2 := Lib.hid (L2.out.below (below_step (below_step (below_drew (Below.refl _ _)) hba1) hbb1))
      replace H1 := Lib.hid (H1.out.below (below_step (below_step (below_drew (Below.refl _ _)) hba1) hbb1))
      replace H2 := Lib.hid (H2.out.below (below_step (below_step (below_drew (Below.refl _ _)) hba1) hbb1))
      clear hba1 hbb1
      go_wp2
      go_region_held3 (fun w' => w'.cell? ⟨w.heap.size, 0, none⟩ = some (.bool na) ∧ w'.cell? ⟨w.heap.size, 1, none⟩ = some (.slice A1 a.length c1) ∧ w'.cell? ⟨w.heap.size + 1, 0, none⟩ = some (.bool nb) ∧ w'.cell? ⟨w.heap.size + 1, 1, none⟩ = some (.slice A2 b.length c2) ∧ w.heap.size + 1 < w'.heap.size)
        (first | exact hS | exact keepC hba2 hS | exact keepC hbb2 (keepC hba2 hS))
        (first
          | (go_at_call 25; (with_reducible refine (Sign_s x (.agg #[.bool na, .slice A1 a.length c1]) _ (by exact H1.out.below (by repeat (with_reducible first | assumption | exact Below.refl _ _ | apply below_drew | apply below_drewN | apply below_alloc | refine below_step ?_ (by assumption))))).mono ?_); rintro e wa2 ⟨rfl, hba2⟩)
          | (go_at_call 25; (with_reducible refine (Sign_s y (.agg #[.bool nb, .slice A2 b.length c2]) _ (by exact H2.out.below (by repeat (with_reducible first | assumption | exact Below.refl _ _ | apply below_drew | apply below_drewN | apply below_alloc | refine below_step ?_ (by assumption))))).mono ?_); rintro e wb2 ⟨rfl, hbb2⟩))
      replace hS := keepC hbb2 (keepC hba2 hS)
      replace HB := below_step (below_step (below_drew HB) hba2) hbb2
      replace L1 := Lib.hid (L1.out.below (below_step (below_step (below_drew (Below.refl _ _)) hba2) hbb2))
      replace L2 := Lib.hid (L2.out.below (below_step (below_step (below_drew (Below.refl _ _)) hba2) hbb2))
      replace H1 := Lib.hid (H1.out.below (below_step (below_step (below_drew (Below.refl _ _)) hba2) hbb2))
      replace H2 := Lib.hid (H2.out.below (below_step (below_step (below_drew (Below.refl _ _)) hba2) hbb2))
      clear hba2 hbb2
      go_wp2
      go_ret
      exact ⟨by rw [HR.out]; rfl, HB⟩
end Go.Proofs.Ytiaeeclmlchpoaa

set_option linter.unusedVariables false
set_option linter.unusedSimpArgs false
namespace Go.Proofs.Ytiaeeclmlchpoaa
open Go.RowKit

set_option maxRecDepth 100000 in
set_option maxHeartbeats 1000000 in
theorem Of_c (i : Int) (w : World) (h0 : -9223372036854775807 ≤ i) (h1 : i ≤ 9223372036854775807) :
    Calls Try.prog 28 #[.int .i64 i] w fun e w' => ∃ v, e = .returned v ∧ IsN w' v i ∧ Below w.heap.size w w' := by
  have HL : Hid ((digs B9 i.natAbs).length ≤ 8) := digs_len_le B9two (by rw [show (B9 ^ 8 : Nat) = 1000000000000000000000000000000000000000000000000000000000000000000000000 from rfl]; omega)
  by_cases hi : i < 0
  · have HD : Hid (decide (i < 0) = true) := by show _ = _; simpa using hi
    obtain ⟨n, hn⟩ : ∃ n : Nat, i = -(n : Int) := ⟨i.natAbs, by omega⟩
    subst hn
    have e1 : (-(n : Int)).natAbs = n := by omega
    have hn1 : (n : Int) ≤ 9223372036854775807 := by omega
    have HE := Lib.hid e1
    have hn1b : decide (0 < (n : Int)) = true := by simp; omega
    have hn2b : decide (0 < n) = true := by simp; omega
    have hn0 : 0 < (n : Int) := by omega
    have HH0 : Hid (dg B9 (-(n : Int)) = digs B9 n) := by show _ = _; unfold dg; rw [e1]
    rw [e1] at HL
    clear e1 h0 h1
    go_enter Try.func28, Try.ntmps28
    go_wp2
    generalize hW : w.alloc (Obj.cells #[Value.bool false, Value.slice none 0 0] 28) = W
    have HB0 : Below w.heap.size w W := by subst hW; exact below_alloc (Below.refl _ _) _
    have HR2 : Res2 W w.heap.size := by subst hW; refine ⟨⟨false, ?_⟩, ⟨none, 0, 0, ?_⟩, ?_, ?_, ?_⟩ <;> simp [go_sem]
    have hbase : w.heap.size + 1 ≤ W.heap.size := by subst hW; simp
    clear hW
    go_loopw [0, 4] (fun r out wr => ∃ (m : Nat) (l : List Int), r = .int .i64 m ∧ m ≤ n ∧ OwI wr (w.heap.size + 1) 3 .i64 out l ∧ Below (w.heap.size + 1) W wr ∧ Hid (digs B9 n = l ++ digs B9 m)) (fun r _ _ => (intOf r).toNat)
    case atStart => exact ⟨n, [], by simp, Nat.le_refl _, OwI.nil _ _ _ _, Below.refl _ _, rfl⟩
    case round =>
      obtain ⟨m, l, rfl, hm, HO, HB, HI⟩ := hrel
      have hB : w.heap.size + 1 ≤ wr.heap.size := Nat.le_trans hbase HB.size
      rcases Nat.eq_zero_or_pos m with rfl | hm0
      · have HE2 : Hid (l = digs B9 n) := by have := HI.out; rw [digs_zero, List.append_nil] at this; exact this.symm
        obtain ⟨A1, c1, rfl, hs⟩ := HO.form
        have HR4 : Hid (Res2 wr w.heap.size) := by
          obtain ⟨⟨u1, r1⟩, ⟨u2, u3, u4, r2⟩, r3, r4, r5⟩ := HR2
          exact ⟨⟨u1, (HB.cell (p := ⟨_, 0, none⟩) (Nat.lt_succ_self _)).trans r1⟩, ⟨u2, u3, u4, (HB.cell (p := ⟨_, 1, none⟩) (Nat.lt_succ_self _)).trans r2⟩, (HB.frozen (p := ⟨_, 0, none⟩) (Nat.lt_succ_self _)).trans r3, (HB.frozen (p := ⟨_, 1, none⟩) (Nat.lt_succ_self _)).trans r4, by omega⟩
        obtain ⟨⟨u1, r1⟩, ⟨u2, u3, u4, r2⟩, r3, r4, r5⟩ := HR4.out
        go_wp2
        refine bodyPost_ret (v := .agg #[.bool true, .slice A1 l.length c1]) (by simp [results, Try.results28, go_sem, r1, r2, r5]) rfl ⟨_, rfl, ⟨A1, c1, ?_, ?_⟩, ?_⟩
        · rw [HD.out, HH0.out, ← HE2.out]
        · rw [HH0.out, ← HE2.out]; exact hs.res2 HR4.out _ _
        · exact below_set (below_set (HB0.trans (HB.mono (by omega))) (Nat.le_refl _) _) (Nat.le_refl _) _
      · have HS : Hid (digs B9 n = (l ++ [(m : Int) % 1000000000]) ++ digs B9 (m / 1000000000)) := by
          show _ = _
          rw [HI.out, digs_pos B9two hm0, List.append_assoc]; rfl
        have HL2 : Hid ((l.length + 1) * 8 ≤ 140737488355328) := by
          have := HL.out
          rw [HI.out, List.length_append] at this
          show _ ≤ _; omega
        go_wp2_with (at_builtin; refine app_I (w.heap.size + 1) rfl _ _ 26 3 .i64 8 rfl Try.underlying26 info_i64 (by decide) _ l _ HO rfl rfl HB hB HL2.out ?_; intro v1 w1 HO1 HB1 hB1)
        go_roundw
        case rel => first | exact ⟨m / 1000000000, _, by simp, by omega, HO1, HB1, HS⟩ | ((repeat apply Exists.intro); exact ⟨⟨m / 1000000000, _, by simp, by omega, HO1, HB1, HS⟩, rfl⟩)
        case measure => simp [intOf]; omega
  
  · have HD : Hid (decide (i < 0) = false) := by show _ = _; simpa using hi
    obtain ⟨n, hn⟩ : ∃ n : Nat, i = (n : Int) := ⟨i.natAbs, by omega⟩
    subst hn
    have e1 : ((n : Int)).natAbs = n := by omega
    have hn1 : (n : Int) ≤ 9223372036854775807 := by omega
    have HE := Lib.hid e1
    
    
    
    have HH0 : Hid (dg B9 ((n : Int)) = digs B9 n) := by show _ = _; unfold dg; rw [e1]
    rw [e1] at HL
    clear e1 h0 h1
    go_enter Try.func28, Try.ntmps28
    go_wp2
    generalize hW : w.alloc (Obj.cells #[Value.bool false, Value.slice none 0 0] 28) = W
    have HB0 : Below w.heap.size w W := by subst hW; exact below_alloc (Below.refl _ _) _
    have HR2 : Res2 W w.heap.size := by subst hW; refine ⟨⟨false, ?_⟩, ⟨none, 0, 0, ?_⟩, ?_, ?_, ?_⟩ <;> simp [go_sem]
    have hbase : w.heap.size + 1 ≤ W.heap.size := by subst hW; simp
    clear hW
    go_loopw [0, 4] (fun r out wr => ∃ (m : Nat) (l : List Int), r = .int .i64 m ∧ m ≤ n ∧ OwI wr (w.heap.size + 1) 3 .i64 out l ∧ Below (w.heap.size + 1) W wr ∧ Hid (digs B9 n = l ++ digs B9 m)) (fun r _ _ => (intOf r).toNat)
    case atStart => exact ⟨n, [], rfl, Nat.le_refl _, OwI.nil _ _ _ _, Below.refl _ _, rfl⟩
    case round =>
      obtain ⟨m, l, rfl, hm, HO, HB, HI⟩ := hrel
      have hB : w.heap.size + 1 ≤ wr.heap.size := Nat.le_trans hbase HB.size
      rcases Nat.eq_zero_or_pos m with rfl | hm0
      · have HE2 : Hid (l = digs B9 n) := by have := HI.out; rw [digs_zero, List.append_nil] at this; exact this.symm
        obtain ⟨A1, c1, rfl, hs⟩ := HO.form
        have HR4 : Hid (Res2 wr w.heap.size) := by
          obtain ⟨⟨u1, r1⟩, ⟨u2, u3, u4, r2⟩, r3, r4, r5⟩ := HR2
          exact ⟨⟨u1, (HB.cell (p := ⟨_, 0, none⟩) (Nat.lt_succ_self _)).trans r1⟩, ⟨u2, u3, u4, (HB.cell (p := ⟨_, 1, none⟩) (Nat.lt_succ_self _)).trans r2⟩, (HB.frozen (p := ⟨_, 0, none⟩) (Nat.lt_succ_self _)).trans r3, (HB.frozen (p := ⟨_, 1, none⟩) (Nat.lt_succ_self _)).trans r4, by omega⟩
        obtain ⟨⟨u1, r1⟩, ⟨u2, u3, u4, r2⟩, r3, r4, r5⟩ := HR4.out
        go_wp2
        refine bodyPost_ret (v := .agg #[.bool false, .slice A1 l.length c1]) (by simp [results, Try.results28, go_sem, r1, r2, r5]) rfl ⟨_, rfl, ⟨A1, c1, ?_, ?_⟩, ?_⟩
        · rw [HD.out, HH0.out, ← HE2.out]
        · rw [HH0.out, ← HE2.out]; exact hs.res2 HR4.out _ _
        · exact below_set (below_set (HB0.trans (HB.mono (by omega))) (Nat.le_refl _) _) (Nat.le_refl _) _
      · have HS : Hid (digs B9 n = (l ++ [(m : Int) % 1000000000]) ++ digs B9 (m / 1000000000)) := by
          show _ = _
          rw [HI.out, digs_pos B9two hm0, List.append_assoc]; rfl
        have HL2 : Hid ((l.length + 1) * 8 ≤ 140737488355328) := by
          have := HL.out
          rw [HI.out, List.length_append] at this
          show _ ≤ _; omega
        go_wp2_with (at_builtin; refine app_I (w.heap.size + 1) rfl _ _ 26 3 .i64 8 rfl Try.underlying26 info_i64 (by decide) _ l _ HO rfl rfl HB hB HL2.out ?_; intro v1 w1 HO1 HB1 hB1)
        go_roundw
        case rel => first | exact ⟨m / 1000000000, _, by simp, by omega, HO1, HB1, HS⟩ | ((repeat apply Exists.intro); exact ⟨⟨m / 1000000000, _, by simp, by omega, HO1, HB1, HS⟩, rfl⟩)
        case measure => simp [intOf]; omega

/-- How many decimal digits a number has. -/
def dl (z : Int) : Nat := if z = 0 then 1 else (digs 10 z.natAbs).length
theorem digs_len_eq {B : Nat} (hB : 2 ≤ B) {n k : Nat} (h1 : B ^ k ≤ n) (h2 : n < B ^ (k + 1)) : (digs B n).length = k + 1 := by
  have a := digs_len_le hB h2
  have b := digs_len_lt hB n
  have c : k < (digs B n).length := (Nat.pow_lt_pow_iff_right (by omega)).1 (Nat.lt_of_le_of_lt h1 b)
  omega
theorem digs_len_ge {B : Nat} (hB : 2 ≤ B) {n : Nat} (hn : 0 < n) : B ^ ((digs B n).length - 1) ≤ n := by
  have hne : digs B n ≠ [] := fun e => by have := digs_nil hB e; omega
  have h1 := V_pos (by omega) (digs_dg hB n) (digs_nm hB n) hne
  rw [digs_V hB] at h1
  have : ((B ^ ((digs B n).length - 1) : Nat) : Int) ≤ (n : Int) := by rw [Int.natCast_pow]; exact h1
  omega
/-- The decimal digits of a number, counted by its parts of nine. -/
theorem dl_parts {n : Nat} (hn : 0 < n) : ∃ t : Nat, gd (digs B9 n) ((digs B9 n).length - 1) = t ∧ 0 < t ∧ t < 1000000000 ∧ (digs 10 n).length = 9 * ((digs B9 n).length - 1) + (digs 10 t).length := by
  have hne : digs B9 n ≠ [] := fun e => by have := digs_nil B9two e; omega
  obtain ⟨m, d, hmd⟩ : ∃ m d, digs B9 n = m ++ [d] := ⟨(digs B9 n).dropLast, (digs B9 n).getLast hne, (List.dropLast_concat_getLast hne).symm⟩
  have hd := digs_dg B9two n
  have hnm := digs_nm B9two n
  have hv := digs_V B9two n
  rw [hmd] at hd hnm hv ⊢
  have h1 : 0 ≤ d ∧ d < (B9 : Int) := hd d (by simp)
  rw [B9c] at h1
  have h2 : d ≠ 0 := by intro e; subst e; simp [Nm] at hnm
  obtain ⟨t, rfl⟩ : ∃ t : Nat, d = t := ⟨d.toNat, by omega⟩
  refine ⟨t, by simp [gd], by omega, by omega, ?_⟩
  rw [V_snoc] at hv
  have h3 := V_nonneg hd.left
  have h4 := V_lt hd.left
  have ht := digs_len_ge (B := 10) (by omega) (show 0 < t by omega)
  have ht2 := digs_len_lt (B := 10) (by omega) t
  have e1 : (B9 : Nat) ^ m.length = 10 ^ (9 * m.length) := by rw [Nat.pow_mul]; rfl
  have hlen : (m ++ [(t : Int)]).length - 1 = m.length := by simp
  rw [hlen]
  obtain ⟨k, hk⟩ : ∃ k, (digs 10 t).length = k + 1 := ⟨(digs 10 t).length - 1, by
    have : digs 10 t ≠ [] := fun e => by have := digs_nil (B := 10) (by omega) e; omega
    have := List.length_pos_iff.2 this
    omega⟩
  rw [hk] at ht ht2 ⊢
  obtain ⟨q, hq⟩ : ∃ q : Nat, V B9 m = q := ⟨(V B9 m).toNat, by omega⟩
  rw [hq] at hv h4
  rw [← Int.natCast_pow] at hv h4
  have hv' : q + B9 ^ m.length * t = n := by
    have : ((q + B9 ^ m.length * t : Nat) : Int) = n := by rw [Int.natCast_add, Int.natCast_mul]; exact hv
    omega
  have h4' : q < B9 ^ m.length := by omega
  rw [e1] at hv' h4'
  refine (digs_len_eq (B := 10) (k := 9 * m.length + k) (by omega) ?_ ?_).trans (by omega)
  · rw [Nat.pow_add, ← hv']
    have := Nat.mul_le_mul_left (10 ^ (9 * m.length)) ht
    simp only [Nat.add_sub_cancel] at this
    omega
  · rw [← hv', show 9 * m.length + k + 1 = 9 * m.length + (k + 1) by omega, Nat.pow_add 10 (9 * m.length) (k + 1)]
    have := Nat.mul_le_mul_left (10 ^ (9 * m.length)) (show t + 1 ≤ 10 ^ (k + 1) by omega)
    rw [Nat.mul_add] at this
    omega
end Go.Proofs.Ytiaeeclmlchpoaa

set_option linter.unusedVariables false
set_option linter.unusedSimpArgs false
namespace Go.Proofs.Ytiaeeclmlchpoaa
open Go.RowKit

theorem digs10_step {m : Nat} (h : 0 < m) : (digs 10 m).length = (digs 10 (m / 10)).length + 1 := by
  rw [digs_pos (by omega) h]; simp
set_option maxRecDepth 100000 in
set_option maxHeartbeats 1000000 in
theorem Digits_c (z : Int) (v : Value) (w : World) (h : IsN w v z) (sz : (dg B9 z).length ≤ 1000000000000) :
    Calls Try.prog 34 #[v] w fun e w' => e = .returned (.int .i64 (dl z)) ∧ Below w.heap.size w w' := by
  obtain ⟨A, c, rfl, hs⟩ := h
  have hB : Below w.heap.size w w := Below.refl _ _
  have hc1 := hs.2.1
  have hc2 := hs.2.2
  by_cases hz : z = 0
  · have e1 : dl z = 1 := by unfold dl; rw [if_pos hz]
    have e2 : dg B9 z = [] := by rw [hz]; exact digs_zero _
    rw [e1]
    rw [e2] at hs hc1 ⊢
    clear e1 e2 hz sz
    generalize decide (z < 0) = na
    go_enter Try.func34, Try.ntmps34
    go_wp2
    go_ret
    exact ⟨rfl, below_alloc hB _⟩
  · obtain ⟨t, ht1, ht2, ht3, ht4⟩ := dl_parts (n := z.natAbs) (by omega)
    have HD : Hid (dl z = 9 * ((dg B9 z).length - 1) + (digs 10 t).length) := by show _ = _; unfold dl; rw [if_neg hz]; exact ht4
    have hne : 0 < (dg B9 z).length := by
      rcases Nat.eq_zero_or_pos (dg B9 z).length with h0 | h0
      · have := digs_nil B9two (List.eq_nil_of_length_eq_zero h0); omega
      · exact h0
    change gd (dg B9 z) ((dg B9 z).length - 1) = t at ht1
    have hT : (digs 10 t).length ≤ 9 := digs_len_le (by omega) (by omega)
    have HT := Lib.hid hT
    obtain ⟨b, off, rfl, hl, hcell⟩ := hs.cell (j := (dg B9 z).length - 1) (by omega)
    rw [ht1] at hcell
    clear ht1 ht4 hz hT
    generalize dg B9 z = l at *
    generalize decide (z < 0) = na
    go_enter Try.func34, Try.ntmps34
    go_wp2
    go_loop [3, 4] (fun d p => ∃ (m k : Nat), p = .int .i64 m ∧ d = .int .i64 k ∧ m ≤ t ∧ k ≤ 9000000000100 ∧ Hid (k + (digs 10 m).length = 9 * (l.length - 1) + (digs 10 t).length)) (fun _ p => (intOf p).toNat)
    case atStart => exact ⟨t, 9 * (l.length - 1), rfl, by go_num, Nat.le_refl _, by omega, rfl⟩
    case round =>
      obtain ⟨m, k, rfl, rfl, hm, hk, HI⟩ := hrel
      rcases Nat.eq_zero_or_pos m with rfl | hm0
      · have HE : Hid (dl z = k) := by have := HI.out; rw [digs_zero] at this; show _ = _; rw [HD.out, ← this]; rfl
        go_wp2
        go_ret
        exact ⟨by rw [HE.out]; rfl, below_alloc hB _⟩
      · have HS : Hid (k + 1 + (digs 10 (m / 10)).length = 9 * (l.length - 1) + (digs 10 t).length) := by
          have := HI.out; rw [digs10_step hm0] at this; show _ = _; omega
        have hk2 : k ≤ 9000000000009 := by have := HI.out; rw [digs10_step hm0] at this; have := HT.out; omega
        clear HI
        go_wp2
        go_round
        case rel => exact ⟨m / 10, k + 1, by simp, by go_num, by omega, by omega, HS⟩
        case measure => simp [intOf]; omega

theorem Fits_c (z : Int) (v : Value) (w : World) (h : IsN w v z) (sz : (dg B9 z).length ≤ 1000000000000) :
    Calls Try.prog 61 #[v] w fun e w' => e = .returned (.bool (decide (dl z ≤ 2000))) ∧ Below w.heap.size w w' := by
  obtain ⟨na, A, n, c, rfl, H⟩ := h.form
  clear h
  have hd : decide ((dl z : Int) ≤ 2000) = decide (dl z ≤ 2000) := by rw [decide_eq_decide]; omega
  have HD := Lib.hid hd
  clear hd
  go_enter Try.func61, Try.ntmps61
  go_wp2_with (go_at_call 34; (with_reducible refine (Digits_c z _ _ (by exact H.out.below (by repeat (with_reducible first | assumption | exact Below.refl _ _ | apply below_drew | apply below_drewN | apply below_alloc | refine below_step ?_ (by assumption)))) sz).mono ?_); rintro e w1 ⟨rfl, hb1⟩)
  go_ret
  exact ⟨by rw [← HD.out]; rfl, below_step (below_alloc (Below.refl _ _) _) hb1⟩
end Go.Proofs.Ytiaeeclmlchpoaa

set_option linter.unusedVariables false
set_option linter.unusedSimpArgs false
namespace Go.Proofs.Ytiaeeclmlchpoaa
open Go.RowKit

/-- The rows of the product so far: i whole rows. -/
def MulO (a b l : List Int) (i : Nat) : Prop :=
  l.length = a.length + b.length + 1 ∧ Dg B9 l ∧ V B9 l = V B9 (a.take i) * V B9 b ∧ i ≤ a.length
/-- k places of the row i. -/
def MulI (a b l : List Int) (i k : Nat) (cy : Int) : Prop :=
  l.length = a.length + b.length + 1 ∧ Dg B9 l ∧ 0 ≤ cy ∧ cy < 1000000000 ∧ V B9 l + (B9 : Int) ^ (i + k) * cy = V B9 (a.take i) * V B9 b + (B9 : Int) ^ i * gd a i * V B9 (b.take k) ∧ i < a.length ∧ k ≤ b.length + 1
theorem gdg {B : Nat} {l : List Int} (h : Dg B l) (hB : 0 < B) (i : Nat) : 0 ≤ gd l i ∧ gd l i < (B : Int) := h.getD hB i
theorem gd9 {l : List Int} (h : Dg B9 l) (i : Nat) : 0 ≤ gd l i ∧ gd l i < 1000000000 := gdg h (by decide) i
theorem Vtake {B : Nat} (l : List Int) (i : Nat) : V B (l.take (i + 1)) = V B (l.take i) + (B : Int) ^ i * gd l i := V_getD B l i
theorem Vset {B : Nat} (l : List Int) (i : Nat) (d : Int) (h : i < l.length) : V B (l.set i d) = V B l + (B : Int) ^ i * (d - gd l i) := V_set B l i d h
theorem MulI.first {a b l : List Int} {i : Nat} (h : MulO a b l i) (hi : i < a.length) : MulI a b l i 0 0 := by
  obtain ⟨h1, h2, h3, h4⟩ := h
  exact ⟨h1, h2, by omega, by omega, by simp [h3, V], hi, by omega⟩
theorem MulI.place {a b l : List Int} {i k : Nat} {cy : Int} (ha : Dg B9 a) (hb : Dg B9 b) (h : MulI a b l i k cy) (hk : k < b.length ∨ 0 < cy) : k ≤ b.length := by
  obtain ⟨h1, h2, h3, h4, h5, h6, h7⟩ := h
  rcases hk with hk | hk
  · omega
  · by_cases hkl : k ≤ b.length
    · exact hkl
    · have e : k = b.length + 1 := by omega
      subst e
      rw [List.take_of_length_le (l := b) (by omega), ← Int.add_mul, ← Vtake] at h5
      have l0 := V_nonneg h2
      have lb := V_lt hb
      have la := V_lt (ha.take (i + 1))
      rw [List.length_take, Nat.min_eq_left (by omega)] at la
      have a0 := V_nonneg (ha.take (i + 1))
      have b0 := V_nonneg hb
      have p1 : V B9 (a.take (i + 1)) * V B9 b ≤ (B9 : Int) ^ (i + 1) * (B9 : Int) ^ b.length := Int.mul_le_mul (by omega) (by omega) b0 (Int.pow_nonneg (by rw [B9c]; omega))
      rw [← Int.pow_add] at p1
      have p2 : (B9 : Int) ^ (i + (b.length + 1)) * 1 ≤ (B9 : Int) ^ (i + (b.length + 1)) * cy := Int.mul_le_mul_of_nonneg_left (by omega) (Int.pow_nonneg (by rw [B9c]; omega))
      rw [show i + 1 + b.length = i + (b.length + 1) by omega] at p1
      have p3 : (0 : Int) < (B9 : Int) ^ (i + (b.length + 1)) := Int.pow_pos (by rw [B9c]; omega)
      rcases Nat.eq_zero_or_pos b.length with hb0 | hb0
      · have : b = [] := List.eq_nil_of_length_eq_zero hb0
        subst this
        simp only [V, Int.mul_zero] at h5
        omega
      · have p4 : V B9 (a.take (i + 1)) * V B9 b < (B9 : Int) ^ (i + 1) * (B9 : Int) ^ b.length := by
          rcases Int.lt_or_eq_of_le a0 with hp | hp
          · calc V B9 (a.take (i + 1)) * V B9 b ≤ V B9 (a.take (i + 1)) * (B9 : Int) ^ b.length := Int.mul_le_mul_of_nonneg_left (by omega) a0
              _ < (B9 : Int) ^ (i + 1) * (B9 : Int) ^ b.length := Int.mul_lt_mul_of_pos_right la (Int.pow_pos (by rw [B9c]; omega))
          · rw [← hp, Int.zero_mul]; exact Int.mul_pos (Int.pow_pos (by rw [B9c]; omega)) (Int.pow_pos (by rw [B9c]; omega))
        rw [← Int.pow_add, show i + 1 + b.length = i + (b.length + 1) by omega] at p4
        omega
theorem mul_ring {v p cy o x m q t bk ai : Int} {B : Int} (h : v + p * cy = t) (e : m + B * q = o + ai * bk + cy) : v + p * (m - o) + p * B * q = t + p * ai * bk := by grind
theorem mul_ring2 {u p r ai vb q bk : Int} : u + p * ai * (vb + r * bk) = u + p * ai * vb + p * r * ai * bk := by grind
theorem MulI.step {a b l : List Int} {i k : Nat} {cy : Int} (ha : Dg B9 a) (hb : Dg B9 b) (h : MulI a b l i k cy) (hk : k ≤ b.length) :
    MulI a b (l.set (i + k) ((gd l (i + k) + gd a i * gd b k + cy) % 1000000000)) i (k + 1) ((gd l (i + k) + gd a i * gd b k + cy) / 1000000000) := by
  obtain ⟨h1, h2, h3, h4, h5, h6, h7⟩ := h
  have a1 := gd9 ha i
  have b1 := gd9 hb k
  have o1 := gd9 h2 (i + k)
  have p1 : 0 ≤ gd a i * gd b k := Int.mul_nonneg a1.1 b1.1
  have p2 : gd a i * gd b k ≤ 999999999 * 999999999 := Int.mul_le_mul (by omega) (by omega) b1.1 (by omega)
  refine ⟨by simp [h1], h2.set _ (by omega) (by rw [B9c]; omega), by omega, by omega, ?_, h6, by omega⟩
  rw [Vset _ _ _ (by omega), Vtake, ← Nat.add_assoc, Int.pow_succ, mul_ring2 (q := 0), ← Int.pow_add, B9c]
  rw [B9c] at h5
  exact mul_ring (x := 0) h5 (by omega)
theorem MulI.last {a b l : List Int} {i k : Nat} (h : MulI a b l i k 0) (hk : b.length ≤ k) : MulO a b l (i + 1) := by
  obtain ⟨h1, h2, h3, h4, h5, h6, h7⟩ := h
  refine ⟨h1, h2, ?_, by omega⟩
  rw [List.take_of_length_le hk] at h5
  rw [Vtake, Int.add_mul]
  simpa using h5
theorem MulO.first (a b : List Int) : MulO a b (List.replicate (a.length + b.length + 1) 0) 0 := ⟨by simp, Dg.zeros (by decide) _, by simp [V_zeros, V], by omega⟩
theorem MulO.last {a b l : List Int} {i : Nat} (h : MulO a b l i) (hi : a.length ≤ i) : V B9 l = V B9 a * V B9 b := by
  obtain ⟨h1, h2, h3, h4⟩ := h
  rwa [List.take_of_length_le hi] at h3
theorem SlI.belowB {w w' : World} {k : IntKind} {A : Option Addr} {c : Nat} {l : List Int} {n : Nat} (h : SlI w k A c l) (hb : Below n w w') (hn : w.heap.size ≤ n) : SlI w' k A c l := h.below (hb.mono hn)
theorem keep2B {n B : Nat} {W w1 : World} {na nb : Bool} {sa sb : Value} (hb : Below B W w1) (hl : n + 1 + 1 < B) (h : W.cell? ⟨n, 0, none⟩ = some (.bool na) ∧ W.cell? ⟨n, 1, none⟩ = some sa ∧ W.cell? ⟨n + 1, 0, none⟩ = some (.bool nb) ∧ W.cell? ⟨n + 1, 1, none⟩ = some sb ∧ n + 1 + 1 < W.heap.size) : w1.cell? ⟨n, 0, none⟩ = some (.bool na) ∧ w1.cell? ⟨n, 1, none⟩ = some sa ∧ w1.cell? ⟨n + 1, 0, none⟩ = some (.bool nb) ∧ w1.cell? ⟨n + 1, 1, none⟩ = some sb ∧ n + 1 + 1 < w1.heap.size := by
  obtain ⟨h1, h2, h3, h4, h9⟩ := h
  have hz := hb.size
  exact ⟨kcellB hb (by omega) h1, kcellB hb (by omega) h2, kcellB hb (by omega) h3, kcellB hb (by omega) h4, by omega⟩
set_option maxRecDepth 100000 in
set_option maxHeartbeats 2000000 in
theorem Mul_c (x y : Int) (v1 v2 : Value) (w : World) (h1 : IsN w v1 x) (h2 : IsN w v2 y) (sx : (dg B9 x).length ≤ 1000000000) (sy : (dg B9 y).length ≤ 1000000000) :
    Calls Try.prog 38 #[v1, v2] w fun e w' => ∃ v, e = .returned v ∧ IsN w' v (x * y) ∧ Below w.heap.size w w' := by
  obtain ⟨A1, c1, rfl, hs1⟩ := h1
  obtain ⟨A2, c2, rfl, hs2⟩ := h2
  have D1 := Lib.hid (dg_dg B9two x)
  have D2 := Lib.hid (dg_dg B9two y)
  have V1 := Lib.hid (dg_V B9two x)
  have V2 := Lib.hid (dg_V B9two y)
  generalize dg B9 x = a at *
  generalize dg B9 y = b at *
  obtain ⟨na, hna⟩ : ∃ na, decide (x < 0) = na := ⟨_, rfl⟩
  obtain ⟨nb, hnb⟩ : ∃ nb, decide (y < 0) = nb := ⟨_, rfl⟩
  rw [hna, hnb]
  have HR : Hid (sgnd (na != nb) (V B9 a * V B9 b) = x * y) := by
    show _ = _
    rw [V1.out, V2.out, ← Int.natCast_mul, ← Int.natAbs_mul]; unfold sgnd
    rcases Int.lt_trichotomy x 0 with hx | hx | hx <;> rcases Int.lt_trichotomy y 0 with hy | hy | hy
    · have := Int.mul_pos_of_neg_of_neg hx hy
      have e1 : na = true := by rw [← hna]; simpa using hx
      have e2 : nb = true := by rw [← hnb]; simpa using hy
      subst e1 e2; simp; omega
    · subst hy; simp
    · have := Int.mul_neg_of_neg_of_pos hx hy
      have e1 : na = true := by rw [← hna]; simpa using hx
      have e2 : nb = false := by rw [← hnb]; simp; omega
      subst e1 e2; simp; omega
    · subst hx; simp
    · subst hx; simp
    · subst hx; simp
    · have := Int.mul_neg_of_pos_of_neg hx hy
      have e1 : na = false := by rw [← hna]; simp; omega
      have e2 : nb = true := by rw [← hnb]; simpa using hy
      subst e1 e2; simp; omega
    · subst hy; simp
    · have := Int.mul_pos hx hy
      have e1 : na = false := by rw [← hna]; simp; omega
      have e2 : nb = false := by rw [← hnb]; simp; omega
      subst e1 e2; simp; omega
  clear hna hnb
  have L1 := Lib.hid hs1
  have L2 := Lib.hid hs2
  clear hs1 hs2
  have hmk := fun W => run_make_row' (P := Try.prog) 26 3 (.int .i64 0) 8 Try.underlying26 info_i64 rfl .i64 .i64 (a.length + b.length + 1) (by omega) (by omega) W
  rw [show ((a.length + b.length + 1 : Nat) : Int) = (a.length : Int) + (b.length : Int) + 1 by omega] at hmk
  go_enter Try.func38, Try.ntmps38
  go_wp2
  generalize hW : ((w.alloc (Obj.cells #[Value.bool na, Value.slice A1 a.length c1] 28)).alloc _).alloc _ = W
  obtain ⟨hS, HR2, HBW⟩ := start2 w _ _ _ _ _ W hW
  have hWs : w.heap.size + 1 + 1 + 1 = W.heap.size := by subst hW; simp
  clear hW hmk
  rw [hWs]
  have hn2 : w.heap.size + 1 + 1 < W.heap.size := by omega
  clear hWs
  replace L1 := Lib.hid (L1.out.below HBW)
  replace L2 := Lib.hid (L2.out.below HBW)
  have HG0 := Lib.hid (BlkI.new W 3 .i64 (a.length + b.length + 1))
  have HB0 := Lib.hid (below_alloc (Below.refl W.heap.size W) (Obj.cells (madeCells #[Value.int IntKind.i64 0] (a.length + b.length + 1)) 3))
  go_loopw [6] (fun iv wr => ∃ (i : Nat) (l : List Int), iv = .int .i64 i ∧ Hid (BlkI wr W.heap.size 3 .i64 l) ∧ Below W.heap.size W wr ∧ Hid (MulO a b l i)) (fun iv _ => a.length - (intOf iv).toNat)
  case atStart => exact ⟨0, _, rfl, HG0, HB0.out, MulO.first a b⟩
  case round =>
    obtain ⟨i, l, rfl, HG, HB, HI⟩ := hrel
    clear HG0 HB0
    obtain ⟨i1, i2, i3, i4⟩ := HI.out
    have hS' := keep2 HB hS
    obtain ⟨s1, s2, s3, s4, s5⟩ := hS'
    clear i3
    by_cases hi : i < a.length
    · clear i1 i2
      go_wp2
      obtain ⟨wo, rfl⟩ : ∃ wo : World, wo = wr := ⟨_, rfl⟩
      go_loopw [7, 8] (fun cv kv wq => ∃ (k : Nat) (cy : Int) (l : List Int), kv = .int .i64 k ∧ cv = .int .i64 cy ∧ Hid (BlkI wq W.heap.size 3 .i64 l) ∧ Below W.heap.size W wq ∧ Hid (MulI a b l i k cy)) (fun _ kv _ => (b.length + 1) - (intOf kv).toNat)
      case atStart => exact ⟨0, 0, l, rfl, rfl, HG, HB, MulI.first HI.out hi⟩
      case round =>
        clear HG HB HI s1 s2 s3 s4 s5
        obtain ⟨k, cy, l, rfl, rfl, HG, HB, HI⟩ := hrel
        obtain ⟨j1, j2, j3, j4, j5, j6, j7⟩ := HI.out
        obtain ⟨s1, s2, s3, s4, s5⟩ := keep2 HB hS
        have J1 := Lib.hid j1
        clear j5
        by_cases hk : k < b.length ∨ 0 < cy
        · have hkl : k ≤ b.length := HI.out.place D1.out D2.out hk
          have HST := Lib.hid (HI.out.step D1.out D2.out hkl)
          have a1 := gd9 D1.out i
          have b1 := gd9 D2.out k
          have o1 := gd9 j2 (i + k)
          have p1 : 0 ≤ gd a i * gd b k := Int.mul_nonneg a1.1 b1.1
          have p2 : gd a i * gd b k ≤ 999999998000000001 := by
            have p2 : gd a i * gd b k ≤ 999999999 * 999999999 := Int.mul_le_mul (by omega) (by omega) b1.1 (by omega)
            omega
          obtain ⟨a1, a2⟩ := a1
          obtain ⟨b1, b2⟩ := b1
          obtain ⟨o1, o2⟩ := o1
          have q1 := HG.out.cell (j := i + k) (by omega)
          have q2 := HG.out.frozen (i + k)
          obtain ⟨ba, oa, rfl, hla, hca⟩ := (L1.out.below HB).cell (j := i) hi
          have K2 := Lib.hid (L2.out.below HB)
          have hi0 : (0 : Int) ≤ (i : Int) := by omega
          have hi1 : (i : Int) < (a.length : Int) := by omega
          have hk0 : (0 : Int) ≤ (i : Int) + (k : Int) := by omega
          have hk1 : (i : Int) + (k : Int) < (a.length : Int) + (b.length : Int) + 1 := by omega
          have hkn : i + k < a.length + b.length + 1 := by omega
          have hk' : k < b.length ∨ (¬ k < b.length ∧ 0 < cy) := by omega
          clear j1 j2 HI hk
          rcases hk' with hk | ⟨hk, hcy⟩
          all_goals
            go_wp2
            have e0 : ((i : Int) + (k : Int)).toNat = i + k := by omega
            have e1 := IntWalk.i64_in ((i : Int) + (k : Int)) (by omega)
            have e2 := IntWalk.i64_in (gd a i * gd b k) (by omega)
            have e3 := IntWalk.i64_in (gd l (i + k) + gd a i * gd b k) (by omega)
            have e4 := IntWalk.i64_in (gd l (i + k) + gd a i * gd b k + cy) (by omega)
            go_region_held3 (fun w' => w'.cell? ⟨W.heap.size, i + k, none⟩ = some (.int .i64 (gd l (i + k))) ∧ w'.cell? ⟨w.heap.size, 1, none⟩ = some (.slice (some ⟨ba, oa, none⟩) a.length c1) ∧ w'.cell? ⟨ba, oa + i, none⟩ = some (.int .i64 (gd a i)) ∧ w'.cell? ⟨w.heap.size + 1, 1, none⟩ = some (.slice A2 b.length c2)) (exact ⟨q1, s2, hca, s4⟩) (first
              | (go_at_call 63; (with_reducible refine (part_c A2 c2 b k _ (by exact K2.out.below (by repeat (with_reducible first | assumption | exact Below.refl _ _ | apply below_drew | apply below_drewN | apply below_alloc | refine below_step ?_ (by assumption))))).mono ?_); rintro e w' ⟨rfl, rfl⟩))
            clear e0 e1 e2 e3 e4
            have HG2 := Lib.hid (HG.out.drew)
            have HB2 := below_drew HB
            have q1' : wr.drew.cell? ⟨W.heap.size, i + k, none⟩ = some (.int .i64 (gd l (i + k))) := q1
            have q2' : wr.drew.frozen? ⟨W.heap.size, i + k, none⟩ = false := q2
            generalize wr.drew = w2 at HG2 HB2 q1' q2' ⊢
            clear HG HB q1 q2 hca s1 s2 s3 s4 s5 K2 hla
            go_wp2
            go_roundw
            case rel => exact ⟨k + 1, _, _, by go_num, rfl, HG2.out.set _ _, HB2.setCell (p := ⟨_, _, none⟩) (Nat.le_refl _) _, HST.out⟩
            case measure => simp [intOf]; omega
        · have hk1 : ¬ k < b.length := fun h => hk (.inl h)
          have hk2 : ¬ 0 < cy := fun h => hk (.inr h)
          clear hk
          obtain rfl : cy = 0 := by omega
          have HST := Lib.hid (HI.out.last (by omega))
          clear HI j1 j2
          go_wp2
          go_roundw
          case rel => exact ⟨i + 1, l, by go_num, HG, HB, HST.out⟩
          case measure => simp [intOf]; omega
    · have HE := Lib.hid (HI.out.last (by omega))
      have HL := Lib.hid (HG.out.slI (by omega))
      have hll : a.length + b.length + 1 = l.length := i1.symm
      have HR4 := HR2.keep HB
      have D3 := Lib.hid i2
      clear HI i1 i2
      rw [hll]
      cases na <;> cases nb
      all_goals
        go_wp2_with (go_at_call 36; (with_reducible refine (trim_n _ _ _ l _ HL.out D3.out).mono ?_); rintro e w2 ⟨v, rfl, hv, hb2⟩; obtain ⟨nv, A4, n4, c4, rfl, HV⟩ := hv.form; clear hv; have HR5 := Lib.hid (HR4.keep hb2); obtain ⟨⟨u1, r1⟩, ⟨u2, u3, u4, r2⟩, r3, r4, r5⟩ := HR5.out)
        refine bodyPost_ret (v := .agg #[.bool nv, .slice A4 n4 c4]) (by simp [results, Try.results38, go_sem, r1, r2, r5]) rfl ⟨_, rfl, ?_, ?_⟩
        · refine IsZ.res2 (z := x * y) ?_ HR5.out _ _
          rw [← HR.out, ← HE.out]
          exact HV.out
        · exact below_set (below_set (below_step (below_step HBW HB) hb2) (by omega) _) (by omega) _
end Go.Proofs.Ytiaeeclmlchpoaa

set_option linter.unusedVariables false
set_option linter.unusedSimpArgs false
namespace Go.Proofs.Ytiaeeclmlchpoaa
open Go.RowKit

def WmO (a b l : List Int) (i : Nat) : Prop :=
  l.length = a.length + b.length ∧ Dg B64 l ∧ V B64 l = V B64 (a.take i) * V B64 b ∧ i ≤ a.length ∧ (∀ j, i + b.length ≤ j → gd l j = 0)
def WmI (a b l : List Int) (i k : Nat) (cy : Int) : Prop :=
  l.length = a.length + b.length ∧ Dg B64 l ∧ W64 cy ∧ V B64 l + (B64 : Int) ^ (i + k) * cy = V B64 (a.take i) * V B64 b + (B64 : Int) ^ i * gd a i * V B64 (b.take k) ∧ i < a.length ∧ k ≤ b.length ∧ (∀ j, i + b.length ≤ j → gd l j = 0)
theorem gd_set_ne {l : List Int} {i j : Nat} (d : Int) (h : i ≠ j) : gd (l.set i d) j = gd l j := by
  unfold gd; rw [List.getD_eq_getElem?_getD, List.getD_eq_getElem?_getD, List.getElem?_set_ne h]
theorem WmI.first {a b l : List Int} {i : Nat} (h : WmO a b l i) (hi : i < a.length) : WmI a b l i 0 0 := by
  obtain ⟨h1, h2, h3, h4, h5⟩ := h
  exact ⟨h1, h2, ⟨by omega, by omega⟩, by simp [h3, V], hi, by omega, h5⟩
theorem info_u64 : (Try.prog.info? 85).map (fun i => (i.zero, i.size, i.bytes)) = some (some (.int .u64 0), 1, 8) := by kernel_rfl
/-- The numbers of one place. -/
structure WPl (x y cy o hi lo l1 c1 h1 l2 c2 cy' : Int) : Prop where
  m1 : x * y / 18446744073709551616 = hi
  m2 : x * y % 18446744073709551616 = lo
  s1 : (lo + cy) % 18446744073709551616 = l1
  s2 : (lo + cy) / 18446744073709551616 = c1
  w1 : IntKind.u64.wrap (hi + c1) = h1
  s3 : (o + l1) % 18446744073709551616 = l2
  s4 : (o + l1) / 18446744073709551616 = c2
  w2 : IntKind.u64.wrap (h1 + c2) = cy'
  lo0 : 0 ≤ lo
  l10 : 0 ≤ l1
  sum : l2 + 18446744073709551616 * cy' = o + x * y + cy
  l2r : W64 l2
  cyr : W64 cy'
theorem wpl {x y cy o : Int} (hx : W64 x) (hy : W64 y) (hc : W64 cy) (ho : W64 o) : ∃ hi lo l1 c1 h1 l2 c2 cy', WPl x y cy o hi lo l1 c1 h1 l2 c2 cy' := by
  obtain ⟨x0, x1⟩ := hx; obtain ⟨y0, y1⟩ := hy; obtain ⟨c0, c1⟩ := hc; obtain ⟨o0, o1⟩ := ho
  have p1 : 0 ≤ x * y := Int.mul_nonneg x0 y0
  have p2 : x * y ≤ 18446744073709551615 * 18446744073709551615 := Int.mul_le_mul (by omega) (by omega) y0 (by omega)
  obtain ⟨p, hp⟩ : ∃ p, x * y = p := ⟨_, rfl⟩
  rw [hp] at p1 p2
  refine ⟨_, _, _, _, _, _, _, _, ⟨rfl, rfl, rfl, rfl, rfl, rfl, rfl, rfl, by omega, by omega, ?_, ⟨by omega, by omega⟩, ?_⟩⟩
  all_goals rw [hp]
  · simp only [IntKind.wrap_u64]; omega
  · simp only [IntKind.wrap_u64]; exact ⟨by omega, by omega⟩
theorem WmI.step {a b l : List Int} {i k : Nat} {cy l2 cy' : Int} (h : WmI a b l i k cy) (hk : k < b.length) (hs : l2 + 18446744073709551616 * cy' = gd l (i + k) + gd a i * gd b k + cy) (h2l : W64 l2) (hcl : W64 cy') :
    WmI a b (l.set (i + k) l2) i (k + 1) cy' := by
  obtain ⟨h1, h2, h3, h5, h6, h7, h8⟩ := h
  refine ⟨by simp [h1], h2.set _ h2l.1 h2l.2, hcl, ?_, h6, by omega, fun j hj => by rw [gd_set_ne _ (by omega)]; exact h8 j hj⟩
  rw [Vset _ _ _ (by omega), Vtake, ← Nat.add_assoc, Int.pow_succ, mul_ring2 (q := 0), ← Int.pow_add, B64c]
  rw [B64c] at h5
  exact mul_ring (x := 0) h5 hs
theorem WmI.last {a b l : List Int} {i : Nat} {cy : Int} (h : WmI a b l i b.length cy) : WmO a b (l.set (i + b.length) cy) (i + 1) := by
  obtain ⟨h1, h2, h3, h5, h6, h7, h8⟩ := h
  refine ⟨by simp [h1], h2.set _ h3.1 h3.2, ?_, by omega, fun j hj => by rw [gd_set_ne _ (by omega)]; exact h8 j (by omega)⟩
  rw [List.take_of_length_le (Nat.le_refl _)] at h5
  rw [Vset _ _ _ (by omega), h8 _ (Nat.le_refl _), Vtake, Int.add_mul, ← h5, Int.sub_zero]
theorem WmO.first (a b : List Int) : WmO a b (List.replicate (a.length + b.length) 0) 0 := ⟨by simp, Dg.zeros (by decide) _, by simp [V_zeros, V], by omega, fun j _ => by simp [gd, List.getElem?_replicate]; split <;> rfl⟩
theorem WmO.last {a b l : List Int} {i : Nat} (h : WmO a b l i) (hi : a.length ≤ i) : V B64 l = V B64 a * V B64 b := by
  obtain ⟨h1, h2, h3, h4, h5⟩ := h
  rwa [List.take_of_length_le hi] at h3
theorem gdW {l : List Int} (h : Dg B64 l) (i : Nat) : W64 (gd l i) := gdw h i

set_option maxRecDepth 100000 in
set_option maxHeartbeats 2000000 in
theorem Times_c (x y : Nat) (v1 v2 : Value) (w : World) (h1 : IsW w v1 x) (h2 : IsW w v2 y) (sx : (digs B64 x).length ≤ 1000000000) (sy : (digs B64 y).length ≤ 1000000000) :
    Calls Try.prog 66 #[v1, v2] w fun e w' => ∃ v, e = .returned v ∧ IsW w' v (x * y) ∧ Below w.heap.size w w' := by
  obtain ⟨A1, c1, rfl, hs1⟩ := h1
  obtain ⟨A2, c2, rfl, hs2⟩ := h2
  have D1 := Lib.hid (digs_dg B64two x)
  have D2 := Lib.hid (digs_dg B64two y)
  have HR : Hid ((V B64 (digs B64 x) * V B64 (digs B64 y)).toNat = x * y) := by
    show _ = _
    rw [digs_V B64two, digs_V B64two, ← Int.natCast_mul]; rfl
  generalize digs B64 x = a at *
  generalize digs B64 y = b at *
  have L1 := Lib.hid hs1
  have L2 := Lib.hid hs2
  clear hs1 hs2
  have hmk := fun W => run_make_row' (P := Try.prog) 72 85 (.int .u64 0) 8 Try.underlying72 info_u64 rfl .i64 .i64 (a.length + b.length) (by omega) (by omega) W
  rw [show ((a.length + b.length : Nat) : Int) = (a.length : Int) + (b.length : Int) by omega] at hmk
  go_enter Try.func66, Try.ntmps66
  go_wp2
  clear hmk
  have HG0 := Lib.hid (BlkI.new w 85 .u64 (a.length + b.length))
  have HB0 := Lib.hid (below_alloc (Below.refl w.heap.size w) (Obj.cells (madeCells #[Value.int IntKind.u64 0] (a.length + b.length)) 85))
  go_loopw [22] (fun iv wr => ∃ (i : Nat) (l : List Int), iv = .int .i64 i ∧ Hid (BlkI wr w.heap.size 85 .u64 l) ∧ Below w.heap.size w wr ∧ Hid (WmO a b l i)) (fun iv _ => a.length - (intOf iv).toNat)
  case atStart => exact ⟨0, _, rfl, HG0, HB0.out, WmO.first a b⟩
  case round =>
    obtain ⟨i, l, rfl, HG, HB, HI⟩ := hrel
    clear HG0 HB0
    obtain ⟨i1, i2, i3, i4, i5⟩ := HI.out
    have i2 := Lib.hid i2
    clear i3 i5
    by_cases hi : i < a.length
    · clear i1 i2
      obtain ⟨ba, oa, rfl, hla, hca⟩ := (L1.out.below HB).cell (j := i) hi
      obtain ⟨x1, hx1⟩ : ∃ x1, gd a i = x1 := ⟨_, rfl⟩
      rw [hx1] at hca
      have HX := Lib.hid hx1
      clear hx1
      go_wp2
      clear hca hla
      obtain ⟨wo, rfl⟩ : ∃ wo : World, wo = wr := ⟨_, rfl⟩
      go_loopw [8, 29] (fun cv kv wq => ∃ (k : Nat) (cy : Int) (l : List Int), kv = .int .i64 k ∧ cv = .int .u64 cy ∧ Hid (BlkI wq w.heap.size 85 .u64 l) ∧ Below w.heap.size w wq ∧ Hid (WmI a b l i k cy)) (fun _ kv _ => b.length - (intOf kv).toNat)
      case atStart => exact ⟨0, 0, l, rfl, rfl, HG, HB, WmI.first HI.out hi⟩
      case round =>
        clear HG HB HI
        obtain ⟨k, cy, l, rfl, rfl, HG, HB, HI⟩ := hrel
        obtain ⟨j1, j2, j3, j5, j6, j7, j8⟩ := HI.out
        have J1 := Lib.hid j1
        clear j5 j8
        by_cases hk : k < b.length
        · obtain ⟨hi', lo, l1, c1', h1', l2, c2', cy', P⟩ := wpl (gdW D1.out i) (gdW D2.out k) j3 (gdW j2 (i + k))
          have HST := Lib.hid (HI.out.step hk P.sum P.l2r P.cyr)
          rw [HX.out] at P
          have q1 := HG.out.cell (j := i + k) (by omega)
          have q2 := HG.out.frozen (i + k)
          obtain ⟨bb, ob, rfl, hlb, hcb⟩ := (L2.out.below HB).cell (j := k) hk
          have W1 : W64 x1 := HX.out ▸ gdW D1.out i
          have W2 := gdW D2.out k
          have o0 := (gdW j2 (i + k)).1
          generalize gd b k = y1 at *
          generalize gd l (i + k) = o at *
          have hM := fun W => Mul64_c x1 y1 W1 W2 W
          rw [P.m1, P.m2] at hM
          have hA := fun W => add64_0 lo cy P.lo0 j3.1 W
          rw [P.s1, P.s2] at hA
          have hC := fun W => add64_0 o l1 o0 P.l10 W
          rw [P.s3, P.s4] at hC
          have w1 := P.w1
          have w2 := P.w2
          have hik : i + k < a.length + b.length := by omega
          clear P j2 j3 HI W1 W2 o0 j1
          go_wp2_with (first | (go_at_call 79; (with_reducible refine (hM _).mono ?_); rintro e w' ⟨rfl, rfl⟩) | simp only [hA, hC])
          go_roundw
          case rel => exact ⟨k + 1, _, _, by go_num, rfl, HG.out.set _ _, HB.setCell (p := ⟨_, _, none⟩) (Nat.le_refl _) _, HST.out⟩
          case measure => simp [intOf]; omega
        · obtain rfl : k = b.length := by omega
          have HST := Lib.hid HI.out.last
          clear HI j2 j3
          have q1 := HG.out.cell (j := i + b.length) (by omega)
          have q2 := HG.out.frozen (i + b.length)
          clear j1
          go_wp2
          go_roundw
          case rel => exact ⟨i + 1, _, by go_num, HG.out.set _ _, HB.setCell (p := ⟨_, _, none⟩) (Nat.le_refl _) _, HST.out⟩
          case measure => simp [intOf]; omega
    · have HE := Lib.hid (HI.out.last (by omega))
      have HL := Lib.hid (HG.out.slI (by omega))
      have hll : a.length + b.length = l.length := i1.symm
      clear HI i1
      have hT := wtrim_n _ _ l _ HL.out i2.out
      rw [← hll] at hT
      have HT := Lib.hid hT
      clear hll hT
      go_wp2_with fail
      have hT := HT.out
      (with_reducible refine hT.mono ?_)
      rintro e w' ⟨v, rfl, hv, rfl⟩
      rw [HE.out, HR.out] at hv
      clear hT
      go_wp2
      go_ret
      exact ⟨_, rfl, hv, HB⟩
end Go.Proofs.Ytiaeeclmlchpoaa

set_option linter.unusedVariables false
set_option linter.unusedSimpArgs false
namespace Go.Proofs.Ytiaeeclmlchpoaa
open Go.RowKit

theorem or_add (a b : Int) (s : Nat) (hs : s ≤ 64) (ha : 0 ≤ a) (h1 : a * 2 ^ s < 18446744073709551616) (hb : 0 ≤ b) (hb1 : b < 2 ^ s) : bits .or .u64 (a * 2 ^ s) b = a * 2 ^ s + b := by
  obtain ⟨a, rfl⟩ := Int.eq_ofNat_of_zero_le ha
  obtain ⟨b, rfl⟩ := Int.eq_ofNat_of_zero_le hb
  have e2 : ((2 ^ s : Nat) : Int) = 2 ^ s := by rw [Int.natCast_pow]; rfl
  have hb2 : b < 2 ^ s := by rw [← e2] at hb1; omega
  have e1 : (a : Int) * 2 ^ s = ((a * 2 ^ s : Nat) : Int) := by rw [Int.natCast_mul, e2]
  rw [e1] at h1 ⊢
  have h2 : a * 2 ^ s < 18446744073709551616 := by omega
  have hb3 : b < 18446744073709551616 := by
    have : (2 : Nat) ^ s ≤ 2 ^ 64 := Nat.pow_le_pow_right (by omega) hs
    omega
  rw [bits_or_u64_nat _ _ h2 hb3]
  have : a * 2 ^ s ||| b = a * 2 ^ s + b := by
    rw [Nat.mul_comm, Nat.two_pow_add_eq_or_of_lt hb2]
  rw [this]; rfl

theorem emq {N Q d : Int} (hd : 0 < d) (h0 : 0 ≤ N - Q * d) (h1 : N - Q * d < d) : N / d = Q ∧ N % d = N - Q * d :=
  (Int.ediv_emod_unique hd).2 ⟨by rw [Int.mul_comm d Q]; omega, h0, h1⟩
/-- The numbers of the school division by a number that ends with 32 zeros. -/
structure DivN (hi lo d : Int) (s : Nat) (Y y1 u v v1 v0 q1 r1 u2 q0 r0 : Int) : Prop where
  hY : d * 2 ^ s = Y
  hY1 : Y = y1 * 4294967296
  y1p : 0 < y1
  y1l : y1 < 4294967296
  hu : hi * 2 ^ s + lo / 2 ^ (64 - s) = u
  u0 : 0 ≤ u
  uY : u < Y
  hi0 : 0 ≤ hi * 2 ^ s
  hiY : hi * 2 ^ s < 18446744073709551616
  lo0 : 0 ≤ lo / 2 ^ (64 - s)
  lo1 : lo / 2 ^ (64 - s) < 2 ^ s
  hv : (lo * 2 ^ s) % 18446744073709551616 = v
  hv1 : v / 4294967296 = v1
  hv0 : v % 4294967296 = v0
  hq1 : u / y1 = q1
  hr1 : u % y1 = r1
  q10 : 0 ≤ q1
  q1l : q1 < 4294967296
  hu2 : r1 * 4294967296 + v1 = u2
  hq0 : u2 / y1 = q0
  hr0 : u2 % y1 = r0
  q00 : 0 ≤ q0
  q0l : q0 < 4294967296
  r00 : 0 ≤ r0
  r0l : r0 < y1
  v00 : 0 ≤ v0
  v0l : v0 < 4294967296
  v10 : 0 ≤ v1
  v1l : v1 < 4294967296
  r10 : 0 ≤ r1
  r1l : r1 < y1
  pl : (0 : Int) < 2 ^ s
  end1 : (hi * 18446744073709551616 + lo) / d = q1 * 4294967296 + q0
  end2 : (hi * 18446744073709551616 + lo) % d = (r0 * 4294967296 + v0) / 2 ^ s

theorem divN (hi lo d : Int) (s : Nat) (h0 : 0 ≤ hi) (h1 : hi < d) (h2 : d < 2147483648) (h3 : W64 lo) (hs : (s : Int) = 64 - (bl d.toNat : Int)) :
    ∃ Y y1 u v v1 v0 q1 r1 u2 q0 r0, DivN hi lo d s Y y1 u v v1 v0 q1 r1 u2 q0 r0 := by
  have l31 := bl_le (n := d.toNat) (k := 31) (by omega)
  have hlt := bl_lt d.toNat
  have hk : bl d.toNat = 64 - s := by omega
  rw [hk] at hlt
  obtain ⟨k, rfl⟩ : ∃ k, s = 32 + k := ⟨s - 32, by omega⟩
  obtain ⟨p, hp⟩ : ∃ p : Int, p = 2 ^ k := ⟨_, rfl⟩
  have hp0 : 0 < p := by rw [hp]; exact Int.pow_pos (by omega)
  have eP : (2 : Int) ^ (32 + k) = 4294967296 * p := by rw [Int.pow_add, hp]; rfl
  obtain ⟨t, ht⟩ : ∃ t : Int, t = 2 ^ (64 - (32 + k)) := ⟨_, rfl⟩
  have ht0 : 0 < t := by rw [ht]; exact Int.pow_pos (by omega)
  have etp : t * (4294967296 * p) = 18446744073709551616 := by
    rw [ht, ← eP, ← Int.pow_add, show 64 - (32 + k) + (32 + k) = 64 by omega]; rfl
  have hdt : d < t := by
    have : ((2 ^ (64 - (32 + k)) : Nat) : Int) = t := by rw [ht, Int.natCast_pow]; rfl
    omega
  obtain ⟨l0, l1⟩ := h3
  have hlo : lo / t < 4294967296 * p := (Int.ediv_lt_iff_lt_mul ht0).2 (by rw [Int.mul_comm, etp]; exact l1)
  have hlo0 : 0 ≤ lo / t := Int.ediv_nonneg l0 (by omega)
  have htp : t * p = 4294967296 := by grind
  have hY1 : d * p < 4294967296 := by
    have := Int.mul_lt_mul_of_pos_right hdt hp0; omega
  have hdp : 0 < d * p := Int.mul_pos (by omega) hp0
  have hlv : lo * (4294967296 * p) = (lo / t) * 18446744073709551616 + (lo % t) * (4294967296 * p) := by
    have := Int.mul_ediv_add_emod lo t
    rw [← etp]; grind
  have hmt := Int.emod_lt_of_pos lo ht0
  have hmt0 := Int.emod_nonneg lo (show t ≠ 0 by omega)
  have hv : lo * (4294967296 * p) % 18446744073709551616 = (lo % t) * (4294967296 * p) := by
    have h5 : (lo % t) * (4294967296 * p) < t * (4294967296 * p) := Int.mul_lt_mul_of_pos_right hmt (by omega)
    have h6 : 0 ≤ (lo % t) * (4294967296 * p) := Int.mul_nonneg hmt0 (by omega)
    omega
  have huY : hi * (4294967296 * p) + lo / t < d * (4294967296 * p) := by
    have : (hi + 1) * (4294967296 * p) ≤ d * (4294967296 * p) := Int.mul_le_mul_of_nonneg_right (by omega) (by omega)
    rw [Int.add_mul] at this; omega
  have hh0 : 0 ≤ hi * (4294967296 * p) := Int.mul_nonneg h0 (by omega)
  have eY : d * (4294967296 * p) = (d * p) * 4294967296 := by grind
  have key : (hi * 18446744073709551616 + lo) * (4294967296 * p) = (hi * (4294967296 * p) + lo / t) * 18446744073709551616 + (lo % t) * (4294967296 * p) := by
    rw [Int.add_mul, hlv]; grind
  have hN : ∀ a : Int, a = hi * 18446744073709551616 + lo → a * (4294967296 * p) = (hi * (4294967296 * p) + lo / t) * 18446744073709551616 + (lo % t) * (4294967296 * p) := by rintro _ rfl; exact key
  obtain ⟨N, hNN⟩ : ∃ N, hi * 18446744073709551616 + lo = N := ⟨_, rfl⟩
  have hN := hN N hNN.symm
  obtain ⟨u, hu⟩ : ∃ u, hi * (4294967296 * p) + lo / t = u := ⟨_, rfl⟩
  obtain ⟨v, hve⟩ : ∃ v, (lo % t) * (4294967296 * p) = v := ⟨_, rfl⟩
  obtain ⟨y, hy⟩ : ∃ y, d * p = y := ⟨_, rfl⟩
  have hv0 : 0 ≤ v ∧ v < 18446744073709551616 := by rw [← hve, ← hv]; omega
  rw [hu, hve] at hN
  rw [hve] at hv
  rw [hy] at hdp hY1 eY
  rw [hu, eY] at huY
  have hu0 : 0 ≤ u := by omega
  have a1 := Int.mul_ediv_add_emod u y
  have a2 := Int.emod_lt_of_pos u hdp
  have a3 := Int.emod_nonneg u (show y ≠ 0 by omega)
  have a4 : 0 ≤ u / y := Int.ediv_nonneg hu0 (by omega)
  have a5 : u / y < 4294967296 := (Int.ediv_lt_iff_lt_mul hdp).2 (by rw [Int.mul_comm]; exact huY)
  obtain ⟨q1, hq1⟩ : ∃ q1, u / y = q1 := ⟨_, rfl⟩
  obtain ⟨r1, hr1⟩ : ∃ r1, u % y = r1 := ⟨_, rfl⟩
  rw [hq1] at a1 a4 a5
  rw [hr1] at a1 a2 a3
  obtain ⟨v1, hv1⟩ : ∃ v1, v / 4294967296 = v1 := ⟨_, rfl⟩
  obtain ⟨v2, hv2⟩ : ∃ v2, v % 4294967296 = v2 := ⟨_, rfl⟩
  obtain ⟨u2, hu2⟩ : ∃ u2, r1 * 4294967296 + v1 = u2 := ⟨_, rfl⟩
  have hu20 : 0 ≤ u2 := by omega
  have hu2l : u2 < 4294967296 * y := by omega
  have b1 := Int.mul_ediv_add_emod u2 y
  have b2 := Int.emod_lt_of_pos u2 hdp
  have b3 := Int.emod_nonneg u2 (show y ≠ 0 by omega)
  have b4 : 0 ≤ u2 / y := Int.ediv_nonneg hu20 (by omega)
  have b5 : u2 / y < 4294967296 := (Int.ediv_lt_iff_lt_mul hdp).2 hu2l
  obtain ⟨q0, hq0⟩ : ∃ q0, u2 / y = q0 := ⟨_, rfl⟩
  obtain ⟨r0, hr0⟩ : ∃ r0, u2 % y = r0 := ⟨_, rfl⟩
  rw [hq0] at b1 b4 b5
  rw [hr0] at b1 b2 b3
  have hR : 0 ≤ r0 * 4294967296 + v2 := by omega
  have hRl : r0 * 4294967296 + v2 < y * 4294967296 := by omega
  have fin : N * (4294967296 * p) = (q1 * 4294967296 + q0) * d * (4294967296 * p) + (r0 * 4294967296 + v2) := by
    have e1 : v = v1 * 4294967296 + v2 := by omega
    have e2 : (q1 * 4294967296 + q0) * d * (4294967296 * p) = (q1 * 4294967296 + q0) * (y * 4294967296) := by rw [Int.mul_assoc, eY]
    rw [hN, e2, ← a1, e1]
    have : r1 * 4294967296 + v1 = y * q0 + r0 := by omega
    grind
  have hd0 : 0 < d := by omega
  have hrem : (N - (q1 * 4294967296 + q0) * d) * (4294967296 * p) = r0 * 4294967296 + v2 := by rw [Int.sub_mul]; omega
  have hP0 : 0 < 4294967296 * p := by omega
  have r0' : 0 ≤ N - (q1 * 4294967296 + q0) * d := by
    rcases Int.lt_or_le (N - (q1 * 4294967296 + q0) * d) 0 with h | h
    · have := Int.mul_neg_of_neg_of_pos h hP0; omega
    · exact h
  have r1' : N - (q1 * 4294967296 + q0) * d < d := by
    rcases Int.lt_or_le (N - (q1 * 4294967296 + q0) * d) d with h | h
    · exact h
    · have := Int.mul_le_mul_of_nonneg_right h (Int.le_of_lt hP0); omega
  refine ⟨y * 4294967296, y, u, v, v1, v2, q1, r1, u2, q0, r0, ?_⟩
  exact {
    hY := by rw [eP]; exact eY
    hY1 := rfl
    y1p := hdp
    y1l := hY1
    hu := by rw [eP, ← ht]; exact hu
    u0 := hu0
    uY := huY
    hi0 := by rw [eP]; exact hh0
    hiY := by rw [eP]; omega
    lo0 := by rw [← ht]; exact hlo0
    lo1 := by rw [← ht, eP]; exact hlo
    hv := by rw [eP]; exact hv
    hv1 := hv1
    hv0 := hv2
    hq1 := hq1
    hr1 := hr1
    q10 := a4
    q1l := a5
    hu2 := hu2
    hq0 := hq0
    hr0 := hr0
    q00 := b4
    q0l := b5
    r00 := b3
    r0l := b2
    v00 := by omega
    v0l := by omega
    v10 := by omega
    v1l := by omega
    r10 := a3
    r1l := a2
    pl := by rw [eP]; omega
    end1 := by
      rw [hNN]
      exact (emq hd0 r0' r1').1
    end2 := by
      rw [hNN, eP, ← hrem, Int.mul_ediv_cancel _ (by omega)]
      exact (emq hd0 r0' r1').2 }

theorem mask32 {a : Int} (h : W64 a) : bits .and .u64 a 4294967295 = a % 4294967296 := by
  obtain ⟨a, rfl⟩ := Int.eq_ofNat_of_zero_le h.1
  rw [M64.maskN a (by have := h.2; omega)]; omega
theorem wrap64 {a : Int} (h0 : 0 ≤ a) (h1 : a < 18446744073709551616) : IntKind.u64.wrap a = a := by rw [IntKind.wrap_u64]; omega
set_option maxRecDepth 100000 in
set_option maxHeartbeats 1000000 in
theorem Div64_c (hi lo d : Int) (h0 : 0 ≤ hi) (h1 : hi < d) (h2 : d < 2147483648) (h3 : W64 lo) (w : World) :
    Calls Try.prog 75 #[.int .u64 hi, .int .u64 lo, .int .u64 d] w fun e w' => e = .returned (.tuple #[.int .u64 ((hi * 18446744073709551616 + lo) / d), .int .u64 ((hi * 18446744073709551616 + lo) % d)]) ∧ Below w.heap.size w w' := by
  obtain ⟨l0, l1⟩ := h3
  have hB : Below w.heap.size w w := Below.refl _ _
  have n1 : (d == 0) = false := by simp; omega
  have n2 : decide (d ≤ hi) = false := by simp; omega
  have hW : W64 d := ⟨by omega, by omega⟩
  by_cases hz : hi = 0
  · subst hz
    go_enter Try.func75, Try.ntmps75
    go_wp2
    go_quiet (fail)
    go_wp2
    go_ret2
    exact ⟨by simp, below_drewN hB _⟩
  · have n3 : (hi == 0) = false := by simp; omega
    obtain ⟨s, hs⟩ : ∃ s : Nat, (s : Int) = 64 - (bl d.toNat : Int) := ⟨64 - bl d.toNat, by have := bl_le (n := d.toNat) (k := 31) (by omega); omega⟩
    have hs64 : s ≤ 64 := by omega
    obtain ⟨Y, y1, u, v, v1, v0, q1, r1, u2, q0, r0, D⟩ := divN hi lo d s h0 h1 h2 ⟨l0, l1⟩ hs
    have HS := Lib.hid hs
    clear hs hz
    have a1 := D.y1p; have a2 := D.y1l; have a3 := D.u0; have a4 := D.uY; have a5 := D.hY1; have a6 := D.hv1; have a7 := D.hv0; have a8 := D.q10; have a9 := D.q1l
    have b1 := D.q00; have b2 := D.q0l; have b3 := D.r00; have b4 := D.r0l; have b5 := D.v00; have b6 := D.v0l; have b7 := D.v10; have b8 := D.v1l; have b9 := D.r10; have c0 := D.r1l
    have hv : 0 ≤ v ∧ v < 18446744073709551616 := by omega
    have c1 : q1 * y1 = u - r1 := by have := Int.mul_ediv_add_emod u y1; rw [D.hq1, D.hr1, Int.mul_comm] at this; omega
    have c2 : q0 * y1 = u2 - r0 := by have := Int.mul_ediv_add_emod u2 y1; rw [D.hq0, D.hr0, Int.mul_comm] at this; omega
    have c3 : q1 * Y = (u - r1) * 4294967296 := by rw [a5, ← Int.mul_assoc, c1]
    have c4 : q0 * Y = (u2 - r0) * 4294967296 := by rw [a5, ← Int.mul_assoc, c2]
    have c5 := D.hu2
    have u20 : 0 ≤ u2 := by omega
    have c6 : 0 ≤ q1 * y1 := Int.mul_nonneg a8 (by omega)
    have c7 : 0 ≤ q0 * y1 := Int.mul_nonneg b1 (by omega)
    have e1 : IntKind.u64.wrap (s : Int) = s := wrap64 (by omega) (by omega)
    have e2 : min s 64 = s := by omega
    have e3 : IntKind.u64.wrap (d * 2 ^ s) = Y := by rw [D.hY]; exact wrap64 (by omega) (by omega)
    have e4 : Y / 4294967296 = y1 := by omega
    have e5 : bits .and .u64 Y 4294967295 = 0 := by rw [mask32 ⟨by omega, by omega⟩]; omega
    have e7 : IntKind.u64.wrap (64 - (s : Int)) = ((64 - s : Nat) : Int) := by rw [wrap64 (by omega) (by omega)]; omega
    have e8 : min (64 - s) 64 = 64 - s := by omega
    have e6 : bits .or .u64 (IntKind.u64.wrap (hi * 2 ^ s)) (lo / 2 ^ (64 - s)) = u := by
      rw [wrap64 D.hi0 D.hiY, or_add hi _ s hs64 h0 D.hiY D.lo0 D.lo1, D.hu]
    obtain ⟨H, hH⟩ : ∃ H, IntKind.u64.wrap (hi * 2 ^ s) = H := ⟨_, rfl⟩
    rw [hH] at e6
    have e9 : IntKind.u64.wrap (lo * 2 ^ s) = v := by rw [IntKind.wrap_u64]; exact D.hv
    have f1 : bits .and .u64 v 4294967295 = v0 := by rw [mask32 hv]; exact a7
    have f2 : (y1 == 0) = false := by simp; omega
    have f3 := D.hq1
    obtain ⟨m, f4⟩ : ∃ m, IntKind.u64.wrap (q1 * y1) = m := ⟨_, rfl⟩
    have f5 : IntKind.u64.wrap (u - m) = r1 := by rw [← f4, c1, IntKind.wrap_u64, IntKind.wrap_u64]; omega
    have f6 : decide (4294967296 ≤ q1) = false := by simp; omega
    obtain ⟨m2, f7⟩ : ∃ m, IntKind.u64.wrap (4294967296 * r1) = m := ⟨_, rfl⟩
    obtain ⟨m3, f8⟩ : ∃ m, IntKind.u64.wrap (m2 + v1) = m := ⟨_, rfl⟩
    have f9 : decide (m3 < 0) = false := by rw [← f8, IntKind.wrap_u64]; simp; omega
    obtain ⟨m4, g1⟩ : ∃ m, IntKind.u64.wrap (u * 4294967296) = m := ⟨_, rfl⟩
    obtain ⟨m5, g2⟩ : ∃ m, IntKind.u64.wrap (m4 + v1) = m := ⟨_, rfl⟩
    obtain ⟨m6, g3⟩ : ∃ m, IntKind.u64.wrap (q1 * Y) = m := ⟨_, rfl⟩
    have g4 : IntKind.u64.wrap (m5 - m6) = u2 := by rw [← g3, ← g2, ← g1, c3]; simp only [IntKind.wrap_u64]; omega
    have g5 : u2.tdiv y1 = q0 := by rw [Int.tdiv_eq_ediv_of_nonneg u20]; exact D.hq0
    have g5' := D.hq0
    obtain ⟨m7, g6⟩ : ∃ m, IntKind.u64.wrap (q0 * y1) = m := ⟨_, rfl⟩
    have g7 : IntKind.u64.wrap (u2 - m7) = r0 := by rw [← g6, c2, IntKind.wrap_u64, IntKind.wrap_u64]; omega
    have g8 : decide (4294967296 ≤ q0) = false := by simp; omega
    obtain ⟨m8, g9⟩ : ∃ m, IntKind.u64.wrap (4294967296 * r0) = m := ⟨_, rfl⟩
    obtain ⟨m9, i1⟩ : ∃ m, IntKind.u64.wrap (m8 + v0) = m := ⟨_, rfl⟩
    have i2 : decide (m9 < 0) = false := by rw [← i1, IntKind.wrap_u64]; simp; omega
    obtain ⟨j1, i3⟩ : ∃ m, IntKind.u64.wrap (q1 * 4294967296) = m := ⟨_, rfl⟩
    have i4 : IntKind.u64.wrap (j1 + q0) = (hi * 18446744073709551616 + lo) / d := by rw [D.end1, ← i3]; simp only [IntKind.wrap_u64]; omega
    obtain ⟨j2, i5⟩ : ∃ m, IntKind.u64.wrap (u2 * 4294967296) = m := ⟨_, rfl⟩
    obtain ⟨j3, i6⟩ : ∃ m, IntKind.u64.wrap (j2 + v0) = m := ⟨_, rfl⟩
    obtain ⟨j4, i7⟩ : ∃ m, IntKind.u64.wrap (q0 * Y) = m := ⟨_, rfl⟩
    have i8 : IntKind.u64.wrap (j3 - j4) = r0 * 4294967296 + v0 := by rw [← i7, ← i6, ← i5, c4]; simp only [IntKind.wrap_u64]; omega
    obtain ⟨R, i9⟩ : ∃ m, r0 * 4294967296 + v0 = m := ⟨_, rfl⟩
    rw [i9] at i8
    have k1 : R / 2 ^ s = (hi * 18446744073709551616 + lo) % d := by rw [D.end2, i9]
    clear i9 c1 c2 c3 c4 c5 a5 hv c6 c7 a7
    obtain ⟨aQ, hQ⟩ : ∃ m, (hi * 18446744073709551616 + lo) / d = m := ⟨_, rfl⟩
    obtain ⟨aR, hR⟩ : ∃ m, (hi * 18446744073709551616 + lo) % d = m := ⟨_, rfl⟩
    rw [hQ] at i4
    rw [hR] at k1
    rw [hQ, hR]
    clear hQ hR
    go_enter Try.func75, Try.ntmps75
    go_wp2_with (fail)
    (with_reducible refine (Lead64_c d _ hW).mono ?_)
    rintro e w' ⟨rfl, hw⟩
    subst hw
    simp only [← HS.out]
    go_wp2
    go_loop [15, 16] (fun a b => a = .int .u64 q1 ∧ b = .int .u64 r1) (fun _ _ => 0)
    case atStart => exact ⟨by rw [f3], by simp only [f3, f4, f5]⟩
    case round =>
      obtain ⟨rfl, rfl⟩ := hrel
      go_wp2
      go_loop [18, 16] (fun a b => a = .int .u64 q0 ∧ b = .int .u64 r0) (fun _ _ => 0)
      case atStart => exact ⟨rfl, rfl⟩
      case round =>
        obtain ⟨rfl, rfl⟩ := hrel
        go_wp2
        go_ret2
        exact ⟨rfl, hB⟩
end Go.Proofs.Ytiaeeclmlchpoaa

set_option linter.unusedVariables false
set_option linter.unusedSimpArgs false
namespace Go.Proofs.Ytiaeeclmlchpoaa
open Go.RowKit

theorem Vtake_len {B : Nat} {l : List Int} {k : Nat} (h : l.length ≤ k) : V B (l.take k) = V B l := by rw [List.take_of_length_le h]
/-- The sum, place by place. -/
def WpI (a b l : List Int) (n i : Nat) (cy : Int) : Prop :=
  l.length = n ∧ Dg B64 l ∧ 0 ≤ cy ∧ cy ≤ 1 ∧ V B64 l + (B64 : Int) ^ i * cy = V B64 (a.take i) + V B64 (b.take i) ∧ i ≤ n ∧ (∀ j, i ≤ j → gd l j = 0)
theorem WpI.step {a b l : List Int} {n i : Nat} {cy m q : Int} (h : WpI a b l n i cy) (hi : i < n) (hs : m + 18446744073709551616 * q = gd a i + gd b i + cy) (hm : W64 m) (hq : 0 ≤ q ∧ q ≤ 1) : WpI a b (l.set i m) n (i + 1) q := by
  obtain ⟨h1, h2, h3, h4, h5, h6, h7⟩ := h
  refine ⟨by simp [h1], h2.set _ hm.1 hm.2, hq.1, hq.2, ?_, by omega, fun j hj => by rw [gd_set_ne _ (by omega)]; exact h7 j (by omega)⟩
  rw [Vset _ _ _ (by omega), h7 i (Nat.le_refl _), Vtake, Vtake, Int.pow_succ, Int.sub_zero, B64c]
  rw [B64c] at h5
  exact carry_ring h5 hs
theorem WpI.first (a b : List Int) (n : Nat) : WpI a b (List.replicate n 0) n 0 0 := ⟨by simp, Dg.zeros (by decide) _, by omega, by omega, by simp [V_zeros, V], by omega, fun j _ => by simp [gd, List.getElem?_replicate]; split <;> rfl⟩
theorem two_pow (k : Nat) : (B64 : Int) ^ k + (B64 : Int) ^ k ≤ (B64 : Int) ^ (k + 1) := by
  rw [Int.pow_succ, B64c]
  have : (0 : Int) < 18446744073709551616 ^ k := Int.pow_pos (by omega)
  omega
theorem Vlt_pow {l : List Int} (h : Dg B64 l) {k : Nat} (hk : l.length ≤ k) : V B64 l < (B64 : Int) ^ k :=
  Int.lt_of_lt_of_le (V_lt h) (by
    have : ((B64 ^ l.length : Nat) : Int) ≤ ((B64 ^ k : Nat) : Int) := Int.ofNat_le.2 (Nat.pow_le_pow_right (by decide) hk)
    simpa only [Int.natCast_pow] using this)
theorem WpI.last {a b l : List Int} {k : Nat} {cy : Int} (h : WpI a b l (k + 1) (k + 1) cy) (ha : Dg B64 a) (hb : Dg B64 b) (la : a.length ≤ k) (lb : b.length ≤ k) : V B64 l = V B64 a + V B64 b := by
  obtain ⟨h1, h2, h3, h4, h5, h6, h7⟩ := h
  rw [Vtake_len (by omega), Vtake_len (by omega)] at h5
  have v0 := V_nonneg h2
  have va := Vlt_pow ha la
  have vb := Vlt_pow hb lb
  have tp := two_pow k
  have : cy = 0 ∨ cy = 1 := by omega
  rcases this with rfl | rfl
  · simpa using h5
  · omega

set_option maxRecDepth 100000 in
set_option maxHeartbeats 2000000 in
theorem Plus_c (x y : Nat) (v1 v2 : Value) (w : World) (h1 : IsW w v1 x) (h2 : IsW w v2 y) (sx : (digs B64 x).length ≤ 1000000000) (sy : (digs B64 y).length ≤ 1000000000) :
    Calls Try.prog 67 #[v1, v2] w fun e w' => ∃ v, e = .returned v ∧ IsW w' v (x + y) ∧ Below w.heap.size w w' := by
  obtain ⟨A1, c1, rfl, hs1⟩ := h1
  obtain ⟨A2, c2, rfl, hs2⟩ := h2
  have D1 := Lib.hid (digs_dg B64two x)
  have D2 := Lib.hid (digs_dg B64two y)
  have HR : Hid ((V B64 (digs B64 x) + V B64 (digs B64 y)).toNat = x + y) := by
    show _ = _
    rw [digs_V B64two, digs_V B64two, ← Int.natCast_add]; rfl
  generalize digs B64 x = a at *
  generalize digs B64 y = b at *
  have L1 := Lib.hid hs1
  have L2 := Lib.hid hs2
  clear hs1 hs2
  obtain ⟨m, hm⟩ : ∃ m : Nat, max (a.length : Int) b.length = m := ⟨max a.length b.length, by omega⟩
  have la : a.length ≤ m := by omega
  have lb : b.length ≤ m := by omega
  have lm : m ≤ 1000000000 := by omega
  have hmk := fun W => run_make_row' (P := Try.prog) 72 85 (.int .u64 0) 8 Try.underlying72 info_u64 rfl .i64 .i64 (m + 1) (by omega) (by omega) W
  rw [show ((m + 1 : Nat) : Int) = (m : Int) + 1 by omega] at hmk
  go_enter Try.func67, Try.ntmps67
  go_wp2
  clear hmk hm
  have HG0 := Lib.hid (BlkI.new w 85 .u64 (m + 1))
  have HB0 := Lib.hid (below_alloc (Below.refl w.heap.size w) (Obj.cells (madeCells #[Value.int IntKind.u64 0] (m + 1)) 85))
  go_loopw [6, 17] (fun cv iv wr => ∃ (i : Nat) (cy : Int) (l : List Int), iv = .int .i64 i ∧ cv = .int .u64 cy ∧ Hid (BlkI wr w.heap.size 85 .u64 l) ∧ Below w.heap.size w wr ∧ Hid (WpI a b l (m + 1) i cy)) (fun _ iv _ => (m + 1) - (intOf iv).toNat)
  case atStart => exact ⟨0, 0, _, rfl, rfl, HG0, HB0.out, WpI.first a b _⟩
  case round =>
    obtain ⟨i, cy, l, rfl, rfl, HG, HB, HI⟩ := hrel
    clear HG0 HB0
    obtain ⟨i1, i2, i3, i4, i5, i6, i7⟩ := HI.out
    have I2 := Lib.hid i2
    have I1 := Lib.hid i1
    clear i5 i7 i2
    by_cases hi : i < m + 1
    · have x1 := gdW D1.out i
      have x2 := gdW D2.out i
      have q1 := HG.out.cell (j := i) (by omega)
      have q2 := HG.out.frozen i
      have HA := Lib.hid (at_c A1 c1 a i wr (L1.out.below HB))
      have HC := Lib.hid (at_c A2 c2 b i wr (L2.out.below HB))
      have HST := Lib.hid (fun m q => HI.out.step (m := m) (q := q) hi)
      generalize gd a i = x at *
      generalize gd b i = y at *
      obtain ⟨s, hs⟩ : ∃ s, (x + y + cy) % 18446744073709551616 = s := ⟨_, rfl⟩
      obtain ⟨q, hq⟩ : ∃ q, (x + y + cy) / 18446744073709551616 = q := ⟨_, rfl⟩
      have hS := fun W => add64 x y cy x1.1 x2.1 i3 i4 W
      rw [hs, hq] at hS
      have x1' := x1.1; have x1'' := x1.2; have x2' := x2.1; have x2'' := x2.2
      replace HST := Lib.hid (HST.out s q (by omega) ⟨by omega, by omega⟩ (by omega))
      clear x1 x2 hs hq HI
      go_wp2_with (first
        | (go_at_call 81; (first | (with_reducible refine HA.out.mono ?_) | (with_reducible refine HC.out.mono ?_)); rintro e w' ⟨rfl, hw⟩; rw [hw]; clear hw w')
        | simp only [hS])
      go_roundw
      case rel => exact ⟨i + 1, _, _, by go_num, rfl, HG.out.set _ _, HB.setCell (p := ⟨_, _, none⟩) (Nat.le_refl _) _, HST.out⟩
      case measure => simp [intOf]; omega
    · obtain rfl : i = m + 1 := by omega
      have HE := Lib.hid (HI.out.last D1.out D2.out la lb)
      have HL := Lib.hid (HG.out.slI (by omega))
      have hT := wtrim_n _ _ l _ HL.out I2.out
      rw [i1] at hT
      have HT := Lib.hid hT
      clear hT HI i1
      go_wp2_with fail
      (with_reducible refine HT.out.mono ?_)
      rintro e w' ⟨v, rfl, hv, rfl⟩
      rw [HE.out, HR.out] at hv
      go_wp2
      go_ret
      exact ⟨_, rfl, hv, HB⟩
end Go.Proofs.Ytiaeeclmlchpoaa

set_option linter.unusedVariables false
set_option linter.unusedSimpArgs false
namespace Go.Proofs.Ytiaeeclmlchpoaa
open Go.RowKit

def PartI (a l : List Int) (d : Int) (k : Nat) (r : Int) : Prop :=
  l.length = a.length ∧ Dg B9 l ∧ 0 ≤ r ∧ r < d ∧ V B9 (a.drop k) = d * V B9 (l.drop k) + r ∧ k ≤ a.length
theorem Vdrop {B : Nat} (l : List Int) (i : Nat) : V B (l.drop i) = gd l i + B * V B (l.drop (i + 1)) := V_drop B l i
theorem Vset_drop {B : Nat} {l : List Int} {i : Nat} (d : Int) (h : i < l.length) : V B ((l.set i d).drop i) = d + B * V B (l.drop (i + 1)) := by
  rw [Vdrop, List.drop_set_of_lt (by omega)]
  have : gd (l.set i d) i = d := by unfold gd; simp [h]
  rw [this]
theorem part_ring {u d q r B ai x y : Int} (h : u = d * q + r) (e : d * x + y = r * B + ai) : ai + B * u = d * (x + B * q) + y := by grind
theorem PartI.step {a l : List Int} {d : Int} {k : Nat} {r : Int} (ha : Dg B9 a) (h : PartI a l d (k + 1) r) :
    PartI a (l.set k ((r * 1000000000 + gd a k) / d)) d k ((r * 1000000000 + gd a k) % d) := by
  obtain ⟨h1, h2, h3, h4, h5, h6⟩ := h
  have a1 := gd9 ha k
  have hx : 0 ≤ r * 1000000000 + gd a k := by omega
  have hq0 : 0 ≤ (r * 1000000000 + gd a k) / d := Int.ediv_nonneg hx (by omega)
  have hq1 : (r * 1000000000 + gd a k) / d < 1000000000 := Int.ediv_lt_of_lt_mul (by omega) (by
    have : r + 1 ≤ d := by omega
    have := Int.mul_le_mul_of_nonneg_right this (show (0 : Int) ≤ 1000000000 by omega)
    rw [Int.mul_comm d] at this
    rw [Int.mul_comm (1000000000 : Int) d] at this
    rw [Int.mul_comm (1000000000 : Int) d]
    omega)
  refine ⟨by simp [h1], h2.set _ hq0 (by rw [B9c]; exact hq1), Int.emod_nonneg _ (by omega), Int.emod_lt_of_pos _ (by omega), ?_, by omega⟩
  rw [Vdrop a k, Vset_drop _ (by omega), B9c]
  exact part_ring h5 (Int.mul_ediv_add_emod _ _)
theorem PartI.first (a : List Int) (d : Int) (hd : 1 ≤ d) : PartI a (List.replicate a.length 0) d a.length 0 :=
  ⟨by simp, Dg.zeros (by decide) _, by omega, by omega, by rw [List.drop_of_length_le (Nat.le_refl _), List.drop_of_length_le (by simp)]; simp [V], Nat.le_refl _⟩
theorem PartI.last {a l : List Int} {d : Int} {r : Int} (h : PartI a l d 0 r) : V B9 l = V B9 a / d ∧ r = V B9 a % d := by
  obtain ⟨h1, h2, h3, h4, h5, h6⟩ := h
  simp only [List.drop_zero] at h5
  have := (Int.ediv_emod_unique (a := V B9 a) (b := d) (r := r) (q := V B9 l) (by omega)).2 ⟨by rw [h5]; omega, h3, h4⟩
  exact ⟨this.1.symm, this.2.symm⟩
theorem len_one : (dg B9 1).length ≤ 1000000000000 := Nat.le_trans (digs_len_le (k := 1) B9two (by decide)) (by omega)
theorem neg_div0 {n d q r : Int} (hd : 1 ≤ d) (hq : q = n / d) (hr : r = n % d) (h0 : r = 0) : (-n) / d = -q ∧ (-n) % d = 0 := by
  have e := Int.mul_ediv_add_emod n d
  rw [← hq, ← hr, h0] at e
  exact (Int.ediv_emod_unique (by omega)).2 ⟨by rw [Int.mul_neg]; omega, by omega, by omega⟩
theorem neg_div1 {n d q r : Int} (hd : 1 ≤ d) (hq : q = n / d) (hr : r = n % d) (h0 : r ≠ 0) : (-n) / d = -(q + 1) ∧ (-n) % d = d - r := by
  have e := Int.mul_ediv_add_emod n d
  have e1 := Int.emod_nonneg n (show d ≠ 0 by omega)
  have e2 := Int.emod_lt_of_pos n (show 0 < d by omega)
  rw [← hq, ← hr] at e
  exact (Int.ediv_emod_unique (by omega)).2 ⟨by rw [Int.mul_neg, Int.mul_add]; omega, by omega, by omega⟩
def S1 (W : World) (n : Nat) (na : Bool) (sa : Value) : Prop := W.cell? ⟨n, 0, none⟩ = some (.bool na) ∧ W.cell? ⟨n, 1, none⟩ = some sa
theorem S1.keepB {B n : Nat} {W w1 : World} {na : Bool} {sa : Value} (h : S1 W n na sa) (hb : Below B W w1) (hl : n < B) : S1 w1 n na sa := ⟨kcellB hb hl h.1, kcellB hb hl h.2⟩
theorem S1.keep {n : Nat} {W w1 : World} {na : Bool} {sa : Value} (h : S1 W n na sa) (hb : Below W.heap.size W w1) (hl : n < W.heap.size) : S1 w1 n na sa := h.keepB hb hl
theorem S1.set {n b o : Nat} {W : World} {na : Bool} {sa u : Value} (h : S1 W n na sa) (hne : b ≠ n) : S1 (W.setCell ⟨b, o, none⟩ u) n na sa :=
  ⟨(World.cell?_setCell_other _ _ _ _ (by simp [hne])).trans h.1, (World.cell?_setCell_other _ _ _ _ (by simp [hne])).trans h.2⟩
theorem S1.drew {n : Nat} {W : World} {na : Bool} {sa : Value} (h : S1 W n na sa) : S1 W.drew n na sa := h
theorem startP (w : World) (na : Bool) (sa : Value) (t : TypeId) (W : World) (hW : (w.alloc (.cells #[.bool na, sa] t)).alloc (.cells #[.bool false, .slice none 0 0] t) = W) :
    S1 W w.heap.size na sa ∧ Res2 W (w.heap.size + 1) ∧ W.heap.size = w.heap.size + 2 ∧ Below w.heap.size w W := by
  subst hW
  refine ⟨⟨?_, ?_⟩, ⟨⟨false, ?_⟩, ⟨none, 0, 0, ?_⟩, ?_, ?_, ?_⟩, ?_, below_alloc (below_alloc (Below.refl _ _) _) _⟩ <;> simp [go_sem]

set_option maxRecDepth 100000 in
set_option maxHeartbeats 2000000 in
theorem Part_c (z d : Int) (v : Value) (w : World) (h : IsN w v z) (hd1 : 1 ≤ d) (hd2 : d ≤ 2147483647) (sz : (dg B9 z).length ≤ 1000000000) :
    Calls Try.prog 47 #[v, .int .i64 d] w fun e w' => ∃ v', e = .returned (.tuple #[v', .int .i64 (z % d)]) ∧ IsN w' v' (z / d) ∧ Below w.heap.size w w' := by
  obtain ⟨A, c, rfl, hs⟩ := h
  have hc1 := hs.2.1
  have hc2 := hs.2.2
  have D1 := Lib.hid (dg_dg B9two z)
  have V1 := Lib.hid (dg_V B9two z)
  generalize dg B9 z = a at *
  obtain ⟨na, hna⟩ : ∃ na, decide (z < 0) = na := ⟨_, rfl⟩
  rw [hna]
  have HNA := Lib.hid hna
  clear hna
  have L1 := Lib.hid hs
  clear hs
  have hmk := fun W => run_make_row' (P := Try.prog) 26 3 (.int .i64 0) 8 Try.underlying26 info_i64 rfl .i64 .i64 a.length (by omega) (by omega) W
  go_enter Try.func47, Try.ntmps47
  go_wp2
  generalize hW : (w.alloc (Obj.cells #[Value.bool na, Value.slice A a.length c] 28)).alloc _ = W
  obtain ⟨hS, HR2, hWs, HBW⟩ := startP w _ _ _ W hW
  clear hW hmk
  have HS := Lib.hid hS
  clear hS
  have hWs' : w.heap.size + 1 + 1 = W.heap.size := by omega
  rw [hWs']
  have hn2 : w.heap.size + 1 < W.heap.size := by omega
  clear hWs' hWs
  replace L1 := Lib.hid (L1.out.below HBW)
  have HG0 := Lib.hid (BlkI.new W 3 .i64 a.length)
  have HB0 := Lib.hid (below_alloc (Below.refl W.heap.size W) (Obj.cells (madeCells #[Value.int IntKind.i64 0] a.length) 3))
  go_loopw [7, 8] (fun rv iv wr => ∃ (k : Nat) (r : Int) (l : List Int), iv = .int .i64 ((k : Int) - 1) ∧ rv = .int .i64 r ∧ Hid (BlkI wr W.heap.size 3 .i64 l) ∧ Below W.heap.size W wr ∧ Hid (PartI a l d k r)) (fun _ iv _ => (intOf iv + 1).toNat)
  case atStart => exact ⟨a.length, 0, _, rfl, rfl, HG0, HB0.out, PartI.first a d hd1⟩
  case round =>
    obtain ⟨k, r, l, rfl, rfl, HG, HB, HI⟩ := hrel
    clear HG0 HB0
    obtain ⟨i1, i2, i3, i4, i5, i6⟩ := HI.out
    have I1 := Lib.hid i1
    have I2 := Lib.hid i2
    clear i5 i1 i2
    obtain ⟨s1, s2⟩ := HS.out.keepB HB (by omega)
    rcases Nat.eq_zero_or_pos k with rfl | hk0
    · obtain ⟨E1, E2⟩ := HI.out.last
      have hll : a.length = l.length := I1.out.symm
      have HL := Lib.hid (HG.out.slI (by have := I1.out; omega))
      have E1' := Lib.hid E1
      have E2' := Lib.hid E2
      have HR3 := HR2.keep HB
      have HS3 : Hid (S1 wr w.heap.size na (.slice A a.length c)) := ⟨s1, s2⟩
      clear E1 E2 HI i6 s1 s2
      rw [hll]
      go_wp2_with fail
      (with_reducible refine (trim_n false _ _ l _ HL.out I2.out).mono ?_)
      rintro e w2 ⟨v, rfl, hv, hb2⟩
      obtain ⟨nq, Aq, nn, cq, rfl, HV⟩ := hv.form
      clear hv
      have HR5 := Lib.hid (HR3.keep hb2)
      obtain ⟨⟨u1, r1⟩, ⟨u2, u3, u4, r2⟩, r3, r4, r5⟩ := HR5.out
      obtain ⟨t1, t2⟩ := HS3.out.keep hb2 (by have := HB.size; omega)
      have hz2 : w.heap.size < w2.heap.size := by omega
      have HQ := Lib.hid (HV.out.below (below_alloc (Below.refl _ _) (Obj.cells #[Value.bool nq, Value.slice Aq nn cq] 28)))
      have HR6 := Lib.hid (HR5.out.keep (below_alloc (Below.refl _ _) (Obj.cells #[Value.bool nq, Value.slice Aq nn cq] 28)))
      have HB6 : Below w.heap.size w (w2.alloc (Obj.cells #[Value.bool nq, Value.slice Aq nn cq] 28)) := below_alloc (below_step (below_step HBW HB) hb2) _
      cases na
      · have hz : 0 ≤ z := by have := HNA.out; simpa using this
        have HF : Hid (sgnd false (V B9 l) = z / d ∧ r = z % d) := by
          have e : ((z.natAbs : Nat) : Int) = z := by omega
          show _ ∧ _
          rw [E1'.out, E2'.out, V1.out, e]
          exact ⟨rfl, rfl⟩
        clear hz
        go_wp2
        refine bodyPost_ret (v := .tuple #[.agg #[.bool nq, .slice Aq nn cq], .int .i64 r]) (by simp [results, Try.results47, go_sem, r1, r2, r5]) rfl ⟨_, by rw [← HF.out.2], ?_, ?_⟩
        · rw [← HF.out.1]
          exact (HV.out.res2 HR5.out _ _).below (below_alloc (Below.refl _ _) _)
        · exact below_alloc (below_set (below_set (below_step (below_step HBW HB) hb2) (by omega) _) (by omega) _) _
      · have hz : z < 0 := by have := HNA.out; simpa using this
        have hzn : Hid (z = -(V B9 a)) := by show _ = _; rw [V1.out]; omega
        clear hz
        by_cases hr : r = 0
        · have hrb : (r == 0) = true := by simpa using hr
          have HF : Hid (-(V B9 l) = z / d ∧ 0 = z % d) := by
            obtain ⟨f1, f2⟩ := neg_div0 hd1 E1'.out E2'.out hr
            show _ ∧ _
            rw [hzn.out]; exact ⟨f1.symm, f2.symm⟩
          clear hr
          go_wp2_with (go_at_call 62; (with_reducible refine (Minus_c _ _ _ HQ.out).mono ?_); rintro e w3 ⟨v, rfl, hv, hb3⟩; obtain ⟨nq2, Aq2, nn2, cq2, rfl, HV2⟩ := hv.form; clear hv; have HR7 := Lib.hid (HR6.out.keep hb3); obtain ⟨⟨x1, y1⟩, ⟨x2, x3, x4, y2⟩, y3, y4, y5⟩ := HR7.out)
          refine bodyPost_ret (v := .tuple #[.agg #[.bool nq2, .slice Aq2 nn2 cq2], .int .i64 0]) (by simp [results, Try.results47, go_sem, y1, y2, y5]) rfl ⟨_, by rw [← HF.out.2], ?_, ?_⟩
          · rw [← HF.out.1]
            exact HV2.out.res2 HR7.out _ _
          · exact below_set (below_set (below_step HB6 hb3) (by omega) _) (by omega) _
        · have hrb : (r == 0) = false := by simpa using hr
          have HF : Hid (-(V B9 l + 1) = z / d ∧ d - r = z % d) := by
            obtain ⟨f1, f2⟩ := neg_div1 hd1 E1'.out E2'.out hr
            show _ ∧ _
            rw [hzn.out]; exact ⟨f1.symm, f2.symm⟩
          have hr1 : 0 ≤ r := i3
          have hr2 : r < d := i4
          clear hr
          have SQ : Hid ((dg B9 (sgnd false (V B9 l))).length ≤ 1000000000000) := by
            show _ ≤ _
            obtain ⟨A9, c9, e9, h9⟩ := HV.out
            injection e9 with e9
            have := h9.2.1
            unfold dg
            rw [sgnd_abs]
            have h1 := V_lt I2.out
            have h0 := V_nonneg I2.out
            have : (V B9 l).natAbs < B9 ^ l.length := by
              have : ((B9 ^ l.length : Nat) : Int) = (B9 : Int) ^ l.length := by rw [Int.natCast_pow]
              omega
            have := digs_len_le B9two this
            have := I1.out
            omega
          go_wp2
          generalize hW3 : w2.alloc (Obj.cells #[Value.bool nq, Value.slice Aq nn cq] 28) = W3 at HQ HR6 HB6 ⊢
          have c0 : W3.cell? ⟨w2.heap.size, 0, none⟩ = some (.bool nq) := by subst hW3; simp [go_sem]
          have c1 : W3.cell? ⟨w2.heap.size, 1, none⟩ = some (.slice Aq nn cq) := by subst hW3; simp [go_sem]
          have c2 : w2.heap.size < W3.heap.size := by subst hW3; simp
          clear hW3
          have HSq : S1 W3 w2.heap.size nq (.slice Aq nn cq) := ⟨c0, c1⟩
          have hz3 : w.heap.size + 1 < w2.heap.size := r5
          have e9 := IntWalk.i64_in (d - r) (by omega)
          go_region_held3 (fun w' => w'.cell? ⟨w2.heap.size, 0, none⟩ = some (.bool nq) ∧ w'.cell? ⟨w2.heap.size, 1, none⟩ = some (.slice Aq nn cq))
            (first | exact HSq | exact HSq.drew.keep hb4 c2 | exact (HSq.drew.keep hb4 c2).keep hb5 (Nat.lt_of_lt_of_le c2 hb4.size) | exact ((HSq.drew.keep hb4 c2).keep hb5 (Nat.lt_of_lt_of_le c2 hb4.size)).keep hb6 (Nat.lt_of_lt_of_le (Nat.lt_of_lt_of_le c2 hb4.size) hb5.size) | exact ((((HSq.drew.keep hb4 c2).keep hb5 (Nat.lt_of_lt_of_le c2 hb4.size)).keep hb6 (Nat.lt_of_lt_of_le (Nat.lt_of_lt_of_le c2 hb4.size) hb5.size)).set (Nat.ne_of_lt hz3)).set (Nat.ne_of_lt hz3))
            (first
              | (go_at_call 28; (with_reducible refine (Of_c 1 _ (by omega) (by omega)).mono ?_); rintro e w4 ⟨v, rfl, hv, hb4⟩; obtain ⟨n4, A4, m4, k4, rfl, HV4⟩ := hv.form; clear hv)
              | (go_at_call 27; (with_reducible refine (Add_c _ 1 _ _ _ (by exact HQ.out.below (by repeat (with_reducible first | assumption | exact Below.refl _ _ | apply below_drew | apply below_drewN | apply below_alloc | refine below_step ?_ (by assumption)))) HV4.out SQ.out len_one).mono ?_); rintro e w5 ⟨v, rfl, hv, hb5⟩; obtain ⟨n5, A5, m5, k5, rfl, HV5⟩ := hv.form; clear hv)
              | (go_at_call 62; (with_reducible refine (Minus_c _ _ _ HV5.out).mono ?_); rintro e w6 ⟨v, rfl, hv, hb6⟩; obtain ⟨n6, A6, m6, k6, rfl, HV6⟩ := hv.form; clear hv; have HR7 := Lib.hid (((HR6.out.drew.keep hb4).keep hb5).keep hb6); obtain ⟨⟨x1, y1⟩, ⟨x2, x3, x4, y2⟩, y3, y4, y5⟩ := HR7.out))
          clear e9
          go_wp2
          refine bodyPost_ret (v := .tuple #[.agg #[.bool n6, .slice A6 m6 k6], .int .i64 (d - r)]) (by simp [results, Try.results47, go_sem, y1, y2, y5]) rfl ⟨_, by rw [← HF.out.2], ?_, ?_⟩
          · rw [← HF.out.1]
            exact HV6.out.res2 HR7.out _ _
          · exact below_set (below_set (below_step (below_step (below_step (below_drew HB6) hb4) hb5) hb6) (by omega) _) (by omega) _
    · obtain ⟨m, rfl⟩ : ∃ m, k = m + 1 := ⟨k - 1, by omega⟩
      have HST := Lib.hid (HI.out.step D1.out)
      have a1 := gd9 D1.out m
      obtain ⟨a1, a2⟩ := a1
      have hm : m < l.length := by have := I1.out; omega
      have hm2 : m < a.length := by omega
      have q1 := HG.out.cell (j := m) hm
      have q2 := HG.out.frozen m
      obtain ⟨ba, oa, rfl, hla, hca⟩ := (L1.out.below HB).cell (j := m) hm2
      clear HI hm
      go_wp2
      go_roundw
      case rel => exact ⟨m, _, _, by go_num, rfl, HG.out.set _ _, HB.setCell (p := ⟨_, _, none⟩) (Nat.le_refl _) _, HST.out⟩
      case measure => simp [intOf]
end Go.Proofs.Ytiaeeclmlchpoaa

set_option linter.unusedVariables false
set_option linter.unusedSimpArgs false
namespace Go.Proofs.Ytiaeeclmlchpoaa
open Go.RowKit

theorem cell_set_ne {w : World} {b o b' o' : Nat} {u v : Value} (h : w.cell? ⟨b, o, none⟩ = some v) (hne : b ≠ b') : (w.setCell ⟨b', o', none⟩ u).cell? ⟨b, o, none⟩ = some v := by
  rw [World.cell?_setCell_other _ _ _ _ (by intro e; injection e with e; exact hne e.symm)]
  exact h
theorem bor_01 (x y : Int) : bor x y = 0 ∨ bor x y = 1 := by unfold bor; split <;> omega
theorem bor_eq {x y : Int} (hx : W64 x) (hy : W64 y) {b : Int} (hb : 0 ≤ b ∧ b ≤ 1) : (x - y - b) % 18446744073709551616 = x - y - b + 18446744073709551616 * bor x (y + b) := by
  unfold bor; obtain ⟨h1, h2⟩ := hx; obtain ⟨h3, h4⟩ := hy; split <;> omega
/-- The difference, place by place. -/
def WsI (a b l : List Int) (i : Nat) (cy : Int) : Prop :=
  l.length = a.length ∧ Dg B64 l ∧ 0 ≤ cy ∧ cy ≤ 1 ∧ V B64 l = V B64 (a.take i) - V B64 (b.take i) + (B64 : Int) ^ i * cy ∧ i ≤ a.length ∧ (∀ j, i ≤ j → gd l j = 0)
theorem WsI.step {a b l : List Int} {i : Nat} {cy m q : Int} (h : WsI a b l i cy) (hi : i < a.length) (hs : m = gd a i - gd b i - cy + 18446744073709551616 * q) (hm : W64 m) (hq : 0 ≤ q ∧ q ≤ 1) : WsI a b (l.set i m) (i + 1) q := by
  obtain ⟨h1, h2, h3, h4, h5, h6, h7⟩ := h
  refine ⟨by simp [h1], h2.set _ hm.1 hm.2, hq.1, hq.2, ?_, by omega, fun j hj => by rw [gd_set_ne _ (by omega)]; exact h7 j (by omega)⟩
  rw [Vset _ _ _ (by omega), h7 i (Nat.le_refl _), Vtake, Vtake, Int.pow_succ, Int.sub_zero, B64c]
  rw [B64c] at h5
  exact borrow_ring h5 hs
theorem WsI.first (a b : List Int) : WsI a b (List.replicate a.length 0) 0 0 := ⟨by simp, Dg.zeros (by decide) _, by omega, by omega, by simp [V_zeros, V], by omega, fun j _ => by simp [gd, List.getElem?_replicate]; split <;> rfl⟩
theorem WsI.last {a b l : List Int} {cy : Int} (h : WsI a b l a.length cy) (ha : Dg B64 a) (hb : Dg B64 b) (lb : b.length ≤ a.length) (hle : V B64 b ≤ V B64 a) : V B64 l = V B64 a - V B64 b := by
  obtain ⟨h1, h2, h3, h4, h5, h6, h7⟩ := h
  rw [Vtake_len (Nat.le_refl _), Vtake_len lb] at h5
  have v1 := V_lt h2
  rw [h1] at v1
  have : cy = 0 ∨ cy = 1 := by omega
  rcases this with rfl | rfl
  · simpa using h5
  · omega

set_option maxRecDepth 100000 in
set_option maxHeartbeats 2000000 in
theorem wMinus_c (x y : Nat) (v1 v2 : Value) (w : World) (h1 : IsW w v1 x) (h2 : IsW w v2 y) (sx : (digs B64 x).length ≤ 1000000000) (hxy : y ≤ x) :
    Calls Try.prog 88 #[v1, v2] w fun e w' => ∃ v, e = .returned v ∧ IsW w' v (x - y) ∧ Below w.heap.size w w' := by
  obtain ⟨A1, c1, rfl, hs1⟩ := h1
  obtain ⟨A2, c2, rfl, hs2⟩ := h2
  have D1 := Lib.hid (digs_dg B64two x)
  have D2 := Lib.hid (digs_dg B64two y)
  have lab : (digs B64 y).length ≤ (digs B64 x).length := digs_len_mono B64two hxy
  have HLE : Hid (V B64 (digs B64 y) ≤ V B64 (digs B64 x)) := by show _ ≤ _; rw [digs_V B64two, digs_V B64two]; omega
  have HR : Hid ((V B64 (digs B64 x) - V B64 (digs B64 y)).toNat = x - y) := by
    show _ = _
    rw [digs_V B64two, digs_V B64two]; omega
  generalize digs B64 x = a at *
  generalize digs B64 y = b at *
  have L1 := Lib.hid hs1
  have L2 := Lib.hid hs2
  clear hs1 hs2 hxy
  have hmk := fun W => run_make_row' (P := Try.prog) 72 85 (.int .u64 0) 8 Try.underlying72 info_u64 rfl .i64 .i64 a.length (by omega) (by omega) W
  go_enter Try.func88, Try.ntmps88
  go_wp2
  clear hmk
  have HG0 := Lib.hid (BlkI.new w 85 .u64 a.length)
  have HB0 := Lib.hid (below_alloc (Below.refl w.heap.size w) (Obj.cells (madeCells #[Value.int IntKind.u64 0] a.length) 85))
  go_loopw [6, 13] (fun cv iv wr => ∃ (i : Nat) (cy : Int) (l : List Int), iv = .int .i64 i ∧ cv = .int .u64 cy ∧ Hid (BlkI wr w.heap.size 85 .u64 l) ∧ Below w.heap.size w wr ∧ Hid (WsI a b l i cy)) (fun _ iv _ => a.length - (intOf iv).toNat)
  case atStart => exact ⟨0, 0, _, rfl, rfl, HG0, HB0.out, WsI.first a b⟩
  case round =>
    obtain ⟨i, cy, l, rfl, rfl, HG, HB, HI⟩ := hrel
    clear HG0 HB0
    obtain ⟨i1, i2, i3, i4, i5, i6, i7⟩ := HI.out
    have I2 := Lib.hid i2
    clear i5 i7 i2
    by_cases hi : i < a.length
    · have x1 := gdW D1.out i
      have x2 := gdW D2.out i
      have q1 := HG.out.cell (j := i) (by omega)
      have q2 := HG.out.frozen i
      obtain ⟨ba, oa, rfl, hla, hca⟩ := (L1.out.below HB).cell (j := i) hi
      obtain ⟨_, _, he, hla2, _⟩ := L1.out.cell (j := i) hi
      obtain ⟨rfl, rfl⟩ : ba = _ ∧ oa = _ := by simpa using he
      clear he
      have hne : ba ≠ w.heap.size := by omega
      have HC := Lib.hid (at_c A2 c2 b i wr.drew (L2.out.below (below_drew HB)))
      have HST := Lib.hid (fun m q => HI.out.step (m := m) (q := q) hi)
      generalize gd a i = x at *
      generalize gd b i = y at *
      have hb := bor_eq x1 x2 ⟨i3, i4⟩
      have hb1 := bor_01 x (y + cy)
      obtain ⟨s, hs⟩ : ∃ s, (x - y - cy) % 18446744073709551616 = s := ⟨_, rfl⟩
      obtain ⟨q, hq⟩ : ∃ q, bor x (y + cy) = q := ⟨_, rfl⟩
      have hS := fun W => sub64 x y cy x1.1 x2.1 x2.2 i3 i4 W
      rw [hs, hq] at hS
      rw [hs, hq] at hb
      rw [hq] at hb1
      replace HST := Lib.hid (HST.out s q hb ⟨by omega, by omega⟩ (by omega))
      clear x1 x2 hs hq HI hb hb1
      go_wp2
      go_region_held3 (fun w' => w'.cell? ⟨ba, oa + i, none⟩ = some (.int .u64 x))
        (first | exact hca | exact cell_set_ne hca hne)
        (first
          | (go_at_call 81; (with_reducible refine HC.out.mono ?_); rintro e w' ⟨rfl, hw⟩; rw [hw]; clear hw w')
          | simp only [hS])
      go_wp2
      go_roundw
      case rel => exact ⟨i + 1, _, _, by go_num, rfl, HG.out.drew.set _ _, (below_drew HB).setCell (p := ⟨_, _, none⟩) (Nat.le_refl _) _, HST.out⟩
      case measure => simp [intOf]; omega
    · obtain rfl : i = a.length := by omega
      have HE := Lib.hid (HI.out.last D1.out D2.out lab HLE.out)
      have HL := Lib.hid (HG.out.slI (by omega))
      have hT := wtrim_n _ _ l _ HL.out I2.out
      rw [i1] at hT
      have HT := Lib.hid hT
      clear hT HI i1
      go_wp2_with fail
      (with_reducible refine HT.out.mono ?_)
      rintro e w' ⟨v, rfl, hv, rfl⟩
      rw [HE.out, HR.out] at hv
      go_wp2
      go_ret
      exact ⟨_, rfl, hv, HB⟩

theorem V_sp {B : Nat} (l : List Int) (i : Nat) : V B l = V B (l.take i) + (B : Int) ^ i * V B (l.drop i) := by
  by_cases h : i ≤ l.length
  · exact V_split B l i h
  · rw [List.take_of_length_le (by omega), List.drop_of_length_le (by omega)]; simp [V]
theorem cmp_ring {ta x r B : Int} : ta + B * (x + 18446744073709551616 * r) = ta + B * x + B * (18446744073709551616 * r) := by grind
theorem cmp_at {a b : List Int} {i : Nat} (ha : Dg B64 a) (hb : Dg B64 b) (he : V B64 (a.drop (i + 1)) = V B64 (b.drop (i + 1))) (h : gd a i < gd b i) : V B64 a < V B64 b := by
  rw [V_sp a i, V_sp b i, Vdrop a, Vdrop b, he]
  have h1 := Vlt_pow (ha.take i) (k := i) (by rw [List.length_take]; omega)
  have h2 := V_nonneg (hb.take i)
  have h3 : (B64 : Int) ^ i * (gd a i + 1) ≤ (B64 : Int) ^ i * gd b i := Int.mul_le_mul_of_nonneg_left (by omega) (Int.pow_nonneg (by rw [B64c]; omega))
  rw [Int.mul_add, Int.mul_one] at h3
  rw [Int.mul_add, Int.mul_add]
  omega
set_option maxRecDepth 100000 in
set_option maxHeartbeats 2000000 in
theorem Compare_c (x y : Nat) (v1 v2 : Value) (w : World) (h1 : IsW w v1 x) (h2 : IsW w v2 y) :
    Calls Try.prog 73 #[v1, v2] w fun e w' => e = .returned (.int .i64 (icmp x y)) ∧ w' = w := by
  obtain ⟨A1, c1, rfl, hs1⟩ := h1
  obtain ⟨A2, c2, rfl, hs2⟩ := h2
  have D1 := Lib.hid (digs_dg B64two x)
  have D2 := Lib.hid (digs_dg B64two y)
  have E1 := Lib.hid (digs_V B64two x)
  have E2 := Lib.hid (digs_V B64two y)
  generalize digs B64 x = a at *
  generalize digs B64 y = b at *
  have l1 := hs1.2.1; have l2 := hs1.2.2; have l3 := hs2.2.1; have l4 := hs2.2.2
  obtain ⟨m, hm⟩ : ∃ m : Nat, max (a.length : Int) b.length = m := ⟨max a.length b.length, by omega⟩
  have la : a.length ≤ m := by omega
  have lb : b.length ≤ m := by omega
  have lm : m ≤ 9223372036854775807 := by omega
  go_enter Try.func73, Try.ntmps73
  go_wp2
  clear hm
  go_loop [5] (fun iv => ∃ k : Nat, iv = .int .i64 ((k : Int) - 1) ∧ k ≤ m ∧ V B64 (a.drop k) = V B64 (b.drop k)) (fun iv => (intOf iv + 1).toNat)
  case atStart => exact ⟨m, rfl, Nat.le_refl _, by rw [List.drop_of_length_le la, List.drop_of_length_le lb]⟩
  case round =>
    obtain ⟨k, rfl, hk, he⟩ := hrel
    have HE := Lib.hid he
    clear he
    rcases Nat.eq_zero_or_pos k with rfl | hk0
    · have HZ : Hid (icmp x y = 0) := by
        have := HE.out; simp only [List.drop_zero] at this
        show _ = _; unfold icmp; rw [← E1.out, ← E2.out, this]; simp
      go_wp2
      go_ret
      exact ⟨by rw [HZ.out]; rfl, rfl⟩
    · obtain ⟨k, rfl⟩ : ∃ j, k = j + 1 := ⟨k - 1, by omega⟩
      rw [show ((k + 1 : Nat) : Int) - 1 = (k : Int) by omega]
      have HA := Lib.hid (at_c A1 c1 a k w hs1)
      have HC := Lib.hid (at_c A2 c2 b k w hs2)
      have HLT := Lib.hid (fun h => cmp_at (i := k) D1.out D2.out HE.out h)
      have HGT := Lib.hid (fun h => cmp_at (i := k) D2.out D1.out HE.out.symm h)
      have HEQ : Hid (gd a k = gd b k → V B64 (a.drop k) = V B64 (b.drop k)) := fun h => by rw [Vdrop a k, Vdrop b k, h, HE.out]
      generalize gd a k = p at *
      generalize gd b k = q at *
      rcases Int.lt_trichotomy p q with h | h | h
      · have t1 : decide (p < q) = true := by simpa using h
        have HZ : Hid (icmp x y = -1) := by have := HLT.out h; rw [E1.out, E2.out] at this; show _ = _; unfold icmp; rw [if_pos this]
        clear h
        go_wp2_with (go_at_call 81; (first | (with_reducible refine HA.out.mono ?_) | (with_reducible refine HC.out.mono ?_)); rintro e w' ⟨rfl, hw⟩; rw [hw]; clear hw w')
        go_ret
        exact ⟨by rw [HZ.out]; rfl, rfl⟩
      · have t1 : decide (p < q) = false := by simp; omega
        have t2 : decide (q < p) = false := by simp; omega
        have HZ := Lib.hid (HEQ.out h)
        clear h
        go_wp2_with (go_at_call 81; (first | (with_reducible refine HA.out.mono ?_) | (with_reducible refine HC.out.mono ?_)); rintro e w' ⟨rfl, hw⟩; rw [hw]; clear hw w')
        go_round
        case rel => exact ⟨k, by go_num, by omega, HZ.out⟩
        case measure => simp [intOf]
      · have t1 : decide (p < q) = false := by simp; omega
        have t2 : decide (q < p) = true := by simpa using h
        have HZ : Hid (icmp x y = 1) := by have := HGT.out h; rw [E1.out, E2.out] at this; show _ = _; unfold icmp; rw [if_neg (by omega), if_pos this]
        clear h
        go_wp2_with (go_at_call 81; (first | (with_reducible refine HA.out.mono ?_) | (with_reducible refine HC.out.mono ?_)); rintro e w' ⟨rfl, hw⟩; rw [hw]; clear hw w')
        go_ret
        exact ⟨by rw [HZ.out]; rfl, rfl⟩
end Go.Proofs.Ytiaeeclmlchpoaa

set_option linter.unusedVariables false
set_option linter.unusedSimpArgs false
namespace Go.Proofs.Ytiaeeclmlchpoaa

/-- The codes of a string's bytes. -/
def codes (s : ByteArray) : List Int := s.data.toList.map fun c => (c.toNat : Int)
def mkS (l : List Int) : ByteArray := ⟨(l.map fun n => UInt8.ofNat n.toNat).toArray⟩
theorem codes_length (s : ByteArray) : (codes s).length = s.size := by unfold codes; rw [List.length_map, Array.length_toList]; rfl
theorem codes_inj {s t : ByteArray} (h : codes s = codes t) : s = t := by
  have : s.data.toList = t.data.toList := by
    unfold codes at h
    refine (List.map_inj_right ?_).1 h
    intro a b hab
    exact UInt8.toNat_inj.1 (by omega)
  cases s; cases t
  congr
  exact Array.toList_inj.1 this
theorem codes_gd {s : ByteArray} {i : Nat} (h : i < s.size) : ((s[i]'h).toNat : Int) = gd (codes s) i := by
  rw [gd_lt (by rw [codes_length]; exact h)]
  unfold codes
  rw [List.getElem_map]
  rfl
theorem codes_range (s : ByteArray) : ∀ n ∈ codes s, 0 ≤ n ∧ n < 256 := by
  intro n hn
  unfold codes at hn
  obtain ⟨c, _, rfl⟩ := List.mem_map.1 hn
  have := c.toNat_lt
  omega
theorem codes_mk {l : List Int} (h : ∀ n ∈ l, 0 ≤ n ∧ n < 256) : codes (mkS l) = l := by
  unfold codes mkS
  simp only [List.map_map]
  conv => rhs; rw [← List.map_id l]
  apply List.map_congr_left
  intro n hn
  have := h n hn
  simp
  omega
theorem mkS_size (l : List Int) : (mkS l).size = l.length := by unfold mkS; simp [ByteArray.size]

/-- The decimal digits of a natural number, as codes, the highest first. -/
def txN (n : Nat) : List Int := if n = 0 then [48] else ((digs 10 n).map (· + 48)).reverse
/-- A number as codes. -/
def tx (z : Int) : List Int := (if z < 0 then [45] else []) ++ txN z.natAbs
def tS (z : Int) : ByteArray := mkS (tx z)
theorem txN_range (n : Nat) : ∀ c ∈ txN n, 48 ≤ c ∧ c ≤ 57 := by
  unfold txN
  split
  · simp
  · intro c hc
    simp only [List.mem_reverse, List.mem_map] at hc
    obtain ⟨d, hd, rfl⟩ := hc
    have : 0 ≤ d ∧ d < ((10 : Nat) : Int) := digs_dg (B := 10) (by omega) n d hd
    omega
theorem tx_range (z : Int) : ∀ c ∈ tx z, 0 ≤ c ∧ c < 256 := by
  intro c hc
  unfold tx at hc
  rw [List.mem_append] at hc
  rcases hc with hc | hc
  · split at hc <;> simp at hc; omega
  · have := txN_range _ c hc; omega
theorem codes_tS (z : Int) : codes (tS z) = tx z := codes_mk (tx_range z)
theorem txN_length {n : Nat} (h : 0 < n) : (txN n).length = (digs 10 n).length := by unfold txN; rw [if_neg (by omega)]; simp
theorem txN_ne (n : Nat) : txN n ≠ [] := by
  unfold txN
  split
  · simp
  · rename_i h
    rw [digs_pos (by omega) (by omega)]
    simp
theorem txN_head {n : Nat} (h : 0 < n) : (txN n).head? ≠ some 48 := by
  unfold txN
  rw [if_neg (by omega), List.head?_reverse]
  intro he
  rw [List.getLast?_map] at he
  obtain ⟨d, hd, hd2⟩ := Option.map_eq_some_iff.1 he
  have : d = 0 := by omega
  subst this
  exact digs_nm (B := 10) (by omega) n hd
/-- The number of digits, 1 for 0. -/
def dlN (n : Nat) : Nat := (txN n).length
theorem dlN_pos (n : Nat) : 0 < dlN n := List.length_pos_iff.2 (txN_ne n)

/-- What is written without the sign. -/
def strip (l : List Int) : List Int := if l.head? = some 45 then l.tail else l
/-- Is it a number of at most 2000 digits? -/
def vldL (l : List Int) : Bool :=
  decide (1 ≤ (strip l).length) && decide ((strip l).length ≤ 2000) && !(decide ((strip l).head? = some 48) && decide (1 < l.length)) && (strip l).all fun c => decide (48 ≤ c ∧ c ≤ 57)
theorem digits_of {r : List Int} (hr : r ≠ []) (h : ∀ c ∈ r, 48 ≤ c ∧ c ≤ 57) (h0 : r.head? ≠ some 48) : ∃ n : Nat, 0 < n ∧ r = txN n := by
  have hd : Dg 10 (r.reverse.map (· - 48)) := by
    intro d hd
    simp only [List.mem_map, List.mem_reverse] at hd
    obtain ⟨c, hc, rfl⟩ := hd
    have := h c hc
    omega
  have hn : Nm (r.reverse.map (· - 48)) := by
    unfold Nm
    rw [List.getLast?_map, List.getLast?_reverse]
    intro he
    obtain ⟨c, hc, hc2⟩ := Option.map_eq_some_iff.1 he
    exact h0 (by rw [hc]; congr 1; omega)
  have hv := V_nonneg hd
  have e := digs_unique (B := 10) (by omega) _ hd hn
  have hpos : 0 < (V 10 (r.reverse.map (· - 48))).toNat := by
    rcases Nat.eq_zero_or_pos (V 10 (r.reverse.map (· - 48))).toNat with h1 | h1
    · rw [h1, digs_zero] at e
      simp at e
      exact absurd e hr
    · exact h1
  refine ⟨(V 10 (r.reverse.map (· - 48))).toNat, hpos, ?_⟩
  unfold txN
  rw [if_neg (by omega), ← e, List.map_map]
  have : (r.reverse.map ((fun x => x + 48) ∘ fun x => x - 48)) = r.reverse := by
    conv => rhs; rw [← List.map_id r.reverse]
    apply List.map_congr_left
    intro c _
    simp
  rw [this, List.reverse_reverse]
theorem strip_tx (z : Int) : strip (tx z) = txN z.natAbs := by
  unfold tx strip
  by_cases h : z < 0
  · simp [h]
  · simp only [h, if_false, List.nil_append]
    rw [if_neg]
    intro he
    have := txN_range z.natAbs 45 (List.mem_of_mem_head? he)
    omega
theorem tx_neg {z : Int} : (tx z).head? = some 45 ↔ z < 0 := by
  unfold tx
  by_cases h : z < 0
  · simp [h]
  · simp only [h, if_false, List.nil_append, iff_false]
    intro he
    have := txN_range z.natAbs 45 (List.mem_of_mem_head? he)
    omega
theorem vld_tx (z : Int) (h : dlN z.natAbs ≤ 2000) : vldL (tx z) = true := by
  unfold vldL
  rw [strip_tx]
  have h1 := dlN_pos z.natAbs
  unfold dlN at h h1
  have h3 : (!(decide ((txN z.natAbs).head? = some 48) && decide (1 < (tx z).length))) = true := by
    rcases Nat.eq_zero_or_pos z.natAbs with h0 | h0
    · have : z = 0 := by omega
      subst this
      rfl
    · have := txN_head h0
      simp [this]
  rw [h3]
  simp only [Bool.and_eq_true, decide_eq_true_eq, List.all_eq_true, and_true]
  exact ⟨⟨h1, h⟩, fun c hc => txN_range _ c hc⟩
theorem vld_num {l : List Int} (h : vldL l = true) : ∃ z, l = tx z ∧ dlN z.natAbs ≤ 2000 := by
  unfold vldL at h
  simp only [Bool.and_eq_true, decide_eq_true_eq, List.all_eq_true] at h
  obtain ⟨⟨⟨h1, h2⟩, h3⟩, h4⟩ := h
  have hr : strip l ≠ [] := List.length_pos_iff.1 h1
  by_cases h0 : (strip l).head? = some 48
  · have hl : ¬ 1 < l.length := by
      intro hl
      simp [h0, hl] at h3
    have hs : strip l = l := by
      unfold strip at hr ⊢
      split
      · rename_i hh
        rw [if_pos hh] at hr
        cases l with
        | nil => simp at hh
        | cons a t =>
          cases t with
          | nil => simp at hr
          | cons b t => simp at hl
      · rfl
    rw [hs] at h0
    cases l with
    | nil => simp at h0
    | cons a t =>
      cases t with
      | nil =>
        simp at h0
        subst h0
        exact ⟨0, rfl, by decide⟩
      | cons b t => simp at hl
  · obtain ⟨n, hn, e⟩ := digits_of hr h4 h0
    by_cases hneg : l.head? = some 45
    · refine ⟨-(n : Int), ?_, ?_⟩
      · have hs : strip l = l.tail := by unfold strip; rw [if_pos hneg]
        unfold tx
        rw [if_pos (by omega), show (-(n : Int)).natAbs = n by omega, ← e, hs]
        cases l with
        | nil => simp at hneg
        | cons a t => simp at hneg; simp [hneg]
      · rw [show (-(n : Int)).natAbs = n by omega, dlN, ← e]; exact h2
    · refine ⟨(n : Int), ?_, ?_⟩
      · have hs : strip l = l := by unfold strip; rw [if_neg hneg]
        unfold tx
        rw [if_neg (by omega), show ((n : Int)).natAbs = n by omega, ← e, hs]
        rfl
      · rw [show ((n : Int)).natAbs = n by omega, dlN, ← e]; exact h2
theorem gd_drop (l : List Int) (a j : Nat) : gd (l.drop a) j = gd l (a + j) := by unfold gd; simp [List.getD_eq_getElem?_getD]
theorem strip_drop {l : List Int} {a : Nat} (h : l ≠ []) (ha : a = if gd l 0 = 45 then 1 else 0) : strip l = l.drop a := by
  cases l with
  | nil => exact absurd rfl h
  | cons x t =>
    have e : gd (x :: t) 0 = x := rfl
    rw [e] at ha
    unfold strip
    by_cases hx : x = 45
    · subst hx; simp at ha; subst ha; simp
    · rw [if_neg hx] at ha; subst ha; simp [hx]
theorem vld_char {l : List Int} {a : Nat} (h : l ≠ []) (ha : a = if gd l 0 = 45 then 1 else 0) :
    vldL l = true ↔ (a < l.length ∧ l.length - a ≤ 2000) ∧ ¬ (gd l a = 48 ∧ 1 < l.length) ∧ ∀ j, a ≤ j → j < l.length → 48 ≤ gd l j ∧ gd l j ≤ 57 := by
  unfold vldL
  rw [strip_drop h ha]
  simp only [Bool.and_eq_true, decide_eq_true_eq, List.all_eq_true, List.length_drop]
  have hall : (∀ c ∈ l.drop a, 48 ≤ c ∧ c ≤ 57) ↔ ∀ j, a ≤ j → j < l.length → 48 ≤ gd l j ∧ gd l j ≤ 57 := by
    constructor
    · intro hc j hj hl
      apply hc
      have e : gd l j = gd (l.drop a) (j - a) := by rw [gd_drop, show a + (j - a) = j by omega]
      rw [e, gd_lt (by rw [List.length_drop]; omega)]
      exact List.getElem_mem _
    · intro hj c hc
      obtain ⟨i, hi, rfl⟩ := List.getElem_of_mem hc
      rw [← gd_lt hi, gd_drop]
      rw [List.length_drop] at hi
      exact hj _ (by omega) (by omega)
  rw [hall]
  have hhead : a < l.length → ((l.drop a).head? = some 48 ↔ gd l a = 48) := by
    intro hl
    rw [List.head?_drop, List.getElem?_eq_getElem hl, gd_lt hl]
    simp
  constructor
  · rintro ⟨⟨⟨h1, h2⟩, h3⟩, h4⟩
    have hl : a < l.length := by omega
    refine ⟨⟨hl, h2⟩, ?_, h4⟩
    rintro ⟨e1, e2⟩
    rw [← hhead hl] at e1
    simp [e1, e2] at h3
  · rintro ⟨⟨h1, h2⟩, h3, h4⟩
    refine ⟨⟨⟨by omega, h2⟩, ?_⟩, h4⟩
    by_cases e : (l.drop a).head? = some 48
    · have := (hhead h1).1 e
      have hl : ¬ 1 < l.length := fun hl => h3 ⟨this, hl⟩
      simp [hl]
    · have : decide ((l.drop a).head? = some 48) = false := decide_eq_false e
      rw [this]; rfl
theorem txN_inj {m n : Nat} (h : txN m = txN n) : m = n := by
  rcases Nat.eq_zero_or_pos m with rfl | hm
  · rcases Nat.eq_zero_or_pos n with rfl | hn
    · rfl
    · exact absurd (by rw [← h]; rfl) (txN_head hn)
  · rcases Nat.eq_zero_or_pos n with rfl | hn
    · exact absurd (by rw [h]; rfl) (txN_head hm)
    · unfold txN at h
      rw [if_neg (by omega), if_neg (by omega)] at h
      have h := List.reverse_inj.1 h
      have h := (List.map_inj_right (by intro a b; omega)).1 h
      have a := digs_V (B := 10) (by omega) m
      have b := digs_V (B := 10) (by omega) n
      rw [h] at a
      omega
theorem tx_inj {a b : Int} (h : tx a = tx b) : a = b := by
  have hs : txN a.natAbs = txN b.natAbs := by rw [← strip_tx, ← strip_tx, h]
  have hn := txN_inj hs
  have : a < 0 ↔ b < 0 := by rw [← tx_neg, ← tx_neg, h]
  omega
theorem tS_inj {a b : Int} (h : tS a = tS b) : a = b := tx_inj (by rw [← codes_tS, ← codes_tS, h])
/-- The value of digits. -/
def dv (l : List Int) : Int := V 10 (l.reverse.map (· - 48))
theorem dv_txN (n : Nat) : dv (txN n) = n := by
  unfold dv txN
  split
  · rename_i h; subst h; rfl
  · rw [List.reverse_reverse, List.map_map]
    have : (digs 10 n).map ((fun x => x - 48) ∘ fun x => x + 48) = digs 10 n := by
      conv => rhs; rw [← List.map_id (digs 10 n)]
      apply List.map_congr_left
      intro c _
      simp
    rw [this]
    exact digs_V (by omega) n
theorem dv_snoc (l : List Int) (c : Int) : dv (l ++ [c]) = 10 * dv l + (c - 48) := by
  unfold dv
  rw [List.reverse_append]
  simp only [List.reverse_cons, List.reverse_nil, List.nil_append, List.cons_append, List.map_cons, V]
  omega
theorem dv_append (l m : List Int) : dv (l ++ m) = (10 : Int) ^ m.length * dv l + dv m := by
  unfold dv
  rw [List.reverse_append, List.map_append, V_append]
  simp
  omega
end Go.Proofs.Ytiaeeclmlchpoaa

set_option linter.unusedVariables false
set_option linter.unusedSimpArgs false
namespace Go.Proofs.Ytiaeeclmlchpoaa
open Go.RowKit

def Digs (l : List Int) (a k : Nat) : Prop := ∀ j, a ≤ j → j < k → 48 ≤ gd l j ∧ gd l j ≤ 57
theorem Digs.snoc {l : List Int} {a k : Nat} (h : Digs l a k) (h1 : 48 ≤ gd l k) (h2 : gd l k ≤ 57) : Digs l a (k + 1) := by
  intro j hj hk
  rcases Nat.lt_or_ge j k with hlt | hge
  · exact h j hj hlt
  · obtain rfl : j = k := by omega
    exact ⟨h1, h2⟩
theorem codes_nil {s : ByteArray} (h : s.size = 0) : codes s = [] := List.eq_nil_of_length_eq_zero (by rw [codes_length]; exact h)
theorem toList_length (s : ByteArray) : s.toList.length = s.size := by rw [ByteArray.toList_eq, Array.length_toList]; rfl
theorem toList_nil {s : ByteArray} (h : s.size = 0) : s.toList = [] := List.eq_nil_of_length_eq_zero (by rw [toList_length]; exact h)
theorem toList_cons {s : ByteArray} (h : 0 < s.size) : (s.toList == []) = false ∧ (s.toList != []) = true ∧ s.toList.isEmpty = false := by
  have := toList_length s
  cases e : s.toList with
  | nil => rw [e] at this; simp at this; omega
  | cons a t => exact ⟨rfl, rfl, rfl⟩

set_option maxRecDepth 100000 in
set_option maxHeartbeats 2000000 in
theorem Valid_c (s : ByteArray) (w : World) (hs : s.size ≤ 9223372036854775807) :
    Calls Try.prog 24 #[.string s] w fun e w' => e = .returned (.bool (vldL (codes s))) ∧ w = w' := by
  rcases Nat.eq_zero_or_pos s.size with h0 | h0
  · have e0 := toList_nil h0
    have hr : vldL (codes s) = false := by rw [codes_nil h0]; rfl
    rw [hr]
    have hz : (s.size : Int) ≤ 0 := by omega
    clear hr h0
    go_enter Try.func24, Try.ntmps24
    go_wp2
    go_ret
    exact ⟨rfl, rfl⟩
  · obtain ⟨e1, e2, e3⟩ := toList_cons h0
    have HNE : Hid (codes s ≠ []) := fun h => by have := codes_length s; rw [h] at this; simp at this; omega
    have HL := Lib.hid (codes_length s)
    have hx0 : ∀ h : 0 < s.size, ((s[0]'h).toNat : Int) = gd (codes s) 0 := fun h => codes_gd h
    by_cases q : gd (codes s) 0 = 45
    · have HC := Lib.hid (vld_char (a := 1) HNE.out (by rw [if_pos q]))
      have qb : (gd (codes s) 0 == 45) = true := by simpa using q
      clear q
      have hxa : ∀ h : 1 < s.size, ((s[1]'h).toNat : Int) = gd (codes s) 1 := fun h => codes_gd h
      by_cases q1 : 1 < s.size
      · by_cases q2 : (s.size : Int) - 1 ≤ 2000
        · by_cases q3 : gd (codes s) 1 = 48 ∧ 1 < s.size
          · have hr : vldL (codes s) = false := by
              cases hv : vldL (codes s) with
              | false => rfl
              | true => exact absurd ⟨q3.1, by rw [HL.out]; exact q3.2⟩ (HC.out.1 hv).2.1
            rw [hr]
            have qc : (gd (codes s) 1 == 48) = true := by simpa using q3.1
            have qd : (1 : Int) < (s.size : Int) := by have := q3.2; omega
            clear q3 hr
            go_enter Try.func24, Try.ntmps24
            go_wp2
            go_ret
            exact ⟨rfl, rfl⟩
          · have HQ : Hid (¬ (gd (codes s) 1 = 48 ∧ 1 < (codes s).length)) := by rw [HL.out]; exact q3
            have q3' : (gd (codes s) 1 == 48) = false ∨ ((gd (codes s) 1 == 48) = true ∧ ¬ (1 : Int) < (s.size : Int)) := by
              by_cases h48 : gd (codes s) 1 = 48
              · exact .inr ⟨by simpa using h48, fun h => q3 ⟨h48, by omega⟩⟩
              · exact .inl (by simpa using h48)
            clear q3
            rcases q3' with q3 | ⟨q3, q4⟩
            rotate_left; exact absurd (by omega) q4
            all_goals
              go_enter Try.func24, Try.ntmps24
              go_wp2
              go_loop [5] (fun i => ∃ k : Nat, 1 ≤ k ∧ k ≤ s.size ∧ i = .int .i64 k ∧ Hid (Digs (codes s) 1 k)) (fun i => s.size - (intOf i).toNat)
              case atStart => exact ⟨1, Nat.le_refl _, by omega, rfl, fun j h1 h2 => by omega⟩
              case round =>
                obtain ⟨k, hk1, hk2, rfl, HI⟩ := hrel
                by_cases hk : k < s.size
                · have hxk : ∀ h : k < s.size, ((s[k]'h).toNat : Int) = gd (codes s) k := fun h => codes_gd h
                  by_cases d1 : gd (codes s) k < 48
                  · have HR : Hid (vldL (codes s) = false) := by
                      show _ = _
                      cases hv : vldL (codes s) with
                      | false => rfl
                      | true => have := (HC.out.1 hv).2.2 k hk1 (by rw [HL.out]; exact hk); omega
                    go_wp2
                    go_ret
                    exact ⟨by rw [HR.out]; rfl, rfl⟩
                  · by_cases d2 : 57 < gd (codes s) k
                    · have HR : Hid (vldL (codes s) = false) := by
                        show _ = _
                        cases hv : vldL (codes s) with
                        | false => rfl
                        | true => have := (HC.out.1 hv).2.2 k hk1 (by rw [HL.out]; exact hk); omega
                      go_wp2
                      go_ret
                      exact ⟨by rw [HR.out]; rfl, rfl⟩
                    · have HS : Hid (Digs (codes s) 1 (k + 1)) := HI.out.snoc (by omega) (by omega)
                      go_wp2
                      go_round
                      case rel => exact ⟨k + 1, by omega, by omega, by go_num, HS⟩
                      case measure => simp [intOf]; omega
                · have HR : Hid (vldL (codes s) = true) := by
                    show _ = _
                    exact HC.out.2 ⟨⟨by rw [HL.out]; exact q1, by rw [HL.out]; omega⟩, HQ.out, fun j h1 h2 => HI.out j h1 (by rw [HL.out] at h2; omega)⟩
                  go_wp2
                  go_ret
                  exact ⟨by rw [HR.out]; rfl, rfl⟩
        · have hr : vldL (codes s) = false := by
            cases hv : vldL (codes s) with
            | false => rfl
            | true => have := (HC.out.1 hv).1.2; rw [HL.out] at this; omega
          rw [hr]
          clear hr
          go_enter Try.func24, Try.ntmps24
          go_wp2
          go_ret
          exact ⟨rfl, rfl⟩
      · have hr : vldL (codes s) = false := by
          cases hv : vldL (codes s) with
          | false => rfl
          | true => have := (HC.out.1 hv).1.1; rw [HL.out] at this; exact absurd this q1
        rw [hr]
        have hz : (s.size : Int) - 1 < 1 := by omega
        clear hr
        go_enter Try.func24, Try.ntmps24
        go_wp2
        go_ret
        exact ⟨rfl, rfl⟩
    
    · have HC := Lib.hid (vld_char (a := 0) HNE.out (by rw [if_neg q]))
      have qb : (gd (codes s) 0 == 45) = false := by simpa using q
      clear q
      have hxa : ∀ h : 0 < s.size, ((s[0]'h).toNat : Int) = gd (codes s) 0 := fun h => codes_gd h
      by_cases q1 : 0 < s.size
      · by_cases q2 : (s.size : Int) - 0 ≤ 2000
        · by_cases q3 : gd (codes s) 0 = 48 ∧ 1 < s.size
          · have hr : vldL (codes s) = false := by
              cases hv : vldL (codes s) with
              | false => rfl
              | true => exact absurd ⟨q3.1, by rw [HL.out]; exact q3.2⟩ (HC.out.1 hv).2.1
            rw [hr]
            have qc : (gd (codes s) 0 == 48) = true := by simpa using q3.1
            have qd : (1 : Int) < (s.size : Int) := by have := q3.2; omega
            clear q3 hr
            go_enter Try.func24, Try.ntmps24
            go_wp2
            go_ret
            exact ⟨rfl, rfl⟩
          · have HQ : Hid (¬ (gd (codes s) 0 = 48 ∧ 1 < (codes s).length)) := by rw [HL.out]; exact q3
            have q3' : (gd (codes s) 0 == 48) = false ∨ ((gd (codes s) 0 == 48) = true ∧ ¬ (1 : Int) < (s.size : Int)) := by
              by_cases h48 : gd (codes s) 0 = 48
              · exact .inr ⟨by simpa using h48, fun h => q3 ⟨h48, by omega⟩⟩
              · exact .inl (by simpa using h48)
            clear q3
            rcases q3' with q3 | ⟨q3, q4⟩
            
            all_goals
              go_enter Try.func24, Try.ntmps24
              go_wp2
              go_loop [5] (fun i => ∃ k : Nat, 0 ≤ k ∧ k ≤ s.size ∧ i = .int .i64 k ∧ Hid (Digs (codes s) 0 k)) (fun i => s.size - (intOf i).toNat)
              case atStart => exact ⟨0, Nat.le_refl _, by omega, rfl, fun j h1 h2 => by omega⟩
              case round =>
                obtain ⟨k, hk1, hk2, rfl, HI⟩ := hrel
                by_cases hk : k < s.size
                · have hxk : ∀ h : k < s.size, ((s[k]'h).toNat : Int) = gd (codes s) k := fun h => codes_gd h
                  by_cases d1 : gd (codes s) k < 48
                  · have HR : Hid (vldL (codes s) = false) := by
                      show _ = _
                      cases hv : vldL (codes s) with
                      | false => rfl
                      | true => have := (HC.out.1 hv).2.2 k hk1 (by rw [HL.out]; exact hk); omega
                    go_wp2
                    go_ret
                    exact ⟨by rw [HR.out]; rfl, rfl⟩
                  · by_cases d2 : 57 < gd (codes s) k
                    · have HR : Hid (vldL (codes s) = false) := by
                        show _ = _
                        cases hv : vldL (codes s) with
                        | false => rfl
                        | true => have := (HC.out.1 hv).2.2 k hk1 (by rw [HL.out]; exact hk); omega
                      go_wp2
                      go_ret
                      exact ⟨by rw [HR.out]; rfl, rfl⟩
                    · have HS : Hid (Digs (codes s) 0 (k + 1)) := HI.out.snoc (by omega) (by omega)
                      go_wp2
                      go_round
                      case rel => exact ⟨k + 1, by omega, by omega, by go_num, HS⟩
                      case measure => simp [intOf]; omega
                · have HR : Hid (vldL (codes s) = true) := by
                    show _ = _
                    exact HC.out.2 ⟨⟨by rw [HL.out]; exact q1, by rw [HL.out]; omega⟩, HQ.out, fun j h1 h2 => HI.out j h1 (by rw [HL.out] at h2; omega)⟩
                  go_wp2
                  go_ret
                  exact ⟨by rw [HR.out]; rfl, rfl⟩
        · have hr : vldL (codes s) = false := by
            cases hv : vldL (codes s) with
            | false => rfl
            | true => have := (HC.out.1 hv).1.2; rw [HL.out] at this; omega
          rw [hr]
          clear hr
          go_enter Try.func24, Try.ntmps24
          go_wp2
          go_ret
          exact ⟨rfl, rfl⟩
      · exact absurd h0 q1
end Go.Proofs.Ytiaeeclmlchpoaa
