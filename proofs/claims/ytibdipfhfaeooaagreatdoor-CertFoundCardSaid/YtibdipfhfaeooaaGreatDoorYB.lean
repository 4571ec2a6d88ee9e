/- What math/bits' functions return. No condition. -/
import Derived.Test.YtibdipfhfaeooaaGreatDoorZ1
import Derived.Test.YtibdipfhfaeooaaGreatDoorYA
import Derived.Laws.Externs
import Derived.Lib.Mul64
import Derived.Lib.Strings
import Derived.Lib.Slices
import Derived.Lib.Small
import Derived.Lib.Walk
import Derived.Lib.BitFns
import Derived.Laws.Bits64b
import Derived.Laws.BitsLemmas
import Derived.Test.YtibdipfhfaeooaaGreatDoorZ2
import Derived.Test.YtibdipfhfaeooaaGreatDoorZ3
import Derived.BigRegion
set_option linter.unusedVariables false
set_option linter.unusedSimpArgs false
namespace Go.Proofs.YtibdipfhfaeooaaGreatDoor
open Go.RowKit

/-- A word. -/
def W64 (x : Int) : Prop := 0 ≤ x ∧ x < 18446744073709551616
theorem add64 (x y c : Int) (hx : 0 ≤ x) (hy : 0 ≤ y) (hc0 : 0 ≤ c) (hc : c ≤ 1) (w : World) : (callFunc 179 #[.int .u64 x, .int .u64 y, .int .u64 c]).run Tryz.prog w =
  .ok (.value (.tuple #[.int .u64 ((x + y + c) % 18446744073709551616), .int .u64 ((x + y + c) / 18446744073709551616)])) w := by
 rw [run_callFunc_extern Tryz.func179 (by kernel_rfl) (by kernel_rfl) (by kernel_rfl) (e := add64Entry) (by kernel_rfl), run_add64 x y c hx hy hc0 hc]
 rfl
theorem add64_0 (x y : Int) (hx : 0 ≤ x) (hy : 0 ≤ y) (w : World) : (callFunc 179 #[.int .u64 x, .int .u64 y, .int .u64 0]).run Tryz.prog w =
  .ok (.value (.tuple #[.int .u64 ((x + y) % 18446744073709551616), .int .u64 ((x + y) / 18446744073709551616)])) w := by
 simpa using add64 x y 0 hx hy (Int.le_refl 0) (by decide) w
/-- What a difference borrows. -/
def bor (x y : Int) : Int := if x < y then 1 else 0
theorem sub64 (x y b : Int) (hx : 0 ≤ x) (hy : 0 ≤ y) (hy' : y < 18446744073709551616) (hb0 : 0 ≤ b) (hb : b ≤ 1) (w : World) : (callFunc 188 #[.int .u64 x, .int .u64 y, .int .u64 b]).run Tryz.prog w =
  .ok (.value (.tuple #[.int .u64 ((x - y - b) % 18446744073709551616), .int .u64 (bor x (y + b))])) w := by
 obtain ⟨x, rfl⟩ := Int.eq_ofNat_of_zero_le hx
 obtain ⟨y, rfl⟩ := Int.eq_ofNat_of_zero_le hy
 obtain ⟨b, rfl⟩ := Int.eq_ofNat_of_zero_le hb0
 have e1 : (((x + 18446744073709551616 - y - b) % 18446744073709551616 : Nat) : Int) = ((x : Int) - y - b) % 18446744073709551616 := by omega
 have e2 : ((if x < y + b then 1 else 0 : Nat) : Int) = bor x (y + b) := by unfold bor; split <;> split <;> omega
 have key : ∀ k : Nat, k ≤ 1 → (callFunc 188 #[.int .u64 x, .int .u64 y, .int .u64 k]).run Tryz.prog w =
  .ok (.value (.tuple #[.int .u64 (((x + 18446744073709551616 - y - k) % 18446744073709551616 : Nat) : Int), .int .u64 ((if x < y + k then 1 else 0 : Nat) : Int)])) w := by
  intro k hk
  rw [run_callFunc_extern Tryz.func188 (by kernel_rfl) (by kernel_rfl) (by kernel_rfl) rfl]
  have : k = 0 ∨ k = 1 := by omega
  rcases this with rfl | rfl <;> rfl
 rw [← e1, ← e2]
 exact key b (by omega)
namespace M64
theorem maskN (a : Nat) (ha : a < 18446744073709551616) : bits .and .u64 (a : Int) 4294967295 = ((a % 4294967296 : Nat) : Int) := by
 have h := bits_and_u64_nat a 4294967295 ha (by omega)
 have e : a &&& 4294967295 = a % 4294967296 := Nat.and_two_pow_sub_one_eq_mod a 32
 rw [e] at h
 exact h
theorem divN (a : Nat) : (a : Int) / 4294967296 = ((a / 4294967296 : Nat) : Int) := by omega
theorem mulN (a b : Nat) : (a : Int) * (b : Int) = ((a * b : Nat) : Int) := (Int.natCast_mul a b).symm
theorem addN (a b : Nat) : (a : Int) + (b : Int) = ((a + b : Nat) : Int) := (Int.natCast_add a b).symm
theorem wrapN (a : Nat) (ha : a < 18446744073709551616) : IntKind.u64.wrap (a : Int) = (a : Int) := by rw [IntKind.wrap_u64]; omega
theorem wrapM (a : Nat) : IntKind.u64.wrap (a : Int) = ((a % 18446744073709551616 : Nat) : Int) := by rw [IntKind.wrap_u64]; omega
end M64
set_option maxHeartbeats 1000000 in
theorem Mul64_n (x y : Nat) (hx : x < 18446744073709551616) (hy : y < 18446744073709551616) (w : World) :
  Calls Tryz.prog 178 #[.int .u64 x, .int .u64 y] w fun e w' => e = .returned (.tuple #[.int .u64 ((x * y / 18446744073709551616 : Nat) : Int), .int .u64 ((x * y % 18446744073709551616 : Nat) : Int)]) ∧ w' = w := by
 obtain ⟨bd, bt, bw, hhi⟩ := Lib.mul64_hi x y hx hy
 have ba := Lib.half_mul_le (a := x / 4294967296) (b := y / 4294967296) (by omega) (by omega)
 have bb := Lib.half_mul_le (a := x / 4294967296) (b := y % 4294967296) (by omega) (by omega)
 have bc := Lib.half_mul_le (a := x % 4294967296) (b := y / 4294967296) (by omega) (by omega)
 have ba' : x / 4294967296 * (y / 4294967296) < 18446744073709551616 := by omega
 have bb' : x / 4294967296 * (y % 4294967296) < 18446744073709551616 := by omega
 have bc' : x % 4294967296 * (y / 4294967296) < 18446744073709551616 := by omega
 have bh1 : x / 4294967296 * (y / 4294967296) + (x / 4294967296 * (y % 4294967296) + x % 4294967296 * (y % 4294967296) / 4294967296) / 4294967296 < 18446744073709551616 := by omega
 have bh : x / 4294967296 * (y / 4294967296) + (x / 4294967296 * (y % 4294967296) + x % 4294967296 * (y % 4294967296) / 4294967296) / 4294967296 + ((x / 4294967296 * (y % 4294967296) + x % 4294967296 * (y % 4294967296) / 4294967296) % 4294967296 + x % 4294967296 * (y / 4294967296)) / 4294967296 < 18446744073709551616 := by omega
 go_enter Tryz.func178, Tryz.ntmps178
 go_wp2
 simp only [M64.maskN x hx, M64.maskN y hy, M64.divN, M64.mulN, M64.addN, M64.wrapN _ bd, M64.wrapN _ bb', M64.wrapN _ bt, M64.maskN _ bt, M64.wrapN _ bc', M64.wrapN _ bw, M64.wrapN _ ba', M64.wrapN _ bh1, M64.wrapN _ bh, M64.wrapM (x * y)]
 rw [hhi]
 go_ret2
 exact ⟨rfl, rfl⟩
theorem Mul64_c (x y : Int) (hx : W64 x) (hy : W64 y) (w : World) :
  Calls Tryz.prog 178 #[.int .u64 x, .int .u64 y] w fun e w' => e = .returned (.tuple #[.int .u64 (x * y / 18446744073709551616), .int .u64 (x * y % 18446744073709551616)]) ∧ w' = w := by
 obtain ⟨x, rfl⟩ := Int.eq_ofNat_of_zero_le hx.1
 obtain ⟨y, rfl⟩ := Int.eq_ofNat_of_zero_le hy.1
 have := Mul64_n x y (by have := hx.2; omega) (by have := hy.2; omega) w
 rw [Int.natCast_ediv, Int.natCast_emod, Int.natCast_mul] at this
 exact this

/-- How many binary digits. -/
def bl (n : Nat) : Nat := (digs 2 n).length
theorem bl_zero : bl 0 = 0 := by unfold bl; rw [digs_zero]; rfl
theorem bl_pos {n : Nat} (h : 0 < n) : bl n = bl (n / 2) + 1 := by unfold bl; rw [digs_pos (by omega) h]; rfl
theorem bl_aux (f : Nat) : ∀ x : Nat, x < 2 ^ f → Lib.bitLenAux f x = bl x := by
  induction f with
  | zero => intro x h; have : x = 0 := by simpa using h
            subst this; rw [bl_zero]; rfl
  | succ f ih =>
    intro x h
    rw [Lib.bitLenAux]
    split
    · rename_i h0; subst h0; rw [bl_zero]
    · rw [bl_pos (by omega), ih _ (by rw [Nat.pow_succ] at h; omega)]; omega
theorem Len64_n (x : Int) (w : World) (h : W64 x) : Calls Tryz.prog 176 #[.int .u64 x] w fun e w' => e = .returned (.int .i64 (bl x.toNat)) ∧ w' = w := by
 have := Len64_c x w h.1 (by have := h.2; omega)
 rw [show Lib.bitLen x.toNat = bl x.toNat from bl_aux 64 _ (by have := h.1; have := h.2; omega)] at this
 exact this
theorem bl_le {n k : Nat} (h : n < 2 ^ k) : bl n ≤ k := digs_len_le (by omega) h
theorem bl_lt (n : Nat) : n < 2 ^ bl n := digs_len_lt (by omega) n
theorem Lead64_c (x : Int) (w : World) (h : W64 x) : Calls Tryz.prog 189 #[.int .u64 x] w fun e w' => e = .returned (.int .i64 (64 - (bl x.toNat : Int))) ∧ w' = w := by
 have hb : bl x.toNat ≤ 64 := bl_le (by have := h.1; have := h.2; omega)
 go_enter Tryz.func189, Tryz.ntmps189
 go_wp2_with (go_at_call 176; (with_reducible refine (Len64_n x _ h).mono ?_); rintro e w' ⟨rfl, rfl⟩)
 go_ret
 exact ⟨rfl, rfl⟩
end Go.Proofs.YtibdipfhfaeooaaGreatDoor


set_option linter.unusedVariables false
set_option linter.unusedSimpArgs false
namespace Go.Proofs.YtibdipfhfaeooaaGreatDoor
open Go.RowKit

def B64 : Nat := 18446744073709551616
theorem B64c : ((B64 : Nat) : Int) = 18446744073709551616 := rfl
theorem B64two : 2 ≤ B64 := by decide
abbrev IsW (w : World) (v : Value) (n : Nat) : Prop := IsU B64 .u64 w v n
/-- The words of a number. -/
abbrev wd (n : Nat) : List Int := digs B64 n
theorem IsU.form {B : Nat} {k : IntKind} {w : World} {v : Value} {n : Nat} (h : IsU B k w v n) : ∃ A m c, v = .slice A m c ∧ Hid (IsU B k w (.slice A m c) n) := by
 obtain ⟨A, c, rfl, hs⟩ := h
 exact ⟨A, _, c, rfl, A, c, rfl, hs⟩
theorem isU_trim {B : Nat} (hB : 2 ≤ B) {k : IntKind} {w : World} {A : Option Addr} {c : Nat} {l : List Int} (hd : Dg B l) (h : SlI w k A c l) :
  IsU B k w (.slice A (trimmed l).length c) (V B l).toNat := by
 have e : trimmed l = digs B (V B l).toNat := trimmed_digs hB hd
 refine ⟨A, c, by rw [← e], ?_⟩
 rw [← e, trimmed_take]
 exact h.take (trimmed_len l)
theorem gdw {l : List Int} (h : Dg B64 l) (i : Nat) : 0 ≤ gd l i ∧ gd l i < 18446744073709551616 := h.getD (by decide) i

def slen : Value → Nat
 | .slice _ n _ => n
 | _ => 0
set_option maxHeartbeats 400000 in
theorem wtrim_c (A : Option Addr) (c : Nat) (l : List Int) (w : World) (h : SlI w .u64 A c l) :
  Calls Tryz.prog 141 #[.slice A l.length c] w fun e w' => e = .returned (.slice A (trimmed l).length c) ∧ w' = w := by
 have hc1 := h.2.1
 have hc2 := h.2.2
 go_enter Tryz.func141, Tryz.ntmps141
 go_wp2
 go_loop [0] (fun v => ∃ k : Nat, k ≤ l.length ∧ v = .slice A k c ∧ trimmed (l.take k) = trimmed l) (fun v => slen v)
 case atStart => exact ⟨l.length, Nat.le_refl _, rfl, by rw [List.take_of_length_le (Nat.le_refl _)]⟩
 case round =>
  obtain ⟨k, hk, rfl, ht⟩ := hrel
  rcases Nat.eq_zero_or_pos k with rfl | hk0
  ·have HT : Hid (trimmed l = []) := by rw [← ht]; rfl
   clear ht
   go_wp2
   go_ret
   exact ⟨by rw [HT.out]; rfl, rfl⟩
  ·obtain ⟨k, rfl⟩ : ∃ m, k = m + 1 := ⟨k - 1, by omega⟩
   obtain ⟨b, off, rfl, hl, hcell⟩ := h.cell (j := k) (by omega)
   have HT := Lib.hid ht
   clear ht
   by_cases hz : gd l k = 0
   ·have hz' : (gd l k == 0) = true := by simpa using hz
    have HZ := Lib.hid hz
    clear hz
    go_wp2
    go_round
    case rel => exact ⟨k, by omega, rfl, trimmed_step (by omega) HZ.out HT.out⟩
    case measure => simp [slen]
   ·have hz' : (gd l k == 0) = false := by simpa using hz
    have HZ : Hid (trimmed l = l.take (k + 1)) := by rw [← HT.out, trimmed_stop (by omega) hz]; rfl
    clear hz
    go_wp2
    go_ret
    refine ⟨?_, rfl⟩
    have e2 : (l.take (k + 1)).length = k + 1 := by rw [List.length_take, Nat.min_eq_left (by omega)]
    rw [HZ.out, e2]; rfl
theorem wtrim_n (A : Option Addr) (c : Nat) (l : List Int) (w : World) (h : SlI w .u64 A c l) (hd : Dg B64 l) :
  Calls Tryz.prog 141 #[.slice A l.length c] w fun e w' => ∃ v, e = .returned v ∧ IsW w v (V B64 l).toNat ∧ w' = w :=
 (wtrim_c A c l w h).mono fun _ _ ⟨he, hb⟩ => ⟨_, he, isU_trim B64two hd h, hb⟩

theorem wtrim_f (A : Option Addr) (c : Nat) (l : List Int) (w : World) (h : SlI w .u64 A c l) (hd : Dg B64 l) :
  Calls Tryz.prog 141 #[.slice A l.length c] w fun e w' => ∃ n, e = .returned (.slice A n c) ∧ IsW w (.slice A n c) (V B64 l).toNat ∧ w' = w :=
 (wtrim_c A c l w h).mono fun _ _ ⟨he, hb⟩ => ⟨_, he, isU_trim B64two hd h, hb⟩
theorem at_c (A : Option Addr) (c : Nat) (l : List Int) (i : Nat) (w : World) (h : SlI w .u64 A c l) :
  Calls Tryz.prog 180 #[.slice A l.length c, .int .i64 i] w fun e w' => e = .returned (.int .u64 (gd l i)) ∧ w' = w := by
 by_cases hi : i < l.length
 ·obtain ⟨b, off, rfl, hl, hcell⟩ := h.cell hi
  go_enter Tryz.func180, Tryz.ntmps180
  go_wp2
  go_ret
  exact ⟨rfl, rfl⟩
 ·have HG : Hid (gd l i = 0) := gd_ge (by omega)
  go_enter Tryz.func180, Tryz.ntmps180
  go_wp2
  go_ret
  exact ⟨by rw [HG.out]; rfl, rfl⟩

theorem wOf_c (n : Int) (h : W64 n) (w : World) :
  Calls Tryz.prog 105 #[.int .u64 n] w fun e w' => ∃ v, e = .returned v ∧ IsW w' v n.toNat ∧ Below w.heap.size w w' := by
 have hD : Dg B64 [n] := Dg.cons h.1 h.2 (Dg.nil _)
 have hB := below_alloc (Below.refl w.heap.size w) (.cells #[.int .u64 n] 150)
 have hS : SlI (w.alloc (.cells #[.int .u64 n] 150)) .u64 (some ⟨w.heap.size, 0, none⟩) 1 [n] := by
  have : BlkI (w.alloc (.cells #[.int .u64 n] 150)) w.heap.size 150 .u64 [n] := by
   unfold BlkI; rw [heap_alloc_new]; rfl
  exact this.slI (by simp)
 have e : (V B64 [n]).toNat = n.toNat := by simp [V]
 have hT := wtrim_n _ 1 [n] _ hS hD
 rw [show [n].length = 1 from rfl] at hT
 go_enter Tryz.func105, Tryz.ntmps105
 go_wp2_with fail
 ( (with_reducible refine hT.mono ?_); rintro e w' ⟨v, rfl, hv, rfl⟩)
 go_wp2
 go_ret
 exact ⟨_, rfl, by rw [← e]; exact hv, hB⟩
end Go.Proofs.YtibdipfhfaeooaaGreatDoor


set_option linter.unusedVariables false
set_option linter.unusedSimpArgs false
namespace Go.Proofs.YtibdipfhfaeooaaGreatDoor
open Go.RowKit

def WmO (a b l : List Int) (i : Nat) : Prop :=
 l.length = a.length + b.length ∧ Dg B64 l ∧ V B64 l = V B64 (a.take i) * V B64 b ∧ i ≤ a.length ∧ (∀ j, i + b.length ≤ j → gd l j = 0)
def WmI (a b l : List Int) (i k : Nat) (cy : Int) : Prop :=
 l.length = a.length + b.length ∧ Dg B64 l ∧ W64 cy ∧ V B64 l + (B64 : Int) ^ (i + k) * cy = V B64 (a.take i) * V B64 b + (B64 : Int) ^ i * gd a i * V B64 (b.take k) ∧ i < a.length ∧ k ≤ b.length ∧ (∀ j, i + b.length ≤ j → gd l j = 0)
theorem gd_set_ne {l : List Int} {i j : Nat} (d : Int) (h : i ≠ j) : gd (l.set i d) j = gd l j := by
 unfold gd; rw [List.getD_eq_getElem?_getD, List.getD_eq_getElem?_getD, List.getElem?_set_ne h]
theorem WmI.first {a b l : List Int} {i : Nat} (h : WmO a b l i) (hi : i < a.length) : WmI a b l i 0 0 := by
 obtain ⟨h1, h2, h3, h4, h5⟩ := h
 exact ⟨h1, h2, ⟨by omega, by omega⟩, by simp [h3, V], hi, by omega, h5⟩
theorem info_u64 : (Tryz.prog.info? 150).map (fun i => (i.zero, i.size, i.bytes)) = some (some (.int .u64 0), 1, 8) := by kernel_rfl
/-- The numbers of one place. -/
structure WPl (x y cy o hi lo l1 c1 h1 l2 c2 cy' : Int) : Prop where
 m1 : x * y / 18446744073709551616 = hi
 m2 : x * y % 18446744073709551616 = lo
 s1 : (lo + cy) % 18446744073709551616 = l1
 s2 : (lo + cy) / 18446744073709551616 = c1
 w1 : IntKind.u64.wrap (hi + c1) = h1
 s3 : (o + l1) % 18446744073709551616 = l2
 s4 : (o + l1) / 18446744073709551616 = c2
 w2 : IntKind.u64.wrap (h1 + c2) = cy'
 lo0 : 0 ≤ lo
 l10 : 0 ≤ l1
 sum : l2 + 18446744073709551616 * cy' = o + x * y + cy
 l2r : W64 l2
 cyr : W64 cy'
theorem wpl {x y cy o : Int} (hx : W64 x) (hy : W64 y) (hc : W64 cy) (ho : W64 o) : ∃ hi lo l1 c1 h1 l2 c2 cy', WPl x y cy o hi lo l1 c1 h1 l2 c2 cy' := by
 obtain ⟨x0, x1⟩ := hx; obtain ⟨y0, y1⟩ := hy; obtain ⟨c0, c1⟩ := hc; obtain ⟨o0, o1⟩ := ho
 have p1 : 0 ≤ x * y := Int.mul_nonneg x0 y0
 have p2 : x * y ≤ 18446744073709551615 * 18446744073709551615 := Int.mul_le_mul (by omega) (by omega) y0 (by omega)
 obtain ⟨p, hp⟩ : ∃ p, x * y = p := ⟨_, rfl⟩
 rw [hp] at p1 p2
 refine ⟨_, _, _, _, _, _, _, _, ⟨rfl, rfl, rfl, rfl, rfl, rfl, rfl, rfl, by omega, by omega, ?_, ⟨by omega, by omega⟩, ?_⟩⟩
 all_goals rw [hp]
 ·simp only [IntKind.wrap_u64]; omega
 ·simp only [IntKind.wrap_u64]; exact ⟨by omega, by omega⟩
theorem WmI.step {a b l : List Int} {i k : Nat} {cy l2 cy' : Int} (h : WmI a b l i k cy) (hk : k < b.length) (hs : l2 + 18446744073709551616 * cy' = gd l (i + k) + gd a i * gd b k + cy) (h2l : W64 l2) (hcl : W64 cy') :
  WmI a b (l.set (i + k) l2) i (k + 1) cy' := by
 obtain ⟨h1, h2, h3, h5, h6, h7, h8⟩ := h
 refine ⟨by simp [h1], h2.set _ h2l.1 h2l.2, hcl, ?_, h6, by omega, fun j hj => by rw [gd_set_ne _ (by omega)]; exact h8 j hj⟩
 rw [Vset _ _ _ (by omega), Vtake, ← Nat.add_assoc, Int.pow_succ, mul_ring2 (q := 0), ← Int.pow_add, B64c]
 rw [B64c] at h5
 exact mul_ring (x := 0) h5 hs
theorem WmI.last {a b l : List Int} {i : Nat} {cy : Int} (h : WmI a b l i b.length cy) : WmO a b (l.set (i + b.length) cy) (i + 1) := by
 obtain ⟨h1, h2, h3, h5, h6, h7, h8⟩ := h
 refine ⟨by simp [h1], h2.set _ h3.1 h3.2, ?_, by omega, fun j hj => by rw [gd_set_ne _ (by omega)]; exact h8 j (by omega)⟩
 rw [List.take_of_length_le (Nat.le_refl _)] at h5
 rw [Vset _ _ _ (by omega), h8 _ (Nat.le_refl _), Vtake, Int.add_mul, ← h5, Int.sub_zero]
theorem WmO.first (a b : List Int) : WmO a b (List.replicate (a.length + b.length) 0) 0 := ⟨by simp, Dg.zeros (by decide) _, by simp [V_zeros, V], by omega, fun j _ => by simp [gd, List.getElem?_replicate]; split <;> rfl⟩
theorem WmO.last {a b l : List Int} {i : Nat} (h : WmO a b l i) (hi : a.length ≤ i) : V B64 l = V B64 a * V B64 b := by
 obtain ⟨h1, h2, h3, h4, h5⟩ := h
 rwa [List.take_of_length_le hi] at h3
theorem gdW {l : List Int} (h : Dg B64 l) (i : Nat) : W64 (gd l i) := gdw h i

set_option maxRecDepth 100000 in
set_option maxHeartbeats 2000000 in
theorem Times_c (x y : Nat) (v1 v2 : Value) (w : World) (h1 : IsW w v1 x) (h2 : IsW w v2 y) (sx : (digs B64 x).length ≤ 1000000000) (sy : (digs B64 y).length ≤ 1000000000) :
  Calls Tryz.prog 153 #[v1, v2] w fun e w' => ∃ v, e = .returned v ∧ IsW w' v (x * y) ∧ Below w.heap.size w w' := by
 obtain ⟨A1, c1, rfl, hs1⟩ := h1
 obtain ⟨A2, c2, rfl, hs2⟩ := h2
 have D1 := Lib.hid (digs_dg B64two x)
 have D2 := Lib.hid (digs_dg B64two y)
 have HR : Hid ((V B64 (digs B64 x) * V B64 (digs B64 y)).toNat = x * y) := by
  show _ = _
  rw [digs_V B64two, digs_V B64two, ← Int.natCast_mul]; rfl
 generalize digs B64 x = a at *
 generalize digs B64 y = b at *
 have L1 := Lib.hid hs1
 have L2 := Lib.hid hs2
 clear hs1 hs2
 have hmk := fun W => run_make_row' (P := Tryz.prog) 81 150 (.int .u64 0) 8 Tryz.underlying81 info_u64 rfl .i64 .i64 (a.length + b.length) (by omega) (by omega) W
 rw [show ((a.length + b.length : Nat) : Int) = (a.length : Int) + (b.length : Int) by omega] at hmk
 go_enter Tryz.func153, Tryz.ntmps153
 go_wp2
 clear hmk
 have HG0 := Lib.hid (BlkI.new w 150 .u64 (a.length + b.length))
 have HB0 := Lib.hid (below_alloc (Below.refl w.heap.size w) (Obj.cells (madeCells #[Value.int IntKind.u64 0] (a.length + b.length)) 150))
 go_loopw [22] (fun iv wr => ∃ (i : Nat) (l : List Int), iv = .int .i64 i ∧ Hid (BlkI wr w.heap.size 150 .u64 l) ∧ Below w.heap.size w wr ∧ Hid (WmO a b l i)) (fun iv _ => a.length - (intOf iv).toNat)
 case atStart => exact ⟨0, _, rfl, HG0, HB0.out, WmO.first a b⟩
 case round =>
  obtain ⟨i, l, rfl, HG, HB, HI⟩ := hrel
  clear HG0 HB0
  obtain ⟨i1, i2, i3, i4, i5⟩ := HI.out
  have i2 := Lib.hid i2
  clear i3 i5
  by_cases hi : i < a.length
  ·clear i1 i2
   obtain ⟨ba, oa, rfl, hla, hca⟩ := (L1.out.below HB).cell (j := i) hi
   obtain ⟨x1, hx1⟩ : ∃ x1, gd a i = x1 := ⟨_, rfl⟩
   rw [hx1] at hca
   have HX := Lib.hid hx1
   clear hx1
   go_wp2
   clear hca hla
   obtain ⟨wo, rfl⟩ : ∃ wo : World, wo = wr := ⟨_, rfl⟩
   go_loopw [8, 29] (fun cv kv wq => ∃ (k : Nat) (cy : Int) (l : List Int), kv = .int .i64 k ∧ cv = .int .u64 cy ∧ Hid (BlkI wq w.heap.size 150 .u64 l) ∧ Below w.heap.size w wq ∧ Hid (WmI a b l i k cy)) (fun _ kv _ => b.length - (intOf kv).toNat)
   case atStart => exact ⟨0, 0, l, rfl, rfl, HG, HB, WmI.first HI.out hi⟩
   case round =>
    clear HG HB HI
    obtain ⟨k, cy, l, rfl, rfl, HG, HB, HI⟩ := hrel
    obtain ⟨j1, j2, j3, j5, j6, j7, j8⟩ := HI.out
    have J1 := Lib.hid j1
    clear j5 j8
    by_cases hk : k < b.length
    ·obtain ⟨hi', lo, l1, c1', h1', l2, c2', cy', P⟩ := wpl (gdW D1.out i) (gdW D2.out k) j3 (gdW j2 (i + k))
     have HST := Lib.hid (HI.out.step hk P.sum P.l2r P.cyr)
     rw [HX.out] at P
     have q1 := HG.out.cell (j := i + k) (by omega)
     have q2 := HG.out.frozen (i + k)
     obtain ⟨bb, ob, rfl, hlb, hcb⟩ := (L2.out.below HB).cell (j := k) hk
     have W1 : W64 x1 := HX.out ▸ gdW D1.out i
     have W2 := gdW D2.out k
     have o0 := (gdW j2 (i + k)).1
     generalize gd b k = y1 at *
     generalize gd l (i + k) = o at *
     have hM := fun W => Mul64_c x1 y1 W1 W2 W
     rw [P.m1, P.m2] at hM
     have hA := fun W => add64_0 lo cy P.lo0 j3.1 W
     rw [P.s1, P.s2] at hA
     have hC := fun W => add64_0 o l1 o0 P.l10 W
     rw [P.s3, P.s4] at hC
     have w1 := P.w1
     have w2 := P.w2
     have hik : i + k < a.length + b.length := by omega
     clear P j2 j3 HI W1 W2 o0 j1
     go_wp2_with (first | (go_at_call 178; (with_reducible refine (hM _).mono ?_); rintro e w' ⟨rfl, rfl⟩) | simp only [hA, hC])
     go_roundw
     case rel => exact ⟨k + 1, _, _, by go_num, rfl, HG.out.set _ _, HB.setCell (p := ⟨_, _, none⟩) (Nat.le_refl _) _, HST.out⟩
     case measure => simp [intOf]; omega
    ·obtain rfl : k = b.length := by omega
     have HST := Lib.hid HI.out.last
     clear HI j2 j3
     have q1 := HG.out.cell (j := i + b.length) (by omega)
     have q2 := HG.out.frozen (i + b.length)
     clear j1
     go_wp2
     go_roundw
     case rel => exact ⟨i + 1, _, by go_num, HG.out.set _ _, HB.setCell (p := ⟨_, _, none⟩) (Nat.le_refl _) _, HST.out⟩
     case measure => simp [intOf]; omega
  ·have HE := Lib.hid (HI.out.last (by omega))
   have HL := Lib.hid (HG.out.slI (by omega))
   have hll : a.length + b.length = l.length := i1.symm
   clear HI i1
   have hT := wtrim_n _ _ l _ HL.out i2.out
   rw [← hll] at hT
   have HT := Lib.hid hT
   clear hll hT
   go_wp2_with fail
   have hT := HT.out
   (with_reducible refine hT.mono ?_)
   rintro e w' ⟨v, rfl, hv, rfl⟩
   rw [HE.out, HR.out] at hv
   clear hT
   go_wp2
   go_ret
   exact ⟨_, rfl, hv, HB⟩
end Go.Proofs.YtibdipfhfaeooaaGreatDoor


set_option linter.unusedVariables false
set_option linter.unusedSimpArgs false
namespace Go.Proofs.YtibdipfhfaeooaaGreatDoor
open Go.RowKit

theorem or_add (a b : Int) (s : Nat) (hs : s ≤ 64) (ha : 0 ≤ a) (h1 : a * 2 ^ s < 18446744073709551616) (hb : 0 ≤ b) (hb1 : b < 2 ^ s) : bits .or .u64 (a * 2 ^ s) b = a * 2 ^ s + b := by
 obtain ⟨a, rfl⟩ := Int.eq_ofNat_of_zero_le ha
 obtain ⟨b, rfl⟩ := Int.eq_ofNat_of_zero_le hb
 have e2 : ((2 ^ s : Nat) : Int) = 2 ^ s := by rw [Int.natCast_pow]; rfl
 have hb2 : b < 2 ^ s := by rw [← e2] at hb1; omega
 have e1 : (a : Int) * 2 ^ s = ((a * 2 ^ s : Nat) : Int) := by rw [Int.natCast_mul, e2]
 rw [e1] at h1 ⊢
 have h2 : a * 2 ^ s < 18446744073709551616 := by omega
 have hb3 : b < 18446744073709551616 := by
  have : (2 : Nat) ^ s ≤ 2 ^ 64 := Nat.pow_le_pow_right (by omega) hs
  omega
 rw [bits_or_u64_nat _ _ h2 hb3]
 have : a * 2 ^ s ||| b = a * 2 ^ s + b := by
  rw [Nat.mul_comm, Nat.two_pow_add_eq_or_of_lt hb2]
 rw [this]; rfl

theorem emq {N Q d : Int} (hd : 0 < d) (h0 : 0 ≤ N - Q * d) (h1 : N - Q * d < d) : N / d = Q ∧ N % d = N - Q * d :=
 (Int.ediv_emod_unique hd).2 ⟨by rw [Int.mul_comm d Q]; omega, h0, h1⟩
/-- The numbers of the school division by a number that ends with 32 zeros. -/
structure DivN (hi lo d : Int) (s : Nat) (Y y1 u v v1 v0 q1 r1 u2 q0 r0 : Int) : Prop where
 hY : d * 2 ^ s = Y
 hY1 : Y = y1 * 4294967296
 y1p : 0 < y1
 y1l : y1 < 4294967296
 hu : hi * 2 ^ s + lo / 2 ^ (64 - s) = u
 u0 : 0 ≤ u
 uY : u < Y
 hi0 : 0 ≤ hi * 2 ^ s
 hiY : hi * 2 ^ s < 18446744073709551616
 lo0 : 0 ≤ lo / 2 ^ (64 - s)
 lo1 : lo / 2 ^ (64 - s) < 2 ^ s
 hv : (lo * 2 ^ s) % 18446744073709551616 = v
 hv1 : v / 4294967296 = v1
 hv0 : v % 4294967296 = v0
 hq1 : u / y1 = q1
 hr1 : u % y1 = r1
 q10 : 0 ≤ q1
 q1l : q1 < 4294967296
 hu2 : r1 * 4294967296 + v1 = u2
 hq0 : u2 / y1 = q0
 hr0 : u2 % y1 = r0
 q00 : 0 ≤ q0
 q0l : q0 < 4294967296
 r00 : 0 ≤ r0
 r0l : r0 < y1
 v00 : 0 ≤ v0
 v0l : v0 < 4294967296
 v10 : 0 ≤ v1
 v1l : v1 < 4294967296
 r10 : 0 ≤ r1
 r1l : r1 < y1
 pl : (0 : Int) < 2 ^ s
 end1 : (hi * 18446744073709551616 + lo) / d = q1 * 4294967296 + q0
 end2 : (hi * 18446744073709551616 + lo) % d = (r0 * 4294967296 + v0) / 2 ^ s

theorem divN (hi lo d : Int) (s : Nat) (h0 : 0 ≤ hi) (h1 : hi < d) (h2 : d < 2147483648) (h3 : W64 lo) (hs : (s : Int) = 64 - (bl d.toNat : Int)) :
  ∃ Y y1 u v v1 v0 q1 r1 u2 q0 r0, DivN hi lo d s Y y1 u v v1 v0 q1 r1 u2 q0 r0 := by
 have l31 := bl_le (n := d.toNat) (k := 31) (by omega)
 have hlt := bl_lt d.toNat
 have hk : bl d.toNat = 64 - s := by omega
 rw [hk] at hlt
 obtain ⟨k, rfl⟩ : ∃ k, s = 32 + k := ⟨s - 32, by omega⟩
 obtain ⟨p, hp⟩ : ∃ p : Int, p = 2 ^ k := ⟨_, rfl⟩
 have hp0 : 0 < p := by rw [hp]; exact Int.pow_pos (by omega)
 have eP : (2 : Int) ^ (32 + k) = 4294967296 * p := by rw [Int.pow_add, hp]; rfl
 obtain ⟨t, ht⟩ : ∃ t : Int, t = 2 ^ (64 - (32 + k)) := ⟨_, rfl⟩
 have ht0 : 0 < t := by rw [ht]; exact Int.pow_pos (by omega)
 have etp : t * (4294967296 * p) = 18446744073709551616 := by
  rw [ht, ← eP, ← Int.pow_add, show 64 - (32 + k) + (32 + k) = 64 by omega]; rfl
 have hdt : d < t := by
  have : ((2 ^ (64 - (32 + k)) : Nat) : Int) = t := by rw [ht, Int.natCast_pow]; rfl
  omega
 obtain ⟨l0, l1⟩ := h3
 have hlo : lo / t < 4294967296 * p := (Int.ediv_lt_iff_lt_mul ht0).2 (by rw [Int.mul_comm, etp]; exact l1)
 have hlo0 : 0 ≤ lo / t := Int.ediv_nonneg l0 (by omega)
 have htp : t * p = 4294967296 := by grind
 have hY1 : d * p < 4294967296 := by
  have := Int.mul_lt_mul_of_pos_right hdt hp0; omega
 have hdp : 0 < d * p := Int.mul_pos (by omega) hp0
 have hlv : lo * (4294967296 * p) = (lo / t) * 18446744073709551616 + (lo % t) * (4294967296 * p) := by
  have := Int.mul_ediv_add_emod lo t
  rw [← etp]; grind
 have hmt := Int.emod_lt_of_pos lo ht0
 have hmt0 := Int.emod_nonneg lo (show t ≠ 0 by omega)
 have hv : lo * (4294967296 * p) % 18446744073709551616 = (lo % t) * (4294967296 * p) := by
  have h5 : (lo % t) * (4294967296 * p) < t * (4294967296 * p) := Int.mul_lt_mul_of_pos_right hmt (by omega)
  have h6 : 0 ≤ (lo % t) * (4294967296 * p) := Int.mul_nonneg hmt0 (by omega)
  omega
 have huY : hi * (4294967296 * p) + lo / t < d * (4294967296 * p) := by
  have : (hi + 1) * (4294967296 * p) ≤ d * (4294967296 * p) := Int.mul_le_mul_of_nonneg_right (by omega) (by omega)
  rw [Int.add_mul] at this; omega
 have hh0 : 0 ≤ hi * (4294967296 * p) := Int.mul_nonneg h0 (by omega)
 have eY : d * (4294967296 * p) = (d * p) * 4294967296 := by grind
 have key : (hi * 18446744073709551616 + lo) * (4294967296 * p) = (hi * (4294967296 * p) + lo / t) * 18446744073709551616 + (lo % t) * (4294967296 * p) := by
  rw [Int.add_mul, hlv]; grind
 have hN : ∀ a : Int, a = hi * 18446744073709551616 + lo → a * (4294967296 * p) = (hi * (4294967296 * p) + lo / t) * 18446744073709551616 + (lo % t) * (4294967296 * p) := by rintro _ rfl; exact key
 obtain ⟨N, hNN⟩ : ∃ N, hi * 18446744073709551616 + lo = N := ⟨_, rfl⟩
 have hN := hN N hNN.symm
 obtain ⟨u, hu⟩ : ∃ u, hi * (4294967296 * p) + lo / t = u := ⟨_, rfl⟩
 obtain ⟨v, hve⟩ : ∃ v, (lo % t) * (4294967296 * p) = v := ⟨_, rfl⟩
 obtain ⟨y, hy⟩ : ∃ y, d * p = y := ⟨_, rfl⟩
 have hv0 : 0 ≤ v ∧ v < 18446744073709551616 := by rw [← hve, ← hv]; omega
 rw [hu, hve] at hN
 rw [hve] at hv
 rw [hy] at hdp hY1 eY
 rw [hu, eY] at huY
 have hu0 : 0 ≤ u := by omega
 have a1 := Int.mul_ediv_add_emod u y
 have a2 := Int.emod_lt_of_pos u hdp
 have a3 := Int.emod_nonneg u (show y ≠ 0 by omega)
 have a4 : 0 ≤ u / y := Int.ediv_nonneg hu0 (by omega)
 have a5 : u / y < 4294967296 := (Int.ediv_lt_iff_lt_mul hdp).2 (by rw [Int.mul_comm]; exact huY)
 obtain ⟨q1, hq1⟩ : ∃ q1, u / y = q1 := ⟨_, rfl⟩
 obtain ⟨r1, hr1⟩ : ∃ r1, u % y = r1 := ⟨_, rfl⟩
 rw [hq1] at a1 a4 a5
 rw [hr1] at a1 a2 a3
 obtain ⟨v1, hv1⟩ : ∃ v1, v / 4294967296 = v1 := ⟨_, rfl⟩
 obtain ⟨v2, hv2⟩ : ∃ v2, v % 4294967296 = v2 := ⟨_, rfl⟩
 obtain ⟨u2, hu2⟩ : ∃ u2, r1 * 4294967296 + v1 = u2 := ⟨_, rfl⟩
 have hu20 : 0 ≤ u2 := by omega
 have hu2l : u2 < 4294967296 * y := by omega
 have b1 := Int.mul_ediv_add_emod u2 y
 have b2 := Int.emod_lt_of_pos u2 hdp
 have b3 := Int.emod_nonneg u2 (show y ≠ 0 by omega)
 have b4 : 0 ≤ u2 / y := Int.ediv_nonneg hu20 (by omega)
 have b5 : u2 / y < 4294967296 := (Int.ediv_lt_iff_lt_mul hdp).2 hu2l
 obtain ⟨q0, hq0⟩ : ∃ q0, u2 / y = q0 := ⟨_, rfl⟩
 obtain ⟨r0, hr0⟩ : ∃ r0, u2 % y = r0 := ⟨_, rfl⟩
 rw [hq0] at b1 b4 b5
 rw [hr0] at b1 b2 b3
 have hR : 0 ≤ r0 * 4294967296 + v2 := by omega
 have hRl : r0 * 4294967296 + v2 < y * 4294967296 := by omega
 have fin : N * (4294967296 * p) = (q1 * 4294967296 + q0) * d * (4294967296 * p) + (r0 * 4294967296 + v2) := by
  have e1 : v = v1 * 4294967296 + v2 := by omega
  have e2 : (q1 * 4294967296 + q0) * d * (4294967296 * p) = (q1 * 4294967296 + q0) * (y * 4294967296) := by rw [Int.mul_assoc, eY]
  rw [hN, e2, ← a1, e1]
  have : r1 * 4294967296 + v1 = y * q0 + r0 := by omega
  grind
 have hd0 : 0 < d := by omega
 have hrem : (N - (q1 * 4294967296 + q0) * d) * (4294967296 * p) = r0 * 4294967296 + v2 := by rw [Int.sub_mul]; omega
 have hP0 : 0 < 4294967296 * p := by omega
 have r0' : 0 ≤ N - (q1 * 4294967296 + q0) * d := by
  rcases Int.lt_or_le (N - (q1 * 4294967296 + q0) * d) 0 with h | h
  ·have := Int.mul_neg_of_neg_of_pos h hP0; omega
  ·exact h
 have r1' : N - (q1 * 4294967296 + q0) * d < d := by
  rcases Int.lt_or_le (N - (q1 * 4294967296 + q0) * d) d with h | h
  ·exact h
  ·have := Int.mul_le_mul_of_nonneg_right h (Int.le_of_lt hP0); omega
 refine ⟨y * 4294967296, y, u, v, v1, v2, q1, r1, u2, q0, r0, ?_⟩
 exact {
  hY := by rw [eP]; exact eY
  hY1 := rfl
  y1p := hdp
  y1l := hY1
  hu := by rw [eP, ← ht]; exact hu
  u0 := hu0
  uY := huY
  hi0 := by rw [eP]; exact hh0
  hiY := by rw [eP]; omega
  lo0 := by rw [← ht]; exact hlo0
  lo1 := by rw [← ht, eP]; exact hlo
  hv := by rw [eP]; exact hv
  hv1 := hv1
  hv0 := hv2
  hq1 := hq1
  hr1 := hr1
  q10 := a4
  q1l := a5
  hu2 := hu2
  hq0 := hq0
  hr0 := hr0
  q00 := b4
  q0l := b5
  r00 := b3
  r0l := b2
  v00 := by omega
  v0l := by omega
  v10 := by omega
  v1l := by omega
  r10 := a3
  r1l := a2
  pl := by rw [eP]; omega
  end1 := by
   rw [hNN]
   exact (emq hd0 r0' r1').1
  end2 := by
   rw [hNN, eP, ← hrem, Int.mul_ediv_cancel _ (by omega)]
   exact (emq hd0 r0' r1').2 }

theorem mask32 {a : Int} (h : W64 a) : bits .and .u64 a 4294967295 = a % 4294967296 := by
 obtain ⟨a, rfl⟩ := Int.eq_ofNat_of_zero_le h.1
 rw [M64.maskN a (by have := h.2; omega)]; omega
theorem wrap64 {a : Int} (h0 : 0 ≤ a) (h1 : a < 18446744073709551616) : IntKind.u64.wrap a = a := by rw [IntKind.wrap_u64]; omega
set_option maxRecDepth 100000 in
set_option maxHeartbeats 1000000 in
theorem Div64_c (hi lo d : Int) (h0 : 0 ≤ hi) (h1 : hi < d) (h2 : d < 2147483648) (h3 : W64 lo) (w : World) :
  Calls Tryz.prog 166 #[.int .u64 hi, .int .u64 lo, .int .u64 d] w fun e w' => e = .returned (.tuple #[.int .u64 ((hi * 18446744073709551616 + lo) / d), .int .u64 ((hi * 18446744073709551616 + lo) % d)]) ∧ Below w.heap.size w w' := by
 obtain ⟨l0, l1⟩ := h3
 have hB : Below w.heap.size w w := Below.refl _ _
 have n1 : (d == 0) = false := by simp; omega
 have n2 : decide (d ≤ hi) = false := by simp; omega
 have hW : W64 d := ⟨by omega, by omega⟩
 by_cases hz : hi = 0
 ·subst hz
  go_enter Tryz.func166, Tryz.ntmps166
  go_wp2
  go_quiet (fail)
  go_wp2
  go_ret2
  exact ⟨by simp, below_drewN hB _⟩
 ·have n3 : (hi == 0) = false := by simp; omega
  obtain ⟨s, hs⟩ : ∃ s : Nat, (s : Int) = 64 - (bl d.toNat : Int) := ⟨64 - bl d.toNat, by have := bl_le (n := d.toNat) (k := 31) (by omega); omega⟩
  have hs64 : s ≤ 64 := by omega
  obtain ⟨Y, y1, u, v, v1, v0, q1, r1, u2, q0, r0, D⟩ := divN hi lo d s h0 h1 h2 ⟨l0, l1⟩ hs
  have HS := Lib.hid hs
  clear hs hz
  have a1 := D.y1p; have a2 := D.y1l; have a3 := D.u0; have a4 := D.uY; have a5 := D.hY1; have a6 := D.hv1; have a7 := D.hv0; have a8 := D.q10; have a9 := D.q1l
  have b1 := D.q00; have b2 := D.q0l; have b3 := D.r00; have b4 := D.r0l; have b5 := D.v00; have b6 := D.v0l; have b7 := D.v10; have b8 := D.v1l; have b9 := D.r10; have c0 := D.r1l
  have hv : 0 ≤ v ∧ v < 18446744073709551616 := by omega
  have c1 : q1 * y1 = u - r1 := by have := Int.mul_ediv_add_emod u y1; rw [D.hq1, D.hr1, Int.mul_comm] at this; omega
  have c2 : q0 * y1 = u2 - r0 := by have := Int.mul_ediv_add_emod u2 y1; rw [D.hq0, D.hr0, Int.mul_comm] at this; omega
  have c3 : q1 * Y = (u - r1) * 4294967296 := by rw [a5, ← Int.mul_assoc, c1]
  have c4 : q0 * Y = (u2 - r0) * 4294967296 := by rw [a5, ← Int.mul_assoc, c2]
  have c5 := D.hu2
  have u20 : 0 ≤ u2 := by omega
  have c6 : 0 ≤ q1 * y1 := Int.mul_nonneg a8 (by omega)
  have c7 : 0 ≤ q0 * y1 := Int.mul_nonneg b1 (by omega)
  have e1 : IntKind.u64.wrap (s : Int) = s := wrap64 (by omega) (by omega)
  have e2 : min s 64 = s := by omega
  have e3 : IntKind.u64.wrap (d * 2 ^ s) = Y := by rw [D.hY]; exact wrap64 (by omega) (by omega)
  have e4 : Y / 4294967296 = y1 := by omega
  have e5 : bits .and .u64 Y 4294967295 = 0 := by rw [mask32 ⟨by omega, by omega⟩]; omega
  have e7 : IntKind.u64.wrap (64 - (s : Int)) = ((64 - s : Nat) : Int) := by rw [wrap64 (by omega) (by omega)]; omega
  have e8 : min (64 - s) 64 = 64 - s := by omega
  have e6 : bits .or .u64 (IntKind.u64.wrap (hi * 2 ^ s)) (lo / 2 ^ (64 - s)) = u := by
   rw [wrap64 D.hi0 D.hiY, or_add hi _ s hs64 h0 D.hiY D.lo0 D.lo1, D.hu]
  obtain ⟨H, hH⟩ : ∃ H, IntKind.u64.wrap (hi * 2 ^ s) = H := ⟨_, rfl⟩
  rw [hH] at e6
  have e9 : IntKind.u64.wrap (lo * 2 ^ s) = v := by rw [IntKind.wrap_u64]; exact D.hv
  have f1 : bits .and .u64 v 4294967295 = v0 := by rw [mask32 hv]; exact a7
  have f2 : (y1 == 0) = false := by simp; omega
  have f3 := D.hq1
  obtain ⟨m, f4⟩ : ∃ m, IntKind.u64.wrap (q1 * y1) = m := ⟨_, rfl⟩
  have f5 : IntKind.u64.wrap (u - m) = r1 := by rw [← f4, c1, IntKind.wrap_u64, IntKind.wrap_u64]; omega
  have f6 : decide (4294967296 ≤ q1) = false := by simp; omega
  obtain ⟨m2, f7⟩ : ∃ m, IntKind.u64.wrap (4294967296 * r1) = m := ⟨_, rfl⟩
  obtain ⟨m3, f8⟩ : ∃ m, IntKind.u64.wrap (m2 + v1) = m := ⟨_, rfl⟩
  have f9 : decide (m3 < 0) = false := by rw [← f8, IntKind.wrap_u64]; simp; omega
  obtain ⟨m4, g1⟩ : ∃ m, IntKind.u64.wrap (u * 4294967296) = m := ⟨_, rfl⟩
  obtain ⟨m5, g2⟩ : ∃ m, IntKind.u64.wrap (m4 + v1) = m := ⟨_, rfl⟩
  obtain ⟨m6, g3⟩ : ∃ m, IntKind.u64.wrap (q1 * Y) = m := ⟨_, rfl⟩
  have g4 : IntKind.u64.wrap (m5 - m6) = u2 := by rw [← g3, ← g2, ← g1, c3]; simp only [IntKind.wrap_u64]; omega
  have g5 : u2.tdiv y1 = q0 := by rw [Int.tdiv_eq_ediv_of_nonneg u20]; exact D.hq0
  have g5' := D.hq0
  obtain ⟨m7, g6⟩ : ∃ m, IntKind.u64.wrap (q0 * y1) = m := ⟨_, rfl⟩
  have g7 : IntKind.u64.wrap (u2 - m7) = r0 := by rw [← g6, c2, IntKind.wrap_u64, IntKind.wrap_u64]; omega
  have g8 : decide (4294967296 ≤ q0) = false := by simp; omega
  obtain ⟨m8, g9⟩ : ∃ m, IntKind.u64.wrap (4294967296 * r0) = m := ⟨_, rfl⟩
  obtain ⟨m9, i1⟩ : ∃ m, IntKind.u64.wrap (m8 + v0) = m := ⟨_, rfl⟩
  have i2 : decide (m9 < 0) = false := by rw [← i1, IntKind.wrap_u64]; simp; omega
  obtain ⟨j1, i3⟩ : ∃ m, IntKind.u64.wrap (q1 * 4294967296) = m := ⟨_, rfl⟩
  have i4 : IntKind.u64.wrap (j1 + q0) = (hi * 18446744073709551616 + lo) / d := by rw [D.end1, ← i3]; simp only [IntKind.wrap_u64]; omega
  obtain ⟨j2, i5⟩ : ∃ m, IntKind.u64.wrap (u2 * 4294967296) = m := ⟨_, rfl⟩
  obtain ⟨j3, i6⟩ : ∃ m, IntKind.u64.wrap (j2 + v0) = m := ⟨_, rfl⟩
  obtain ⟨j4, i7⟩ : ∃ m, IntKind.u64.wrap (q0 * Y) = m := ⟨_, rfl⟩
  have i8 : IntKind.u64.wrap (j3 - j4) = r0 * 4294967296 + v0 := by rw [← i7, ← i6, ← i5, c4]; simp only [IntKind.wrap_u64]; omega
  obtain ⟨R, i9⟩ : ∃ m, r0 * 4294967296 + v0 = m := ⟨_, rfl⟩
  rw [i9] at i8
  have k1 : R / 2 ^ s = (hi * 18446744073709551616 + lo) % d := by rw [D.end2, i9]
  clear i9 c1 c2 c3 c4 c5 a5 hv c6 c7 a7
  obtain ⟨aQ, hQ⟩ : ∃ m, (hi * 18446744073709551616 + lo) / d = m := ⟨_, rfl⟩
  obtain ⟨aR, hR⟩ : ∃ m, (hi * 18446744073709551616 + lo) % d = m := ⟨_, rfl⟩
  rw [hQ] at i4
  rw [hR] at k1
  rw [hQ, hR]
  clear hQ hR
  go_enter Tryz.func166, Tryz.ntmps166
  go_wp2_with (fail)
  (with_reducible refine (Lead64_c d _ hW).mono ?_)
  rintro e w' ⟨rfl, hw⟩
  subst hw
  simp only [← HS.out]
  go_wp2
  go_loop [15, 16] (fun a b => a = .int .u64 q1 ∧ b = .int .u64 r1) (fun _ _ => 0)
  case atStart => exact ⟨by rw [f3], by simp only [f3, f4, f5]⟩
  case round =>
   obtain ⟨rfl, rfl⟩ := hrel
   go_wp2
   go_loop [18, 16] (fun a b => a = .int .u64 q0 ∧ b = .int .u64 r0) (fun _ _ => 0)
   case atStart => exact ⟨rfl, rfl⟩
   case round =>
    obtain ⟨rfl, rfl⟩ := hrel
    go_wp2
    go_ret2
    exact ⟨rfl, hB⟩
end Go.Proofs.YtibdipfhfaeooaaGreatDoor


set_option linter.unusedVariables false
set_option linter.unusedSimpArgs false
namespace Go.Proofs.YtibdipfhfaeooaaGreatDoor
open Go.RowKit

theorem Vtake_len {B : Nat} {l : List Int} {k : Nat} (h : l.length ≤ k) : V B (l.take k) = V B l := by rw [List.take_of_length_le h]
/-- The sum, place by place. -/
def WpI (a b l : List Int) (n i : Nat) (cy : Int) : Prop :=
 l.length = n ∧ Dg B64 l ∧ 0 ≤ cy ∧ cy ≤ 1 ∧ V B64 l + (B64 : Int) ^ i * cy = V B64 (a.take i) + V B64 (b.take i) ∧ i ≤ n ∧ (∀ j, i ≤ j → gd l j = 0)
theorem WpI.step {a b l : List Int} {n i : Nat} {cy m q : Int} (h : WpI a b l n i cy) (hi : i < n) (hs : m + 18446744073709551616 * q = gd a i + gd b i + cy) (hm : W64 m) (hq : 0 ≤ q ∧ q ≤ 1) : WpI a b (l.set i m) n (i + 1) q := by
 obtain ⟨h1, h2, h3, h4, h5, h6, h7⟩ := h
 refine ⟨by simp [h1], h2.set _ hm.1 hm.2, hq.1, hq.2, ?_, by omega, fun j hj => by rw [gd_set_ne _ (by omega)]; exact h7 j (by omega)⟩
 rw [Vset _ _ _ (by omega), h7 i (Nat.le_refl _), Vtake, Vtake, Int.pow_succ, Int.sub_zero, B64c]
 rw [B64c] at h5
 exact carry_ring h5 hs
theorem WpI.first (a b : List Int) (n : Nat) : WpI a b (List.replicate n 0) n 0 0 := ⟨by simp, Dg.zeros (by decide) _, by omega, by omega, by simp [V_zeros, V], by omega, fun j _ => by simp [gd, List.getElem?_replicate]; split <;> rfl⟩
theorem two_pow (k : Nat) : (B64 : Int) ^ k + (B64 : Int) ^ k ≤ (B64 : Int) ^ (k + 1) := by
 rw [Int.pow_succ, B64c]
 have : (0 : Int) < 18446744073709551616 ^ k := Int.pow_pos (by omega)
 omega
theorem Vlt_pow {l : List Int} (h : Dg B64 l) {k : Nat} (hk : l.length ≤ k) : V B64 l < (B64 : Int) ^ k :=
 Int.lt_of_lt_of_le (V_lt h) (by
  have : ((B64 ^ l.length : Nat) : Int) ≤ ((B64 ^ k : Nat) : Int) := Int.ofNat_le.2 (Nat.pow_le_pow_right (by decide) hk)
  simpa only [Int.natCast_pow] using this)
theorem WpI.last {a b l : List Int} {k : Nat} {cy : Int} (h : WpI a b l (k + 1) (k + 1) cy) (ha : Dg B64 a) (hb : Dg B64 b) (la : a.length ≤ k) (lb : b.length ≤ k) : V B64 l = V B64 a + V B64 b := by
 obtain ⟨h1, h2, h3, h4, h5, h6, h7⟩ := h
 rw [Vtake_len (by omega), Vtake_len (by omega)] at h5
 have v0 := V_nonneg h2
 have va := Vlt_pow ha la
 have vb := Vlt_pow hb lb
 have tp := two_pow k
 have : cy = 0 ∨ cy = 1 := by omega
 rcases this with rfl | rfl
 ·simpa using h5
 ·omega

set_option maxRecDepth 100000 in
set_option maxHeartbeats 2000000 in
theorem Plus_c (x y : Nat) (v1 v2 : Value) (w : World) (h1 : IsW w v1 x) (h2 : IsW w v2 y) (sx : (digs B64 x).length ≤ 1000000000) (sy : (digs B64 y).length ≤ 1000000000) :
  Calls Tryz.prog 154 #[v1, v2] w fun e w' => ∃ v, e = .returned v ∧ IsW w' v (x + y) ∧ Below w.heap.size w w' := by
 obtain ⟨A1, c1, rfl, hs1⟩ := h1
 obtain ⟨A2, c2, rfl, hs2⟩ := h2
 have D1 := Lib.hid (digs_dg B64two x)
 have D2 := Lib.hid (digs_dg B64two y)
 have HR : Hid ((V B64 (digs B64 x) + V B64 (digs B64 y)).toNat = x + y) := by
  show _ = _
  rw [digs_V B64two, digs_V B64two, ← Int.natCast_add]; rfl
 generalize digs B64 x = a at *
 generalize digs B64 y = b at *
 have L1 := Lib.hid hs1
 have L2 := Lib.hid hs2
 clear hs1 hs2
 obtain ⟨m, hm⟩ : ∃ m : Nat, max (a.length : Int) b.length = m := ⟨max a.length b.length, by omega⟩
 have la : a.length ≤ m := by omega
 have lb : b.length ≤ m := by omega
 have lm : m ≤ 1000000000 := by omega
 have hmk := fun W => run_make_row' (P := Tryz.prog) 81 150 (.int .u64 0) 8 Tryz.underlying81 info_u64 rfl .i64 .i64 (m + 1) (by omega) (by omega) W
 rw [show ((m + 1 : Nat) : Int) = (m : Int) + 1 by omega] at hmk
 go_enter Tryz.func154, Tryz.ntmps154
 go_wp2
 clear hmk hm
 have HG0 := Lib.hid (BlkI.new w 150 .u64 (m + 1))
 have HB0 := Lib.hid (below_alloc (Below.refl w.heap.size w) (Obj.cells (madeCells #[Value.int IntKind.u64 0] (m + 1)) 150))
 go_loopw [6, 17] (fun cv iv wr => ∃ (i : Nat) (cy : Int) (l : List Int), iv = .int .i64 i ∧ cv = .int .u64 cy ∧ Hid (BlkI wr w.heap.size 150 .u64 l) ∧ Below w.heap.size w wr ∧ Hid (WpI a b l (m + 1) i cy)) (fun _ iv _ => (m + 1) - (intOf iv).toNat)
 case atStart => exact ⟨0, 0, _, rfl, rfl, HG0, HB0.out, WpI.first a b _⟩
 case round =>
  obtain ⟨i, cy, l, rfl, rfl, HG, HB, HI⟩ := hrel
  clear HG0 HB0
  obtain ⟨i1, i2, i3, i4, i5, i6, i7⟩ := HI.out
  have I2 := Lib.hid i2
  have I1 := Lib.hid i1
  clear i5 i7 i2
  by_cases hi : i < m + 1
  ·have x1 := gdW D1.out i
   have x2 := gdW D2.out i
   have q1 := HG.out.cell (j := i) (by omega)
   have q2 := HG.out.frozen i
   have HA := Lib.hid (at_c A1 c1 a i wr (L1.out.below HB))
   have HC := Lib.hid (at_c A2 c2 b i wr (L2.out.below HB))
   have HST := Lib.hid (fun m q => HI.out.step (m := m) (q := q) hi)
   generalize gd a i = x at *
   generalize gd b i = y at *
   obtain ⟨s, hs⟩ : ∃ s, (x + y + cy) % 18446744073709551616 = s := ⟨_, rfl⟩
   obtain ⟨q, hq⟩ : ∃ q, (x + y + cy) / 18446744073709551616 = q := ⟨_, rfl⟩
   have hS := fun W => add64 x y cy x1.1 x2.1 i3 i4 W
   rw [hs, hq] at hS
   have x1' := x1.1; have x1'' := x1.2; have x2' := x2.1; have x2'' := x2.2
   replace HST := Lib.hid (HST.out s q (by omega) ⟨by omega, by omega⟩ (by omega))
   clear x1 x2 hs hq HI
   go_wp2_with (first
    | (go_at_call 180; (first | (with_reducible refine HA.out.mono ?_) | (with_reducible refine HC.out.mono ?_)); rintro e w' ⟨rfl, hw⟩; rw [hw]; clear hw w')
    | simp only [hS])
   go_roundw
   case rel => exact ⟨i + 1, _, _, by go_num, rfl, HG.out.set _ _, HB.setCell (p := ⟨_, _, none⟩) (Nat.le_refl _) _, HST.out⟩
   case measure => simp [intOf]; omega
  ·obtain rfl : i = m + 1 := by omega
   have HE := Lib.hid (HI.out.last D1.out D2.out la lb)
   have HL := Lib.hid (HG.out.slI (by omega))
   have hT := wtrim_n _ _ l _ HL.out I2.out
   rw [i1] at hT
   have HT := Lib.hid hT
   clear hT HI i1
   go_wp2_with fail
   (with_reducible refine HT.out.mono ?_)
   rintro e w' ⟨v, rfl, hv, rfl⟩
   rw [HE.out, HR.out] at hv
   go_wp2
   go_ret
   exact ⟨_, rfl, hv, HB⟩
end Go.Proofs.YtibdipfhfaeooaaGreatDoor


set_option linter.unusedVariables false
set_option linter.unusedSimpArgs false
namespace Go.Proofs.YtibdipfhfaeooaaGreatDoor
open Go.RowKit

theorem cell_set_ne {w : World} {b o b' o' : Nat} {u v : Value} (h : w.cell? ⟨b, o, none⟩ = some v) (hne : b ≠ b') : (w.setCell ⟨b', o', none⟩ u).cell? ⟨b, o, none⟩ = some v := by
 rw [World.cell?_setCell_other _ _ _ _ (by intro e; injection e with e; exact hne e.symm)]
 exact h
theorem bor_01 (x y : Int) : bor x y = 0 ∨ bor x y = 1 := by unfold bor; split <;> omega
theorem bor_eq {x y : Int} (hx : W64 x) (hy : W64 y) {b : Int} (hb : 0 ≤ b ∧ b ≤ 1) : (x - y - b) % 18446744073709551616 = x - y - b + 18446744073709551616 * bor x (y + b) := by
 unfold bor; obtain ⟨h1, h2⟩ := hx; obtain ⟨h3, h4⟩ := hy; split <;> omega
/-- The difference, place by place. -/
def WsI (a b l : List Int) (i : Nat) (cy : Int) : Prop :=
 l.length = a.length ∧ Dg B64 l ∧ 0 ≤ cy ∧ cy ≤ 1 ∧ V B64 l = V B64 (a.take i) - V B64 (b.take i) + (B64 : Int) ^ i * cy ∧ i ≤ a.length ∧ (∀ j, i ≤ j → gd l j = 0)
theorem WsI.step {a b l : List Int} {i : Nat} {cy m q : Int} (h : WsI a b l i cy) (hi : i < a.length) (hs : m = gd a i - gd b i - cy + 18446744073709551616 * q) (hm : W64 m) (hq : 0 ≤ q ∧ q ≤ 1) : WsI a b (l.set i m) (i + 1) q := by
 obtain ⟨h1, h2, h3, h4, h5, h6, h7⟩ := h
 refine ⟨by simp [h1], h2.set _ hm.1 hm.2, hq.1, hq.2, ?_, by omega, fun j hj => by rw [gd_set_ne _ (by omega)]; exact h7 j (by omega)⟩
 rw [Vset _ _ _ (by omega), h7 i (Nat.le_refl _), Vtake, Vtake, Int.pow_succ, Int.sub_zero, B64c]
 rw [B64c] at h5
 exact borrow_ring h5 hs
theorem WsI.first (a b : List Int) : WsI a b (List.replicate a.length 0) 0 0 := ⟨by simp, Dg.zeros (by decide) _, by omega, by omega, by simp [V_zeros, V], by omega, fun j _ => by simp [gd, List.getElem?_replicate]; split <;> rfl⟩
theorem WsI.last {a b l : List Int} {cy : Int} (h : WsI a b l a.length cy) (ha : Dg B64 a) (hb : Dg B64 b) (lb : b.length ≤ a.length) (hle : V B64 b ≤ V B64 a) : V B64 l = V B64 a - V B64 b := by
 obtain ⟨h1, h2, h3, h4, h5, h6, h7⟩ := h
 rw [Vtake_len (Nat.le_refl _), Vtake_len lb] at h5
 have v1 := V_lt h2
 rw [h1] at v1
 have : cy = 0 ∨ cy = 1 := by omega
 rcases this with rfl | rfl
 ·simpa using h5
 ·omega

set_option maxRecDepth 100000 in
set_option maxHeartbeats 2000000 in
theorem wMinus_c (x y : Nat) (v1 v2 : Value) (w : World) (h1 : IsW w v1 x) (h2 : IsW w v2 y) (sx : (digs B64 x).length ≤ 1000000000) (hxy : y ≤ x) :
  Calls Tryz.prog 162 #[v1, v2] w fun e w' => ∃ v, e = .returned v ∧ IsW w' v (x - y) ∧ Below w.heap.size w w' := by
 obtain ⟨A1, c1, rfl, hs1⟩ := h1
 obtain ⟨A2, c2, rfl, hs2⟩ := h2
 have D1 := Lib.hid (digs_dg B64two x)
 have D2 := Lib.hid (digs_dg B64two y)
 have lab : (digs B64 y).length ≤ (digs B64 x).length := digs_len_mono B64two hxy
 have HLE : Hid (V B64 (digs B64 y) ≤ V B64 (digs B64 x)) := by show _ ≤ _; rw [digs_V B64two, digs_V B64two]; omega
 have HR : Hid ((V B64 (digs B64 x) - V B64 (digs B64 y)).toNat = x - y) := by
  show _ = _
  rw [digs_V B64two, digs_V B64two]; omega
 generalize digs B64 x = a at *
 generalize digs B64 y = b at *
 have L1 := Lib.hid hs1
 have L2 := Lib.hid hs2
 clear hs1 hs2 hxy
 have hmk := fun W => run_make_row' (P := Tryz.prog) 81 150 (.int .u64 0) 8 Tryz.underlying81 info_u64 rfl .i64 .i64 a.length (by omega) (by omega) W
 go_enter Tryz.func162, Tryz.ntmps162
 go_wp2
 clear hmk
 have HG0 := Lib.hid (BlkI.new w 150 .u64 a.length)
 have HB0 := Lib.hid (below_alloc (Below.refl w.heap.size w) (Obj.cells (madeCells #[Value.int IntKind.u64 0] a.length) 150))
 go_loopw [6, 13] (fun cv iv wr => ∃ (i : Nat) (cy : Int) (l : List Int), iv = .int .i64 i ∧ cv = .int .u64 cy ∧ Hid (BlkI wr w.heap.size 150 .u64 l) ∧ Below w.heap.size w wr ∧ Hid (WsI a b l i cy)) (fun _ iv _ => a.length - (intOf iv).toNat)
 case atStart => exact ⟨0, 0, _, rfl, rfl, HG0, HB0.out, WsI.first a b⟩
 case round =>
  obtain ⟨i, cy, l, rfl, rfl, HG, HB, HI⟩ := hrel
  clear HG0 HB0
  obtain ⟨i1, i2, i3, i4, i5, i6, i7⟩ := HI.out
  have I2 := Lib.hid i2
  clear i5 i7 i2
  by_cases hi : i < a.length
  ·have x1 := gdW D1.out i
   have x2 := gdW D2.out i
   have q1 := HG.out.cell (j := i) (by omega)
   have q2 := HG.out.frozen i
   obtain ⟨ba, oa, rfl, hla, hca⟩ := (L1.out.below HB).cell (j := i) hi
   obtain ⟨_, _, he, hla2, _⟩ := L1.out.cell (j := i) hi
   obtain ⟨rfl, rfl⟩ : ba = _ ∧ oa = _ := by simpa using he
   clear he
   have hne : ba ≠ w.heap.size := by omega
   have HC := Lib.hid (at_c A2 c2 b i wr.drew (L2.out.below (below_drew HB)))
   have HST := Lib.hid (fun m q => HI.out.step (m := m) (q := q) hi)
   generalize gd a i = x at *
   generalize gd b i = y at *
   have hb := bor_eq x1 x2 ⟨i3, i4⟩
   have hb1 := bor_01 x (y + cy)
   obtain ⟨s, hs⟩ : ∃ s, (x - y - cy) % 18446744073709551616 = s := ⟨_, rfl⟩
   obtain ⟨q, hq⟩ : ∃ q, bor x (y + cy) = q := ⟨_, rfl⟩
   have hS := fun W => sub64 x y cy x1.1 x2.1 x2.2 i3 i4 W
   rw [hs, hq] at hS
   rw [hs, hq] at hb
   rw [hq] at hb1
   replace HST := Lib.hid (HST.out s q hb ⟨by omega, by omega⟩ (by omega))
   clear x1 x2 hs hq HI hb hb1
   go_wp2
   go_region_held3 (fun w' => w'.cell? ⟨ba, oa + i, none⟩ = some (.int .u64 x))
    (first | exact hca | exact cell_set_ne hca hne)
    (first
     | (go_at_call 180; (with_reducible refine HC.out.mono ?_); rintro e w' ⟨rfl, hw⟩; rw [hw]; clear hw w')
     | simp only [hS])
   go_wp2
   go_roundw
   case rel => exact ⟨i + 1, _, _, by go_num, rfl, HG.out.drew.set _ _, (below_drew HB).setCell (p := ⟨_, _, none⟩) (Nat.le_refl _) _, HST.out⟩
   case measure => simp [intOf]; omega
  ·obtain rfl : i = a.length := by omega
   have HE := Lib.hid (HI.out.last D1.out D2.out lab HLE.out)
   have HL := Lib.hid (HG.out.slI (by omega))
   have hT := wtrim_n _ _ l _ HL.out I2.out
   rw [i1] at hT
   have HT := Lib.hid hT
   clear hT HI i1
   go_wp2_with fail
   (with_reducible refine HT.out.mono ?_)
   rintro e w' ⟨v, rfl, hv, rfl⟩
   rw [HE.out, HR.out] at hv
   go_wp2
   go_ret
   exact ⟨_, rfl, hv, HB⟩

theorem V_sp {B : Nat} (l : List Int) (i : Nat) : V B l = V B (l.take i) + (B : Int) ^ i * V B (l.drop i) := by
 by_cases h : i ≤ l.length
 ·exact V_split B l i h
 ·rw [List.take_of_length_le (by omega), List.drop_of_length_le (by omega)]; simp [V]
theorem cmp_at {a b : List Int} {i : Nat} (ha : Dg B64 a) (hb : Dg B64 b) (he : V B64 (a.drop (i + 1)) = V B64 (b.drop (i + 1))) (h : gd a i < gd b i) : V B64 a < V B64 b := by
 rw [V_sp a i, V_sp b i, Vdrop a, Vdrop b, he]
 have h1 := Vlt_pow (ha.take i) (k := i) (by rw [List.length_take]; omega)
 have h2 := V_nonneg (hb.take i)
 have h3 : (B64 : Int) ^ i * (gd a i + 1) ≤ (B64 : Int) ^ i * gd b i := Int.mul_le_mul_of_nonneg_left (by omega) (Int.pow_nonneg (by rw [B64c]; omega))
 rw [Int.mul_add, Int.mul_one] at h3
 rw [Int.mul_add, Int.mul_add]
 omega
set_option maxRecDepth 100000 in
set_option maxHeartbeats 2000000 in
theorem Compare_c (x y : Nat) (v1 v2 : Value) (w : World) (h1 : IsW w v1 x) (h2 : IsW w v2 y) :
  Calls Tryz.prog 161 #[v1, v2] w fun e w' => e = .returned (.int .i64 (icmp x y)) ∧ w' = w := by
 obtain ⟨A1, c1, rfl, hs1⟩ := h1
 obtain ⟨A2, c2, rfl, hs2⟩ := h2
 have D1 := Lib.hid (digs_dg B64two x)
 have D2 := Lib.hid (digs_dg B64two y)
 have E1 := Lib.hid (digs_V B64two x)
 have E2 := Lib.hid (digs_V B64two y)
 generalize digs B64 x = a at *
 generalize digs B64 y = b at *
 have l1 := hs1.2.1; have l2 := hs1.2.2; have l3 := hs2.2.1; have l4 := hs2.2.2
 obtain ⟨m, hm⟩ : ∃ m : Nat, max (a.length : Int) b.length = m := ⟨max a.length b.length, by omega⟩
 have la : a.length ≤ m := by omega
 have lb : b.length ≤ m := by omega
 have lm : m ≤ 9223372036854775807 := by omega
 go_enter Tryz.func161, Tryz.ntmps161
 go_wp2
 clear hm
 go_loop [5] (fun iv => ∃ k : Nat, iv = .int .i64 ((k : Int) - 1) ∧ k ≤ m ∧ V B64 (a.drop k) = V B64 (b.drop k)) (fun iv => (intOf iv + 1).toNat)
 case atStart => exact ⟨m, rfl, Nat.le_refl _, by rw [List.drop_of_length_le la, List.drop_of_length_le lb]⟩
 case round =>
  obtain ⟨k, rfl, hk, he⟩ := hrel
  have HE := Lib.hid he
  clear he
  rcases Nat.eq_zero_or_pos k with rfl | hk0
  ·have HZ : Hid (icmp x y = 0) := by
    have := HE.out; simp only [List.drop_zero] at this
    show _ = _; unfold icmp; rw [← E1.out, ← E2.out, this]; simp
   go_wp2
   go_ret
   exact ⟨by rw [HZ.out]; rfl, rfl⟩
  ·obtain ⟨k, rfl⟩ : ∃ j, k = j + 1 := ⟨k - 1, by omega⟩
   rw [show ((k + 1 : Nat) : Int) - 1 = (k : Int) by omega]
   have HA := Lib.hid (at_c A1 c1 a k w hs1)
   have HC := Lib.hid (at_c A2 c2 b k w hs2)
   have HLT := Lib.hid (fun h => cmp_at (i := k) D1.out D2.out HE.out h)
   have HGT := Lib.hid (fun h => cmp_at (i := k) D2.out D1.out HE.out.symm h)
   have HEQ : Hid (gd a k = gd b k → V B64 (a.drop k) = V B64 (b.drop k)) := fun h => by rw [Vdrop a k, Vdrop b k, h, HE.out]
   generalize gd a k = p at *
   generalize gd b k = q at *
   rcases Int.lt_trichotomy p q with h | h | h
   ·have t1 : decide (p < q) = true := by simpa using h
    have HZ : Hid (icmp x y = -1) := by have := HLT.out h; rw [E1.out, E2.out] at this; show _ = _; unfold icmp; rw [if_pos this]
    clear h
    go_wp2_with (go_at_call 180; (first | (with_reducible refine HA.out.mono ?_) | (with_reducible refine HC.out.mono ?_)); rintro e w' ⟨rfl, hw⟩; rw [hw]; clear hw w')
    go_ret
    exact ⟨by rw [HZ.out]; rfl, rfl⟩
   ·have t1 : decide (p < q) = false := by simp; omega
    have t2 : decide (q < p) = false := by simp; omega
    have HZ := Lib.hid (HEQ.out h)
    clear h
    go_wp2_with (go_at_call 180; (first | (with_reducible refine HA.out.mono ?_) | (with_reducible refine HC.out.mono ?_)); rintro e w' ⟨rfl, hw⟩; rw [hw]; clear hw w')
    go_round
    case rel => exact ⟨k, by go_num, by omega, HZ.out⟩
    case measure => simp [intOf]
   ·have t1 : decide (p < q) = false := by simp; omega
    have t2 : decide (q < p) = true := by simpa using h
    have HZ : Hid (icmp x y = 1) := by have := HGT.out h; rw [E1.out, E2.out] at this; show _ = _; unfold icmp; rw [if_neg (by omega), if_pos this]
    clear h
    go_wp2_with (go_at_call 180; (first | (with_reducible refine HA.out.mono ?_) | (with_reducible refine HC.out.mono ?_)); rintro e w' ⟨rfl, hw⟩; rw [hw]; clear hw w')
    go_ret
    exact ⟨by rw [HZ.out]; rfl, rfl⟩
end Go.Proofs.YtibdipfhfaeooaaGreatDoor


set_option linter.unusedVariables false
set_option linter.unusedSimpArgs false
namespace Go.Proofs.YtibdipfhfaeooaaGreatDoor
open Go.RowKit

end Go.Proofs.YtibdipfhfaeooaaGreatDoor


set_option linter.unusedVariables false
set_option linter.unusedSimpArgs false
namespace Go.Proofs.YtibdipfhfaeooaaGreatDoor
open Go.RowKit

end Go.Proofs.YtibdipfhfaeooaaGreatDoor


set_option linter.unusedVariables false
set_option linter.unusedSimpArgs false
namespace Go.Proofs.YtibdipfhfaeooaaGreatDoor
open Go.RowKit

/-- The quotient, from the top down to k. -/
def WoI (a l : List Int) (d : Int) (k : Nat) (r : Int) : Prop :=
 l.length = a.length ∧ Dg B64 l ∧ 0 ≤ r ∧ r < d ∧ V B64 (a.drop k) = d * V B64 (l.drop k) + r ∧ k ≤ a.length
theorem quo_lt {r x d : Int} (h0 : 0 ≤ r) (h1 : r < d) (h2 : W64 x) : W64 ((r * 18446744073709551616 + x) / d) := by
 obtain ⟨h3, h4⟩ := h2
 refine ⟨Int.ediv_nonneg (by omega) (by omega), Int.ediv_lt_of_lt_mul (by omega) ?_⟩
 have : r + 1 ≤ d := by omega
 have := Int.mul_le_mul_of_nonneg_left this (show (0 : Int) ≤ 18446744073709551616 by omega)
 omega
theorem WoI.step {a l : List Int} {d : Int} {k : Nat} {r : Int} (ha : Dg B64 a) (h : WoI a l d (k + 1) r) :
  WoI a (l.set k ((r * 18446744073709551616 + gd a k) / d)) d k ((r * 18446744073709551616 + gd a k) % d) := by
 obtain ⟨h1, h2, h3, h4, h5, h6⟩ := h
 have hq := quo_lt h3 h4 (gdW ha k)
 refine ⟨by simp [h1], h2.set _ hq.1 hq.2, Int.emod_nonneg _ (by omega), Int.emod_lt_of_pos _ (by omega), ?_, by omega⟩
 rw [Vdrop a k, Vset_drop _ (by omega), B64c]
 exact part_ring h5 (Int.mul_ediv_add_emod _ _)
theorem WoI.first (a : List Int) (d : Int) (hd : 1 ≤ d) : WoI a (List.replicate a.length 0) d a.length 0 :=
 ⟨by simp, Dg.zeros (by decide) _, by omega, by omega, by rw [List.drop_of_length_le (Nat.le_refl _), List.drop_of_length_le (by simp)]; simp [V], Nat.le_refl _⟩
theorem WoI.last {a l : List Int} {d : Int} {r : Int} (h : WoI a l d 0 r) : V B64 l = V B64 a / d ∧ r = V B64 a % d := by
 obtain ⟨h1, h2, h3, h4, h5, h6⟩ := h
 simp only [List.drop_zero] at h5
 have := (Int.ediv_emod_unique (a := V B64 a) (b := d) (r := r) (q := V B64 l) (by omega)).2 ⟨by rw [h5]; omega, h3, h4⟩
 exact ⟨this.1.symm, this.2.symm⟩

set_option maxRecDepth 100000 in
set_option maxHeartbeats 2000000 in
theorem Over_c (x d : Nat) (v : Value) (w : World) (h1 : IsW w v x) (d1 : 1 ≤ d) (d2 : d < 2147483648) (sx : (digs B64 x).length ≤ 1000000000) :
  Calls Tryz.prog 147 #[v, .int .u64 d] w fun e w' => ∃ g m c, e = .returned (.tuple #[.slice (some ⟨g, 0, none⟩) m c, .int .u64 ((x % d : Nat) : Int)]) ∧ IsW w' (.slice (some ⟨g, 0, none⟩) m c) (x / d) ∧ Below w.heap.size w w' ∧ w.heap.size ≤ g := by
 obtain ⟨A1, c1, rfl, hs1⟩ := h1
 have D1 := Lib.hid (digs_dg B64two x)
 have HV := Lib.hid (digs_V B64two x)
 generalize digs B64 x = a at *
 have L1 := Lib.hid hs1
 clear hs1
 have hmk := fun W => run_make_row' (P := Tryz.prog) 81 150 (.int .u64 0) 8 Tryz.underlying81 info_u64 rfl .i64 .i64 a.length (by omega) (by omega) W
 go_enter Tryz.func147, Tryz.ntmps147
 go_wp2
 clear hmk
 have HG0 := Lib.hid (BlkI.new w 150 .u64 a.length)
 have HB0 := Lib.hid (below_alloc (Below.refl w.heap.size w) (Obj.cells (madeCells #[Value.int IntKind.u64 0] a.length) 150))
 go_loopw [7, 8] (fun cv iv wr => ∃ (i : Nat) (r : Int) (l : List Int), iv = .int .i64 ((i : Int) - 1) ∧ cv = .int .u64 r ∧ Hid (BlkI wr w.heap.size 150 .u64 l) ∧ Below w.heap.size w wr ∧ Hid (WoI a l d i r)) (fun _ iv _ => (intOf iv + 1).toNat)
 case atStart => exact ⟨a.length, 0, _, rfl, rfl, HG0, HB0.out, WoI.first a d (by omega)⟩
 case round =>
  obtain ⟨i, r, l, rfl, rfl, HG, HB, HI⟩ := hrel
  clear HG0 HB0
  rcases Nat.eq_zero_or_pos i with rfl | hi0
  ·obtain ⟨i1, i2, i3, i4, i5, i6⟩ := HI.out
   have I2 := Lib.hid i2
   have HE := Lib.hid HI.out.last
   have HL := Lib.hid (HG.out.slI (by omega))
   have hT := wtrim_f _ _ l _ HL.out I2.out
   rw [i1] at hT
   have HT := Lib.hid hT
   clear hT HI i1 i2 i5
   go_wp2_with fail
   (with_reducible refine HT.out.mono ?_)
   rintro e w' ⟨n, rfl, hv, rfl⟩
   obtain ⟨e1, e2⟩ := HE.out
   rw [e1, HV.out, ← Int.natCast_ediv] at hv
   rw [HV.out, ← Int.natCast_emod] at e2
   subst e2
   go_wp2
   go_ret2
   exact ⟨_, _, _, rfl, hv, HB, Nat.le_refl _⟩
  ·obtain ⟨i, rfl⟩ : ∃ j, i = j + 1 := ⟨i - 1, by omega⟩
   rw [show ((i + 1 : Nat) : Int) - 1 = (i : Int) by omega]
   obtain ⟨i1, i2, i3, i4, i5, i6⟩ := HI.out
   have HST := Lib.hid (HI.out.step D1.out)
   obtain ⟨ba, oa, rfl, hla, hca⟩ := (L1.out.below HB).cell (j := i) (by omega)
   have hx := gdW D1.out i
   have I1 := Lib.hid i1
   clear i5 i2 HI i1
   generalize gd a i = y at *
   have hD := fun W => Div64_c r y d i3 i4 (by omega) hx W
   obtain ⟨q, hq⟩ : ∃ q, (r * 18446744073709551616 + y) / d = q := ⟨_, rfl⟩
   obtain ⟨s, hs⟩ : ∃ q, (r * 18446744073709551616 + y) % d = q := ⟨_, rfl⟩
   rw [hq, hs] at hD HST
   clear hq hs hx
   go_wp2_with (go_at_call 166; (with_reducible refine (hD _).mono ?_); rintro e w' ⟨rfl, hb⟩; have HG1 := Lib.hid (HG.out.below hb); have HB1 := HB.trans (hb.mono HB.size); have q1 := HG1.out.cell (j := i) (by have := I1.out; omega); have q2 := HG1.out.frozen i; clear hb)
   go_roundw
   case rel => exact ⟨i, s, _, by go_num, rfl, HG1.out.set _ _, HB1.setCell (p := ⟨_, _, none⟩) (Nat.le_refl _) _, HST.out⟩
   case measure => simp [intOf]

end Go.Proofs.YtibdipfhfaeooaaGreatDoor


set_option linter.unusedVariables false
set_option linter.unusedSimpArgs false
namespace Go.Proofs.YtibdipfhfaeooaaGreatDoor
open Go.RowKit

/-- The shift, place by place. -/
def WuI (a l : List Int) (q r i : Nat) : Prop :=
 l.length = a.length + q + 1 ∧ Dg B64 l ∧ V B64 l = (B64 : Int) ^ q * 2 ^ r * V B64 (a.take i) ∧ i ≤ a.length ∧ (∀ j, i + q + 1 ≤ j → gd l j = 0) ∧ gd l (i + q) < 2 ^ r
theorem up_ring {p o m c B x P2 v : Int} (h : x * P2 = c * B + m) : v + p * (o + m - o) + p * B * c = v + p * (x * P2) := by grind
theorem WuI.step {a l : List Int} {q r i : Nat} {m c : Int} (h : WuI a l q r i) (hi : i < a.length) (hs : gd a i * 2 ^ r = c * 18446744073709551616 + m) (hm : W64 (gd l (i + q) + m)) (hc : W64 c) (hc1 : c < 2 ^ r) :
  WuI a ((l.set (i + q) (gd l (i + q) + m)).set (i + q + 1) c) q r (i + 1) := by
 obtain ⟨h1, h2, h3, h4, h5, h6⟩ := h
 refine ⟨by simp [h1], (h2.set _ hm.1 hm.2).set _ hc.1 hc.2, ?_, by omega, fun j hj => ?_, ?_⟩
 ·rw [Vset _ _ _ (by simp; omega), Vset _ _ _ (by omega), gd_set_ne _ (by omega), h5 (i + q + 1) (by omega), Int.sub_zero, Vtake, h3, Int.pow_succ, B64c]
  rw [up_ring hs, Int.pow_add]
  grind
 ·rw [gd_set_ne _ (by omega), gd_set_ne _ (by omega)]; exact h5 j (by omega)
 ·have : gd ((l.set (i + q) (gd l (i + q) + m)).set (i + q + 1) c) (i + 1 + q) = c := by
   rw [show i + 1 + q = i + q + 1 by omega]; unfold gd; rw [List.getD_eq_getElem?_getD, List.getElem?_set_self (by simp; omega)]; rfl
  rw [this]; exact hc1
theorem WuI.first (a : List Int) (q r : Nat) : WuI a (List.replicate (a.length + q + 1) 0) q r 0 := ⟨by simp, Dg.zeros (by decide) _, by simp [V_zeros, V], by omega, fun j _ => by simp [gd, List.getElem?_replicate]; split <;> rfl, by
 have : gd (List.replicate (a.length + q + 1) 0) (0 + q) = 0 := by simp [gd, List.getElem?_replicate]; split <;> rfl
 rw [this]; exact Int.pow_pos (by omega)⟩

theorem nlen_mul {B : Nat} (hB : 2 ≤ B) (x y : Nat) : (digs B (x * y)).length ≤ (digs B x).length + (digs B y).length := by
 apply digs_len_le hB
 rw [Nat.pow_add]
 exact Nat.mul_lt_mul'' (digs_len_lt hB x) (digs_len_lt hB y)
theorem w64_1 : W64 1 := ⟨by omega, by omega⟩
end Go.Proofs.YtibdipfhfaeooaaGreatDoor


set_option linter.unusedVariables false
set_option linter.unusedSimpArgs false
namespace Go.Proofs.YtibdipfhfaeooaaGreatDoor
open Go.RowKit

theorem OwI.drew {w : World} {base : Nat} {e : TypeId} {k : IntKind} {v : Value} {l : List Int} (h : OwI w base e k v l) : OwI w.drew base e k v l := World.ownsRow.drew h
theorem OwI.cellAt {w : World} {base : Nat} {e : TypeId} {k : IntKind} {g n c : Nat} {l : List Int} (h : OwI w base e k (.slice (some ⟨g, 0, none⟩) n c) l) {j : Nat} (hj : j < l.length) : w.cell? ⟨g, j, none⟩ = some (.int k (gd l j)) := by
 unfold OwI at h
 have hn : n = l.length := by
  rcases h.2 with ⟨h', _⟩ | ⟨g', cap', cur, h', _⟩
  ·simp at h'
  ·simp at h'; exact h'.2.1
 subst hn
 rw [World.ownsRow.cellAt h j (by omega), gd_lt hj]
 simp [ints, hj]
theorem OwI.frozenAt {w : World} {base : Nat} {e : TypeId} {k : IntKind} {g n c : Nat} {l : List Int} (h : OwI w base e k (.slice (some ⟨g, 0, none⟩) n c) l) (j : Nat) : w.frozen? ⟨g, j, none⟩ = false := by
 unfold OwI at h
 have hn : n = l.length := by
  rcases h.2 with ⟨h', _⟩ | ⟨g', cap', cur, h', _⟩
  ·simp at h'
  ·simp at h'; exact h'.2.1
 subst hn
 exact World.ownsRow.frozenAt h j
theorem OwI.setAt {w : World} {base : Nat} {e : TypeId} {k : IntKind} {g n c : Nat} {l : List Int} (h : OwI w base e k (.slice (some ⟨g, 0, none⟩) n c) l) (j : Nat) (x : Int) : OwI (w.setCell ⟨g, j, none⟩ (.int k x)) base e k (.slice (some ⟨g, 0, none⟩) n c) (l.set j x) := by
 unfold OwI at h ⊢
 have hn : n = l.length := by
  rcases h.2 with ⟨h', _⟩ | ⟨g', cap', cur, h', _⟩
  ·simp at h'
  ·simp at h'; exact h'.2.1
 subst hn
 rw [List.length_set, show ints k (l.set j x) = (ints k l).set j (.int k x) by simp [ints, List.map_set]]
 exact (World.ownsRow.stored h j _).1
/-- The places outside i .. j-1 have come. -/
def RvI (l m : List Int) (i j : Nat) : Prop := m.length = l.length ∧ i + j = l.length ∧ ∀ k, k < l.length → gd m k = if i ≤ k ∧ k < j then gd l k else gd l (l.length - 1 - k)
theorem RvI.first (l : List Int) : RvI l l 0 l.length := ⟨rfl, by omega, fun k hk => by rw [if_pos ⟨by omega, hk⟩]⟩
theorem gd_set {l : List Int} {i j : Nat} (d : Int) (h : i < l.length) : gd (l.set i d) j = if i = j then d else gd l j := by
 unfold gd; rw [List.getD_eq_getElem?_getD, List.getD_eq_getElem?_getD, List.getElem?_set]
 split
 ·rename_i e; subst e; simp [h]
 ·rfl
theorem RvI.step {l m : List Int} {i j : Nat} (h : RvI l m i (j + 1)) (hij : i < j) : RvI l ((m.set i (gd m j)).set j (gd m i)) (i + 1) j := by
 obtain ⟨h1, h2, h3⟩ := h
 refine ⟨by simp [h1], by omega, fun k hk => ?_⟩
 rw [gd_set _ (by simp; omega), gd_set _ (by omega)]
 have a1 := h3 i (by omega)
 have a2 := h3 j (by omega)
 have a3 := h3 k hk
 rw [if_pos ⟨by omega, by omega⟩] at a1 a2
 by_cases e1 : j = k
 ·subst e1
  rw [if_pos rfl, if_neg (by omega), a1]
  congr 1; omega
 ·rw [if_neg e1]
  by_cases e2 : i = k
  ·subst e2
   rw [if_pos rfl, if_neg (by omega), a2]
   congr 1; omega
  ·rw [if_neg e2, a3]
   by_cases e3 : i ≤ k ∧ k < j + 1
   ·rw [if_pos e3, if_pos ⟨by omega, by omega⟩]
   ·rw [if_neg e3, if_neg (by omega)]
theorem RvI.last {l m : List Int} {i j : Nat} (h : RvI l m i j) (hij : j ≤ i + 1) : m = l.reverse := by
 obtain ⟨h1, h2, h3⟩ := h
 apply List.ext_getElem (by simp [h1])
 intro k hk hk2
 have a := h3 k (by omega)
 rw [gd_lt hk] at a
 rw [a, List.getElem_reverse, ← gd_lt (by omega)]
 split
 ·congr 1; omega
 ·rfl
set_option maxRecDepth 100000 in
set_option maxHeartbeats 2000000 in
theorem Rev_c (v : Value) (l : List Int) (base : Nat) (w0 w : World) (h : OwI w base 5 .u8 v l) (hl0 : 0 < l.length) (HB : Below base w0 w) :
  Calls Tryz.prog 148 #[v] w fun e w' => e = .returned (.tuple #[]) ∧ OwI w' base 5 .u8 v l.reverse ∧ Below base w0 w' := by
 obtain ⟨A, c, rfl, hs⟩ := h.form
 obtain ⟨g, off, rfl, hlt, _⟩ := hs.cell (j := 0) hl0
 have hc1 := hs.2.1
 have hc2 := hs.2.2
 have h' := h
 obtain ⟨rfl, hbg⟩ : off = 0 ∧ base ≤ g := by
  rcases h.2 with ⟨e, _⟩ | ⟨g', cap, cur, e, hb, _⟩
  ·cases e
  ·injection e with e; injection e with e; injection e with e1 e2; exact ⟨e2, by omega⟩
 clear hs h'
 go_enter Tryz.func148, Tryz.ntmps148
 go_wp2
 have HO0 := Lib.hid h
 have HB0 := Lib.hid HB
 clear h HB
 go_loopw [2, 3] (fun a b wr => ∃ (i j : Nat) (m : List Int), a = .int .i64 i ∧ b = .int .i64 ((j : Int) - 1) ∧ Hid (OwI wr base 5 .u8 (.slice (some ⟨g, 0, none⟩) l.length c) m) ∧ Hid (Below base w0 wr) ∧ Hid (RvI l m i j)) (fun a b _ => (intOf b + 1 - intOf a).toNat)
 case atStart => exact ⟨0, l.length, l, rfl, rfl, HO0, HB0, RvI.first l⟩
 case round =>
  obtain ⟨i, j, m, rfl, rfl, HO, HB, HI⟩ := hrel
  obtain ⟨i1, i2, i3⟩ := HI.out
  clear HO0 HB0 i3
  by_cases hij : i + 1 < j
  ·obtain ⟨j, rfl⟩ : ∃ k, j = k + 1 := ⟨j - 1, by omega⟩
   rw [show ((j + 1 : Nat) : Int) - 1 = (j : Int) by omega]
   have ci := HO.out.cellAt (j := i) (by omega)
   have cj := HO.out.cellAt (j := j) (by omega)
   have fi := HO.out.frozenAt i
   have fj := HO.out.frozenAt j
   have HST := Lib.hid (HI.out.step (by omega))
   have hlt2 : (i : Int) < (j : Int) := by omega
   have hne : i ≠ j := by omega
   have hne2 : j ≠ i := by omega
   have hjl : j < l.length := by omega
   have hil : i < l.length := by omega
   generalize gd m i = x at *
   generalize gd m j = y at *
   clear i1 i2 HI
   go_wp2_with fail
   go_region
   go_wp2
   go_roundw
   case rel => exact ⟨i + 1, j, _, by go_num, by go_num, (HO.out.drew.setAt i y).setAt j x, ((below_drew HB.out).setCell (p := ⟨_, _, none⟩) hbg _).setCell (p := ⟨_, _, none⟩) hbg _, HST.out⟩
   case measure => simp [intOf]; omega
  ·have HE := Lib.hid (HI.out.last (by omega))
   go_wp2
   refine bodyPost_end (v := .tuple #[]) (by simp [results, Tryz.results148, go_sem]) rfl ⟨rfl, by rw [← HE.out]; exact HO.out, HB.out⟩
end Go.Proofs.YtibdipfhfaeooaaGreatDoor


set_option linter.unusedVariables false
set_option linter.unusedSimpArgs false
namespace Go.Proofs.YtibdipfhfaeooaaGreatDoor
open Go.RowKit

theorem Rd.kept {w w' : World} {sz n : Nat} {A : Option Addr} {xs : List Value} (h : Rd w sz A n xs) (hsz : w.heap.size ≤ w'.heap.size) (hk : ∀ b off, A = some ⟨b, off, none⟩ → b < w.heap.size → w'.heap[b]? = w.heap[b]?) : Rd w' sz A n xs :=
 ⟨h.1, fun hn => by
  obtain ⟨b, off, e, hl, hc⟩ := h.2 hn
  refine ⟨b, off, e, Nat.lt_of_lt_of_le hl hsz, fun j u hu => ?_⟩
  have := hc j u hu
  unfold World.cell? at this ⊢
  rw [hk b off e hl]
  exact this⟩
theorem IsU.kept {B : Nat} {k : IntKind} {w w' : World} {A : Option Addr} {m c n : Nat} (h : IsU B k w (.slice A m c) n) (hsz : w.heap.size ≤ w'.heap.size) (hk : ∀ b off, A = some ⟨b, off, none⟩ → b < w.heap.size → w'.heap[b]? = w.heap[b]?) : IsU B k w' (.slice A m c) n := by
 obtain ⟨A', c', e, hs⟩ := h
 injection e with e1 e2 e3
 subst e1
 exact ⟨A, c', by rw [e2, e3], hs.1.kept hsz hk, hs.2⟩
theorem OwI.blk_lt {w : World} {base : Nat} {e : TypeId} {k : IntKind} {v : Value} {l : List Int} (h : OwI w base e k v l) {g : Nat} (hg : v.ownBlock = some g) : g < w.heap.size := by
 unfold OwI at h
 rcases h.2 with ⟨rfl, _⟩ | ⟨g', cap, cur, rfl, hb, hh, _⟩
 ·simp [Value.ownBlock] at hg
 ·have : g' = g := by simpa [Value.ownBlock] using hg
  subst this
  rcases Nat.lt_or_ge g' w.heap.size with h | h
  ·exact h
  ·rw [Array.getElem?_eq_none h] at hh; cases hh
section
variable {P : Program} {ops : Array Oper} {rest : List Oper} {o : Oper} {a : Act} {Q : Exit → Act → World → Prop}
/-- One number more at the end of a row of the call's own; all other blocks are as they were. -/
theorem app_IG {w0 W : World} (base : Nat) (hgd : o.guard = none) (s x : Operand) (t e : TypeId) (k : IntKind) (bytes : Nat)
  (ho : o.op = .call { callee := .builtin .append, args := #[s, x], argTypes := #[t, t] })
  (ht : P.underlying t = some (.slice e)) (hinfo : (P.info? e).map (fun i => (i.zero, i.size, i.bytes)) = some (some (.int k 0), 1, bytes)) (hb0 : 0 < bytes)
  (v : Value) (l : List Int) (y : Int) (HO : OwI W base e k v l) (hs : a.eval s = v) (hx : a.eval x = .slice (some ⟨W.heap.size, 0, none⟩) 1 1) (HB : Below base w0 W) (hbase : base ≤ W.heap.size) (hl : (l.length + 1) * bytes ≤ 140737488355328)
  (h : ∀ v1 w1, OwI w1 base e k v1 (l ++ [y]) → Below base w0 w1 → base ≤ w1.heap.size → W.heap.size ≤ w1.heap.size → (∀ k, k < W.heap.size → v.ownBlock ≠ some k → w1.heap[k]? = W.heap[k]?) → wpList P ops Q rest (a.put o.dst v1) w1) :
  wpList P ops Q (o :: rest) a (W.alloc (.cells #[.int k y] e)) := by
 obtain ⟨i0, hi, hzz⟩ := Option.map_eq_some_iff.1 hinfo
 simp only [Prod.mk.injEq] at hzz
 obtain ⟨hz0, hz1, hz2⟩ := hzz
 have hlen : l.length + 1 ≤ 140737488355328 := Nat.le_trans (Nat.le_mul_of_pos_right _ hb0) hl
 refine wpList_append_own (w := W.alloc (.cells #[.int k y] e)) hgd s x t ho base e i0 (.int k 0) 1 bytes ht hi hz0 hz1 hz2 rfl (by omega) v l.length (ints k l) hs (HO.alloc _) ⟨W.heap.size, 0, none⟩ 1 1 [.int k y] hx rfl
  (cell_one_new _ _ _) (by simp [Value.oneCell']) (by simp only [maxLen]; omega) hl (by simp; omega) ?_
 intro v1 w1 hown hg _
 have hsz := hg.size
 simp at hsz
 refine h v1 w1 ?_ ((HB.alloc hbase _).grown hg (by simp; omega) (ownsRow_base HO)) (by omega) (by omega) (fun j hj hne => ?_)
 ·unfold OwI
  rw [ints_append, List.length_append]
  exact hown
 ·rw [hg.block j (by simp; omega) (Ne.symm hne)]
  exact (below_alloc (Below.refl W.heap.size W) _).block j hj
end
theorem ten_le (k : Nat) : (10 : Nat) ^ k ≤ B64 ^ k := Nat.pow_le_pow_left (by decide) k
theorem wlen_dl (n : Nat) : (digs B64 n).length ≤ (digs 10 n).length := digs_len_le B64two (Nat.lt_of_lt_of_le (digs_len_lt (by omega) n) (ten_le _))
theorem tS_nat (n : Nat) : tS (n : Int) = mkS (txN n) := by
 unfold tS tx
 rw [if_neg (by omega)]; simp
set_option maxRecDepth 100000 in
set_option maxHeartbeats 2000000 in
theorem wDigits_c (x : Nat) (v : Value) (w : World) (h : IsW w v x) (sx : (digs 10 x).length ≤ 1000000000) :
    Calls Tryz.prog 108 #[v] w fun e w' => e = .returned (.string (tS (x : Int))) ∧ Below w.heap.size w w' := by
  obtain ⟨A, m0, c0, rfl, H⟩ := h.form
  clear h
  go_enter Tryz.func108, Tryz.ntmps108
  go_wp2
  go_loopw [0, 3] (fun av ov wr => ∃ (y : Nat) (l : List Int) (A : Option Addr) (m c : Nat), av = .slice A m c ∧ Hid (IsW wr (.slice A m c) y) ∧ OwI wr w.heap.size 5 .u8 ov (l.map (· + 48)) ∧ Below w.heap.size w wr ∧ l.length ≤ 1000000000 ∧ Hid (digs 10 x = l ++ digs 10 y)) (fun _ ov _ => (digs 10 x).length + 1 - slen ov)
  case atStart => exact ⟨x, [], A, m0, c0, rfl, H, OwI.nil _ _ _ _, Below.refl _ _, by simp, rfl⟩
  case round =>
    clear H
    obtain ⟨y, l, A, m, c, rfl, H, HO, HB, hl, HI⟩ := hrel
    have hB := HB.size
    rcases Nat.eq_zero_or_pos y with rfl | hy
    · have hm : m = 0 := by
        obtain ⟨A', c', e, _⟩ := H.out
        injection e with _ e _; rw [e, digs_zero]; rfl
      subst hm
      have HE : Hid (digs 10 x = l) := by show _ = _; rw [HI.out, digs_zero, List.append_nil]
      clear HI
      obtain ⟨A1, c1, rfl, hs⟩ := HO.form
      rcases Nat.eq_zero_or_pos l.length with h0 | h0
      · have hln : l = [] := List.eq_nil_of_length_eq_zero h0
        subst hln
        have hx0 : x = 0 := digs_nil (B := 10) (by omega) HE.out
        subst hx0
        clear hs HE
        go_wp2
        go_ret
        exact ⟨rfl, HB⟩
      · have HSL := Lib.hid hs
        have hLe : Hid (mkS (l.map (· + 48)).reverse = tS (x : Int)) := by
          show _ = _
          rw [tS_nat]; unfold txN
          rw [if_neg (by intro e; rw [e, digs_zero] at HE; have := HE.out; rw [← this] at h0; simp at h0), HE.out]
        have hc3 := hs.2.1
        have hc4 := hs.2.2
        obtain ⟨L, hL⟩ : ∃ L, l.map (· + 48) = L := ⟨_, rfl⟩
        have hl0 : l.length = L.length := by rw [← hL]; simp
        rw [hL] at HO HSL hLe hc3 ⊢
        have HO := Lib.hid HO
        clear hs hL
        rw [hl0] at h0 hl
        clear hl0
        have hq : ((L.length : Int) == 0) = false := beq_eq_false_iff_ne.2 (by omega)
        have hR := Rev_c _ L w.heap.size w wr HO.out h0 HB
        have HR := Lib.hid hR
        clear hR
        go_wp2_with fail
        (with_reducible refine HR.out.mono ?_)
        rintro e w' ⟨rfl, HO2, HB2⟩
        obtain ⟨A2, c2, he, hs2⟩ := HO2.form
        rw [List.length_reverse] at he
        have hcv := conv_str A2 c2 L.reverse w' hs2 (by simpa using h0)
        rw [List.length_reverse] at hcv
        injection he with he1 he2 he3
        subst he1 he3
        clear hs2 HO2 he2
        go_wp2
        go_ret
        exact ⟨by rw [← hLe.out]; rfl, HB2⟩
    · have hm0 : 0 < m := by
        obtain ⟨A', c', e, _⟩ := H.out
        injection e with _ e _; rw [e]
        rcases Nat.eq_zero_or_pos (digs B64 y).length with h0 | h0
        · have := digs_nil B64two (List.eq_nil_of_length_eq_zero h0); omega
        · exact h0
      have HX : Hid (digs 10 x = (l ++ [((y % 10 : Nat) : Int)]) ++ digs 10 (y / 10)) := by
        show _ = _; rw [HI.out, digs_pos (by omega) hy]; simp
      have hlx : l.length + 1 ≤ (digs 10 x).length := by rw [HX.out]; simp
      have hly : (digs B64 y).length ≤ 1000000000 := by
        have h1 := wlen_dl y
        have h2 := congrArg List.length HI.out
        rw [List.length_append] at h2; omega
      have hLL : Hid (((l.map (· + 48)).length + 1) * 1 ≤ 140737488355328) := by show _ ≤ _; rw [List.length_map]; omega
      clear HI
      obtain ⟨r, hr⟩ : ∃ r, y % 10 = r := ⟨_, rfl⟩
      have hr1 : r < 10 := by omega
      have HOv := Over_c y 10 _ wr H.out (by omega) (by omega) hly
      rw [hr] at HX HOv
      rw [show ((10 : Nat) : Int) = 10 from rfl] at HOv
      clear hr
      go_wp2_with fail
      (with_reducible refine HOv.mono ?_)
      rintro e w' ⟨g3, m3, c3, rfl, hv, hb, hg3⟩
      have T3 := Lib.hid hv
      have HK : Hid (u3.ownBlock ≠ some g3) := fun h => by have := HO.blk_lt h; omega
      clear hv HOv hg3
      replace HO := HO.below hb
      replace HB := below_step HB hb
      have hB := HB.size
      clear H hb
      go_wp2_with (at_builtin; refine app_IG w.heap.size rfl _ _ 126 5 .u8 1 rfl Tryz.underlying126 info_u8 (by decide) _ (l.map (· + 48)) _ HO rfl rfl HB hB hLL.out ?_; intro v1 w1 HO1 HB1 hB1 hsz1 hk1; replace T3 := Lib.hid (T3.out.kept hsz1 (fun b off he hb => hk1 b hb (by injection he with he; injection he with he; subst he; exact HK.out))); clear hk1 hsz1)
      go_roundw
      case rel => exact ⟨y / 10, l ++ [(r : Int)], _, m3, c3, rfl, T3, by rw [List.map_append]; simp only [List.map_cons, List.map_nil]; rw [show (r : Int) + 48 = 48 + (r : Int) by omega]; exact HO1, HB1, by rw [List.length_append]; simp; omega, HX.out⟩
      case measure => obtain ⟨A1, c1, e1, _⟩ := HO1.form; obtain ⟨A2, c2, e2, _⟩ := HO.form; subst e1 e2; simp [slen]; omega
end Go.Proofs.YtibdipfhfaeooaaGreatDoor


set_option linter.unusedVariables false
set_option linter.unusedSimpArgs false
namespace Go.Proofs.YtibdipfhfaeooaaGreatDoor
open Go.RowKit

/-- The number of the first digits. -/
def pv (T : List Int) (k : Nat) : Nat := (dv (T.take k)).toNat
theorem pv_zero (T : List Int) : pv T 0 = 0 := rfl
theorem dv_nonneg {T : List Int} (h : ∀ c ∈ T, 48 ≤ c ∧ c ≤ 57) : 0 ≤ dv T := (dv_range h).1
theorem pv_step {T : List Int} (h : ∀ c ∈ T, 48 ≤ c ∧ c ≤ 57) {k : Nat} (hk : k < T.length) : pv T (k + 1) = pv T k * 10 + (gd T k - 48).toNat := by
 unfold pv
 have h1 := dv_nonneg (T := T.take k) (fun c hc => h c (List.mem_of_mem_take hc))
 have h2 := h _ (List.getElem_mem hk)
 rw [List.take_succ_eq_append_getElem hk, dv_snoc, gd_lt hk]
 omega
theorem pv_len {T : List Int} (h : ∀ c ∈ T, 48 ≤ c ∧ c ≤ 57) {k : Nat} (hk : k ≤ T.length) : (digs B64 (pv T k)).length ≤ k := by
 have h1 := dv_range (l := T.take k) (fun c hc => h c (List.mem_of_mem_take hc))
 rw [List.length_take, Nat.min_eq_left hk] at h1
 apply digs_len_le B64two
 have h2 : pv T k < 10 ^ k := by
  unfold pv
  have : ((10 ^ k : Nat) : Int) = 10 ^ k := by rw [Int.natCast_pow]; rfl
  omega
 exact Nat.lt_of_lt_of_le h2 (ten_le k)
theorem w64_10 : W64 10 := ⟨by omega, by omega⟩
theorem ten_len : (digs B64 10).length ≤ 1 := digs_len_le (k := 1) B64two (by decide)
theorem small_len {n : Nat} (h : n < 18446744073709551616) : (digs B64 n).length ≤ 1 := digs_len_le (k := 1) B64two (by rw [Nat.pow_one]; exact h)
theorem w10_c (w : World) : Calls Tryz.prog 105 #[.int .u64 10] w fun e w' => ∃ v, e = .returned v ∧ IsW w' v 10 ∧ Below w.heap.size w w' := wOf_c 10 w64_10 w
set_option maxRecDepth 100000 in
set_option maxHeartbeats 2000000 in
theorem Read_c (s : ByteArray) (w : World) (hd : ∀ c ∈ codes s, 48 ≤ c ∧ c ≤ 57) (hs : s.size ≤ 900000000) :
  Calls Tryz.prog 120 #[.string s] w fun e w' => ∃ v, e = .returned v ∧ IsW w' v (dv (codes s)).toNat ∧ Below w.heap.size w w' := by
 have HL := Lib.hid (codes_length s)
 have HD := Lib.hid hd
 clear hd
 go_enter Tryz.func120, Tryz.ntmps120
 go_wp2
 go_loopw [3, 7] (fun ov iv wr => ∃ (k : Nat) (A : Option Addr) (m c : Nat), iv = .int .i64 k ∧ ov = .slice A m c ∧ k ≤ s.size ∧ Hid (IsW wr (.slice A m c) (pv (codes s) k)) ∧ Below w.heap.size w wr) (fun _ iv _ => s.size - (intOf iv).toNat)
 case atStart => exact ⟨0, none, 0, 0, rfl, rfl, by omega, ⟨none, 0, by rw [pv_zero, digs_zero]; rfl, by rw [pv_zero, digs_zero]; exact ⟨Rd.nil, by simp, by omega⟩⟩, Below.refl _ _⟩
 case round =>
  obtain ⟨k, A, m, c, rfl, rfl, hk, H, HB⟩ := hrel
  by_cases hk1 : k < s.size
  ·have hxk : ∀ h : k < s.size, ((s[k]'h).toNat : Int) = gd (codes s) k := fun h => codes_gd h
   have HST := Lib.hid (pv_step HD.out (k := k) (by rw [HL.out]; exact hk1))
   have HLen := Lib.hid (pv_len HD.out (k := k) (by rw [HL.out]; exact hk))
   have hg := HD.out _ (List.getElem_mem (show k < (codes s).length by rw [HL.out]; exact hk1))
   rw [← gd_lt] at hg
   obtain ⟨hg1, hg2⟩ := hg
   have hW : W64 (gd (codes s) k - 48) := ⟨by omega, by omega⟩
   generalize gd (codes s) k = d at *
   obtain ⟨n, hn⟩ : ∃ n, pv (codes s) k = n := ⟨_, rfl⟩
   rw [hn] at H HST HLen
   have hS1 : (digs B64 (n * 10)).length ≤ 1000000000 := by have := nlen_mul B64two n 10; have := ten_len; have := HLen.out; omega
   have hS2 : (digs B64 (d - 48).toNat).length ≤ 1000000000 := Nat.le_trans (small_len (by omega)) (by omega)
   clear hn
   go_wp2
   have e1 : IntKind.u8.wrap (d - 48) = d - 48 := by rw [IntKind.wrap_u8]; omega
   have e2 : IntKind.u64.wrap (d - 48) = d - 48 := wrap64 (by omega) (by omega)
   go_region_held3 (fun _ => True) (trivial) (first
    | (go_at_call 105; (first | ((with_reducible refine (w10_c _).mono ?_); rintro e w1 ⟨v1, rfl, hv, hb1⟩; obtain ⟨A1, m1, c1, rfl, T1⟩ := hv.form; clear hv) | ((with_reducible refine (wOf_c (d - 48) hW _).mono ?_); rintro e w3 ⟨v1, rfl, hv, hb3⟩; obtain ⟨A3, m3, c3, rfl, T3⟩ := hv.form; clear hv)))
    | (go_at_call 153; (with_reducible refine (Times_c n 10 _ _ _ (by exact H.out.below (by repeat (with_reducible first | assumption | exact Below.refl _ _ | apply below_drew | apply below_drewN | apply below_alloc | refine below_step ?_ (by assumption)))) (by exact T1.out.below (by repeat (with_reducible first | assumption | exact Below.refl _ _ | apply below_drew | apply below_drewN | apply below_alloc | refine below_step ?_ (by assumption)))) (by have := HLen.out; omega) (by have := ten_len; omega)).mono ?_); rintro e w2 ⟨v1, rfl, hv, hb2⟩; obtain ⟨A2, m2, c2, rfl, T2⟩ := hv.form; clear hv)
    | (go_at_call 154; (with_reducible refine (Plus_c (n * 10) (d - 48).toNat _ _ _ (by exact T2.out.below (by repeat (with_reducible first | assumption | exact Below.refl _ _ | apply below_drew | apply below_drewN | apply below_alloc | refine below_step ?_ (by assumption)))) (by exact T3.out.below (by repeat (with_reducible first | assumption | exact Below.refl _ _ | apply below_drew | apply below_drewN | apply below_alloc | refine below_step ?_ (by assumption)))) hS1 hS2).mono ?_); rintro e w4 ⟨v1, rfl, hv, hb4⟩; obtain ⟨A4, m4, c4, rfl, T4⟩ := hv.form; clear hv))
   all_goals
    go_wp2
    go_roundw
    case rel => exact ⟨k + 1, A4, m4, c4, by go_num, rfl, by omega, by rw [HST.out]; exact T4, by exact HB.trans (Below.mono (B := wr.heap.size) (by exact (show Below wr.heap.size wr w4 by exact (by repeat (with_reducible first | assumption | exact Below.refl _ _ | apply below_drew | refine below_step ?_ (by assumption))))) HB.size)⟩
    case measure => simp [intOf]; omega
  ·obtain rfl : k = s.size := by omega
   have HE : Hid (pv (codes s) s.size = (dv (codes s)).toNat) := by show _ = _; unfold pv; rw [← HL.out, List.take_of_length_le (Nat.le_refl _)]
   go_wp2
   go_ret
   exact ⟨_, rfl, by rw [← HE.out]; exact H.out, HB⟩
end Go.Proofs.YtibdipfhfaeooaaGreatDoor

