/- What the functions of the first reference do to memory and what they return. No condition. -/
import Derived.Test.YtibdipfhfaeooaaGreatDoorZ1
import Derived.Deep.OwnRows
import Derived.IntWalk
import Derived.Laws.BytesArg
set_option linter.unusedVariables false
set_option linter.unusedSimpArgs false
namespace Go.Proofs.YtibdipfhfaeooaaGreatDoor
open Go.RowKit

set_option maxRecDepth 100000 in
set_option maxHeartbeats 1000000 in
theorem Of_c (i : Int) (w : World) (h0 : -9223372036854775807 ≤ i) (h1 : i ≤ 9223372036854775807) :
  Calls Tryz.prog 43 #[.int .i64 i] w fun e w' => ∃ v, e = .returned v ∧ IsN w' v i ∧ Below w.heap.size w w' := by
 have HL : Hid ((digs B9 i.natAbs).length ≤ 8) := digs_len_le B9two (by rw [show (B9 ^ 8 : Nat) = 1000000000000000000000000000000000000000000000000000000000000000000000000 from rfl]; omega)
 by_cases hi : i < 0
 ·have HD : Hid (decide (i < 0) = true) := by show _ = _; simpa using hi
  obtain ⟨n, hn⟩ : ∃ n : Nat, i = -(n : Int) := ⟨i.natAbs, by omega⟩
  subst hn
  have e1 : (-(n : Int)).natAbs = n := by omega
  have hn1 : (n : Int) ≤ 9223372036854775807 := by omega
  have HE := Lib.hid e1
  have hn1b : decide (0 < (n : Int)) = true := by simp; omega
  have hn2b : decide (0 < n) = true := by simp; omega
  have hn0 : 0 < (n : Int) := by omega
  have HH0 : Hid (dg B9 (-(n : Int)) = digs B9 n) := by show _ = _; unfold dg; rw [e1]
  rw [e1] at HL
  clear e1 h0 h1
  go_enter Tryz.func43, Tryz.ntmps43
  go_wp2
  generalize hW : w.alloc (Obj.cells #[Value.bool false, Value.slice none 0 0] 35) = W
  have HB0 : Below w.heap.size w W := by subst hW; exact below_alloc (Below.refl _ _) _
  have HR2 : Res2 W w.heap.size := by subst hW; refine ⟨⟨false, ?_⟩, ⟨none, 0, 0, ?_⟩, ?_, ?_, ?_⟩ <;> simp [go_sem]
  have hbase : w.heap.size + 1 ≤ W.heap.size := by subst hW; simp
  clear hW
  go_loopw [0, 4] (fun r out wr => ∃ (m : Nat) (l : List Int), r = .int .i64 m ∧ m ≤ n ∧ OwI wr (w.heap.size + 1) 3 .i64 out l ∧ Below (w.heap.size + 1) W wr ∧ Hid (digs B9 n = l ++ digs B9 m)) (fun r _ _ => (intOf r).toNat)
  case atStart => exact ⟨n, [], by simp, Nat.le_refl _, OwI.nil _ _ _ _, Below.refl _ _, rfl⟩
  case round =>
   obtain ⟨m, l, rfl, hm, HO, HB, HI⟩ := hrel
   have hB : w.heap.size + 1 ≤ wr.heap.size := Nat.le_trans hbase HB.size
   rcases Nat.eq_zero_or_pos m with rfl | hm0
   ·have HE2 : Hid (l = digs B9 n) := by have := HI.out; rw [digs_zero, List.append_nil] at this; exact this.symm
    obtain ⟨A1, c1, rfl, hs⟩ := HO.form
    have HR4 : Hid (Res2 wr w.heap.size) := by
     obtain ⟨⟨u1, r1⟩, ⟨u2, u3, u4, r2⟩, r3, r4, r5⟩ := HR2
     exact ⟨⟨u1, (HB.cell (p := ⟨_, 0, none⟩) (Nat.lt_succ_self _)).trans r1⟩, ⟨u2, u3, u4, (HB.cell (p := ⟨_, 1, none⟩) (Nat.lt_succ_self _)).trans r2⟩, (HB.frozen (p := ⟨_, 0, none⟩) (Nat.lt_succ_self _)).trans r3, (HB.frozen (p := ⟨_, 1, none⟩) (Nat.lt_succ_self _)).trans r4, by omega⟩
    obtain ⟨⟨u1, r1⟩, ⟨u2, u3, u4, r2⟩, r3, r4, r5⟩ := HR4.out
    go_wp2
    refine bodyPost_ret (v := .agg #[.bool true, .slice A1 l.length c1]) (by simp [results, Tryz.results43, go_sem, r1, r2, r5]) rfl ⟨_, rfl, ⟨A1, c1, ?_, ?_⟩, ?_⟩
    ·rw [HD.out, HH0.out, ← HE2.out]
    ·rw [HH0.out, ← HE2.out]; exact hs.res2 HR4.out _ _
    ·exact below_set (below_set (HB0.trans (HB.mono (by omega))) (Nat.le_refl _) _) (Nat.le_refl _) _
   ·have HS : Hid (digs B9 n = (l ++ [(m : Int) % 1000000000]) ++ digs B9 (m / 1000000000)) := by
     show _ = _
     rw [HI.out, digs_pos B9two hm0, List.append_assoc]; rfl
    have HL2 : Hid ((l.length + 1) * 8 ≤ 140737488355328) := by
     have := HL.out
     rw [HI.out, List.length_append] at this
     show _ ≤ _; omega
    go_wp2_with (at_builtin; refine app_I (w.heap.size + 1) rfl _ _ 22 3 .i64 8 rfl Tryz.underlying22 info_i64 (by decide) _ l _ HO rfl rfl HB hB HL2.out ?_; intro v1 w1 HO1 HB1 hB1)
    go_roundw
    case rel => first | exact ⟨m / 1000000000, _, by simp, by omega, HO1, HB1, HS⟩ | ((repeat apply Exists.intro); exact ⟨⟨m / 1000000000, _, by simp, by omega, HO1, HB1, HS⟩, rfl⟩)
    case measure => simp [intOf]; omega
 
 ·have HD : Hid (decide (i < 0) = false) := by show _ = _; simpa using hi
  obtain ⟨n, hn⟩ : ∃ n : Nat, i = (n : Int) := ⟨i.natAbs, by omega⟩
  subst hn
  have e1 : ((n : Int)).natAbs = n := by omega
  have hn1 : (n : Int) ≤ 9223372036854775807 := by omega
  have HE := Lib.hid e1
  
  
  
  have HH0 : Hid (dg B9 ((n : Int)) = digs B9 n) := by show _ = _; unfold dg; rw [e1]
  rw [e1] at HL
  clear e1 h0 h1
  go_enter Tryz.func43, Tryz.ntmps43
  go_wp2
  generalize hW : w.alloc (Obj.cells #[Value.bool false, Value.slice none 0 0] 35) = W
  have HB0 : Below w.heap.size w W := by subst hW; exact below_alloc (Below.refl _ _) _
  have HR2 : Res2 W w.heap.size := by subst hW; refine ⟨⟨false, ?_⟩, ⟨none, 0, 0, ?_⟩, ?_, ?_, ?_⟩ <;> simp [go_sem]
  have hbase : w.heap.size + 1 ≤ W.heap.size := by subst hW; simp
  clear hW
  go_loopw [0, 4] (fun r out wr => ∃ (m : Nat) (l : List Int), r = .int .i64 m ∧ m ≤ n ∧ OwI wr (w.heap.size + 1) 3 .i64 out l ∧ Below (w.heap.size + 1) W wr ∧ Hid (digs B9 n = l ++ digs B9 m)) (fun r _ _ => (intOf r).toNat)
  case atStart => exact ⟨n, [], rfl, Nat.le_refl _, OwI.nil _ _ _ _, Below.refl _ _, rfl⟩
  case round =>
   obtain ⟨m, l, rfl, hm, HO, HB, HI⟩ := hrel
   have hB : w.heap.size + 1 ≤ wr.heap.size := Nat.le_trans hbase HB.size
   rcases Nat.eq_zero_or_pos m with rfl | hm0
   ·have HE2 : Hid (l = digs B9 n) := by have := HI.out; rw [digs_zero, List.append_nil] at this; exact this.symm
    obtain ⟨A1, c1, rfl, hs⟩ := HO.form
    have HR4 : Hid (Res2 wr w.heap.size) := by
     obtain ⟨⟨u1, r1⟩, ⟨u2, u3, u4, r2⟩, r3, r4, r5⟩ := HR2
     exact ⟨⟨u1, (HB.cell (p := ⟨_, 0, none⟩) (Nat.lt_succ_self _)).trans r1⟩, ⟨u2, u3, u4, (HB.cell (p := ⟨_, 1, none⟩) (Nat.lt_succ_self _)).trans r2⟩, (HB.frozen (p := ⟨_, 0, none⟩) (Nat.lt_succ_self _)).trans r3, (HB.frozen (p := ⟨_, 1, none⟩) (Nat.lt_succ_self _)).trans r4, by omega⟩
    obtain ⟨⟨u1, r1⟩, ⟨u2, u3, u4, r2⟩, r3, r4, r5⟩ := HR4.out
    go_wp2
    refine bodyPost_ret (v := .agg #[.bool false, .slice A1 l.length c1]) (by simp [results, Tryz.results43, go_sem, r1, r2, r5]) rfl ⟨_, rfl, ⟨A1, c1, ?_, ?_⟩, ?_⟩
    ·rw [HD.out, HH0.out, ← HE2.out]
    ·rw [HH0.out, ← HE2.out]; exact hs.res2 HR4.out _ _
    ·exact below_set (below_set (HB0.trans (HB.mono (by omega))) (Nat.le_refl _) _) (Nat.le_refl _) _
   ·have HS : Hid (digs B9 n = (l ++ [(m : Int) % 1000000000]) ++ digs B9 (m / 1000000000)) := by
     show _ = _
     rw [HI.out, digs_pos B9two hm0, List.append_assoc]; rfl
    have HL2 : Hid ((l.length + 1) * 8 ≤ 140737488355328) := by
     have := HL.out
     rw [HI.out, List.length_append] at this
     show _ ≤ _; omega
    go_wp2_with (at_builtin; refine app_I (w.heap.size + 1) rfl _ _ 22 3 .i64 8 rfl Tryz.underlying22 info_i64 (by decide) _ l _ HO rfl rfl HB hB HL2.out ?_; intro v1 w1 HO1 HB1 hB1)
    go_roundw
    case rel => first | exact ⟨m / 1000000000, _, by simp, by omega, HO1, HB1, HS⟩ | ((repeat apply Exists.intro); exact ⟨⟨m / 1000000000, _, by simp, by omega, HO1, HB1, HS⟩, rfl⟩)
    case measure => simp [intOf]; omega

/-- How many decimal digits a number has. -/
def dl (z : Int) : Nat := if z = 0 then 1 else (digs 10 z.natAbs).length
theorem digs_len_eq {B : Nat} (hB : 2 ≤ B) {n k : Nat} (h1 : B ^ k ≤ n) (h2 : n < B ^ (k + 1)) : (digs B n).length = k + 1 := by
 have a := digs_len_le hB h2
 have b := digs_len_lt hB n
 have c : k < (digs B n).length := (Nat.pow_lt_pow_iff_right (by omega)).1 (Nat.lt_of_le_of_lt h1 b)
 omega
theorem digs_len_ge {B : Nat} (hB : 2 ≤ B) {n : Nat} (hn : 0 < n) : B ^ ((digs B n).length - 1) ≤ n := by
 have hne : digs B n ≠ [] := fun e => by have := digs_nil hB e; omega
 have h1 := V_pos (by omega) (digs_dg hB n) (digs_nm hB n) hne
 rw [digs_V hB] at h1
 have : ((B ^ ((digs B n).length - 1) : Nat) : Int) ≤ (n : Int) := by rw [Int.natCast_pow]; exact h1
 omega
/-- The decimal digits of a number, counted by its parts of nine. -/
theorem dl_parts {n : Nat} (hn : 0 < n) : ∃ t : Nat, gd (digs B9 n) ((digs B9 n).length - 1) = t ∧ 0 < t ∧ t < 1000000000 ∧ (digs 10 n).length = 9 * ((digs B9 n).length - 1) + (digs 10 t).length := by
 have hne : digs B9 n ≠ [] := fun e => by have := digs_nil B9two e; omega
 obtain ⟨m, d, hmd⟩ : ∃ m d, digs B9 n = m ++ [d] := ⟨(digs B9 n).dropLast, (digs B9 n).getLast hne, (List.dropLast_concat_getLast hne).symm⟩
 have hd := digs_dg B9two n
 have hnm := digs_nm B9two n
 have hv := digs_V B9two n
 rw [hmd] at hd hnm hv ⊢
 have h1 : 0 ≤ d ∧ d < (B9 : Int) := hd d (by simp)
 rw [B9c] at h1
 have h2 : d ≠ 0 := by intro e; subst e; simp [Nm] at hnm
 obtain ⟨t, rfl⟩ : ∃ t : Nat, d = t := ⟨d.toNat, by omega⟩
 refine ⟨t, by simp [gd], by omega, by omega, ?_⟩
 rw [V_snoc] at hv
 have h3 := V_nonneg hd.left
 have h4 := V_lt hd.left
 have ht := digs_len_ge (B := 10) (by omega) (show 0 < t by omega)
 have ht2 := digs_len_lt (B := 10) (by omega) t
 have e1 : (B9 : Nat) ^ m.length = 10 ^ (9 * m.length) := by rw [Nat.pow_mul]; rfl
 have hlen : (m ++ [(t : Int)]).length - 1 = m.length := by simp
 rw [hlen]
 obtain ⟨k, hk⟩ : ∃ k, (digs 10 t).length = k + 1 := ⟨(digs 10 t).length - 1, by
  have : digs 10 t ≠ [] := fun e => by have := digs_nil (B := 10) (by omega) e; omega
  have := List.length_pos_iff.2 this
  omega⟩
 rw [hk] at ht ht2 ⊢
 obtain ⟨q, hq⟩ : ∃ q : Nat, V B9 m = q := ⟨(V B9 m).toNat, by omega⟩
 rw [hq] at hv h4
 rw [← Int.natCast_pow] at hv h4
 have hv' : q + B9 ^ m.length * t = n := by
  have : ((q + B9 ^ m.length * t : Nat) : Int) = n := by rw [Int.natCast_add, Int.natCast_mul]; exact hv
  omega
 have h4' : q < B9 ^ m.length := by omega
 rw [e1] at hv' h4'
 refine (digs_len_eq (B := 10) (k := 9 * m.length + k) (by omega) ?_ ?_).trans (by omega)
 ·rw [Nat.pow_add, ← hv']
  have := Nat.mul_le_mul_left (10 ^ (9 * m.length)) ht
  simp only [Nat.add_sub_cancel] at this
  omega
 ·rw [← hv', show 9 * m.length + k + 1 = 9 * m.length + (k + 1) by omega, Nat.pow_add 10 (9 * m.length) (k + 1)]
  have := Nat.mul_le_mul_left (10 ^ (9 * m.length)) (show t + 1 ≤ 10 ^ (k + 1) by omega)
  rw [Nat.mul_add] at this
  omega
end Go.Proofs.YtibdipfhfaeooaaGreatDoor


set_option linter.unusedVariables false
set_option linter.unusedSimpArgs false
namespace Go.Proofs.YtibdipfhfaeooaaGreatDoor
open Go.RowKit

end Go.Proofs.YtibdipfhfaeooaaGreatDoor


set_option linter.unusedVariables false
set_option linter.unusedSimpArgs false
namespace Go.Proofs.YtibdipfhfaeooaaGreatDoor
open Go.RowKit

/-- The rows of the product so far: i whole rows. -/
def MulO (a b l : List Int) (i : Nat) : Prop :=
 l.length = a.length + b.length + 1 ∧ Dg B9 l ∧ V B9 l = V B9 (a.take i) * V B9 b ∧ i ≤ a.length
/-- k places of the row i. -/
def MulI (a b l : List Int) (i k : Nat) (cy : Int) : Prop :=
 l.length = a.length + b.length + 1 ∧ Dg B9 l ∧ 0 ≤ cy ∧ cy < 1000000000 ∧ V B9 l + (B9 : Int) ^ (i + k) * cy = V B9 (a.take i) * V B9 b + (B9 : Int) ^ i * gd a i * V B9 (b.take k) ∧ i < a.length ∧ k ≤ b.length + 1
theorem gdg {B : Nat} {l : List Int} (h : Dg B l) (hB : 0 < B) (i : Nat) : 0 ≤ gd l i ∧ gd l i < (B : Int) := h.getD hB i
theorem gd9 {l : List Int} (h : Dg B9 l) (i : Nat) : 0 ≤ gd l i ∧ gd l i < 1000000000 := gdg h (by decide) i
theorem Vtake {B : Nat} (l : List Int) (i : Nat) : V B (l.take (i + 1)) = V B (l.take i) + (B : Int) ^ i * gd l i := V_getD B l i
theorem Vset {B : Nat} (l : List Int) (i : Nat) (d : Int) (h : i < l.length) : V B (l.set i d) = V B l + (B : Int) ^ i * (d - gd l i) := V_set B l i d h
theorem MulI.first {a b l : List Int} {i : Nat} (h : MulO a b l i) (hi : i < a.length) : MulI a b l i 0 0 := by
 obtain ⟨h1, h2, h3, h4⟩ := h
 exact ⟨h1, h2, by omega, by omega, by simp [h3, V], hi, by omega⟩
theorem MulI.place {a b l : List Int} {i k : Nat} {cy : Int} (ha : Dg B9 a) (hb : Dg B9 b) (h : MulI a b l i k cy) (hk : k < b.length ∨ 0 < cy) : k ≤ b.length := by
 obtain ⟨h1, h2, h3, h4, h5, h6, h7⟩ := h
 rcases hk with hk | hk
 ·omega
 ·by_cases hkl : k ≤ b.length
  ·exact hkl
  ·have e : k = b.length + 1 := by omega
   subst e
   rw [List.take_of_length_le (l := b) (by omega), ← Int.add_mul, ← Vtake] at h5
   have l0 := V_nonneg h2
   have lb := V_lt hb
   have la := V_lt (ha.take (i + 1))
   rw [List.length_take, Nat.min_eq_left (by omega)] at la
   have a0 := V_nonneg (ha.take (i + 1))
   have b0 := V_nonneg hb
   have p1 : V B9 (a.take (i + 1)) * V B9 b ≤ (B9 : Int) ^ (i + 1) * (B9 : Int) ^ b.length := Int.mul_le_mul (by omega) (by omega) b0 (Int.pow_nonneg (by rw [B9c]; omega))
   rw [← Int.pow_add] at p1
   have p2 : (B9 : Int) ^ (i + (b.length + 1)) * 1 ≤ (B9 : Int) ^ (i + (b.length + 1)) * cy := Int.mul_le_mul_of_nonneg_left (by omega) (Int.pow_nonneg (by rw [B9c]; omega))
   rw [show i + 1 + b.length = i + (b.length + 1) by omega] at p1
   have p3 : (0 : Int) < (B9 : Int) ^ (i + (b.length + 1)) := Int.pow_pos (by rw [B9c]; omega)
   rcases Nat.eq_zero_or_pos b.length with hb0 | hb0
   ·have : b = [] := List.eq_nil_of_length_eq_zero hb0
    subst this
    simp only [V, Int.mul_zero] at h5
    omega
   ·have p4 : V B9 (a.take (i + 1)) * V B9 b < (B9 : Int) ^ (i + 1) * (B9 : Int) ^ b.length := by
     rcases Int.lt_or_eq_of_le a0 with hp | hp
     ·calc V B9 (a.take (i + 1)) * V B9 b ≤ V B9 (a.take (i + 1)) * (B9 : Int) ^ b.length := Int.mul_le_mul_of_nonneg_left (by omega) a0
       _ < (B9 : Int) ^ (i + 1) * (B9 : Int) ^ b.length := Int.mul_lt_mul_of_pos_right la (Int.pow_pos (by rw [B9c]; omega))
     ·rw [← hp, Int.zero_mul]; exact Int.mul_pos (Int.pow_pos (by rw [B9c]; omega)) (Int.pow_pos (by rw [B9c]; omega))
    rw [← Int.pow_add, show i + 1 + b.length = i + (b.length + 1) by omega] at p4
    omega
theorem mul_ring {v p cy o x m q t bk ai : Int} {B : Int} (h : v + p * cy = t) (e : m + B * q = o + ai * bk + cy) : v + p * (m - o) + p * B * q = t + p * ai * bk := by grind
theorem mul_ring2 {u p r ai vb q bk : Int} : u + p * ai * (vb + r * bk) = u + p * ai * vb + p * r * ai * bk := by grind
theorem MulI.step {a b l : List Int} {i k : Nat} {cy : Int} (ha : Dg B9 a) (hb : Dg B9 b) (h : MulI a b l i k cy) (hk : k ≤ b.length) :
  MulI a b (l.set (i + k) ((gd l (i + k) + gd a i * gd b k + cy) % 1000000000)) i (k + 1) ((gd l (i + k) + gd a i * gd b k + cy) / 1000000000) := by
 obtain ⟨h1, h2, h3, h4, h5, h6, h7⟩ := h
 have a1 := gd9 ha i
 have b1 := gd9 hb k
 have o1 := gd9 h2 (i + k)
 have p1 : 0 ≤ gd a i * gd b k := Int.mul_nonneg a1.1 b1.1
 have p2 : gd a i * gd b k ≤ 999999999 * 999999999 := Int.mul_le_mul (by omega) (by omega) b1.1 (by omega)
 refine ⟨by simp [h1], h2.set _ (by omega) (by rw [B9c]; omega), by omega, by omega, ?_, h6, by omega⟩
 rw [Vset _ _ _ (by omega), Vtake, ← Nat.add_assoc, Int.pow_succ, mul_ring2 (q := 0), ← Int.pow_add, B9c]
 rw [B9c] at h5
 exact mul_ring (x := 0) h5 (by omega)
theorem MulI.last {a b l : List Int} {i k : Nat} (h : MulI a b l i k 0) (hk : b.length ≤ k) : MulO a b l (i + 1) := by
 obtain ⟨h1, h2, h3, h4, h5, h6, h7⟩ := h
 refine ⟨h1, h2, ?_, by omega⟩
 rw [List.take_of_length_le hk] at h5
 rw [Vtake, Int.add_mul]
 simpa using h5
theorem MulO.first (a b : List Int) : MulO a b (List.replicate (a.length + b.length + 1) 0) 0 := ⟨by simp, Dg.zeros (by decide) _, by simp [V_zeros, V], by omega⟩
theorem MulO.last {a b l : List Int} {i : Nat} (h : MulO a b l i) (hi : a.length ≤ i) : V B9 l = V B9 a * V B9 b := by
 obtain ⟨h1, h2, h3, h4⟩ := h
 rwa [List.take_of_length_le hi] at h3
theorem SlI.belowB {w w' : World} {k : IntKind} {A : Option Addr} {c : Nat} {l : List Int} {n : Nat} (h : SlI w k A c l) (hb : Below n w w') (hn : w.heap.size ≤ n) : SlI w' k A c l := h.below (hb.mono hn)
end Go.Proofs.YtibdipfhfaeooaaGreatDoor


set_option linter.unusedVariables false
set_option linter.unusedSimpArgs false
namespace Go.Proofs.YtibdipfhfaeooaaGreatDoor
open Go.RowKit

def PartI (a l : List Int) (d : Int) (k : Nat) (r : Int) : Prop :=
 l.length = a.length ∧ Dg B9 l ∧ 0 ≤ r ∧ r < d ∧ V B9 (a.drop k) = d * V B9 (l.drop k) + r ∧ k ≤ a.length
theorem Vdrop {B : Nat} (l : List Int) (i : Nat) : V B (l.drop i) = gd l i + B * V B (l.drop (i + 1)) := V_drop B l i
theorem Vset_drop {B : Nat} {l : List Int} {i : Nat} (d : Int) (h : i < l.length) : V B ((l.set i d).drop i) = d + B * V B (l.drop (i + 1)) := by
 rw [Vdrop, List.drop_set_of_lt (by omega)]
 have : gd (l.set i d) i = d := by unfold gd; simp [h]
 rw [this]
theorem part_ring {u d q r B ai x y : Int} (h : u = d * q + r) (e : d * x + y = r * B + ai) : ai + B * u = d * (x + B * q) + y := by grind
theorem PartI.step {a l : List Int} {d : Int} {k : Nat} {r : Int} (ha : Dg B9 a) (h : PartI a l d (k + 1) r) :
  PartI a (l.set k ((r * 1000000000 + gd a k) / d)) d k ((r * 1000000000 + gd a k) % d) := by
 obtain ⟨h1, h2, h3, h4, h5, h6⟩ := h
 have a1 := gd9 ha k
 have hx : 0 ≤ r * 1000000000 + gd a k := by omega
 have hq0 : 0 ≤ (r * 1000000000 + gd a k) / d := Int.ediv_nonneg hx (by omega)
 have hq1 : (r * 1000000000 + gd a k) / d < 1000000000 := Int.ediv_lt_of_lt_mul (by omega) (by
  have : r + 1 ≤ d := by omega
  have := Int.mul_le_mul_of_nonneg_right this (show (0 : Int) ≤ 1000000000 by omega)
  rw [Int.mul_comm d] at this
  rw [Int.mul_comm (1000000000 : Int) d] at this
  rw [Int.mul_comm (1000000000 : Int) d]
  omega)
 refine ⟨by simp [h1], h2.set _ hq0 (by rw [B9c]; exact hq1), Int.emod_nonneg _ (by omega), Int.emod_lt_of_pos _ (by omega), ?_, by omega⟩
 rw [Vdrop a k, Vset_drop _ (by omega), B9c]
 exact part_ring h5 (Int.mul_ediv_add_emod _ _)
theorem PartI.first (a : List Int) (d : Int) (hd : 1 ≤ d) : PartI a (List.replicate a.length 0) d a.length 0 :=
 ⟨by simp, Dg.zeros (by decide) _, by omega, by omega, by rw [List.drop_of_length_le (Nat.le_refl _), List.drop_of_length_le (by simp)]; simp [V], Nat.le_refl _⟩
theorem PartI.last {a l : List Int} {d : Int} {r : Int} (h : PartI a l d 0 r) : V B9 l = V B9 a / d ∧ r = V B9 a % d := by
 obtain ⟨h1, h2, h3, h4, h5, h6⟩ := h
 simp only [List.drop_zero] at h5
 have := (Int.ediv_emod_unique (a := V B9 a) (b := d) (r := r) (q := V B9 l) (by omega)).2 ⟨by rw [h5]; omega, h3, h4⟩
 exact ⟨this.1.symm, this.2.symm⟩
theorem len_one : (dg B9 1).length ≤ 1000000000000 := Nat.le_trans (digs_len_le (k := 1) B9two (by decide)) (by omega)
theorem neg_div0 {n d q r : Int} (hd : 1 ≤ d) (hq : q = n / d) (hr : r = n % d) (h0 : r = 0) : (-n) / d = -q ∧ (-n) % d = 0 := by
 have e := Int.mul_ediv_add_emod n d
 rw [← hq, ← hr, h0] at e
 exact (Int.ediv_emod_unique (by omega)).2 ⟨by rw [Int.mul_neg]; omega, by omega, by omega⟩
theorem neg_div1 {n d q r : Int} (hd : 1 ≤ d) (hq : q = n / d) (hr : r = n % d) (h0 : r ≠ 0) : (-n) / d = -(q + 1) ∧ (-n) % d = d - r := by
 have e := Int.mul_ediv_add_emod n d
 have e1 := Int.emod_nonneg n (show d ≠ 0 by omega)
 have e2 := Int.emod_lt_of_pos n (show 0 < d by omega)
 rw [← hq, ← hr] at e
 exact (Int.ediv_emod_unique (by omega)).2 ⟨by rw [Int.mul_neg, Int.mul_add]; omega, by omega, by omega⟩
def S1 (W : World) (n : Nat) (na : Bool) (sa : Value) : Prop := W.cell? ⟨n, 0, none⟩ = some (.bool na) ∧ W.cell? ⟨n, 1, none⟩ = some sa
theorem S1.keepB {B n : Nat} {W w1 : World} {na : Bool} {sa : Value} (h : S1 W n na sa) (hb : Below B W w1) (hl : n < B) : S1 w1 n na sa := ⟨kcellB hb hl h.1, kcellB hb hl h.2⟩
theorem S1.keep {n : Nat} {W w1 : World} {na : Bool} {sa : Value} (h : S1 W n na sa) (hb : Below W.heap.size W w1) (hl : n < W.heap.size) : S1 w1 n na sa := h.keepB hb hl
theorem S1.set {n b o : Nat} {W : World} {na : Bool} {sa u : Value} (h : S1 W n na sa) (hne : b ≠ n) : S1 (W.setCell ⟨b, o, none⟩ u) n na sa :=
 ⟨(World.cell?_setCell_other _ _ _ _ (by simp [hne])).trans h.1, (World.cell?_setCell_other _ _ _ _ (by simp [hne])).trans h.2⟩
theorem S1.drew {n : Nat} {W : World} {na : Bool} {sa : Value} (h : S1 W n na sa) : S1 W.drew n na sa := h
end Go.Proofs.YtibdipfhfaeooaaGreatDoor


set_option linter.unusedVariables false
set_option linter.unusedSimpArgs false
namespace Go.Proofs.YtibdipfhfaeooaaGreatDoor

/-- The codes of a string's bytes. -/
def codes (s : ByteArray) : List Int := s.data.toList.map fun c => (c.toNat : Int)
def mkS (l : List Int) : ByteArray := ⟨(l.map fun n => UInt8.ofNat n.toNat).toArray⟩
theorem codes_length (s : ByteArray) : (codes s).length = s.size := by unfold codes; rw [List.length_map, Array.length_toList]; rfl
theorem codes_inj {s t : ByteArray} (h : codes s = codes t) : s = t := by
 have : s.data.toList = t.data.toList := by
  unfold codes at h
  refine (List.map_inj_right ?_).1 h
  intro a b hab
  exact UInt8.toNat_inj.1 (by omega)
 cases s; cases t
 congr
 exact Array.toList_inj.1 this
theorem codes_gd {s : ByteArray} {i : Nat} (h : i < s.size) : ((s[i]'h).toNat : Int) = gd (codes s) i := by
 rw [gd_lt (by rw [codes_length]; exact h)]
 unfold codes
 rw [List.getElem_map]
 rfl
theorem codes_range (s : ByteArray) : ∀ n ∈ codes s, 0 ≤ n ∧ n < 256 := by
 intro n hn
 unfold codes at hn
 obtain ⟨c, _, rfl⟩ := List.mem_map.1 hn
 have := c.toNat_lt
 omega
theorem codes_mk {l : List Int} (h : ∀ n ∈ l, 0 ≤ n ∧ n < 256) : codes (mkS l) = l := by
 unfold codes mkS
 simp only [List.map_map]
 conv => rhs; rw [← List.map_id l]
 apply List.map_congr_left
 intro n hn
 have := h n hn
 simp
 omega
theorem mkS_size (l : List Int) : (mkS l).size = l.length := by unfold mkS; simp [ByteArray.size]

/-- The decimal digits of a natural number, as codes, the highest first. -/
def txN (n : Nat) : List Int := if n = 0 then [48] else ((digs 10 n).map (· + 48)).reverse
/-- A number as codes. -/
def tx (z : Int) : List Int := (if z < 0 then [45] else []) ++ txN z.natAbs
def tS (z : Int) : ByteArray := mkS (tx z)
theorem txN_range (n : Nat) : ∀ c ∈ txN n, 48 ≤ c ∧ c ≤ 57 := by
 unfold txN
 split
 ·simp
 ·intro c hc
  simp only [List.mem_reverse, List.mem_map] at hc
  obtain ⟨d, hd, rfl⟩ := hc
  have : 0 ≤ d ∧ d < ((10 : Nat) : Int) := digs_dg (B := 10) (by omega) n d hd
  omega
theorem tx_range (z : Int) : ∀ c ∈ tx z, 0 ≤ c ∧ c < 256 := by
 intro c hc
 unfold tx at hc
 rw [List.mem_append] at hc
 rcases hc with hc | hc
 ·split at hc <;> simp at hc; omega
 ·have := txN_range _ c hc; omega
theorem codes_tS (z : Int) : codes (tS z) = tx z := codes_mk (tx_range z)
theorem txN_length {n : Nat} (h : 0 < n) : (txN n).length = (digs 10 n).length := by unfold txN; rw [if_neg (by omega)]; simp
theorem txN_ne (n : Nat) : txN n ≠ [] := by
 unfold txN
 split
 ·simp
 ·rename_i h
  rw [digs_pos (by omega) (by omega)]
  simp
theorem txN_head {n : Nat} (h : 0 < n) : (txN n).head? ≠ some 48 := by
 unfold txN
 rw [if_neg (by omega), List.head?_reverse]
 intro he
 rw [List.getLast?_map] at he
 obtain ⟨d, hd, hd2⟩ := Option.map_eq_some_iff.1 he
 have : d = 0 := by omega
 subst this
 exact digs_nm (B := 10) (by omega) n hd
/-- The number of digits, 1 for 0. -/
def dlN (n : Nat) : Nat := (txN n).length
theorem dlN_pos (n : Nat) : 0 < dlN n := List.length_pos_iff.2 (txN_ne n)

/-- What is written without the sign. -/
def strip (l : List Int) : List Int := if l.head? = some 45 then l.tail else l
/-- Is it a number of at most 2000 digits? -/
def vldL (l : List Int) : Bool :=
 decide (1 ≤ (strip l).length) && decide ((strip l).length ≤ 2000) && !(decide ((strip l).head? = some 48) && decide (1 < l.length)) && (strip l).all fun c => decide (48 ≤ c ∧ c ≤ 57)
theorem digits_of {r : List Int} (hr : r ≠ []) (h : ∀ c ∈ r, 48 ≤ c ∧ c ≤ 57) (h0 : r.head? ≠ some 48) : ∃ n : Nat, 0 < n ∧ r = txN n := by
  have hd : Dg 10 (r.reverse.map (· - 48)) := by
    intro d hd
    simp only [List.mem_map, List.mem_reverse] at hd
    obtain ⟨c, hc, rfl⟩ := hd
    have := h c hc
    omega
  have hn : Nm (r.reverse.map (· - 48)) := by
    unfold Nm
    rw [List.getLast?_map, List.getLast?_reverse]
    intro he
    obtain ⟨c, hc, hc2⟩ := Option.map_eq_some_iff.1 he
    exact h0 (by rw [hc]; congr 1; omega)
  have hv := V_nonneg hd
  have e := digs_unique (B := 10) (by omega) _ hd hn
  have hpos : 0 < (V 10 (r.reverse.map (· - 48))).toNat := by
    rcases Nat.eq_zero_or_pos (V 10 (r.reverse.map (· - 48))).toNat with h1 | h1
    · rw [h1, digs_zero] at e
      simp at e
      exact absurd e hr
    · exact h1
  refine ⟨(V 10 (r.reverse.map (· - 48))).toNat, hpos, ?_⟩
  unfold txN
  rw [if_neg (by omega), ← e, List.map_map]
  have : (r.reverse.map ((fun x => x + 48) ∘ fun x => x - 48)) = r.reverse := by
    conv => rhs; rw [← List.map_id r.reverse]
    apply List.map_congr_left
    intro c _
    simp
  rw [this, List.reverse_reverse]
theorem strip_tx (z : Int) : strip (tx z) = txN z.natAbs := by
 unfold tx strip
 by_cases h : z < 0
 ·simp [h]
 ·simp only [h, if_false, List.nil_append]
  rw [if_neg]
  intro he
  have := txN_range z.natAbs 45 (List.mem_of_mem_head? he)
  omega
theorem tx_neg {z : Int} : (tx z).head? = some 45 ↔ z < 0 := by
 unfold tx
 by_cases h : z < 0
 ·simp [h]
 ·simp only [h, if_false, List.nil_append, iff_false]
  intro he
  have := txN_range z.natAbs 45 (List.mem_of_mem_head? he)
  omega
theorem vld_tx (z : Int) (h : dlN z.natAbs ≤ 2000) : vldL (tx z) = true := by
 unfold vldL
 rw [strip_tx]
 have h1 := dlN_pos z.natAbs
 unfold dlN at h h1
 have h3 : (!(decide ((txN z.natAbs).head? = some 48) && decide (1 < (tx z).length))) = true := by
  rcases Nat.eq_zero_or_pos z.natAbs with h0 | h0
  ·have : z = 0 := by omega
   subst this
   rfl
  ·have := txN_head h0
   simp [this]
 rw [h3]
 simp only [Bool.and_eq_true, decide_eq_true_eq, List.all_eq_true, and_true]
 exact ⟨⟨h1, h⟩, fun c hc => txN_range _ c hc⟩
theorem vld_num {l : List Int} (h : vldL l = true) : ∃ z, l = tx z ∧ dlN z.natAbs ≤ 2000 := by
 unfold vldL at h
 simp only [Bool.and_eq_true, decide_eq_true_eq, List.all_eq_true] at h
 obtain ⟨⟨⟨h1, h2⟩, h3⟩, h4⟩ := h
 have hr : strip l ≠ [] := List.length_pos_iff.1 h1
 by_cases h0 : (strip l).head? = some 48
 ·have hl : ¬ 1 < l.length := by
   intro hl
   simp [h0, hl] at h3
  have hs : strip l = l := by
   unfold strip at hr ⊢
   split
   ·rename_i hh
    rw [if_pos hh] at hr
    cases l with
    | nil => simp at hh
    | cons a t =>
     cases t with
     | nil => simp at hr
     | cons b t => simp at hl
   ·rfl
  rw [hs] at h0
  cases l with
  | nil => simp at h0
  | cons a t =>
   cases t with
   | nil =>
    simp at h0
    subst h0
    exact ⟨0, rfl, by decide⟩
   | cons b t => simp at hl
 ·obtain ⟨n, hn, e⟩ := digits_of hr h4 h0
  by_cases hneg : l.head? = some 45
  ·refine ⟨-(n : Int), ?_, ?_⟩
   ·have hs : strip l = l.tail := by unfold strip; rw [if_pos hneg]
    unfold tx
    rw [if_pos (by omega), show (-(n : Int)).natAbs = n by omega, ← e, hs]
    cases l with
    | nil => simp at hneg
    | cons a t => simp at hneg; simp [hneg]
   ·rw [show (-(n : Int)).natAbs = n by omega, dlN, ← e]; exact h2
  ·refine ⟨(n : Int), ?_, ?_⟩
   ·have hs : strip l = l := by unfold strip; rw [if_neg hneg]
    unfold tx
    rw [if_neg (by omega), show ((n : Int)).natAbs = n by omega, ← e, hs]
    rfl
   ·rw [show ((n : Int)).natAbs = n by omega, dlN, ← e]; exact h2
theorem gd_drop (l : List Int) (a j : Nat) : gd (l.drop a) j = gd l (a + j) := by unfold gd; simp [List.getD_eq_getElem?_getD]
theorem strip_drop {l : List Int} {a : Nat} (h : l ≠ []) (ha : a = if gd l 0 = 45 then 1 else 0) : strip l = l.drop a := by
 cases l with
 | nil => exact absurd rfl h
 | cons x t =>
  have e : gd (x :: t) 0 = x := rfl
  rw [e] at ha
  unfold strip
  by_cases hx : x = 45
  ·subst hx; simp at ha; subst ha; simp
  ·rw [if_neg hx] at ha; subst ha; simp [hx]
theorem vld_char {l : List Int} {a : Nat} (h : l ≠ []) (ha : a = if gd l 0 = 45 then 1 else 0) :
  vldL l = true ↔ (a < l.length ∧ l.length - a ≤ 2000) ∧ ¬ (gd l a = 48 ∧ 1 < l.length) ∧ ∀ j, a ≤ j → j < l.length → 48 ≤ gd l j ∧ gd l j ≤ 57 := by
 unfold vldL
 rw [strip_drop h ha]
 simp only [Bool.and_eq_true, decide_eq_true_eq, List.all_eq_true, List.length_drop]
 have hall : (∀ c ∈ l.drop a, 48 ≤ c ∧ c ≤ 57) ↔ ∀ j, a ≤ j → j < l.length → 48 ≤ gd l j ∧ gd l j ≤ 57 := by
  constructor
  ·intro hc j hj hl
   apply hc
   have e : gd l j = gd (l.drop a) (j - a) := by rw [gd_drop, show a + (j - a) = j by omega]
   rw [e, gd_lt (by rw [List.length_drop]; omega)]
   exact List.getElem_mem _
  ·intro hj c hc
   obtain ⟨i, hi, rfl⟩ := List.getElem_of_mem hc
   rw [← gd_lt hi, gd_drop]
   rw [List.length_drop] at hi
   exact hj _ (by omega) (by omega)
 rw [hall]
 have hhead : a < l.length → ((l.drop a).head? = some 48 ↔ gd l a = 48) := by
  intro hl
  rw [List.head?_drop, List.getElem?_eq_getElem hl, gd_lt hl]
  simp
 constructor
 ·rintro ⟨⟨⟨h1, h2⟩, h3⟩, h4⟩
  have hl : a < l.length := by omega
  refine ⟨⟨hl, h2⟩, ?_, h4⟩
  rintro ⟨e1, e2⟩
  rw [← hhead hl] at e1
  simp [e1, e2] at h3
 ·rintro ⟨⟨h1, h2⟩, h3, h4⟩
  refine ⟨⟨⟨by omega, h2⟩, ?_⟩, h4⟩
  by_cases e : (l.drop a).head? = some 48
  ·have := (hhead h1).1 e
   have hl : ¬ 1 < l.length := fun hl => h3 ⟨this, hl⟩
   simp [hl]
  ·have : decide ((l.drop a).head? = some 48) = false := decide_eq_false e
   rw [this]; rfl
theorem txN_inj {m n : Nat} (h : txN m = txN n) : m = n := by
 rcases Nat.eq_zero_or_pos m with rfl | hm
 ·rcases Nat.eq_zero_or_pos n with rfl | hn
  ·rfl
  ·exact absurd (by rw [← h]; rfl) (txN_head hn)
 ·rcases Nat.eq_zero_or_pos n with rfl | hn
  ·exact absurd (by rw [h]; rfl) (txN_head hm)
  ·unfold txN at h
   rw [if_neg (by omega), if_neg (by omega)] at h
   have h := List.reverse_inj.1 h
   have h := (List.map_inj_right (by intro a b; omega)).1 h
   have a := digs_V (B := 10) (by omega) m
   have b := digs_V (B := 10) (by omega) n
   rw [h] at a
   omega
theorem tx_inj {a b : Int} (h : tx a = tx b) : a = b := by
 have hs : txN a.natAbs = txN b.natAbs := by rw [← strip_tx, ← strip_tx, h]
 have hn := txN_inj hs
 have : a < 0 ↔ b < 0 := by rw [← tx_neg, ← tx_neg, h]
 omega
theorem tS_inj {a b : Int} (h : tS a = tS b) : a = b := tx_inj (by rw [← codes_tS, ← codes_tS, h])
/-- The value of digits. -/
def dv (l : List Int) : Int := V 10 (l.reverse.map (· - 48))
theorem dv_txN (n : Nat) : dv (txN n) = n := by
 unfold dv txN
 split
 ·rename_i h; subst h; rfl
 ·rw [List.reverse_reverse, List.map_map]
  have : (digs 10 n).map ((fun x => x - 48) ∘ fun x => x + 48) = digs 10 n := by
   conv => rhs; rw [← List.map_id (digs 10 n)]
   apply List.map_congr_left
   intro c _
   simp
  rw [this]
  exact digs_V (by omega) n
theorem dv_snoc (l : List Int) (c : Int) : dv (l ++ [c]) = 10 * dv l + (c - 48) := by
 unfold dv
 rw [List.reverse_append]
 simp only [List.reverse_cons, List.reverse_nil, List.nil_append, List.cons_append, List.map_cons, V]
 omega
theorem dv_append (l m : List Int) : dv (l ++ m) = (10 : Int) ^ m.length * dv l + dv m := by
 unfold dv
 rw [List.reverse_append, List.map_append, V_append]
 simp
 omega
end Go.Proofs.YtibdipfhfaeooaaGreatDoor


set_option linter.unusedVariables false
set_option linter.unusedSimpArgs false
namespace Go.Proofs.YtibdipfhfaeooaaGreatDoor
open Go.RowKit

def Digs (l : List Int) (a k : Nat) : Prop := ∀ j, a ≤ j → j < k → 48 ≤ gd l j ∧ gd l j ≤ 57
theorem Digs.snoc {l : List Int} {a k : Nat} (h : Digs l a k) (h1 : 48 ≤ gd l k) (h2 : gd l k ≤ 57) : Digs l a (k + 1) := by
 intro j hj hk
 rcases Nat.lt_or_ge j k with hlt | hge
 ·exact h j hj hlt
 ·obtain rfl : j = k := by omega
  exact ⟨h1, h2⟩
theorem codes_nil {s : ByteArray} (h : s.size = 0) : codes s = [] := List.eq_nil_of_length_eq_zero (by rw [codes_length]; exact h)
theorem toList_length (s : ByteArray) : s.toList.length = s.size := by rw [ByteArray.toList_eq, Array.length_toList]; rfl
theorem toList_nil {s : ByteArray} (h : s.size = 0) : s.toList = [] := List.eq_nil_of_length_eq_zero (by rw [toList_length]; exact h)
theorem toList_cons {s : ByteArray} (h : 0 < s.size) : (s.toList == []) = false ∧ (s.toList != []) = true ∧ s.toList.isEmpty = false := by
 have := toList_length s
 cases e : s.toList with
 | nil => rw [e] at this; simp at this; omega
 | cons a t => exact ⟨rfl, rfl, rfl⟩

set_option maxRecDepth 100000 in
set_option maxHeartbeats 2000000 in
theorem Valid_c (s : ByteArray) (w : World) (hs : s.size ≤ 9223372036854775807) :
  Calls Tryz.prog 32 #[.string s] w fun e w' => e = .returned (.bool (vldL (codes s))) ∧ w = w' := by
 rcases Nat.eq_zero_or_pos s.size with h0 | h0
 ·have e0 := toList_nil h0
  have hr : vldL (codes s) = false := by rw [codes_nil h0]; rfl
  rw [hr]
  have hz : (s.size : Int) ≤ 0 := by omega
  clear hr h0
  go_enter Tryz.func32, Tryz.ntmps32
  go_wp2
  go_ret
  exact ⟨rfl, rfl⟩
 ·obtain ⟨e1, e2, e3⟩ := toList_cons h0
  have HNE : Hid (codes s ≠ []) := fun h => by have := codes_length s; rw [h] at this; simp at this; omega
  have HL := Lib.hid (codes_length s)
  have hx0 : ∀ h : 0 < s.size, ((s[0]'h).toNat : Int) = gd (codes s) 0 := fun h => codes_gd h
  by_cases q : gd (codes s) 0 = 45
  ·have HC := Lib.hid (vld_char (a := 1) HNE.out (by rw [if_pos q]))
   have qb : (gd (codes s) 0 == 45) = true := by simpa using q
   clear q
   have hxa : ∀ h : 1 < s.size, ((s[1]'h).toNat : Int) = gd (codes s) 1 := fun h => codes_gd h
   by_cases q1 : 1 < s.size
   ·by_cases q2 : (s.size : Int) - 1 ≤ 2000
    ·by_cases q3 : gd (codes s) 1 = 48 ∧ 1 < s.size
     ·have hr : vldL (codes s) = false := by
       cases hv : vldL (codes s) with
       | false => rfl
       | true => exact absurd ⟨q3.1, by rw [HL.out]; exact q3.2⟩ (HC.out.1 hv).2.1
      rw [hr]
      have qc : (gd (codes s) 1 == 48) = true := by simpa using q3.1
      have qd : (1 : Int) < (s.size : Int) := by have := q3.2; omega
      clear q3 hr
      go_enter Tryz.func32, Tryz.ntmps32
      go_wp2
      go_ret
      exact ⟨rfl, rfl⟩
     ·have HQ : Hid (¬ (gd (codes s) 1 = 48 ∧ 1 < (codes s).length)) := by rw [HL.out]; exact q3
      have q3' : (gd (codes s) 1 == 48) = false ∨ ((gd (codes s) 1 == 48) = true ∧ ¬ (1 : Int) < (s.size : Int)) := by
       by_cases h48 : gd (codes s) 1 = 48
       ·exact .inr ⟨by simpa using h48, fun h => q3 ⟨h48, by omega⟩⟩
       ·exact .inl (by simpa using h48)
      clear q3
      rcases q3' with q3 | ⟨q3, q4⟩
      rotate_left; exact absurd (by omega) q4
      all_goals
       go_enter Tryz.func32, Tryz.ntmps32
       go_wp2
       go_loop [5] (fun i => ∃ k : Nat, 1 ≤ k ∧ k ≤ s.size ∧ i = .int .i64 k ∧ Hid (Digs (codes s) 1 k)) (fun i => s.size - (intOf i).toNat)
       case atStart => exact ⟨1, Nat.le_refl _, by omega, rfl, fun j h1 h2 => by omega⟩
       case round =>
        obtain ⟨k, hk1, hk2, rfl, HI⟩ := hrel
        by_cases hk : k < s.size
        ·have hxk : ∀ h : k < s.size, ((s[k]'h).toNat : Int) = gd (codes s) k := fun h => codes_gd h
         by_cases d1 : gd (codes s) k < 48
         ·have HR : Hid (vldL (codes s) = false) := by
           show _ = _
           cases hv : vldL (codes s) with
           | false => rfl
           | true => have := (HC.out.1 hv).2.2 k hk1 (by rw [HL.out]; exact hk); omega
          go_wp2
          go_ret
          exact ⟨by rw [HR.out]; rfl, rfl⟩
         ·by_cases d2 : 57 < gd (codes s) k
          ·have HR : Hid (vldL (codes s) = false) := by
            show _ = _
            cases hv : vldL (codes s) with
            | false => rfl
            | true => have := (HC.out.1 hv).2.2 k hk1 (by rw [HL.out]; exact hk); omega
           go_wp2
           go_ret
           exact ⟨by rw [HR.out]; rfl, rfl⟩
          ·have HS : Hid (Digs (codes s) 1 (k + 1)) := HI.out.snoc (by omega) (by omega)
           go_wp2
           go_round
           case rel => exact ⟨k + 1, by omega, by omega, by go_num, HS⟩
           case measure => simp [intOf]; omega
        ·have HR : Hid (vldL (codes s) = true) := by
          show _ = _
          exact HC.out.2 ⟨⟨by rw [HL.out]; exact q1, by rw [HL.out]; omega⟩, HQ.out, fun j h1 h2 => HI.out j h1 (by rw [HL.out] at h2; omega)⟩
         go_wp2
         go_ret
         exact ⟨by rw [HR.out]; rfl, rfl⟩
    ·have hr : vldL (codes s) = false := by
      cases hv : vldL (codes s) with
      | false => rfl
      | true => have := (HC.out.1 hv).1.2; rw [HL.out] at this; omega
     rw [hr]
     clear hr
     go_enter Tryz.func32, Tryz.ntmps32
     go_wp2
     go_ret
     exact ⟨rfl, rfl⟩
   ·have hr : vldL (codes s) = false := by
     cases hv : vldL (codes s) with
     | false => rfl
     | true => have := (HC.out.1 hv).1.1; rw [HL.out] at this; exact absurd this q1
    rw [hr]
    have hz : (s.size : Int) - 1 < 1 := by omega
    clear hr
    go_enter Tryz.func32, Tryz.ntmps32
    go_wp2
    go_ret
    exact ⟨rfl, rfl⟩
  
  ·have HC := Lib.hid (vld_char (a := 0) HNE.out (by rw [if_neg q]))
   have qb : (gd (codes s) 0 == 45) = false := by simpa using q
   clear q
   have hxa : ∀ h : 0 < s.size, ((s[0]'h).toNat : Int) = gd (codes s) 0 := fun h => codes_gd h
   by_cases q1 : 0 < s.size
   ·by_cases q2 : (s.size : Int) - 0 ≤ 2000
    ·by_cases q3 : gd (codes s) 0 = 48 ∧ 1 < s.size
     ·have hr : vldL (codes s) = false := by
       cases hv : vldL (codes s) with
       | false => rfl
       | true => exact absurd ⟨q3.1, by rw [HL.out]; exact q3.2⟩ (HC.out.1 hv).2.1
      rw [hr]
      have qc : (gd (codes s) 0 == 48) = true := by simpa using q3.1
      have qd : (1 : Int) < (s.size : Int) := by have := q3.2; omega
      clear q3 hr
      go_enter Tryz.func32, Tryz.ntmps32
      go_wp2
      go_ret
      exact ⟨rfl, rfl⟩
     ·have HQ : Hid (¬ (gd (codes s) 0 = 48 ∧ 1 < (codes s).length)) := by rw [HL.out]; exact q3
      have q3' : (gd (codes s) 0 == 48) = false ∨ ((gd (codes s) 0 == 48) = true ∧ ¬ (1 : Int) < (s.size : Int)) := by
       by_cases h48 : gd (codes s) 0 = 48
       ·exact .inr ⟨by simpa using h48, fun h => q3 ⟨h48, by omega⟩⟩
       ·exact .inl (by simpa using h48)
      clear q3
      rcases q3' with q3 | ⟨q3, q4⟩
      
      all_goals
       go_enter Tryz.func32, Tryz.ntmps32
       go_wp2
       go_loop [5] (fun i => ∃ k : Nat, 0 ≤ k ∧ k ≤ s.size ∧ i = .int .i64 k ∧ Hid (Digs (codes s) 0 k)) (fun i => s.size - (intOf i).toNat)
       case atStart => exact ⟨0, Nat.le_refl _, by omega, rfl, fun j h1 h2 => by omega⟩
       case round =>
        obtain ⟨k, hk1, hk2, rfl, HI⟩ := hrel
        by_cases hk : k < s.size
        ·have hxk : ∀ h : k < s.size, ((s[k]'h).toNat : Int) = gd (codes s) k := fun h => codes_gd h
         by_cases d1 : gd (codes s) k < 48
         ·have HR : Hid (vldL (codes s) = false) := by
           show _ = _
           cases hv : vldL (codes s) with
           | false => rfl
           | true => have := (HC.out.1 hv).2.2 k hk1 (by rw [HL.out]; exact hk); omega
          go_wp2
          go_ret
          exact ⟨by rw [HR.out]; rfl, rfl⟩
         ·by_cases d2 : 57 < gd (codes s) k
          ·have HR : Hid (vldL (codes s) = false) := by
            show _ = _
            cases hv : vldL (codes s) with
            | false => rfl
            | true => have := (HC.out.1 hv).2.2 k hk1 (by rw [HL.out]; exact hk); omega
           go_wp2
           go_ret
           exact ⟨by rw [HR.out]; rfl, rfl⟩
          ·have HS : Hid (Digs (codes s) 0 (k + 1)) := HI.out.snoc (by omega) (by omega)
           go_wp2
           go_round
           case rel => exact ⟨k + 1, by omega, by omega, by go_num, HS⟩
           case measure => simp [intOf]; omega
        ·have HR : Hid (vldL (codes s) = true) := by
          show _ = _
          exact HC.out.2 ⟨⟨by rw [HL.out]; exact q1, by rw [HL.out]; omega⟩, HQ.out, fun j h1 h2 => HI.out j h1 (by rw [HL.out] at h2; omega)⟩
         go_wp2
         go_ret
         exact ⟨by rw [HR.out]; rfl, rfl⟩
    ·have hr : vldL (codes s) = false := by
      cases hv : vldL (codes s) with
      | false => rfl
      | true => have := (HC.out.1 hv).1.2; rw [HL.out] at this; omega
     rw [hr]
     clear hr
     go_enter Tryz.func32, Tryz.ntmps32
     go_wp2
     go_ret
     exact ⟨rfl, rfl⟩
   ·exact absurd h0 q1
end Go.Proofs.YtibdipfhfaeooaaGreatDoor


set_option linter.unusedVariables false
set_option linter.unusedSimpArgs false
namespace Go.Proofs.YtibdipfhfaeooaaGreatDoor
open Go.RowKit

theorem dv_range {l : List Int} (h : ∀ c ∈ l, 48 ≤ c ∧ c ≤ 57) : 0 ≤ dv l ∧ dv l < (10 : Int) ^ l.length := by
  have hd : Dg 10 (l.reverse.map (· - 48)) := by
    intro d hd
    simp only [List.mem_map, List.mem_reverse] at hd
    obtain ⟨c, hc, rfl⟩ := hd
    have := h c hc
    omega
  have h1 := V_nonneg hd
  have h2 := V_lt hd
  simp only [List.length_map, List.length_reverse] at h2
  exact ⟨h1, h2⟩
def Dgt (L : List Int) (a : Nat) : Prop := ∀ j, a ≤ j → j < L.length → 48 ≤ gd L j ∧ gd L j ≤ 57
/-- The digits from place a up to place b. -/
def seg (L : List Int) (a b : Nat) : List Int := (L.take b).drop a
theorem seg_length (L : List Int) {a b : Nat} (h : a ≤ b) (hb : b ≤ L.length) : (seg L a b).length = b - a := by unfold seg; simp; omega
theorem seg_self (L : List Int) (a : Nat) : seg L a a = [] := by unfold seg; rw [List.drop_of_length_le]; simp; omega
theorem seg_snoc {L : List Int} {a b : Nat} (h : a ≤ b) (hb : b < L.length) : seg L a (b + 1) = seg L a b ++ [gd L b] := by
 unfold seg
 rw [List.take_succ_eq_append_getElem hb, List.drop_append_of_le_length (by simp; omega), gd_lt hb]
theorem seg_all {L : List Int} {a b c : Nat} (hd : Dgt L a) (h : a ≤ b) (hc : c ≤ L.length) : ∀ x ∈ seg L b c, 48 ≤ x ∧ x ≤ 57 := by
 intro x hx
 unfold seg at hx
 obtain ⟨i, hi, rfl⟩ := List.getElem_of_mem hx
 simp at hi
 rw [List.getElem_drop, List.getElem_take, ← gd_lt (by omega)]
 exact hd _ (by omega) (by omega)
theorem seg_drop {L : List Int} {a b : Nat} (h : a ≤ b) (hb : b ≤ L.length) : L.drop a = seg L a b ++ L.drop b := by
 unfold seg
 conv => lhs; rw [← List.take_append_drop b L]
 rw [List.drop_append_of_le_length (by simp; omega)]
def ParI (L : List Int) (a : Nat) (e : Int) (l : List Int) : Prop :=
 Dg B9 l ∧ ∃ b : Nat, a ≤ b ∧ b ≤ L.length ∧ V B9 l = dv (L.drop b) ∧ ((b = a ∧ e ≤ a) ∨ (e = b ∧ a < b ∧ 9 * l.length = L.length - b))
theorem ten9 (k : Nat) : (10 : Int) ^ (9 * k) = (B9 : Int) ^ k := by rw [Int.pow_mul, B9c]; rfl
theorem ParI.step {L l : List Int} {a E j : Nat} (hd : Dgt L a) (h : ParI L a E l) (hE : a < E) (hj : (a + 9 < E ∧ j = E - 9) ∨ (E ≤ a + 9 ∧ j = a)) :
  ParI L a ((E : Int) - 9) (l ++ [dv (seg L j E)]) := by
 obtain ⟨h1, b, h2, h3, h4, h5⟩ := h
 have hb : b = E ∧ 9 * l.length = L.length - b := by
  rcases h5 with ⟨x, y⟩ | ⟨x, y, z⟩ <;> omega
 obtain ⟨rfl, hl⟩ := hb
 have hjE : a ≤ j ∧ j < b ∧ b - j ≤ 9 := by omega
 have hr := dv_range (seg_all (c := b) hd hjE.1 h3)
 rw [seg_length L (by omega) h3] at hr
 have hp : (10 : Int) ^ (b - j) ≤ 1000000000 := by
  have : (10 : Nat) ^ (b - j) ≤ 10 ^ 9 := Nat.pow_le_pow_right (by omega) hjE.2.2
  have h2 : ((10 ^ (b - j) : Nat) : Int) ≤ ((10 ^ 9 : Nat) : Int) := by omega
  rwa [Int.natCast_pow] at h2
 refine ⟨Dg.append h1 (Dg.cons hr.1 (by rw [B9c]; omega) (Dg.nil _)), j, hjE.1, by omega, ?_, ?_⟩
 ·rw [V_snoc, seg_drop (show j ≤ b by omega) h3, dv_append, List.length_drop, ← hl, ten9, h4]; omega
 ·rw [List.length_append, List.length_singleton]
  omega
theorem ParI.first {L : List Int} {a : Nat} (h : a < L.length) : ParI L a (L.length : Int) [] :=
 ⟨Dg.nil _, L.length, by omega, Nat.le_refl _, by rw [List.drop_of_length_le (Nat.le_refl _)]; rfl, .inr ⟨rfl, h, by simp⟩⟩
theorem ParI.last {L l : List Int} {a : Nat} {e : Int} (h : ParI L a e l) (he : e ≤ a) : Dg B9 l ∧ V B9 l = dv (L.drop a) := by
 obtain ⟨h1, b, h2, h3, h4, h5⟩ := h
 refine ⟨h1, ?_⟩
 rcases h5 with ⟨x, y⟩ | ⟨x, y, z⟩
 ·subst x; exact h4
 ·omega
theorem ParI.len {L l : List Int} {a : Nat} {e : Int} (h : ParI L a e l) (he : a < e) : 9 * l.length ≤ L.length := by
 obtain ⟨h1, b, h2, h3, h4, h5⟩ := h
 rcases h5 with ⟨x, y⟩ | ⟨x, y, z⟩ <;> omega
theorem start1 (w : World) (t : TypeId) (W : World) (hW : w.alloc (.cells #[.bool false, .slice none 0 0] t) = W) : Res2 W w.heap.size ∧ W.heap.size = w.heap.size + 1 ∧ Below w.heap.size w W := by
 subst hW
 refine ⟨⟨⟨false, ?_⟩, ⟨none, 0, 0, ?_⟩, ?_, ?_, ?_⟩, ?_, below_alloc (Below.refl _ _) _⟩ <;> simp [go_sem]

set_option maxRecDepth 100000 in
set_option maxHeartbeats 2000000 in
theorem Parse_c (z : Int) (w : World) (hz : dlN z.natAbs ≤ 100000000000) :
  Calls Tryz.prog 15 #[.string (tS z)] w fun e w' => ∃ v, e = .returned v ∧ IsN w' v z ∧ Below w.heap.size w w' := by
 have HC := Lib.hid (codes_tS z)
 generalize tS z = s at *
 have hst := strip_tx z
 have hneg := tx_neg (z := z)
 have hne : codes s ≠ [] := by rw [HC.out]; unfold tx; have := txN_ne z.natAbs; split <;> simp [this]
 have hL := codes_length s
 have hlen : (codes s).length ≤ 100000000001 := by rw [HC.out]; unfold tx; unfold dlN at hz; split <;> simp <;> omega
 have h0 : 0 < s.size := by have := List.length_pos_iff.2 hne; omega
 have hx0 : ∀ h : 0 < s.size, ((s[0]'h).toNat : Int) = gd (codes s) 0 := fun h => codes_gd h
 have hg : (codes s).head? = some 45 ↔ gd (codes s) 0 = 45 := by
  cases e : codes s with
  | nil => exact absurd e hne
  | cons c t => simp [gd]
 rw [← HC.out] at hst hneg
 rw [hg] at hneg
 by_cases q : gd (codes s) 0 = 45
 ·have qb : (gd (codes s) 0 == 45) = true := by simpa using q
  have hz0 : z < 0 := hneg.1 q
  have hsd := strip_drop (a := 1) hne (by rw [if_pos q])
  rw [hst] at hsd
  have HD : Hid (Dgt (codes s) 1) := by
   intro j h1 h2
   have := txN_range z.natAbs (gd (codes s) j) (by
    rw [hsd]
    have e : gd (codes s) j = gd ((codes s).drop 1) (j - 1) := by rw [gd_drop, show 1 + (j - 1) = j by omega]
    rw [e, gd_lt (by rw [List.length_drop]; omega)]
    exact List.getElem_mem _)
   exact this
  have hal : 1 < (codes s).length := by
   have := List.length_pos_iff.2 (txN_ne z.natAbs)
   rw [hsd, List.length_drop] at this
   omega
  have HV : Hid (dv ((codes s).drop 1) = z.natAbs) := by rw [← hsd]; exact dv_txN _
  have HZ : Hid (sgnd true (z.natAbs : Int) = z) := by show _ = _; unfold sgnd; rw [if_pos rfl]; omega
  have HL := Lib.hid hL
  have hs1 : s.size ≤ 100000000001 := by omega
  have hs2 : 1 < s.size := by omega
  clear hsd hz0 q hneg hst hne hL hlen hg hz
  go_enter Tryz.func15, Tryz.ntmps15
  go_wp2
  generalize hW : w.alloc (Obj.cells #[Value.bool false, Value.slice none 0 0] 35) = W
  obtain ⟨HR2, hWs, HBW⟩ := start1 w _ W hW
  clear hW hx0
  go_loopw [5, 6] (fun out ev wr => ∃ (e : Int) (l : List Int), ev = .int .i64 e ∧ OwI wr W.heap.size 3 .i64 out l ∧ Below W.heap.size W wr ∧ e ≤ s.size ∧ -9 ≤ e ∧ Hid (ParI (codes s) 1 e l)) (fun _ ev _ => (intOf ev + 9).toNat)
  case atStart => exact ⟨s.size, [], rfl, OwI.nil _ _ _ _, Below.refl _ _, by omega, by omega, by have := ParI.first hal; rw [HL.out] at this; exact this⟩
  case round =>
   obtain ⟨e, l, rfl, HO, HB, he1, he2, HI⟩ := hrel
   have hB := HB.size
   by_cases he : 1 < e
   ·obtain ⟨E, rfl⟩ : ∃ E : Nat, e = E := ⟨e.toNat, by omega⟩
    have hLL : Hid ((l.length + 1) * 8 ≤ 140737488355328) := by have := HI.out.len (by omega); have := HL.out; show _ ≤ _; omega
    have hcase : (1 + 9 < E) ∨ (E ≤ 1 + 9) := by omega
    rcases hcase with hq | hq
    ·have HST := fun hj => Lib.hid (ParI.step (j := E - 9) HD.out HI.out (by omega) hj)
     replace HST := HST (.inl ⟨hq, rfl⟩)
     clear HI
     go_wp2
     obtain ⟨wo, rfl⟩ : ∃ wo : World, wo = wr := ⟨_, rfl⟩
     go_loop [7, 8] (fun pv iv => ∃ (i : Nat) (p : Int), iv = .int .i64 i ∧ pv = .int .i64 p ∧ E - 9 ≤ i ∧ i ≤ E ∧ 0 ≤ p ∧ p < 1000000000 ∧ Hid (p = dv (seg (codes s) (E - 9) i))) (fun _ iv => E - (intOf iv).toNat)
     case atStart => exact ⟨E - 9, 0, by go_num, rfl, by omega, by omega, by omega, by omega, by show _ = _; rw [seg_self]; rfl⟩
     case round =>
      obtain ⟨i, p, rfl, rfl, hi1, hi2, hp1, hp2, HP⟩ := hrel
      by_cases hi : i < E
      ·have hxi : ∀ h : i < s.size, ((s[i]'h).toNat : Int) = gd (codes s) i := fun h => codes_gd h
       have hd := HD.out i (by omega) (by rw [HL.out]; omega)
       obtain ⟨hd1, hd2⟩ := hd
       have hil : i < s.size := by omega
       have HN : Hid (10 * p + (gd (codes s) i - 48) = dv (seg (codes s) (E - 9) (i + 1))) := by
        show _ = _
        rw [seg_snoc (by omega) (by rw [HL.out]; omega), dv_snoc, HP.out]
       have hn9 : 10 * p + (gd (codes s) i - 48) < 1000000000 := by
        have hr := (dv_range (seg_all (c := i + 1) HD.out (show 1 ≤ E - 9 by omega) (by rw [HL.out]; omega))).2
        rw [← HN.out, seg_length _ (by omega) (by rw [HL.out]; omega)] at hr
        have : (10 : Nat) ^ (i + 1 - (E - 9)) ≤ 10 ^ 9 := Nat.pow_le_pow_right (by omega) (by omega)
        have h2 : ((10 ^ (i + 1 - (E - 9)) : Nat) : Int) ≤ ((10 ^ 9 : Nat) : Int) := by omega
        rw [Int.natCast_pow] at h2
        have e9 : ((10 ^ 9 : Nat) : Int) = 1000000000 := rfl
        rw [e9] at h2
        exact Int.lt_of_lt_of_le hr h2
       clear HP
       go_wp2
       go_round
       case rel => exact ⟨i + 1, _, by go_num, rfl, by omega, by omega, by omega, hn9, HN⟩
       case measure => simp [intOf]; omega
      ·obtain rfl : i = E := by omega
       have HP2 := HP.out
       subst HP2
       go_wp2_with (at_builtin; refine app_I W.heap.size rfl _ _ 22 3 .i64 8 rfl Tryz.underlying22 info_i64 (by decide) _ l _ HO rfl rfl HB hB hLL.out ?_; intro v1 w1 HO1 HB1 hB1)
       go_roundw
       case rel => exact ⟨(i : Int) - 9, _, rfl, HO1, HB1, by omega, by omega, HST⟩
       case measure => simp [intOf]; omega
    ·have HST := fun hj => Lib.hid (ParI.step (j := 1) HD.out HI.out (by omega) hj)
     replace HST := HST (.inr ⟨hq, rfl⟩)
     clear HI
     go_wp2
     obtain ⟨wo, rfl⟩ : ∃ wo : World, wo = wr := ⟨_, rfl⟩
     go_loop [7, 8] (fun pv iv => ∃ (i : Nat) (p : Int), iv = .int .i64 i ∧ pv = .int .i64 p ∧ 1 ≤ i ∧ i ≤ E ∧ 0 ≤ p ∧ p < 1000000000 ∧ Hid (p = dv (seg (codes s) (1) i))) (fun _ iv => E - (intOf iv).toNat)
     case atStart => exact ⟨1, 0, by go_num, rfl, by omega, by omega, by omega, by omega, by show _ = _; rw [seg_self]; rfl⟩
     case round =>
      obtain ⟨i, p, rfl, rfl, hi1, hi2, hp1, hp2, HP⟩ := hrel
      by_cases hi : i < E
      ·have hxi : ∀ h : i < s.size, ((s[i]'h).toNat : Int) = gd (codes s) i := fun h => codes_gd h
       have hd := HD.out i (by omega) (by rw [HL.out]; omega)
       obtain ⟨hd1, hd2⟩ := hd
       have hil : i < s.size := by omega
       have HN : Hid (10 * p + (gd (codes s) i - 48) = dv (seg (codes s) (1) (i + 1))) := by
        show _ = _
        rw [seg_snoc (by omega) (by rw [HL.out]; omega), dv_snoc, HP.out]
       have hn9 : 10 * p + (gd (codes s) i - 48) < 1000000000 := by
        have hr := (dv_range (seg_all (c := i + 1) HD.out (show 1 ≤ 1 by omega) (by rw [HL.out]; omega))).2
        rw [← HN.out, seg_length _ (by omega) (by rw [HL.out]; omega)] at hr
        have : (10 : Nat) ^ (i + 1 - (1)) ≤ 10 ^ 9 := Nat.pow_le_pow_right (by omega) (by omega)
        have h2 : ((10 ^ (i + 1 - (1)) : Nat) : Int) ≤ ((10 ^ 9 : Nat) : Int) := by omega
        rw [Int.natCast_pow] at h2
        have e9 : ((10 ^ 9 : Nat) : Int) = 1000000000 := rfl
        rw [e9] at h2
        exact Int.lt_of_lt_of_le hr h2
       clear HP
       go_wp2
       go_round
       case rel => exact ⟨i + 1, _, by go_num, rfl, by omega, by omega, by omega, hn9, HN⟩
       case measure => simp [intOf]; omega
      ·obtain rfl : i = E := by omega
       have HP2 := HP.out
       subst HP2
       go_wp2_with (at_builtin; refine app_I W.heap.size rfl _ _ 22 3 .i64 8 rfl Tryz.underlying22 info_i64 (by decide) _ l _ HO rfl rfl HB hB hLL.out ?_; intro v1 w1 HO1 HB1 hB1)
       go_roundw
       case rel => exact ⟨(i : Int) - 9, _, rfl, HO1, HB1, by omega, by omega, HST⟩
       case measure => simp [intOf]; omega
   ·obtain ⟨hd, hv⟩ := HI.out.last (by omega)
    have HVl : Hid (V B9 l = z.natAbs) := hv.trans HV.out
    have HDl := Lib.hid hd
    clear hd hv HI
    obtain ⟨A1, c1, rfl, hs⟩ := HO.form
    have HSl := Lib.hid hs
    have HR4 := HR2.keep HB
    clear hs
    go_wp2_with (go_at_call 50; (with_reducible refine (trim_n _ _ _ l _ HSl.out HDl.out).mono ?_); rintro e w2 ⟨v, rfl, hv, hb2⟩; obtain ⟨nv, A4, n4, c4, rfl, HV4⟩ := hv.form; clear hv; have HR5 := Lib.hid (HR4.keep hb2); obtain ⟨⟨u1, r1⟩, ⟨u2, u3, u4, r2⟩, r3, r4, r5⟩ := HR5.out)
    refine bodyPost_ret (v := .agg #[.bool nv, .slice A4 n4 c4]) (by simp [results, Tryz.results15, go_sem, r1, r2, r5]) rfl ⟨_, rfl, ?_, ?_⟩
    ·refine IsZ.res2 (z := z) ?_ HR5.out _ _
     rw [← HZ.out, ← HVl.out]
     exact HV4.out
    ·exact below_set (below_set (below_step (below_step HBW HB) hb2) (by omega) _) (by omega) _
 
 ·have qb : (gd (codes s) 0 == 45) = false := by simpa using q
  have hz0 : ¬ z < 0 := fun h => q (hneg.2 h)
  have hsd := strip_drop (a := 0) hne (by rw [if_neg q])
  rw [hst] at hsd
  have HD : Hid (Dgt (codes s) 0) := by
   intro j h1 h2
   have := txN_range z.natAbs (gd (codes s) j) (by
    rw [hsd]
    have e : gd (codes s) j = gd ((codes s).drop 0) (j - 0) := by rw [gd_drop, show 0 + (j - 0) = j by omega]
    rw [e, gd_lt (by rw [List.length_drop]; omega)]
    exact List.getElem_mem _)
   exact this
  have hal : 0 < (codes s).length := by
   have := List.length_pos_iff.2 (txN_ne z.natAbs)
   rw [hsd, List.length_drop] at this
   omega
  have HV : Hid (dv ((codes s).drop 0) = z.natAbs) := by rw [← hsd]; exact dv_txN _
  have HZ : Hid (sgnd false (z.natAbs : Int) = z) := by show _ = _; unfold sgnd; rw [if_neg (by simp)]; omega
  have HL := Lib.hid hL
  have hs1 : s.size ≤ 100000000001 := by omega
  have hs2 : 0 < s.size := by omega
  clear hsd hz0 q hneg hst hne hL hlen hg hz
  go_enter Tryz.func15, Tryz.ntmps15
  go_wp2
  generalize hW : w.alloc (Obj.cells #[Value.bool false, Value.slice none 0 0] 35) = W
  obtain ⟨HR2, hWs, HBW⟩ := start1 w _ W hW
  clear hW hx0
  go_loopw [5, 6] (fun out ev wr => ∃ (e : Int) (l : List Int), ev = .int .i64 e ∧ OwI wr W.heap.size 3 .i64 out l ∧ Below W.heap.size W wr ∧ e ≤ s.size ∧ -9 ≤ e ∧ Hid (ParI (codes s) 0 e l)) (fun _ ev _ => (intOf ev + 9).toNat)
  case atStart => exact ⟨s.size, [], rfl, OwI.nil _ _ _ _, Below.refl _ _, by omega, by omega, by have := ParI.first hal; rw [HL.out] at this; exact this⟩
  case round =>
   obtain ⟨e, l, rfl, HO, HB, he1, he2, HI⟩ := hrel
   have hB := HB.size
   by_cases he : 0 < e
   ·obtain ⟨E, rfl⟩ : ∃ E : Nat, e = E := ⟨e.toNat, by omega⟩
    have hLL : Hid ((l.length + 1) * 8 ≤ 140737488355328) := by have := HI.out.len (by omega); have := HL.out; show _ ≤ _; omega
    have hcase : (0 + 9 < E) ∨ (E ≤ 0 + 9) := by omega
    rcases hcase with hq | hq
    ·have HST := fun hj => Lib.hid (ParI.step (j := E - 9) HD.out HI.out (by omega) hj)
     replace HST := HST (.inl ⟨hq, rfl⟩)
     clear HI
     go_wp2
     obtain ⟨wo, rfl⟩ : ∃ wo : World, wo = wr := ⟨_, rfl⟩
     go_loop [7, 8] (fun pv iv => ∃ (i : Nat) (p : Int), iv = .int .i64 i ∧ pv = .int .i64 p ∧ E - 9 ≤ i ∧ i ≤ E ∧ 0 ≤ p ∧ p < 1000000000 ∧ Hid (p = dv (seg (codes s) (E - 9) i))) (fun _ iv => E - (intOf iv).toNat)
     case atStart => exact ⟨E - 9, 0, by go_num, rfl, by omega, by omega, by omega, by omega, by show _ = _; rw [seg_self]; rfl⟩
     case round =>
      obtain ⟨i, p, rfl, rfl, hi1, hi2, hp1, hp2, HP⟩ := hrel
      by_cases hi : i < E
      ·have hxi : ∀ h : i < s.size, ((s[i]'h).toNat : Int) = gd (codes s) i := fun h => codes_gd h
       have hd := HD.out i (by omega) (by rw [HL.out]; omega)
       obtain ⟨hd1, hd2⟩ := hd
       have hil : i < s.size := by omega
       have HN : Hid (10 * p + (gd (codes s) i - 48) = dv (seg (codes s) (E - 9) (i + 1))) := by
        show _ = _
        rw [seg_snoc (by omega) (by rw [HL.out]; omega), dv_snoc, HP.out]
       have hn9 : 10 * p + (gd (codes s) i - 48) < 1000000000 := by
        have hr := (dv_range (seg_all (c := i + 1) HD.out (show 0 ≤ E - 9 by omega) (by rw [HL.out]; omega))).2
        rw [← HN.out, seg_length _ (by omega) (by rw [HL.out]; omega)] at hr
        have : (10 : Nat) ^ (i + 1 - (E - 9)) ≤ 10 ^ 9 := Nat.pow_le_pow_right (by omega) (by omega)
        have h2 : ((10 ^ (i + 1 - (E - 9)) : Nat) : Int) ≤ ((10 ^ 9 : Nat) : Int) := by omega
        rw [Int.natCast_pow] at h2
        have e9 : ((10 ^ 9 : Nat) : Int) = 1000000000 := rfl
        rw [e9] at h2
        exact Int.lt_of_lt_of_le hr h2
       clear HP
       go_wp2
       go_round
       case rel => exact ⟨i + 1, _, by go_num, rfl, by omega, by omega, by omega, hn9, HN⟩
       case measure => simp [intOf]; omega
      ·obtain rfl : i = E := by omega
       have HP2 := HP.out
       subst HP2
       go_wp2_with (at_builtin; refine app_I W.heap.size rfl _ _ 22 3 .i64 8 rfl Tryz.underlying22 info_i64 (by decide) _ l _ HO rfl rfl HB hB hLL.out ?_; intro v1 w1 HO1 HB1 hB1)
       go_roundw
       case rel => exact ⟨(i : Int) - 9, _, rfl, HO1, HB1, by omega, by omega, HST⟩
       case measure => simp [intOf]; omega
    ·have HST := fun hj => Lib.hid (ParI.step (j := 0) HD.out HI.out (by omega) hj)
     replace HST := HST (.inr ⟨hq, rfl⟩)
     clear HI
     go_wp2
     obtain ⟨wo, rfl⟩ : ∃ wo : World, wo = wr := ⟨_, rfl⟩
     go_loop [7, 8] (fun pv iv => ∃ (i : Nat) (p : Int), iv = .int .i64 i ∧ pv = .int .i64 p ∧ 0 ≤ i ∧ i ≤ E ∧ 0 ≤ p ∧ p < 1000000000 ∧ Hid (p = dv (seg (codes s) (0) i))) (fun _ iv => E - (intOf iv).toNat)
     case atStart => exact ⟨0, 0, by go_num, rfl, by omega, by omega, by omega, by omega, by show _ = _; rw [seg_self]; rfl⟩
     case round =>
      obtain ⟨i, p, rfl, rfl, hi1, hi2, hp1, hp2, HP⟩ := hrel
      by_cases hi : i < E
      ·have hxi : ∀ h : i < s.size, ((s[i]'h).toNat : Int) = gd (codes s) i := fun h => codes_gd h
       have hd := HD.out i (by omega) (by rw [HL.out]; omega)
       obtain ⟨hd1, hd2⟩ := hd
       have hil : i < s.size := by omega
       have HN : Hid (10 * p + (gd (codes s) i - 48) = dv (seg (codes s) (0) (i + 1))) := by
        show _ = _
        rw [seg_snoc (by omega) (by rw [HL.out]; omega), dv_snoc, HP.out]
       have hn9 : 10 * p + (gd (codes s) i - 48) < 1000000000 := by
        have hr := (dv_range (seg_all (c := i + 1) HD.out (show 0 ≤ 0 by omega) (by rw [HL.out]; omega))).2
        rw [← HN.out, seg_length _ (by omega) (by rw [HL.out]; omega)] at hr
        have : (10 : Nat) ^ (i + 1 - (0)) ≤ 10 ^ 9 := Nat.pow_le_pow_right (by omega) (by omega)
        have h2 : ((10 ^ (i + 1 - (0)) : Nat) : Int) ≤ ((10 ^ 9 : Nat) : Int) := by omega
        rw [Int.natCast_pow] at h2
        have e9 : ((10 ^ 9 : Nat) : Int) = 1000000000 := rfl
        rw [e9] at h2
        exact Int.lt_of_lt_of_le hr h2
       clear HP
       go_wp2
       go_round
       case rel => exact ⟨i + 1, _, by go_num, rfl, by omega, by omega, by omega, hn9, HN⟩
       case measure => simp [intOf]; omega
      ·obtain rfl : i = E := by omega
       have HP2 := HP.out
       subst HP2
       go_wp2_with (at_builtin; refine app_I W.heap.size rfl _ _ 22 3 .i64 8 rfl Tryz.underlying22 info_i64 (by decide) _ l _ HO rfl rfl HB hB hLL.out ?_; intro v1 w1 HO1 HB1 hB1)
       go_roundw
       case rel => exact ⟨(i : Int) - 9, _, rfl, HO1, HB1, by omega, by omega, HST⟩
       case measure => simp [intOf]; omega
   ·obtain ⟨hd, hv⟩ := HI.out.last (by omega)
    have HVl : Hid (V B9 l = z.natAbs) := hv.trans HV.out
    have HDl := Lib.hid hd
    clear hd hv HI
    obtain ⟨A1, c1, rfl, hs⟩ := HO.form
    have HSl := Lib.hid hs
    have HR4 := HR2.keep HB
    clear hs
    go_wp2_with (go_at_call 50; (with_reducible refine (trim_n _ _ _ l _ HSl.out HDl.out).mono ?_); rintro e w2 ⟨v, rfl, hv, hb2⟩; obtain ⟨nv, A4, n4, c4, rfl, HV4⟩ := hv.form; clear hv; have HR5 := Lib.hid (HR4.keep hb2); obtain ⟨⟨u1, r1⟩, ⟨u2, u3, u4, r2⟩, r3, r4, r5⟩ := HR5.out)
    refine bodyPost_ret (v := .agg #[.bool nv, .slice A4 n4 c4]) (by simp [results, Tryz.results15, go_sem, r1, r2, r5]) rfl ⟨_, rfl, ?_, ?_⟩
    ·refine IsZ.res2 (z := z) ?_ HR5.out _ _
     rw [← HZ.out, ← HVl.out]
     exact HV4.out
    ·exact below_set (below_set (below_step (below_step HBW HB) hb2) (by omega) _) (by omega) _
end Go.Proofs.YtibdipfhfaeooaaGreatDoor


set_option linter.unusedVariables false
set_option linter.unusedSimpArgs false
namespace Go.Proofs.YtibdipfhfaeooaaGreatDoor
open Go.RowKit

theorem info_u8 : (Tryz.prog.info? 5).map (fun i => (i.zero, i.size, i.bytes)) = some (some (.int .u8 0), 1, 1) := by kernel_rfl
theorem conv_str (A : Option Addr) (c : Nat) (l : List Int) (w : World) (h : SlI w .u8 A c l) (h0 : 0 < l.length) :
  (convert 126 9 (.slice A l.length c)).run Tryz.prog w = .ok (.string (mkS l)) w := by
 obtain ⟨b, off, rfl, hl, _⟩ := h.cell (j := 0) h0
 refine run_convert_bytes_arg w 126 5 Tryz.underlying126 Tryz.underlying5 b off l.length c l rfl (fun i hi => ?_) 9 Tryz.underlying9
 obtain ⟨b', off', e, _, hc⟩ := h.cell (j := i) hi
 simp only [Option.some.injEq, Addr.mk.injEq] at e
 obtain ⟨rfl, rfl, _⟩ := e
 exact hc

/-- The digits written so far, k of the part i having come. -/
def TxtI (n : Nat) (l : List Int) (part k m : Nat) : Prop := digs 10 n = l ++ digs 10 (part + 10 ^ (9 - k) * m) ∧ part < 10 ^ (9 - k) ∧ k ≤ 9
theorem TxtI.step {n : Nat} {l : List Int} {part k m : Nat} (h : TxtI n l part k m) (hk : k < 9) (hpos : 0 < part ∨ 0 < m) :
  TxtI n (l ++ [((part % 10 : Nat) : Int)]) (part / 10) (k + 1) m := by
 obtain ⟨h1, h2, h3⟩ := h
 obtain ⟨q, hq⟩ : ∃ q, 9 - k = q + 1 := ⟨9 - k - 1, by omega⟩
 have hq2 : 9 - (k + 1) = q := by omega
 rw [hq] at h1 h2
 refine ⟨?_, ?_, by omega⟩
 ·have hx : 0 < part + 10 ^ (q + 1) * m := by
   rcases hpos with h | h
   ·omega
   ·have : 0 < 10 ^ (q + 1) * m := Nat.mul_pos (Nat.pow_pos (by omega)) h
    omega
  rw [h1, digs_pos (by omega) hx, List.append_assoc, hq2]
  have e1 : (part + 10 ^ (q + 1) * m) % 10 = part % 10 := by
   rw [Nat.pow_succ, Nat.mul_comm (10 ^ q) 10, Nat.mul_assoc, Nat.add_mul_mod_self_left]
  have e2 : (part + 10 ^ (q + 1) * m) / 10 = part / 10 + 10 ^ q * m := by
   rw [Nat.pow_succ, Nat.mul_comm (10 ^ q) 10, Nat.mul_assoc, Nat.add_mul_div_left _ _ (by omega)]
  rw [e1, e2]
  rfl
 ·rw [hq2]
  rw [Nat.pow_succ] at h2
  omega
theorem TxtI.done {n : Nat} {l : List Int} {part k m : Nat} (h : TxtI n l part k m) (hk : k = 9 ∨ (part = 0 ∧ m = 0)) : digs 10 n = l ++ digs 10 m ∧ part = 0 := by
 obtain ⟨h1, h2, h3⟩ := h
 rcases hk with rfl | ⟨rfl, rfl⟩
 ·simp at h2
  subst h2
  simpa using h1
 ·simpa using h1
/-- What is left of a number behind its lowest parts. -/
def hi9 (a : List Int) (i : Nat) : Nat := (V B9 (a.drop i)).toNat
theorem hi9_step {a : List Int} (ha : Dg B9 a) {i : Nat} : ∃ p : Nat, gd a i = p ∧ p < 1000000000 ∧ hi9 a i = p + 10 ^ 9 * hi9 a (i + 1) := by
 have h1 := gd9 ha i
 have h2 := V_nonneg (ha.drop (i + 1))
 refine ⟨(gd a i).toNat, by omega, by omega, ?_⟩
 unfold hi9
 rw [Vdrop a i, B9c]
 omega
theorem hi9_pos {a : List Int} (ha : Dg B9 a) (hn : Nm a) {i : Nat} (hi : i < a.length) : 0 < hi9 a i := by
 have hne : a.drop i ≠ [] := by intro h; have := congrArg List.length h; simp at this; omega
 have h1 := V_pos (by decide) (ha.drop i) (by
  unfold Nm at hn ⊢
  rw [List.getLast?_drop]
  rw [if_neg (by omega)]; exact hn) hne
 have h2 : (0 : Int) < (B9 : Int) ^ ((a.drop i).length - 1) := Int.pow_pos (by rw [B9c]; omega)
 unfold hi9
 omega
theorem hi9_end {a : List Int} {i : Nat} (hi : a.length ≤ i) : hi9 a i = 0 := by unfold hi9; rw [List.drop_of_length_le hi]; rfl

set_option maxRecDepth 100000 in
set_option maxHeartbeats 2000000 in
theorem Text_c (z : Int) (v : Value) (w : World) (h : IsN w v z) (sz : (dg B9 z).length ≤ 1000000000) :
    Calls Tryz.prog 41 #[v] w fun e w' => e = .returned (.string (tS z)) ∧ Below w.heap.size w w' := by
  obtain ⟨A, c, rfl, hs⟩ := h
  have hB : Below w.heap.size w w := Below.refl _ _
  have hc1 := hs.2.1
  have hc2 := hs.2.2
  by_cases hz : z = 0
  · have e2 : dg B9 z = [] := by rw [hz]; exact digs_zero _
    have e3 : tS z = ({ data := #[48] } : ByteArray) := by rw [hz]; rfl
    rw [e3]
    rw [e2] at hs hc1 ⊢
    clear e2 e3 hz sz
    generalize decide (z < 0) = na
    go_enter Tryz.func41, Tryz.ntmps41
    go_wp2
    go_ret
    exact ⟨rfl, below_alloc hB _⟩
  · have hn0 : 0 < z.natAbs := by omega
    have HD := Lib.hid (dg_dg B9two z)
    have HN := Lib.hid (dg_nm B9two z)
    have HT : Hid (hi9 (dg B9 z) 0 = z.natAbs) := by show _ = _; unfold hi9; rw [List.drop_zero, dg_V B9two]; omega
    have hne : 0 < (dg B9 z).length := by
      rcases Nat.eq_zero_or_pos (dg B9 z).length with h0 | h0
      · have := digs_nil B9two (List.eq_nil_of_length_eq_zero h0); omega
      · exact h0
    have hnb : ((dg B9 z).length == 0) = false := beq_eq_false_iff_ne.2 (by omega)
    have hnb2 : (((dg B9 z).length : Int) == 0) = false := beq_eq_false_iff_ne.2 (by omega)
    have HX : Hid (tx z = (if decide (z < 0) then [45] else []) ++ ((digs 10 z.natAbs).map (· + 48)).reverse) := by
      show _ = _; unfold tx txN; rw [if_neg (show ¬ z.natAbs = 0 by omega)]; simp
    have HL := Lib.hid hs
    clear hz hs hn0
    generalize dg B9 z = a at *
    generalize z.natAbs = n at *
    generalize decide (z < 0) = na at *
    go_enter Tryz.func41, Tryz.ntmps41
    go_wp2
    generalize hW : w.alloc (Obj.cells #[Value.bool na, Value.slice A a.length c] 35) = W
    have HS : Hid (S1 W w.heap.size na (.slice A a.length c)) := by subst hW; constructor <;> simp [go_sem]
    have HBW : Below w.heap.size w W := by subst hW; exact below_alloc (Below.refl _ _) _
    have hWs : w.heap.size < W.heap.size := by subst hW; simp
    clear hW
    replace HL := Lib.hid (HL.out.below HBW)
    go_loopw [3, 4] (fun out iv wr => ∃ (i : Nat) (l : List Int), iv = .int .i64 i ∧ OwI wr W.heap.size 5 .u8 out (l.map (· + 48)) ∧ Below W.heap.size W wr ∧ i ≤ a.length ∧ l.length ≤ 9 * i ∧ Hid (digs 10 n = l ++ digs 10 (hi9 a i))) (fun _ iv _ => a.length - (intOf iv).toNat)
    case atStart => exact ⟨0, [], rfl, OwI.nil _ _ _ _, Below.refl _ _, by omega, by simp, by show _ = _; rw [HT.out]; rfl⟩
    case round =>
      obtain ⟨i, l, rfl, HO, HB, hi, hl, HI⟩ := hrel
      obtain ⟨s1, s2⟩ := HS.out.keepB HB hWs
      by_cases hi1 : i < a.length
      · obtain ⟨p, hp1, hp2, hp3⟩ := hi9_step HD.out (i := i)
        have HT0 : Hid (TxtI n l p 0 (hi9 a (i + 1))) := ⟨by rw [HI.out, hp3], by omega, by omega⟩
        obtain ⟨b, off, rfl, hbl, hcell⟩ := (HL.out.below HB).cell (j := i) hi1
        rw [hp1] at hcell
        clear hp1 hp3 HI hbl
        go_wp2
        obtain ⟨wo, rfl⟩ : ∃ wo : World, wo = wr := ⟨_, rfl⟩
        go_loopw [3, 5, 6] (fun out pv kv wq => ∃ (q k : Nat) (l : List Int), pv = .int .i64 q ∧ kv = .int .i64 k ∧ OwI wq W.heap.size 5 .u8 out (l.map (· + 48)) ∧ Below W.heap.size W wq ∧ l.length ≤ 9 * i + k ∧ q < 1000000000 ∧ k ≤ 9 ∧ Hid (TxtI n l q k (hi9 a (i + 1)))) (fun _ _ kv _ => 9 - (intOf kv).toNat)
        case atStart => exact ⟨p, 0, l, rfl, rfl, HO, HB, by omega, hp2, by omega, HT0⟩
        case round =>
          clear HO HB s1 s2 hcell HT0 hl
          obtain ⟨q, k, l, rfl, rfl, HO, HB, hl, hq, hk, HT1⟩ := hrel
          obtain ⟨s1, s2⟩ := HS.out.keepB HB hWs
          have hB2 := HB.size
          have hi2 : (i : Int) < (a.length : Int) := by omega
          by_cases hk9 : k < 9
          · by_cases hgo : 0 < q ∨ (i : Int) < (a.length : Int) - 1
            · have hpos : 0 < q ∨ 0 < hi9 a (i + 1) := hgo.imp_right fun h => hi9_pos HD.out HN.out (by omega)
              have HST := Lib.hid (HT1.out.step hk9 hpos)
              have hLL : Hid (((l.map (· + 48)).length + 1) * 1 ≤ 140737488355328) := by show _ ≤ _; rw [List.length_map]; omega
              have hgo' : 0 < q ∨ (¬ 0 < q ∧ (i : Int) < (a.length : Int) - 1) := by omega
              clear HT1 hgo hpos
              have hm1 : (0 : Int) ≤ (q : Int) % 10 := by omega
              have hm2 : (q : Int) % 10 < 10 := by omega
              rcases hgo' with hg | ⟨hg, hg2⟩
              all_goals
                go_wp2_with (at_builtin; refine app_I W.heap.size rfl _ _ 126 5 .u8 1 rfl Tryz.underlying126 info_u8 (by decide) _ (l.map (· + 48)) _ HO rfl rfl HB hB2 hLL.out ?_; intro v1 w1 HO1 HB1 hB1)
                go_roundw
                case rel => exact ⟨q / 10, k + 1, l ++ [((q % 10 : Nat) : Int)], by simp, by go_num, by rw [List.map_append]; simp only [List.map_cons, List.map_nil]; rw [show ((q % 10 : Nat) : Int) + 48 = 48 + (q : Int) % 10 by omega]; exact HO1, HB1, by rw [List.length_append]; simp; omega, by omega, by omega, HST.out⟩
                case measure => simp [intOf]; omega
            · have hg1 : ¬ 0 < q := fun h => hgo (.inl h)
              have hg2 : ¬ (i : Int) < (a.length : Int) - 1 := fun h => hgo (.inr h)
              have HE := Lib.hid (HT1.out.done (.inr ⟨by omega, hi9_end (by omega)⟩)).1
              clear hgo HT1
              obtain rfl : q = 0 := by omega
              go_wp2
              go_roundw
              case rel => exact ⟨i + 1, l, by go_num, HO, HB, by omega, by omega, HE⟩
              case measure => simp [intOf]; omega
          · obtain rfl : k = 9 := by omega
            obtain ⟨HE, hq0⟩ := HT1.out.done (.inl rfl)
            have HE := Lib.hid HE
            subst hq0
            clear HT1
            go_wp2
            go_roundw
            case rel => exact ⟨i + 1, l, by go_num, HO, HB, by omega, by omega, HE⟩
            case measure => simp [intOf]; omega
      · obtain rfl : i = a.length := by omega
        have HE : Hid (l = digs 10 n) := by have := HI.out; rw [hi9_end (Nat.le_refl _), digs_zero, List.append_nil] at this; exact this.symm
        have hpos : 0 < l.length := by
          have h1 := hi9_pos HD.out HN.out hne
          rw [HT.out] at h1
          have := HE.out
          rw [this, digs_pos (by omega) h1]; simp
        have hB2 := HB.size
        clear HI hi1
        rcases Bool.eq_false_or_eq_true na with rfl | rfl
        · have HX2 : Hid (mkS ((l.map (· + 48) ++ [45]).reverse) = tS z) := by
            show _ = _
            unfold tS
            rw [HX.out, HE.out]
            simp
          have hLL : Hid (((l.map (· + 48)).length + 1) * 1 ≤ 140737488355328) := by show _ ≤ _; rw [List.length_map]; omega
          have hl0 : (l.map (· + 48) ++ [45]).length ≤ 9000000001 := by simp; omega
          have hl1 : 0 < (l.map (· + 48) ++ [45]).length := by simp; 
          obtain ⟨L, hLe⟩ : ∃ L, L = l.map (· + 48) ++ [45] := ⟨_, rfl⟩
          rw [← hLe] at HX2 hl0 hl1
          have HLe := Lib.hid hLe
          clear hLe
          go_wp2_with (at_builtin; refine app_I W.heap.size rfl _ _ 126 5 .u8 1 rfl Tryz.underlying126 info_u8 (by decide) _ (l.map (· + 48)) _ HO rfl rfl HB hB2 hLL.out ?_; intro v1 w1 HO1 HB1 hB1; rw [← HLe.out] at HO1; obtain ⟨A1, c1, rfl, hs⟩ := HO1.form; have HSL := Lib.hid hs; have hc3 := hs.2.1; have hc4 := hs.2.2; clear hs HO HB)
          clear HO1 hLL
          obtain ⟨wb, rfl⟩ : ∃ wb : World, wb = w1 := ⟨_, rfl⟩
          have HR0 : Hid ((L.drop L.length).reverse = []) := by show _ = _; simp
          go_loopw [7, 8] (fun out iv wq => ∃ (k : Nat) (l2 : List Int), iv = .int .i64 ((k : Int) - 1) ∧ OwI wq wb.heap.size 5 .u8 out l2 ∧ Below wb.heap.size wb wq ∧ k ≤ L.length ∧ Hid (l2 = (L.drop k).reverse)) (fun _ iv _ => (intOf iv + 1).toNat)
          case atStart => exact ⟨L.length, [], rfl, OwI.nil _ _ _ _, Below.refl _ _, Nat.le_refl _, HR0.out.symm⟩
          case round =>
            obtain ⟨k, l2, rfl, HO2, HB2, hk, HI2⟩ := hrel
            have hB3 := HB2.size
            rcases Nat.eq_zero_or_pos k with rfl | hk0
            · have HF : Hid (mkS l2 = tS z) := by show _ = _; rw [HI2.out, List.drop_zero]; exact HX2.out
              have hlen2 : 0 < l2.length := by rw [HI2.out]; simp; omega
              obtain ⟨A2, c2, rfl, hs2⟩ := HO2.form
              have hcv := conv_str A2 c2 l2 wr hs2 hlen2
              clear hs2 HO2
              go_wp2
              go_ret
              exact ⟨by rw [← HF.out]; rfl, below_step (below_step HBW HB1) HB2⟩
            · obtain ⟨m, rfl⟩ : ∃ m, k = m + 1 := ⟨k - 1, by omega⟩
              obtain ⟨b2, o2, rfl, hl2, hc2⟩ := (HSL.out.below HB2).cell (j := m) (by omega)
              have hLL2 : Hid ((l2.length + 1) * 1 ≤ 140737488355328) := by show _ ≤ _; rw [HI2.out]; simp; omega
              have HS2 : Hid (l2 ++ [gd L m] = (L.drop m).reverse) := by
                show _ = _
                rw [HI2.out, List.drop_eq_getElem_cons (show m < L.length by omega), List.reverse_cons, gd_lt (by omega)]
              go_wp2_with (at_builtin; refine app_I wb.heap.size rfl _ _ 126 5 .u8 1 rfl Tryz.underlying126 info_u8 (by decide) _ l2 _ HO2 rfl rfl HB2 hB3 hLL2.out ?_; intro v3 w3 HO3 HB3 hB4)
              go_roundw
              case rel => exact ⟨m, _, by go_num, HO3, HB3, by omega, HS2⟩
              case measure => simp [intOf]
        
        · have HX2 : Hid (mkS ((l.map (· + 48)).reverse) = tS z) := by
            show _ = _
            unfold tS
            rw [HX.out, HE.out]
            simp
          have hLL : Hid (((l.map (· + 48)).length + 1) * 1 ≤ 140737488355328) := by show _ ≤ _; rw [List.length_map]; omega
          have hl0 : (l.map (· + 48)).length ≤ 9000000001 := by simp; omega
          have hl1 : 0 < (l.map (· + 48)).length := by simp; omega
          obtain ⟨L, hLe⟩ : ∃ L, L = l.map (· + 48) := ⟨_, rfl⟩
          rw [← hLe] at HX2 hl0 hl1
          have HLe := Lib.hid hLe
          clear hLe
          have HO1 := HO; have HB1 := HB; have hB1 := hB2; rw [← HLe.out] at HO1; clear HO HB; obtain ⟨A1, c1, rfl, hs⟩ := HO1.form; have HSL := Lib.hid hs; have hc3 := hs.2.1; have hc4 := hs.2.2; clear hs; go_wp2
          clear HO1 hLL
          obtain ⟨wb, rfl⟩ : ∃ wb : World, wb = wr := ⟨_, rfl⟩
          have HR0 : Hid ((L.drop L.length).reverse = []) := by show _ = _; simp
          go_loopw [7, 8] (fun out iv wq => ∃ (k : Nat) (l2 : List Int), iv = .int .i64 ((k : Int) - 1) ∧ OwI wq wb.heap.size 5 .u8 out l2 ∧ Below wb.heap.size wb wq ∧ k ≤ L.length ∧ Hid (l2 = (L.drop k).reverse)) (fun _ iv _ => (intOf iv + 1).toNat)
          case atStart => exact ⟨L.length, [], rfl, OwI.nil _ _ _ _, Below.refl _ _, Nat.le_refl _, HR0.out.symm⟩
          case round =>
            obtain ⟨k, l2, rfl, HO2, HB2, hk, HI2⟩ := hrel
            have hB3 := HB2.size
            rcases Nat.eq_zero_or_pos k with rfl | hk0
            · have HF : Hid (mkS l2 = tS z) := by show _ = _; rw [HI2.out, List.drop_zero]; exact HX2.out
              have hlen2 : 0 < l2.length := by rw [HI2.out]; simp; omega
              obtain ⟨A2, c2, rfl, hs2⟩ := HO2.form
              have hcv := conv_str A2 c2 l2 wr hs2 hlen2
              clear hs2 HO2
              go_wp2
              go_ret
              exact ⟨by rw [← HF.out]; rfl, below_step (below_step HBW HB1) HB2⟩
            · obtain ⟨m, rfl⟩ : ∃ m, k = m + 1 := ⟨k - 1, by omega⟩
              obtain ⟨b2, o2, rfl, hl2, hc2⟩ := (HSL.out.below HB2).cell (j := m) (by omega)
              have hLL2 : Hid ((l2.length + 1) * 1 ≤ 140737488355328) := by show _ ≤ _; rw [HI2.out]; simp; omega
              have HS2 : Hid (l2 ++ [gd L m] = (L.drop m).reverse) := by
                show _ = _
                rw [HI2.out, List.drop_eq_getElem_cons (show m < L.length by omega), List.reverse_cons, gd_lt (by omega)]
              go_wp2_with (at_builtin; refine app_I wb.heap.size rfl _ _ 126 5 .u8 1 rfl Tryz.underlying126 info_u8 (by decide) _ l2 _ HO2 rfl rfl HB2 hB3 hLL2.out ?_; intro v3 w3 HO3 HB3 hB4)
              go_roundw
              case rel => exact ⟨m, _, by go_num, HO3, HB3, by omega, HS2⟩
              case measure => simp [intOf]
end Go.Proofs.YtibdipfhfaeooaaGreatDoor


set_option linter.unusedVariables false
set_option linter.unusedSimpArgs false
namespace Go.Proofs.YtibdipfhfaeooaaGreatDoor
open Go.RowKit

/-- Block b holds a number: these two values, which read as z. -/
structure VX (B : Nat) (k : IntKind) (W : World) (b : Nat) (nv : Bool) (A : Option Addr) (n c : Nat) (z : Int) : Prop where
 c0 : W.cell? ⟨b, 0, none⟩ = some (.bool nv)
 c1 : W.cell? ⟨b, 1, none⟩ = some (.slice A n c)
 f0 : W.frozen? ⟨b, 0, none⟩ = false
 f1 : W.frozen? ⟨b, 1, none⟩ = false
 lt : b < W.heap.size
 iz : Hid (IsZ B k W (.agg #[.bool nv, .slice A n c]) z)
section
variable {B : Nat} {k : IntKind} {W w1 : World} {b : Nat} {nv : Bool} {A : Option Addr} {n c : Nat} {z : Int}
theorem VX.keep (h : VX B k W b nv A n c z) (hb : Below W.heap.size W w1) : VX B k w1 b nv A n c z :=
 ⟨kcell hb h.lt h.c0, kcell hb h.lt h.c1, kfroz hb h.lt h.f0, kfroz hb h.lt h.f1, Nat.lt_of_lt_of_le h.lt hb.size, h.iz.out.below hb⟩
theorem VX.drew (h : VX B k W b nv A n c z) : VX B k W.drew b nv A n c z := h.keep (below_drew (Below.refl _ _))
theorem VX.res (h : VX B k W b nv A n c z) : Res2 W b := ⟨⟨nv, h.c0⟩, ⟨A, n, c, h.c1⟩, h.f0, h.f1, h.lt⟩
theorem VX.new (W : World) (t : TypeId) (h : IsZ B k W (.agg #[.bool nv, .slice A n c]) z) : VX B k (W.alloc (.cells #[.bool nv, .slice A n c] t)) W.heap.size nv A n c z :=
 ⟨by simp [go_sem], by simp [go_sem], by simp [go_sem], by simp [go_sem], by simp, h.below (below_alloc (Below.refl _ _) _)⟩
/-- A store into another number's cells. -/
theorem VX.far {b' : Nat} {x y : Value} (h : VX B k W b nv A n c z) (hr : Res2 W b') (hne : b' ≠ b) : VX B k ((W.setCell ⟨b', 0, none⟩ x).setCell ⟨b', 1, none⟩ y) b nv A n c z := by
 have e : ∀ (o : Nat) (w : World) (u : Value) (o' : Nat), (w.setCell ⟨b', o', none⟩ u).cell? ⟨b, o, none⟩ = w.cell? ⟨b, o, none⟩ := fun o w u o' => World.cell?_setCell_other _ _ _ _ (by simp [hne])
 refine ⟨by rw [e, e]; exact h.c0, by rw [e, e]; exact h.c1, by rw [World.frozen?_setCell, World.frozen?_setCell]; exact h.f0, by rw [World.frozen?_setCell, World.frozen?_setCell]; exact h.f1, by simpa [World.setCell] using h.lt, h.iz.out.res2 hr x y⟩
/-- The store of a number. -/
theorem VX.store {nv' : Bool} {A' : Option Addr} {n' c' : Nat} {z' : Int} (h : Res2 W b) (hz : IsZ B k W (.agg #[.bool nv', .slice A' n' c']) z') :
  VX B k ((W.setCell ⟨b, 0, none⟩ (.bool nv')).setCell ⟨b, 1, none⟩ (.slice A' n' c')) b nv' A' n' c' z' := by
 have hz' := hz.res2 h (.bool nv') (.slice A' n' c')
 obtain ⟨⟨u, h1⟩, ⟨A1, n1, c1, h2⟩, h3, h4, h5⟩ := h
 refine ⟨?_, ?_, by rw [World.frozen?_setCell, World.frozen?_setCell]; exact h3, by rw [World.frozen?_setCell, World.frozen?_setCell]; exact h4, by simpa [World.setCell] using h5, hz'⟩
 ·rw [World.cell?_setCell_other _ _ _ _ (by simp)]
  exact World.cell?_setCell_same' _ _ _ (by rw [h1]; rfl)
 ·exact World.cell?_setCell_same' _ _ _ (by rw [World.cell?_setCell_other _ _ _ _ (by simp), h2]; rfl)
end
theorem Res2.far {W : World} {b b' : Nat} {x y : Value} (h : Res2 W b) (hne : b' ≠ b) : Res2 ((W.setCell ⟨b', 0, none⟩ x).setCell ⟨b', 1, none⟩ y) b := by
 obtain ⟨⟨u, h1⟩, ⟨A, n, c, h2⟩, h3, h4, h5⟩ := h
 have e : ∀ (o : Nat) (w : World) (u : Value) (o' : Nat), (w.setCell ⟨b', o', none⟩ u).cell? ⟨b, o, none⟩ = w.cell? ⟨b, o, none⟩ := fun o w u o' => World.cell?_setCell_other _ _ _ _ (by simp [hne])
 exact ⟨⟨u, by rw [e, e]; exact h1⟩, ⟨A, n, c, by rw [e, e]; exact h2⟩, by rw [World.frozen?_setCell, World.frozen?_setCell]; exact h3, by rw [World.frozen?_setCell, World.frozen?_setCell]; exact h4, by simpa [World.setCell] using h5⟩
theorem below_set2 {w W : World} (h : Below w.heap.size w W) {b : Nat} (hb : w.heap.size ≤ b) (x y : Value) : Below w.heap.size w ((W.setCell ⟨b, 0, none⟩ x).setCell ⟨b, 1, none⟩ y) := below_set (below_set h hb x) hb y
end Go.Proofs.YtibdipfhfaeooaaGreatDoor

