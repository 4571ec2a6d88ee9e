/- What whole.trim, Of, Sign, Neg do to memory and what they return. No condition. -/
import Derived.Test.YtiaeeclmlchpoaaGreatDoorZ1
import Derived.Deep.LoopGhost
import Derived.Test.YtiaeeclmlchpoaaGreatDoorZ2
import Derived.Maps.RangeWalk
import Derived.Deep.CutRange
import Derived.Test.YtiaeeclmlchpoaaGreatDoorZ3
import Derived.Shelf.Abstract
import Derived.Shelf.RegionOpen
import Derived.OwnWalkIn
import Derived.TacticsInMore
import Derived.LoopNIn
import Derived.LoopIn
import Derived.Lib.LazyBuf
set_option linter.unusedVariables false
set_option linter.unusedSimpArgs false
namespace Go.Proofs.YtiaeeclmlchpoaaGreatDoor
open Go.RowKit

/-- The value reads as a number of package whole. -/
abbrev IsH (w : World) (v : Value) (z : Int) : Prop := IsZ B9 .u32 w v z
theorem SlI.cut {w : World} {k : IntKind} {A : Option Addr} {c : Nat} {l : List Int} (h : SlI w k A c l) {m : Nat} (hm : m ≤ l.length) : SlI w k A m (l.take m) := by
  have hl : (l.take m).length = m := by rw [List.length_take, Nat.min_eq_left hm]
  have h2 := h.take hm
  exact ⟨h2.1, by omega, by have := h.2; omega⟩
set_option maxHeartbeats 400000 in
theorem htrim_c (neg : Bool) (A : Option Addr) (c : Nat) (l : List Int) (w : World) (h : SlI w .u32 A c l) :
    Calls Tryz.prog 43 #[.bool neg, .slice A l.length c] w fun e w' =>
      ∃ A', e = .returned (.agg #[.bool (neg && !(trimmed l).isEmpty), .slice A' (trimmed l).length (trimmed l).length]) ∧ SlI w .u32 A' (trimmed l).length (trimmed l) ∧ Below w.heap.size w w' := by
  have hc1 := h.2.1
  have hc2 := h.2.2
  have hB : Below w.heap.size w w := Below.refl _ _
  cases neg
  all_goals
  go_enter Tryz.func43, Tryz.ntmps43
  go_wp2
  go_loop [5] (fun i => ∃ k : Nat, k ≤ l.length ∧ i = .int .i64 k ∧ trimmed (l.take k) = trimmed l) (fun i => (intOf i).toNat)
  case atStart => exact ⟨l.length, Nat.le_refl _, rfl, by rw [List.take_of_length_le (Nat.le_refl _)]⟩
  case round =>
    obtain ⟨k, hk, rfl, ht⟩ := hrel
    rcases Nat.eq_zero_or_pos k with rfl | hk0
    · have HT : Hid (trimmed l = []) := by rw [← ht]; rfl
      clear ht
      go_wp2
      refine bodyPost_ret (v := .agg #[.bool false, .slice A 0 0]) (by simp [results, Tryz.results43, go_sem]) rfl ⟨A, by rw [HT.out] <;> rfl, by rw [HT.out]; exact h.cut (m := 0) (by omega), hB.alloc (Nat.le_refl _) _⟩
    · obtain ⟨k, rfl⟩ : ∃ m, k = m + 1 := ⟨k - 1, by omega⟩
      obtain ⟨b, off, rfl, hl, hcell⟩ := h.cell (j := k) (by omega)
      have HT := Lib.hid ht
      clear ht
      by_cases hz : gd l k = 0
      · have hz' : (gd l k == 0) = true := by simpa using hz
        have HZ := Lib.hid hz
        clear hz
        go_wp2
        go_round
        case rel => exact ⟨k, by omega, rfl, trimmed_step (by omega) HZ.out HT.out⟩
        case measure => simp [intOf]
      · have hz' : (gd l k == 0) = false := by simpa using hz
        have HZ : Hid (trimmed l = l.take (k + 1)) := by rw [← HT.out, trimmed_stop (by omega) hz]; rfl
        clear hz
        have HL := Lib.hid h
        clear h
        go_wp2
        have e1 : (l.take (k + 1)).isEmpty = false := by cases l <;> simp at hk ⊢
        have e2 : (l.take (k + 1)).length = k + 1 := by rw [List.length_take, Nat.min_eq_left (by omega)]
        refine bodyPost_ret (v := _) (by simp [results, Tryz.results43, go_sem]; rfl) rfl ⟨some ⟨b, off, none⟩, ?_, ?_, hB.alloc (Nat.le_refl _) _⟩
        · first | (rw [HZ.out, e1, e2]; done) | (rw [HZ.out, e1, e2]; rfl) | (rw [HZ.out, e2]; done) | (rw [HZ.out, e2]; rfl)
        · rw [HZ.out, e2]; exact HL.out.cut (by omega)
theorem htrim_n (neg : Bool) (A : Option Addr) (c : Nat) (l : List Int) (w : World) (h : SlI w .u32 A c l) (hd : Dg B9 l) :
    Calls Tryz.prog 43 #[.bool neg, .slice A l.length c] w fun e w' => ∃ v, e = .returned v ∧ IsH w' v (sgnd neg (V B9 l)) ∧ Below w.heap.size w w' := by
  refine (htrim_c neg A c l w h).mono ?_
  rintro e w' ⟨A', rfl, h1, hb⟩
  refine ⟨_, rfl, ?_, hb⟩
  have hv := V_nonneg hd
  have e : trimmed l = dg B9 (sgnd neg (V B9 l)) := by
    rw [trimmed_digs B9two hd, dg, sgnd_abs]
    congr 1; omega
  refine ⟨A', (trimmed l).length, ?_, ?_⟩
  · rw [sgnd_lt _ _ hv, e, dg, isEmpty_digs B9two, sgnd_abs]
    have : decide (0 < (V B9 l).natAbs) = decide (0 < V B9 l) := decide_eq_decide.2 (by omega)
    rw [this]
  · rw [← e]; exact h1.below hb

theorem hSign_c (x : Int) (v : Value) (w : World) (h : IsH w v x) :
    Calls Tryz.prog 52 #[v] w fun e w' => e = .returned (.int .i64 (if x = 0 then 0 else if x < 0 then -1 else 1)) ∧ Below w.heap.size w w' := by
  obtain ⟨A, c, rfl, hs⟩ := h
  have hB : Below w.heap.size w w := Below.refl _ _
  have hc1 := hs.2.1
  have hc2 := hs.2.2
  have el : ((dg B9 x).length : Int) = 0 ↔ x = 0 := by
    unfold dg
    rcases Nat.eq_zero_or_pos x.natAbs with h0 | h0
    · rw [h0, digs_zero]; simp; omega
    · rw [digs_pos B9two h0]; simp only [List.length_cons]; omega
  by_cases h0 : x = 0
  · have hl : (((dg B9 x).length : Int) == 0) = true := by simpa using el.2 h0
    rw [if_pos h0]
    have hd : decide (x < 0) = false := by simp; omega
    rw [hd]
    generalize dg B9 x = l at *
    clear el h0 hd
    go_enter Tryz.func52, Tryz.ntmps52
    go_wp2
    go_ret
    exact ⟨rfl, below_alloc hB _⟩
  · have hl : (((dg B9 x).length : Int) == 0) = false := by simpa using fun h => h0 (el.1 h)
    rw [if_neg h0]
    by_cases hx : x < 0
    · have hd : decide (x < 0) = true := by simpa using hx
      rw [if_pos hx, hd]
      generalize dg B9 x = l at *
      clear el h0 hd hx
      go_enter Tryz.func52, Tryz.ntmps52
      go_wp2
      go_ret
      exact ⟨rfl, below_alloc hB _⟩
    · have hd : decide (x < 0) = false := by simpa using hx
      rw [if_neg hx, hd]
      generalize dg B9 x = l at *
      clear el h0 hd hx
      go_enter Tryz.func52, Tryz.ntmps52
      go_wp2
      go_ret
      exact ⟨rfl, below_alloc hB _⟩
end Go.Proofs.YtiaeeclmlchpoaaGreatDoor

set_option linter.unusedVariables false
set_option linter.unusedSimpArgs false
namespace Go.Proofs.YtiaeeclmlchpoaaGreatDoor
open Go.RowKit

theorem info_u32 : (Tryz.prog.info? 90).map (fun i => (i.zero, i.size, i.bytes)) = some (some (.int .u32 0), 1, 4) := by kernel_rfl
/-- 'make' of no element with room for n. -/
theorem make0 {P : Program} (t e : TypeId) (z : Value) (bytes : Nat) (ht : P.underlying t = some (.slice e)) (hinfo : (P.info? e).map (fun i => (i.zero, i.size, i.bytes)) = some (some z, 1, bytes)) (hz1 : z.cells = #[z])
    (n : Nat) (hb : bytes * n ≤ 281474976710656) (h63 : n ≤ 9223372036854775807) (w : World) :
    (Instr.makeSlice t (.int .i64 0) (.int .i64 (n : Int))).run P w = .ok (.slice (some ⟨w.heap.size, 0, none⟩) 0 n) (w.alloc (.cells (madeCells #[z] n) e)) := by
  obtain ⟨i, hi, hzz⟩ := Option.map_eq_some_iff.1 hinfo
  simp only [Prod.mk.injEq] at hzz
  obtain ⟨hz, hs, hbb⟩ := hzz
  have h1 : (i.bytes : Int) * (n : Int) ≤ 281474976710656 := by
    have h : ((i.bytes * n : Nat) : Int) ≤ 281474976710656 := by rw [hbb]; omega
    rwa [Int.natCast_mul] at h
  have hr := run_make (P := P) w t e i z ht hi hz .i64 .i64 0 n (Int.le_refl _) (by omega) h1 (by omega)
  simp only [Int.toNat_zero, Int.toNat_natCast, hs, hz1, Nat.mul_one] at hr
  exact hr
theorem OwI.made {w : World} {base : Nat} {e : TypeId} {k : IntKind} {z : Value} {n : Nat} (hbase : base ≤ w.heap.size) (hn : n ≤ 1000000000000000) : OwI (w.alloc (.cells (madeCells #[z] n) e)) base e k (.slice (some ⟨w.heap.size, 0, none⟩) 0 n) [] :=
  World.ownsRow_made w _ n hbase (by simp only [maxLen]; omega) (by rw [size_madeCells, Nat.mul_one])
theorem gd_ge' {l : List Int} {i : Nat} (h : l.length ≤ i) : gd l i = 0 := gd_ge h
/-- What is left of the sum, behind the last digits. -/
theorem more_last {a b l : List Int} {k : Nat} {cy : Int} (h : MoreInv a b l k cy) (hk : max a.length b.length ≤ k) : Dg B9 (l ++ [cy]) ∧ V B9 (l ++ [cy]) = V B9 a + V B9 b := by
  obtain ⟨h1, h2, h3, h4, h5, h6, h7⟩ := h
  rw [List.take_of_length_le (by omega), List.take_of_length_le (by omega)] at h5
  refine ⟨Dg.append h2 (Dg.cons h3 (by rw [B9c]; omega) (Dg.nil _)), ?_⟩
  rw [V_snoc, h1]; exact h5

set_option maxRecDepth 100000 in
set_option maxHeartbeats 2000000 in
theorem hplus_c (A A' : Option Addr) (c c' : Nat) (a b : List Int) (w : World) (h : SlI w .u32 A c a) (h' : SlI w .u32 A' c' b) (ha : Dg B9 a) (hb : Dg B9 b)
    (sa : a.length ≤ 1000000000000) (sb : b.length ≤ 1000000000000) :
    Calls Tryz.prog 44 #[.slice A a.length c, .slice A' b.length c'] w fun e w' =>
      ∃ A1 c1 l, e = .returned (.slice A1 l.length c1) ∧ SlI w' .u32 A1 c1 l ∧ Dg B9 l ∧ V B9 l = V B9 a + V B9 b ∧ Below w.heap.size w w' := by
  by_cases hl : a.length < b.length
  · have HH := Lib.hid hb
    have HH' := Lib.hid ha
    have H0s := Lib.hid h'
    have H1s := Lib.hid h
    have hmk := fun W => make0 (P := Tryz.prog) 55 90 (.int .u32 0) 4 Tryz.underlying55 info_u32 rfl (b.length + 1) (by omega) (by omega) W
    rw [show ((b.length + 1 : Nat) : Int) = (b.length : Int) + 1 by omega] at hmk
    clear h h' ha hb
    go_enter Tryz.func44, Tryz.ntmps44
    go_wp2
    clear hmk
    have HO0 : OwI (w.alloc (.cells (madeCells #[.int .u32 0] (b.length + 1)) 90)) w.heap.size 90 .u32 (.slice (some ⟨w.heap.size, 0, none⟩) 0 (b.length + 1)) [] := OwI.made (Nat.le_refl _) (by omega)
    have HB0 := below_alloc (Below.refl w.heap.size w) (Obj.cells (madeCells #[Value.int IntKind.u32 0] (b.length + 1)) 90)
    go_loopg [5, 6, 22] b.length (fun g out cr iv wr => ∃ (k : Nat) (cy : Int) (l : List Int), g = b.length - k ∧ iv = .int .i64 k ∧ cr = .int .u32 cy ∧ k ≤ b.length ∧ OwI wr w.heap.size 90 .u32 out l ∧ Below w.heap.size w wr ∧ Hid (MoreInv b a l k cy))
    case atStart => exact ⟨0, 0, [], rfl, rfl, rfl, by omega, HO0, HB0, ⟨rfl, Dg.nil _, by simp, by simp, by simp [V], by omega, fun _ => rfl⟩⟩
    case round =>
      clear HO0 HB0
      obtain ⟨k, cy, l, hgk, rfl, rfl, hk, HO, HB, HI⟩ := hrel
      obtain ⟨i1, i2, i3, i4, -, -, -⟩ := HI.out
      have I1 := Lib.hid i1
      clear i1 i2
      have hB := HB.size
      have hL : Hid ((l.length + 1) * 4 ≤ 140737488355328) := by have := I1.out; show _ ≤ _; omega
      have x1 := (HH.out.getD (by decide) k)
      have x2 := (HH'.out.getD (by decide) k)
      change 0 ≤ gd b k ∧ gd b k < _ at x1
      change 0 ≤ gd a k ∧ gd a k < _ at x2
      rw [B9c] at x1 x2
      obtain ⟨x1, x1'⟩ := x1
      obtain ⟨x2, x2'⟩ := x2
      by_cases q1 : k < b.length
      · have HS := Lib.hid (more_step HH.out HH'.out HI.out (by omega))
        clear HI
        obtain ⟨b1, o1, rfl, hl1, hcell1⟩ := (H0s.out.below HB).cell (j := k) q1
        have hi0 : (0 : Int) ≤ (k : Int) := by omega
        have hi1 : (k : Int) < (b.length : Int) := by omega
        by_cases q2 : k < a.length
        · obtain ⟨b2, o2, rfl, hl2, hcell2⟩ := (H1s.out.below HB).cell (j := k) q2
          have hi2 : (k : Int) < (a.length : Int) := by omega
          rw [show gd b k + gd a k + cy = gd b k + cy + gd a k by omega] at HS
          go_wp2_with (at_builtin; refine app_I w.heap.size rfl _ _ 55 90 .u32 4 rfl Tryz.underlying55 info_u32 (by decide) _ l _ HO rfl rfl HB hB hL.out ?_; intro v1 w1 HO1 HB1 hB1)
          go_roundg (b.length - (k + 1))
          case measure => omega
          case rel => exact ⟨k + 1, _, _, rfl, by go_num, rfl, by omega, HO1, HB1, HS.out⟩
        · have hi2 : ¬ (k : Int) < (a.length : Int) := by omega
          rw [show gd b k + gd a k + cy = gd b k + cy by rw [gd_ge' (show a.length ≤ k by omega)]; omega] at HS
          go_wp2_with (at_builtin; refine app_I w.heap.size rfl _ _ 55 90 .u32 4 rfl Tryz.underlying55 info_u32 (by decide) _ l _ HO rfl rfl HB hB hL.out ?_; intro v1 w1 HO1 HB1 hB1)
          go_roundg (b.length - (k + 1))
          case measure => omega
          case rel => exact ⟨k + 1, _, _, rfl, by go_num, rfl, by omega, HO1, HB1, HS.out⟩
      · have HE := Lib.hid (more_last HI.out (by omega))
        clear HI
        have hi1 : ¬ (k : Int) < (b.length : Int) := by omega
        go_wp2_with (at_builtin; refine app_I w.heap.size rfl _ _ 55 90 .u32 4 rfl Tryz.underlying55 info_u32 (by decide) _ l _ HO rfl rfl HB hB hL.out ?_; intro v1 w1 HO1 HB1 hB1)
        obtain ⟨A1, c1, rfl, hs⟩ := HO1.form
        go_wp2
        go_ret
        exact ⟨A1, c1, _, rfl, hs, HE.out.1, by rw [HE.out.2]; omega, HB1⟩
  · have HH := Lib.hid ha
    have HH' := Lib.hid hb
    have H0s := Lib.hid h
    have H1s := Lib.hid h'
    have hmk := fun W => make0 (P := Tryz.prog) 55 90 (.int .u32 0) 4 Tryz.underlying55 info_u32 rfl (a.length + 1) (by omega) (by omega) W
    rw [show ((a.length + 1 : Nat) : Int) = (a.length : Int) + 1 by omega] at hmk
    clear h h' ha hb
    go_enter Tryz.func44, Tryz.ntmps44
    go_wp2
    clear hmk
    have HO0 : OwI (w.alloc (.cells (madeCells #[.int .u32 0] (a.length + 1)) 90)) w.heap.size 90 .u32 (.slice (some ⟨w.heap.size, 0, none⟩) 0 (a.length + 1)) [] := OwI.made (Nat.le_refl _) (by omega)
    have HB0 := below_alloc (Below.refl w.heap.size w) (Obj.cells (madeCells #[Value.int IntKind.u32 0] (a.length + 1)) 90)
    go_loopg [5, 6, 22] a.length (fun g out cr iv wr => ∃ (k : Nat) (cy : Int) (l : List Int), g = a.length - k ∧ iv = .int .i64 k ∧ cr = .int .u32 cy ∧ k ≤ a.length ∧ OwI wr w.heap.size 90 .u32 out l ∧ Below w.heap.size w wr ∧ Hid (MoreInv a b l k cy))
    case atStart => exact ⟨0, 0, [], rfl, rfl, rfl, by omega, HO0, HB0, ⟨rfl, Dg.nil _, by simp, by simp, by simp [V], by omega, fun _ => rfl⟩⟩
    case round =>
      clear HO0 HB0
      obtain ⟨k, cy, l, hgk, rfl, rfl, hk, HO, HB, HI⟩ := hrel
      obtain ⟨i1, i2, i3, i4, -, -, -⟩ := HI.out
      have I1 := Lib.hid i1
      clear i1 i2
      have hB := HB.size
      have hL : Hid ((l.length + 1) * 4 ≤ 140737488355328) := by have := I1.out; show _ ≤ _; omega
      have x1 := (HH.out.getD (by decide) k)
      have x2 := (HH'.out.getD (by decide) k)
      change 0 ≤ gd a k ∧ gd a k < _ at x1
      change 0 ≤ gd b k ∧ gd b k < _ at x2
      rw [B9c] at x1 x2
      obtain ⟨x1, x1'⟩ := x1
      obtain ⟨x2, x2'⟩ := x2
      by_cases q1 : k < a.length
      · have HS := Lib.hid (more_step HH.out HH'.out HI.out (by omega))
        clear HI
        obtain ⟨b1, o1, rfl, hl1, hcell1⟩ := (H0s.out.below HB).cell (j := k) q1
        have hi0 : (0 : Int) ≤ (k : Int) := by omega
        have hi1 : (k : Int) < (a.length : Int) := by omega
        by_cases q2 : k < b.length
        · obtain ⟨b2, o2, rfl, hl2, hcell2⟩ := (H1s.out.below HB).cell (j := k) q2
          have hi2 : (k : Int) < (b.length : Int) := by omega
          rw [show gd a k + gd b k + cy = gd a k + cy + gd b k by omega] at HS
          go_wp2_with (at_builtin; refine app_I w.heap.size rfl _ _ 55 90 .u32 4 rfl Tryz.underlying55 info_u32 (by decide) _ l _ HO rfl rfl HB hB hL.out ?_; intro v1 w1 HO1 HB1 hB1)
          go_roundg (a.length - (k + 1))
          case measure => omega
          case rel => exact ⟨k + 1, _, _, rfl, by go_num, rfl, by omega, HO1, HB1, HS.out⟩
        · have hi2 : ¬ (k : Int) < (b.length : Int) := by omega
          rw [show gd a k + gd b k + cy = gd a k + cy by rw [gd_ge' (show b.length ≤ k by omega)]; omega] at HS
          go_wp2_with (at_builtin; refine app_I w.heap.size rfl _ _ 55 90 .u32 4 rfl Tryz.underlying55 info_u32 (by decide) _ l _ HO rfl rfl HB hB hL.out ?_; intro v1 w1 HO1 HB1 hB1)
          go_roundg (a.length - (k + 1))
          case measure => omega
          case rel => exact ⟨k + 1, _, _, rfl, by go_num, rfl, by omega, HO1, HB1, HS.out⟩
      · have HE := Lib.hid (more_last HI.out (by omega))
        clear HI
        have hi1 : ¬ (k : Int) < (a.length : Int) := by omega
        go_wp2_with (at_builtin; refine app_I w.heap.size rfl _ _ 55 90 .u32 4 rfl Tryz.underlying55 info_u32 (by decide) _ l _ HO rfl rfl HB hB hL.out ?_; intro v1 w1 HO1 HB1 hB1)
        obtain ⟨A1, c1, rfl, hs⟩ := HO1.form
        go_wp2
        go_ret
        exact ⟨A1, c1, _, rfl, hs, HE.out.1, HE.out.2, HB1⟩
end Go.Proofs.YtiaeeclmlchpoaaGreatDoor

set_option linter.unusedVariables false
set_option linter.unusedSimpArgs false
namespace Go.Proofs.YtiaeeclmlchpoaaGreatDoor
open Go.RowKit

set_option maxRecDepth 100000 in
set_option maxHeartbeats 2000000 in
theorem hminus_c (A A' : Option Addr) (c c' : Nat) (a b : List Int) (w : World) (h : SlI w .u32 A c a) (h' : SlI w .u32 A' c' b) (ha : Dg B9 a) (hb : Dg B9 b)
    (sa : a.length ≤ 1000000000000) (hlen : b.length ≤ a.length) (hle : V B9 b ≤ V B9 a) :
    Calls Tryz.prog 46 #[.slice A a.length c, .slice A' b.length c'] w fun e w' =>
      ∃ A1 c1 l, e = .returned (.slice A1 l.length c1) ∧ SlI w' .u32 A1 c1 l ∧ Dg B9 l ∧ V B9 l = V B9 a - V B9 b ∧ Below w.heap.size w w' := by
  have HH := Lib.hid ha
  have HH' := Lib.hid hb
  have HLE := Lib.hid hle
  have H0s := Lib.hid h
  have H1s := Lib.hid h'
  have hmk := fun W => make0 (P := Tryz.prog) 55 90 (.int .u32 0) 4 Tryz.underlying55 info_u32 rfl a.length (by omega) (by omega) W
  clear h h' ha hb hle
  go_enter Tryz.func46, Tryz.ntmps46
  go_wp2
  clear hmk
  have HO0 : OwI (w.alloc (.cells (madeCells #[.int .u32 0] a.length) 90)) w.heap.size 90 .u32 (.slice (some ⟨w.heap.size, 0, none⟩) 0 a.length) [] := OwI.made (Nat.le_refl _) (by omega)
  have HB0 := below_alloc (Below.refl w.heap.size w) (Obj.cells (madeCells #[Value.int IntKind.u32 0] a.length) 90)
  go_loopg [5, 6, 14] a.length (fun g out cr iv wr => ∃ (k : Nat) (cy : Int) (l : List Int), g = a.length - k ∧ iv = .int .i64 k ∧ cr = .int .i64 cy ∧ k ≤ a.length ∧ OwI wr w.heap.size 90 .u32 out l ∧ Below w.heap.size w wr ∧ Hid (LessInv a b l k cy))
  case atStart => exact ⟨0, 0, [], rfl, rfl, rfl, by omega, HO0, HB0, ⟨rfl, Dg.nil _, by simp, by simp, by simp [V], by omega⟩⟩
  case round =>
    clear HO0 HB0
    obtain ⟨k, cy, l, hgk, rfl, rfl, hk, HO, HB, HI⟩ := hrel
    obtain ⟨i1, i2, i3, i4, -, -⟩ := HI.out
    have I1 := Lib.hid i1
    have I2 := Lib.hid i2
    clear i1 i2
    have hB := HB.size
    have hL : Hid ((l.length + 1) * 4 ≤ 140737488355328) := by have := I1.out; show _ ≤ _; omega
    have x1 := (HH.out.getD (by decide) k)
    have x2 := (HH'.out.getD (by decide) k)
    change 0 ≤ gd a k ∧ gd a k < _ at x1
    change 0 ≤ gd b k ∧ gd b k < _ at x2
    rw [B9c] at x1 x2
    obtain ⟨x1, x1'⟩ := x1
    obtain ⟨x2, x2'⟩ := x2
    by_cases q1 : k < a.length
    · obtain ⟨b1, o1, rfl, hl1, hcell1⟩ := (H0s.out.below HB).cell (j := k) q1
      have hi0 : (0 : Int) ≤ (k : Int) := by omega
      have hi1 : (k : Int) < (a.length : Int) := by omega
      by_cases q2 : k < b.length
      · obtain ⟨b2, o2, rfl, hl2, hcell2⟩ := (H1s.out.below HB).cell (j := k) q2
        have hi2 : (k : Int) < (b.length : Int) := by omega
        by_cases q3 : gd a k - cy - gd b k < 0
        · have HS := Lib.hid (less_step (q := 1) HI.out q1 (.inr rfl) (by omega) (by omega))
          rw [show gd a k - gd b k - cy + 1000000000 * 1 = gd a k - cy - gd b k + 1000000000 by omega] at HS
          clear HI
          go_wp2_with (at_builtin; refine app_I w.heap.size rfl _ _ 55 90 .u32 4 rfl Tryz.underlying55 info_u32 (by decide) _ l _ HO rfl rfl HB hB hL.out ?_; intro v1 w1 HO1 HB1 hB1)
          go_roundg (a.length - (k + 1))
          case measure => omega
          case rel => exact ⟨k + 1, _, _, rfl, by go_num, rfl, by omega, HO1, HB1, HS.out⟩
        · have HS := Lib.hid (less_step (q := 0) HI.out q1 (.inl rfl) (by omega) (by omega))
          rw [show gd a k - gd b k - cy + 1000000000 * 0 = gd a k - cy - gd b k by omega] at HS
          clear HI
          go_wp2_with (at_builtin; refine app_I w.heap.size rfl _ _ 55 90 .u32 4 rfl Tryz.underlying55 info_u32 (by decide) _ l _ HO rfl rfl HB hB hL.out ?_; intro v1 w1 HO1 HB1 hB1)
          go_roundg (a.length - (k + 1))
          case measure => omega
          case rel => exact ⟨k + 1, _, _, rfl, by go_num, rfl, by omega, HO1, HB1, HS.out⟩
      · have hi2 : ¬ (k : Int) < (b.length : Int) := by omega
        have hz : gd b k = 0 := gd_ge (by omega)
        have HZ := Lib.hid hz
        clear hz
        by_cases q3 : gd a k - cy < 0
        · have hz := HZ.out
          have HS := Lib.hid (less_step (q := 1) HI.out q1 (.inr rfl) (by omega) (by omega))
          rw [show gd a k - gd b k - cy + 1000000000 * 1 = gd a k - cy + 1000000000 by rw [gd_ge (show b.length ≤ k by omega)]; omega] at HS
          clear HI hz
          go_wp2_with (at_builtin; refine app_I w.heap.size rfl _ _ 55 90 .u32 4 rfl Tryz.underlying55 info_u32 (by decide) _ l _ HO rfl rfl HB hB hL.out ?_; intro v1 w1 HO1 HB1 hB1)
          go_roundg (a.length - (k + 1))
          case measure => omega
          case rel => exact ⟨k + 1, _, _, rfl, by go_num, rfl, by omega, HO1, HB1, HS.out⟩
        · have hz := HZ.out
          have HS := Lib.hid (less_step (q := 0) HI.out q1 (.inl rfl) (by omega) (by omega))
          rw [show gd a k - gd b k - cy + 1000000000 * 0 = gd a k - cy by rw [gd_ge (show b.length ≤ k by omega)]; omega] at HS
          clear HI hz
          go_wp2_with (at_builtin; refine app_I w.heap.size rfl _ _ 55 90 .u32 4 rfl Tryz.underlying55 info_u32 (by decide) _ l _ HO rfl rfl HB hB hL.out ?_; intro v1 w1 HO1 HB1 hB1)
          go_roundg (a.length - (k + 1))
          case measure => omega
          case rel => exact ⟨k + 1, _, _, rfl, by go_num, rfl, by omega, HO1, HB1, HS.out⟩
    · have HE := Lib.hid (less_end HI.out (by omega) hlen HH.out HH'.out HLE.out)
      clear HI
      have hi1 : ¬ (k : Int) < (a.length : Int) := by omega
      obtain ⟨A1, c1, rfl, hs⟩ := HO.form
      go_wp2
      go_ret
      exact ⟨A1, c1, _, rfl, hs, I2.out, HE.out, HB⟩

set_option maxRecDepth 100000 in
set_option maxHeartbeats 1000000 in
theorem hcompare_c (A A' : Option Addr) (c c' : Nat) (a b : List Int) (w : World) (h : SlI w .u32 A c a) (h' : SlI w .u32 A' c' b) (ha : Dg B9 a) (hb : Dg B9 b) (na : Nm a) (nb : Nm b) :
    Calls Tryz.prog 45 #[.slice A a.length c, .slice A' b.length c'] w fun e w' => e = .returned (.int .i64 (icmp (V B9 a) (V B9 b))) ∧ ∃ n, w' = w.drewN n := by
  have hc1 := h.2.1
  have hc2 := h.2.2
  have hc3 := h'.2.1
  have hc4 := h'.2.2
  by_cases hl : a.length = b.length
  · have hne : ((a.length : Int) != (b.length : Int)) = false := by simp; omega
    have HL := Lib.hid hl
    have hll : a.length ≤ b.length := by omega
    have H1 := Lib.hid h
    have H2 := Lib.hid h'
    clear hl na nb h h'
    have HA := Lib.hid ha
    have HB := Lib.hid hb
    clear ha hb
    go_enter Tryz.func45, Tryz.ntmps45
    go_wp2
    go_loopw [5] (fun i wr => ∃ k : Nat, k ≤ a.length ∧ i = .int .i64 ((k : Int) - 1) ∧ Hid (V B9 (a.drop k) = V B9 (b.drop k)) ∧ ∃ n, wr = w.drewN n) (fun i _ => (intOf i + 1).toNat)
    case atStart => exact ⟨a.length, Nat.le_refl _, rfl, by show _ = _; rw [List.drop_of_length_le (Nat.le_refl _), List.drop_of_length_le (by have := HL.out; omega)], 0, rfl⟩
    case round =>
      obtain ⟨k, hk, rfl, HE, n, rfl⟩ := hrel
      rcases Nat.eq_zero_or_pos k with rfl | hk0
      · go_wp2
        go_ret
        refine ⟨?_, n, rfl⟩
        have e := HE.out
        simp only [List.drop_zero] at e
        rw [e]; unfold icmp; rw [if_neg (by omega), if_neg (by omega)]; rfl
      · obtain ⟨m, rfl⟩ : ∃ m, k = m + 1 := ⟨k - 1, by omega⟩
        obtain ⟨b1, o1, rfl, hl1, hcell1⟩ := (Hid.out H1).cell (j := m) (by omega)
        obtain ⟨b2, o2, rfl, hl2, hcell2⟩ := (Hid.out H2).cell (j := m) (by omega)
        have hi0 : (0 : Int) ≤ (m : Int) := by omega
        have hi1 : (m : Int) < (a.length : Int) := by omega
        have hi2 : (m : Int) < (b.length : Int) := by omega
        by_cases q1 : gd a m < gd b m
        · have HR : Hid (icmp (V B9 a) (V B9 b) = -1) := by
            have := V_top B9two HA.out HB.out HL.out (by omega) HE.out q1
            show _ = _; unfold icmp; rw [if_pos this]
          go_wp2
          go_quiet (fail)
          go_wp2
          go_ret
          exact ⟨by rw [HR.out]; rfl, by first | exact ⟨_, rfl⟩ | (simp only [World.drewN_drewN]; exact ⟨_, rfl⟩)⟩
        · by_cases q2 : gd b m < gd a m
          · have HR : Hid (icmp (V B9 a) (V B9 b) = 1) := by
              have := V_top B9two HB.out HA.out HL.out.symm (by have := HL.out; omega) HE.out.symm q2
              show _ = _; unfold icmp; rw [if_neg (by omega), if_pos this]
            go_wp2
            go_quiet (fail)
            go_wp2
            go_quiet (fail)
            go_wp2
            go_ret
            exact ⟨by rw [HR.out]; rfl, by first | exact ⟨_, rfl⟩ | (simp only [World.drewN_drewN]; exact ⟨_, rfl⟩)⟩
          · have HR : Hid (V B9 (a.drop m) = V B9 (b.drop m)) := by
              show _ = _
              rw [V_drop B9 a m, V_drop B9 b m, HE.out]
              have : gd a m = gd b m := by omega
              unfold gd at this
              rw [this]
            go_wp2
            go_quiet (fail)
            go_wp2
            go_quiet (fail)
            go_wp2
            go_roundw
            case rel => exact ⟨m, by omega, by go_num, HR, by first | exact ⟨_, rfl⟩ | (simp only [World.drewN_drewN]; exact ⟨_, rfl⟩)⟩
            case measure => simp [intOf]
  · by_cases hlt : a.length < b.length
    · have e : icmp (V B9 a) (V B9 b) = -1 := by have := V_long B9two ha hb nb hlt; unfold icmp; rw [if_pos this]
      rw [e]
      have hne : ((a.length : Int) != (b.length : Int)) = true := by simp; omega
      have hmx : max (-1) ((a.length : Int) - (b.length : Int)) = -1 := by omega
      clear e ha hb na nb hl
      go_enter Tryz.func45, Tryz.ntmps45
      go_wp2
      go_ret
      exact ⟨rfl, 0, rfl⟩
    · have e : icmp (V B9 a) (V B9 b) = 1 := by have := V_long B9two hb ha na (by omega); unfold icmp; rw [if_neg (by omega), if_pos this]
      rw [e]
      have hne : ((a.length : Int) != (b.length : Int)) = true := by simp; omega
      have hmx : max (-1) ((a.length : Int) - (b.length : Int)) = (a.length : Int) - (b.length : Int) := by omega
      have hmn : min 1 ((a.length : Int) - (b.length : Int)) = 1 := by omega
      clear e ha hb na nb hl
      go_enter Tryz.func45, Tryz.ntmps45
      go_wp2
      go_ret
      exact ⟨rfl, 0, rfl⟩
theorem hcompare_b (A A' : Option Addr) (c c' : Nat) (a b : List Int) (w : World) (h : SlI w .u32 A c a) (h' : SlI w .u32 A' c' b) (ha : Dg B9 a) (hb : Dg B9 b) (na : Nm a) (nb : Nm b) :
    Calls Tryz.prog 45 #[.slice A a.length c, .slice A' b.length c'] w fun e w' => e = .returned (.int .i64 (icmp (V B9 a) (V B9 b))) ∧ Below w.heap.size w w' :=
  (hcompare_c A A' c c' a b w h h' ha hb na nb).mono fun e w' ⟨he, n, hw⟩ => ⟨he, by rw [hw]; exact below_drewN (Below.refl _ _) n⟩
end Go.Proofs.YtiaeeclmlchpoaaGreatDoor

set_option linter.unusedVariables false
set_option linter.unusedSimpArgs false
namespace Go.Proofs.YtiaeeclmlchpoaaGreatDoor
open Go.RowKit

abbrev opae89c433 : Oper := { dst := some 6, op := Go.Op.load 57 (Go.Operand.tmp 2), type := 57, pos := "whole.go:111", after := #[], guard := none }
abbrev opda2e2d72 : Oper := { dst := some 8, op := Go.Op.load 57 (Go.Operand.tmp 3), type := 57, pos := "whole.go:111", after := #[], guard := none }
abbrev opda13e5a3 : Oper := { dst := some 10, op := Go.Op.binOp Go.BinOp.neq 3 (Go.Operand.tmp 7) (Go.Operand.tmp 9) 3, type := 4, pos := "whole.go:111", after := #[{ on := 1, ground := Go.Ground.data }, { on := 3, ground := Go.Ground.data }], guard := none }
abbrev opd14747bc : Oper := { dst := some 5, op := Go.Op.assign (Go.Operand.tmp 10), type := 4, pos := "whole.go:111", after := #[{ on := 4, ground := Go.Ground.data }, { on := 3, ground := Go.Ground.chain }], guard := none }
abbrev op040ac0ee : Oper := { dst := some 11, op := Go.Op.load 57 (Go.Operand.tmp 2), type := 57, pos := "whole.go:112", after := #[], guard := none }
abbrev opeb4aae0c : Oper := { dst := some 13, op := Go.Op.load 57 (Go.Operand.tmp 3), type := 57, pos := "whole.go:112", after := #[], guard := none }
abbrev opc5386256 : Oper := { dst := some 15, op := Go.Op.binOp Go.BinOp.sub 3 (Go.Operand.tmp 12) (Go.Operand.tmp 14) 3, type := 3, pos := "whole.go:112", after := #[{ on := 1, ground := Go.Ground.data }, { on := 3, ground := Go.Ground.data }], guard := none }
abbrev op33f57d0a : Oper := { dst := some 16, op := Go.Op.call { callee := Go.Callee.builtin Go.Builtin.max, args := #[Go.Operand.const (Go.Value.int Go.IntKind.i64 (-1)), Go.Operand.tmp 15], argTypes := #[3, 3] }, type := 3, pos := "whole.go:112", after := #[{ on := 4, ground := Go.Ground.data }], guard := none }
abbrev op59c8148d : Oper := { dst := some 17, op := Go.Op.call { callee := Go.Callee.builtin Go.Builtin.min, args := #[Go.Operand.const (Go.Value.int Go.IntKind.i64 1), Go.Operand.tmp 16], argTypes := #[3, 3] }, type := 3, pos := "whole.go:112", after := #[{ on := 5, ground := Go.Ground.data }], guard := none }
abbrev op147cfb77 : Oper := { dst := some 4, op := Go.Op.assign (Go.Operand.tmp 17), type := 3, pos := "whole.go:112", after := #[{ on := 6, ground := Go.Ground.data }, { on := 3, ground := Go.Ground.chain }, { on := 0, ground := Go.Ground.phase }, { on := 1, ground := Go.Ground.phase }, { on := 2, ground := Go.Ground.phase }, { on := 3, ground := Go.Ground.phase }, { on := 4, ground := Go.Ground.phase }, { on := 5, ground := Go.Ground.phase }, { on := 6, ground := Go.Ground.phase }], guard := none }
attribute [local go_sem] opae89c433 opda2e2d72 opda13e5a3 opd14747bc op040ac0ee opeb4aae0c opc5386256 op33f57d0a op59c8148d op147cfb77
abbrev VH (W : World) (b : Nat) (nv : Bool) (A : Option Addr) (n c : Nat) (z : Int) : Prop := VX B9 .u32 W b nv A n c z
theorem IsZ.sl {B : Nat} {k : IntKind} {W : World} {nv : Bool} {A : Option Addr} {n c : Nat} {z : Int} (h : IsZ B k W (.agg #[.bool nv, .slice A n c]) z) : nv = decide (z < 0) ∧ n = (dg B z).length ∧ SlI W k A c (dg B z) := by
  obtain ⟨A', c', e, hs⟩ := h
  injection e with e
  simp only [Array.mk.injEq, List.cons.injEq, Value.bool.injEq, Value.slice.injEq, and_true] at e
  obtain ⟨e0, rfl, e1, rfl⟩ := e
  exact ⟨e0, e1, hs⟩
/-- Two numbers come in: their blocks. -/
theorem start2H (w : World) {na nb : Bool} {A1 A2 : Option Addr} {n1 c1 n2 c2 : Nat} {x y : Int} (t : TypeId) (W : World)
    (h1 : IsH w (.agg #[.bool na, .slice A1 n1 c1]) x) (h2 : IsH w (.agg #[.bool nb, .slice A2 n2 c2]) y)
    (hW : (w.alloc (.cells #[.bool na, .slice A1 n1 c1] t)).alloc (.cells #[.bool nb, .slice A2 n2 c2] t) = W) :
    VH W w.heap.size na A1 n1 c1 x ∧ VH W (w.heap.size + 1) nb A2 n2 c2 y ∧ W.heap.size = w.heap.size + 1 + 1 ∧ Below w.heap.size w W := by
  have k1 := VX.new w t h1
  have k2 := VX.new (w.alloc (.cells #[.bool na, .slice A1 n1 c1] t)) t (h2.below (below_alloc (Below.refl _ _) _))
  have e : (w.alloc (.cells #[.bool na, .slice A1 n1 c1] t)).heap.size = w.heap.size + 1 := by simp
  rw [e] at k2
  subst hW
  exact ⟨k1.keep (below_alloc (Below.refl _ _) _), k2, by simp, below_alloc (below_alloc (Below.refl _ _) _) _⟩
theorem hSign_s (x : Int) (v : Value) (w : World) (h : IsH w v x) :
    Calls Tryz.prog 52 #[v] w fun e w' => e = .returned (.int .i64 (sgn x)) ∧ Below w.heap.size w w' := hSign_c x v w h
theorem sgn_r (x : Int) : -1 ≤ sgn x ∧ sgn x ≤ 1 := by unfold sgn; split <;> (try split) <;> omega
theorem sgn_icmp {x y : Int} (h : sgn x ≠ sgn y) : (sgn x < sgn y ∧ icmp x y = -1) ∨ (sgn y < sgn x ∧ icmp x y = 1) := by
  unfold sgn at h ⊢; unfold icmp
  by_cases a : x = 0 <;> by_cases b : y = 0 <;> by_cases c : x < 0 <;> by_cases d : y < 0 <;> simp_all <;> omega
set_option maxRecDepth 100000 in
set_option maxHeartbeats 2000000 in
theorem hCmp_c (x y : Int) (v1 v2 : Value) (w : World) (h1 : IsH w v1 x) (h2 : IsH w v2 y) :
    Calls Tryz.prog 32 #[v1, v2] w fun e w' => e = .returned (.int .i64 (icmp x y)) ∧ Below w.heap.size w w' := by
  obtain ⟨na, A1, n1, c1, rfl, H1⟩ := h1.form
  obtain ⟨nb, A2, n2, c2, rfl, H2⟩ := h2.form
  clear h1 h2
  have hsx := sgn_r x
  have hsy := sgn_r y
  by_cases hne : sgn x = sgn y
  · have hq : (sgn x != sgn y) = false := by simpa using hne
    have hxy : (x < 0 ↔ y < 0) := by
      have h := hne
      unfold sgn at h
      by_cases a : x = 0 <;> by_cases b : y = 0 <;> by_cases c : x < 0 <;> by_cases d : y < 0 <;> simp_all <;> omega
    have hna := H1.out.sl.1
    by_cases hneg : x < 0
    · have hn : na = true := by rw [hna]; simpa using hneg
      clear hna
      subst hn
      go_enter Tryz.func32, Tryz.ntmps32
      go_wp2_with fail
      generalize hW : (w.alloc (Obj.cells #[Value.bool true, Value.slice A1 n1 c1] 57)).alloc (Obj.cells #[Value.bool nb, Value.slice A2 n2 c2] 57) = W at *
      obtain ⟨V2, V3, hs, HB⟩ := start2H w _ W H1.out H2.out hW
      clear hW H1 H2
      replace V2 := V2.drew; replace V3 := V3.drew; replace HB := below_drew HB
      generalize hWd : W.drew = wd at *
      refine wp_region_F (fun w' => w'.cell? ⟨w.heap.size, 0, none⟩ = some (.bool true) ∧ w'.cell? ⟨w.heap.size, 1, none⟩ = some (.slice A1 n1 c1) ∧ w'.cell? ⟨w.heap.size + 1, 0, none⟩ = some (.bool nb) ∧ w'.cell? ⟨w.heap.size + 1, 1, none⟩ = some (.slice A2 n2 c2)) [] (by kernel_rfl) (by rw [hWd]; exact ⟨V2.c0, V2.c1, V3.c0, V3.c1⟩) (fun hHeld => ?_)
      rw [hWd] at hHeld ⊢
      refine wpF_t (i := 0) (oi := opae89c433) (v := ?_) rfl (by kernel_rfl) (fun _ _ _ h => h) (Or.inl ⟨by rfl, ?_⟩) hHeld ?_; rotate_left
      · intro w_ hSw_; (try dsimp only at hSw_); go_simp; (try with_reducible rfl)
      try go_frame
      refine wpF_t (i := 2) (oi := opda2e2d72) (v := ?_) rfl (by kernel_rfl) (fun _ _ _ h => h) (Or.inl ⟨by rfl, ?_⟩) hHeld ?_; rotate_left
      · intro w_ hSw_; (try dsimp only at hSw_); go_simp; (try with_reducible rfl)
      try go_frame
      refine wpAnyF_one (i := 1) (by kernel_rfl) rfl (fun K hK => ?_)
      go_simp
      (go_at_call 52; (with_reducible refine (hSign_s x _ _ (by exact V2.iz.out)).mono ?_); rintro e w1 ⟨rfl, hb⟩; replace V2 := V2.keep hb; replace V3 := V3.keep hb; replace HB := below_step HB hb; clear hb)
      refine hK.out _ _ (by exact ⟨V2.c0, V2.c1, V3.c0, V3.c1⟩) (fun hHeld => ?_)
      clear hK K
      try go_frame
      refine wpAnyF_one (i := 3) (by kernel_rfl) rfl (fun K hK => ?_)
      go_simp
      (go_at_call 52; (with_reducible refine (hSign_s y _ _ (by exact V3.iz.out)).mono ?_); rintro e w2 ⟨rfl, hb⟩; replace V2 := V2.keep hb; replace V3 := V3.keep hb; replace HB := below_step HB hb; clear hb)
      refine hK.out _ _ (by exact ⟨V2.c0, V2.c1, V3.c0, V3.c1⟩) (fun hHeld => ?_)
      clear hK K
      try go_frame
      refine wpF_t (i := 4) (oi := opda13e5a3) (v := ?_) rfl (by kernel_rfl) (fun _ _ _ h => h) (Or.inl ⟨by rfl, ?_⟩) hHeld ?_; rotate_left
      · intro w_ hSw_; (try dsimp only at hSw_); go_simp; (try with_reducible rfl)
      try go_frame
      refine wpF_t (i := 5) (oi := opd14747bc) (v := ?_) rfl (by kernel_rfl) (fun _ _ _ h => h) (Or.inl ⟨by rfl, ?_⟩) hHeld ?_; rotate_left
      · intro w_ hSw_; (try dsimp only at hSw_); go_simp; (try with_reducible rfl)
      try go_frame
      refine wpAnyF_done (by kernel_rfl) ?_ _
      clear hHeld hWd
      have va0 := V2.c0; have va1 := V2.c1; have vb0 := V3.c0; have vb1 := V3.c1
      obtain ⟨-, hn1, L1⟩ := V2.iz.out.sl
      obtain ⟨-, hn2, L2⟩ := V3.iz.out.sl
      have HC : Hid (∀ w', w' = w2 → Calls Tryz.prog 45 #[.slice A2 n2 c2, .slice A1 n1 c1] w' fun e w'' => e = .returned (.int .i64 (icmp x y)) ∧ Below w'.heap.size w' w'') := fun w' hw => by
        subst hw
        rw [hn2, hn1]
        refine (hcompare_b _ _ _ _ _ _ _ L2 L1 (dg_dg B9two _) (dg_dg B9two _) (dg_nm B9two _) (dg_nm B9two _)).mono ?_
        rintro e w'' ⟨rfl, hb⟩
        exact ⟨by rw [dg_V B9two, dg_V B9two]; congr 2; have := hxy.1 hneg; unfold icmp; split <;> (try split) <;> (try split) <;> (try split) <;> omega, hb⟩
      clear hn1 hn2 L1 L2
      go_wp2_with fail
      (with_reducible refine (HC.out _ rfl).mono ?_)
      rintro e w9 ⟨rfl, hb⟩
      replace HB := below_step HB hb
      clear hb va0 va1 vb0 vb1 HC
      go_wp2
      go_ret
      exact ⟨rfl, HB⟩
    · have hn : na = false := by rw [hna]; simpa using hneg
      clear hna
      subst hn
      go_enter Tryz.func32, Tryz.ntmps32
      go_wp2_with fail
      generalize hW : (w.alloc (Obj.cells #[Value.bool false, Value.slice A1 n1 c1] 57)).alloc (Obj.cells #[Value.bool nb, Value.slice A2 n2 c2] 57) = W at *
      obtain ⟨V2, V3, hs, HB⟩ := start2H w _ W H1.out H2.out hW
      clear hW H1 H2
      replace V2 := V2.drew; replace V3 := V3.drew; replace HB := below_drew HB
      generalize hWd : W.drew = wd at *
      refine wp_region_F (fun w' => w'.cell? ⟨w.heap.size, 0, none⟩ = some (.bool false) ∧ w'.cell? ⟨w.heap.size, 1, none⟩ = some (.slice A1 n1 c1) ∧ w'.cell? ⟨w.heap.size + 1, 0, none⟩ = some (.bool nb) ∧ w'.cell? ⟨w.heap.size + 1, 1, none⟩ = some (.slice A2 n2 c2)) [] (by kernel_rfl) (by rw [hWd]; exact ⟨V2.c0, V2.c1, V3.c0, V3.c1⟩) (fun hHeld => ?_)
      rw [hWd] at hHeld ⊢
      refine wpF_t (i := 0) (oi := opae89c433) (v := ?_) rfl (by kernel_rfl) (fun _ _ _ h => h) (Or.inl ⟨by rfl, ?_⟩) hHeld ?_; rotate_left
      · intro w_ hSw_; (try dsimp only at hSw_); go_simp; (try with_reducible rfl)
      try go_frame
      refine wpF_t (i := 2) (oi := opda2e2d72) (v := ?_) rfl (by kernel_rfl) (fun _ _ _ h => h) (Or.inl ⟨by rfl, ?_⟩) hHeld ?_; rotate_left
      · intro w_ hSw_; (try dsimp only at hSw_); go_simp; (try with_reducible rfl)
      try go_frame
      refine wpAnyF_one (i := 1) (by kernel_rfl) rfl (fun K hK => ?_)
      go_simp
      (go_at_call 52; (with_reducible refine (hSign_s x _ _ (by exact V2.iz.out)).mono ?_); rintro e w1 ⟨rfl, hb⟩; replace V2 := V2.keep hb; replace V3 := V3.keep hb; replace HB := below_step HB hb; clear hb)
      refine hK.out _ _ (by exact ⟨V2.c0, V2.c1, V3.c0, V3.c1⟩) (fun hHeld => ?_)
      clear hK K
      try go_frame
      refine wpAnyF_one (i := 3) (by kernel_rfl) rfl (fun K hK => ?_)
      go_simp
      (go_at_call 52; (with_reducible refine (hSign_s y _ _ (by exact V3.iz.out)).mono ?_); rintro e w2 ⟨rfl, hb⟩; replace V2 := V2.keep hb; replace V3 := V3.keep hb; replace HB := below_step HB hb; clear hb)
      refine hK.out _ _ (by exact ⟨V2.c0, V2.c1, V3.c0, V3.c1⟩) (fun hHeld => ?_)
      clear hK K
      try go_frame
      refine wpF_t (i := 4) (oi := opda13e5a3) (v := ?_) rfl (by kernel_rfl) (fun _ _ _ h => h) (Or.inl ⟨by rfl, ?_⟩) hHeld ?_; rotate_left
      · intro w_ hSw_; (try dsimp only at hSw_); go_simp; (try with_reducible rfl)
      try go_frame
      refine wpF_t (i := 5) (oi := opd14747bc) (v := ?_) rfl (by kernel_rfl) (fun _ _ _ h => h) (Or.inl ⟨by rfl, ?_⟩) hHeld ?_; rotate_left
      · intro w_ hSw_; (try dsimp only at hSw_); go_simp; (try with_reducible rfl)
      try go_frame
      refine wpAnyF_done (by kernel_rfl) ?_ _
      clear hHeld hWd
      have va0 := V2.c0; have va1 := V2.c1; have vb0 := V3.c0; have vb1 := V3.c1
      obtain ⟨-, hn1, L1⟩ := V2.iz.out.sl
      obtain ⟨-, hn2, L2⟩ := V3.iz.out.sl
      have HC : Hid (∀ w', w' = w2 → Calls Tryz.prog 45 #[.slice A1 n1 c1, .slice A2 n2 c2] w' fun e w'' => e = .returned (.int .i64 (icmp x y)) ∧ Below w'.heap.size w' w'') := fun w' hw => by
        subst hw
        rw [hn1, hn2]
        refine (hcompare_b _ _ _ _ _ _ _ L1 L2 (dg_dg B9two _) (dg_dg B9two _) (dg_nm B9two _) (dg_nm B9two _)).mono ?_
        rintro e w'' ⟨rfl, hb⟩
        exact ⟨by rw [dg_V B9two, dg_V B9two]; congr 2; have hy0 : ¬ y < 0 := fun h => (by have := hxy.2 h; omega); unfold icmp; split <;> (try split) <;> (try split) <;> (try split) <;> omega, hb⟩
      clear hn1 hn2 L1 L2
      go_wp2_with fail
      (with_reducible refine (HC.out _ rfl).mono ?_)
      rintro e w9 ⟨rfl, hb⟩
      replace HB := below_step HB hb
      clear hb va0 va1 vb0 vb1 HC
      go_wp2
      go_ret
      exact ⟨rfl, HB⟩
  · have hq : (sgn x != sgn y) = true := by simpa using hne
    have hw1 : IntKind.i64.wrap (sgn x - sgn y) = sgn x - sgn y := by rw [IntKind.wrap_i64]; omega
    rcases sgn_icmp hne with ⟨h3, h4⟩ | ⟨h3, h4⟩
    · have hmx : max (-1) (sgn x - sgn y) = -1 := by omega
      have HI := Lib.hid h4
      clear h4 hne
      go_enter Tryz.func32, Tryz.ntmps32
      go_wp2_with fail
      generalize hW : (w.alloc (Obj.cells #[Value.bool na, Value.slice A1 n1 c1] 57)).alloc (Obj.cells #[Value.bool nb, Value.slice A2 n2 c2] 57) = W at *
      obtain ⟨V2, V3, hs, HB⟩ := start2H w _ W H1.out H2.out hW
      clear hW H1 H2
      replace V2 := V2.drew; replace V3 := V3.drew; replace HB := below_drew HB
      generalize hWd : W.drew = wd at *
      refine wp_region_F (fun w' => w'.cell? ⟨w.heap.size, 0, none⟩ = some (.bool na) ∧ w'.cell? ⟨w.heap.size, 1, none⟩ = some (.slice A1 n1 c1) ∧ w'.cell? ⟨w.heap.size + 1, 0, none⟩ = some (.bool nb) ∧ w'.cell? ⟨w.heap.size + 1, 1, none⟩ = some (.slice A2 n2 c2)) [] (by kernel_rfl) (by rw [hWd]; exact ⟨V2.c0, V2.c1, V3.c0, V3.c1⟩) (fun hHeld => ?_)
      rw [hWd] at hHeld ⊢
      refine wpF_t (i := 0) (oi := opae89c433) (v := ?_) rfl (by kernel_rfl) (fun _ _ _ h => h) (Or.inl ⟨by rfl, ?_⟩) hHeld ?_; rotate_left
      · intro w_ hSw_; (try dsimp only at hSw_); go_simp; (try with_reducible rfl)
      try go_frame
      refine wpF_t (i := 2) (oi := opda2e2d72) (v := ?_) rfl (by kernel_rfl) (fun _ _ _ h => h) (Or.inl ⟨by rfl, ?_⟩) hHeld ?_; rotate_left
      · intro w_ hSw_; (try dsimp only at hSw_); go_simp; (try with_reducible rfl)
      try go_frame
      refine wpAnyF_one (i := 1) (by kernel_rfl) rfl (fun K hK => ?_)
      go_simp
      (go_at_call 52; (with_reducible refine (hSign_s x _ _ (by exact V2.iz.out)).mono ?_); rintro e w1 ⟨rfl, hb⟩; replace V2 := V2.keep hb; replace V3 := V3.keep hb; replace HB := below_step HB hb; clear hb)
      refine hK.out _ _ (by exact ⟨V2.c0, V2.c1, V3.c0, V3.c1⟩) (fun hHeld => ?_)
      clear hK K
      try go_frame
      refine wpAnyF_one (i := 3) (by kernel_rfl) rfl (fun K hK => ?_)
      go_simp
      (go_at_call 52; (with_reducible refine (hSign_s y _ _ (by exact V3.iz.out)).mono ?_); rintro e w2 ⟨rfl, hb⟩; replace V2 := V2.keep hb; replace V3 := V3.keep hb; replace HB := below_step HB hb; clear hb)
      refine hK.out _ _ (by exact ⟨V2.c0, V2.c1, V3.c0, V3.c1⟩) (fun hHeld => ?_)
      clear hK K
      try go_frame
      refine wpF_t (i := 4) (oi := opda13e5a3) (v := ?_) rfl (by kernel_rfl) (fun _ _ _ h => h) (Or.inl ⟨by rfl, ?_⟩) hHeld ?_; rotate_left
      · intro w_ hSw_; (try dsimp only at hSw_); go_simp; (try with_reducible rfl)
      try go_frame
      refine wpF_t (i := 5) (oi := opd14747bc) (v := ?_) rfl (by kernel_rfl) (fun _ _ _ h => h) (Or.inl ⟨by rfl, ?_⟩) hHeld ?_; rotate_left
      · intro w_ hSw_; (try dsimp only at hSw_); go_simp; (try with_reducible rfl)
      try go_frame
      refine wpAnyF_done (by kernel_rfl) ?_ _
      clear hHeld hWd
      go_wp2_with fail
      replace V2 := V2.drew; replace V3 := V3.drew; replace HB := below_drew HB
      generalize hWd : w2.drew = wd at *
      refine wp_region_F (fun w' => w'.cell? ⟨w.heap.size, 0, none⟩ = some (.bool na) ∧ w'.cell? ⟨w.heap.size, 1, none⟩ = some (.slice A1 n1 c1) ∧ w'.cell? ⟨w.heap.size + 1, 0, none⟩ = some (.bool nb) ∧ w'.cell? ⟨w.heap.size + 1, 1, none⟩ = some (.slice A2 n2 c2)) [] (by kernel_rfl) (by rw [hWd]; exact ⟨V2.c0, V2.c1, V3.c0, V3.c1⟩) (fun hHeld => ?_)
      rw [hWd] at hHeld ⊢
      refine wpF_t (i := 0) (oi := op040ac0ee) (v := ?_) rfl (by kernel_rfl) (fun _ _ _ h => h) (Or.inl ⟨by rfl, ?_⟩) hHeld ?_; rotate_left
      · intro w_ hSw_; (try dsimp only at hSw_); go_simp; (try with_reducible rfl)
      try go_frame
      refine wpF_t (i := 2) (oi := opeb4aae0c) (v := ?_) rfl (by kernel_rfl) (fun _ _ _ h => h) (Or.inl ⟨by rfl, ?_⟩) hHeld ?_; rotate_left
      · intro w_ hSw_; (try dsimp only at hSw_); go_simp; (try with_reducible rfl)
      try go_frame
      refine wpAnyF_one (i := 1) (by kernel_rfl) rfl (fun K hK => ?_)
      go_simp
      (go_at_call 52; (with_reducible refine (hSign_s x _ _ (by exact V2.iz.out)).mono ?_); rintro e w3 ⟨rfl, hb⟩; replace V2 := V2.keep hb; replace V3 := V3.keep hb; replace HB := below_step HB hb; clear hb)
      refine hK.out _ _ (by exact ⟨V2.c0, V2.c1, V3.c0, V3.c1⟩) (fun hHeld => ?_)
      clear hK K
      try go_frame
      refine wpAnyF_one (i := 3) (by kernel_rfl) rfl (fun K hK => ?_)
      go_simp
      (go_at_call 52; (with_reducible refine (hSign_s y _ _ (by exact V3.iz.out)).mono ?_); rintro e w4 ⟨rfl, hb⟩; replace V2 := V2.keep hb; replace V3 := V3.keep hb; replace HB := below_step HB hb; clear hb)
      refine hK.out _ _ (by exact ⟨V2.c0, V2.c1, V3.c0, V3.c1⟩) (fun hHeld => ?_)
      clear hK K
      try go_frame
      refine wpF_t (i := 4) (oi := opc5386256) (v := ?_) rfl (by kernel_rfl) (fun _ _ _ h => h) (Or.inl ⟨by rfl, ?_⟩) hHeld ?_; rotate_left
      · intro w_ hSw_; (try dsimp only at hSw_); go_simp; (try with_reducible rfl)
      try go_frame
      refine wpF_t (i := 5) (oi := op33f57d0a) (v := ?_) rfl (by kernel_rfl) (fun _ _ _ h => h) (Or.inl ⟨by rfl, ?_⟩) hHeld ?_; rotate_left
      · intro w_ hSw_; (try dsimp only at hSw_); go_simp; (try with_reducible rfl)
      try go_frame
      refine wpF_t (i := 6) (oi := op59c8148d) (v := ?_) rfl (by kernel_rfl) (fun _ _ _ h => h) (Or.inl ⟨by rfl, ?_⟩) hHeld ?_; rotate_left
      · intro w_ hSw_; (try dsimp only at hSw_); go_simp; (try with_reducible rfl)
      try go_frame
      refine wpF_t (i := 7) (oi := op147cfb77) (v := ?_) rfl (by kernel_rfl) (fun _ _ _ h => h) (Or.inl ⟨by rfl, ?_⟩) hHeld ?_; rotate_left
      · intro w_ hSw_; (try dsimp only at hSw_); go_simp; (try with_reducible rfl)
      try go_frame
      refine wpAnyF_done (by kernel_rfl) ?_ _
      clear hHeld hWd
      go_wp2
      go_ret
      exact ⟨by rw [HI.out] <;> rfl, HB⟩
    · have hmx : max (-1) (sgn x - sgn y) = sgn x - sgn y := by omega
      have hmn : min 1 (sgn x - sgn y) = 1 := by omega
      have HI := Lib.hid h4
      clear h4 hne
      go_enter Tryz.func32, Tryz.ntmps32
      go_wp2_with fail
      generalize hW : (w.alloc (Obj.cells #[Value.bool na, Value.slice A1 n1 c1] 57)).alloc (Obj.cells #[Value.bool nb, Value.slice A2 n2 c2] 57) = W at *
      obtain ⟨V2, V3, hs, HB⟩ := start2H w _ W H1.out H2.out hW
      clear hW H1 H2
      replace V2 := V2.drew; replace V3 := V3.drew; replace HB := below_drew HB
      generalize hWd : W.drew = wd at *
      refine wp_region_F (fun w' => w'.cell? ⟨w.heap.size, 0, none⟩ = some (.bool na) ∧ w'.cell? ⟨w.heap.size, 1, none⟩ = some (.slice A1 n1 c1) ∧ w'.cell? ⟨w.heap.size + 1, 0, none⟩ = some (.bool nb) ∧ w'.cell? ⟨w.heap.size + 1, 1, none⟩ = some (.slice A2 n2 c2)) [] (by kernel_rfl) (by rw [hWd]; exact ⟨V2.c0, V2.c1, V3.c0, V3.c1⟩) (fun hHeld => ?_)
      rw [hWd] at hHeld ⊢
      refine wpF_t (i := 0) (oi := opae89c433) (v := ?_) rfl (by kernel_rfl) (fun _ _ _ h => h) (Or.inl ⟨by rfl, ?_⟩) hHeld ?_; rotate_left
      · intro w_ hSw_; (try dsimp only at hSw_); go_simp; (try with_reducible rfl)
      try go_frame
      refine wpF_t (i := 2) (oi := opda2e2d72) (v := ?_) rfl (by kernel_rfl) (fun _ _ _ h => h) (Or.inl ⟨by rfl, ?_⟩) hHeld ?_; rotate_left
      · intro w_ hSw_; (try dsimp only at hSw_); go_simp; (try with_reducible rfl)
      try go_frame
      refine wpAnyF_one (i := 1) (by kernel_rfl) rfl (fun K hK => ?_)
      go_simp
      (go_at_call 52; (with_reducible refine (hSign_s x _ _ (by exact V2.iz.out)).mono ?_); rintro e w1 ⟨rfl, hb⟩; replace V2 := V2.keep hb; replace V3 := V3.keep hb; replace HB := below_step HB hb; clear hb)
      refine hK.out _ _ (by exact ⟨V2.c0, V2.c1, V3.c0, V3.c1⟩) (fun hHeld => ?_)
      clear hK K
      try go_frame
      refine wpAnyF_one (i := 3) (by kernel_rfl) rfl (fun K hK => ?_)
      go_simp
      (go_at_call 52; (with_reducible refine (hSign_s y _ _ (by exact V3.iz.out)).mono ?_); rintro e w2 ⟨rfl, hb⟩; replace V2 := V2.keep hb; replace V3 := V3.keep hb; replace HB := below_step HB hb; clear hb)
      refine hK.out _ _ (by exact ⟨V2.c0, V2.c1, V3.c0, V3.c1⟩) (fun hHeld => ?_)
      clear hK K
      try go_frame
      refine wpF_t (i := 4) (oi := opda13e5a3) (v := ?_) rfl (by kernel_rfl) (fun _ _ _ h => h) (Or.inl ⟨by rfl, ?_⟩) hHeld ?_; rotate_left
      · intro w_ hSw_; (try dsimp only at hSw_); go_simp; (try with_reducible rfl)
      try go_frame
      refine wpF_t (i := 5) (oi := opd14747bc) (v := ?_) rfl (by kernel_rfl) (fun _ _ _ h => h) (Or.inl ⟨by rfl, ?_⟩) hHeld ?_; rotate_left
      · intro w_ hSw_; (try dsimp only at hSw_); go_simp; (try with_reducible rfl)
      try go_frame
      refine wpAnyF_done (by kernel_rfl) ?_ _
      clear hHeld hWd
      go_wp2_with fail
      replace V2 := V2.drew; replace V3 := V3.drew; replace HB := below_drew HB
      generalize hWd : w2.drew = wd at *
      refine wp_region_F (fun w' => w'.cell? ⟨w.heap.size, 0, none⟩ = some (.bool na) ∧ w'.cell? ⟨w.heap.size, 1, none⟩ = some (.slice A1 n1 c1) ∧ w'.cell? ⟨w.heap.size + 1, 0, none⟩ = some (.bool nb) ∧ w'.cell? ⟨w.heap.size + 1, 1, none⟩ = some (.slice A2 n2 c2)) [] (by kernel_rfl) (by rw [hWd]; exact ⟨V2.c0, V2.c1, V3.c0, V3.c1⟩) (fun hHeld => ?_)
      rw [hWd] at hHeld ⊢
      refine wpF_t (i := 0) (oi := op040ac0ee) (v := ?_) rfl (by kernel_rfl) (fun _ _ _ h => h) (Or.inl ⟨by rfl, ?_⟩) hHeld ?_; rotate_left
      · intro w_ hSw_; (try dsimp only at hSw_); go_simp; (try with_reducible rfl)
      try go_frame
      refine wpF_t (i := 2) (oi := opeb4aae0c) (v := ?_) rfl (by kernel_rfl) (fun _ _ _ h => h) (Or.inl ⟨by rfl, ?_⟩) hHeld ?_; rotate_left
      · intro w_ hSw_; (try dsimp only at hSw_); go_simp; (try with_reducible rfl)
      try go_frame
      refine wpAnyF_one (i := 1) (by kernel_rfl) rfl (fun K hK => ?_)
      go_simp
      (go_at_call 52; (with_reducible refine (hSign_s x _ _ (by exact V2.iz.out)).mono ?_); rintro e w3 ⟨rfl, hb⟩; replace V2 := V2.keep hb; replace V3 := V3.keep hb; replace HB := below_step HB hb; clear hb)
      refine hK.out _ _ (by exact ⟨V2.c0, V2.c1, V3.c0, V3.c1⟩) (fun hHeld => ?_)
      clear hK K
      try go_frame
      refine wpAnyF_one (i := 3) (by kernel_rfl) rfl (fun K hK => ?_)
      go_simp
      (go_at_call 52; (with_reducible refine (hSign_s y _ _ (by exact V3.iz.out)).mono ?_); rintro e w4 ⟨rfl, hb⟩; replace V2 := V2.keep hb; replace V3 := V3.keep hb; replace HB := below_step HB hb; clear hb)
      refine hK.out _ _ (by exact ⟨V2.c0, V2.c1, V3.c0, V3.c1⟩) (fun hHeld => ?_)
      clear hK K
      try go_frame
      refine wpF_t (i := 4) (oi := opc5386256) (v := ?_) rfl (by kernel_rfl) (fun _ _ _ h => h) (Or.inl ⟨by rfl, ?_⟩) hHeld ?_; rotate_left
      · intro w_ hSw_; (try dsimp only at hSw_); go_simp; (try with_reducible rfl)
      try go_frame
      refine wpF_t (i := 5) (oi := op33f57d0a) (v := ?_) rfl (by kernel_rfl) (fun _ _ _ h => h) (Or.inl ⟨by rfl, ?_⟩) hHeld ?_; rotate_left
      · intro w_ hSw_; (try dsimp only at hSw_); go_simp; (try with_reducible rfl)
      try go_frame
      refine wpF_t (i := 6) (oi := op59c8148d) (v := ?_) rfl (by kernel_rfl) (fun _ _ _ h => h) (Or.inl ⟨by rfl, ?_⟩) hHeld ?_; rotate_left
      · intro w_ hSw_; (try dsimp only at hSw_); go_simp; (try with_reducible rfl)
      try go_frame
      refine wpF_t (i := 7) (oi := op147cfb77) (v := ?_) rfl (by kernel_rfl) (fun _ _ _ h => h) (Or.inl ⟨by rfl, ?_⟩) hHeld ?_; rotate_left
      · intro w_ hSw_; (try dsimp only at hSw_); go_simp; (try with_reducible rfl)
      try go_frame
      refine wpAnyF_done (by kernel_rfl) ?_ _
      clear hHeld hWd
      go_wp2
      go_ret
      exact ⟨by rw [HI.out] <;> rfl, HB⟩
end Go.Proofs.YtiaeeclmlchpoaaGreatDoor

set_option linter.unusedVariables false
set_option linter.unusedSimpArgs false
namespace Go.Proofs.YtiaeeclmlchpoaaGreatDoor
open Go.RowKit

abbrev op90c51764 : Oper := { dst := some 10, op := Go.Op.fieldAddr 57 (Go.Operand.tmp 2) 0, type := 0, pos := "whole.go:162", after := #[], guard := none }
abbrev op14d018dc : Oper := { dst := some 11, op := Go.Op.load 4 (Go.Operand.tmp 10), type := 4, pos := "whole.go:162", after := #[{ on := 0, ground := Go.Ground.data }], guard := none }
abbrev op6a2f7186 : Oper := { dst := some 12, op := Go.Op.fieldAddr 57 (Go.Operand.tmp 2) 1, type := 0, pos := "whole.go:162", after := #[], guard := none }
abbrev op0b4f3af0 : Oper := { dst := some 13, op := Go.Op.load 55 (Go.Operand.tmp 12), type := 55, pos := "whole.go:162", after := #[{ on := 2, ground := Go.Ground.data }], guard := none }
abbrev ope988eaf7 : Oper := { dst := some 14, op := Go.Op.fieldAddr 57 (Go.Operand.tmp 3) 1, type := 0, pos := "whole.go:162", after := #[], guard := none }
abbrev op70d3099d : Oper := { dst := some 15, op := Go.Op.load 55 (Go.Operand.tmp 14), type := 55, pos := "whole.go:162", after := #[{ on := 4, ground := Go.Ground.data }], guard := none }
attribute [local go_sem] op90c51764 op14d018dc op6a2f7186 op0b4f3af0 ope988eaf7 op70d3099d
theorem hNeg_c (x : Int) (v : Value) (w : World) (h : IsH w v x) :
    Calls Tryz.prog 103 #[v] w fun e w' => ∃ v', e = .returned v' ∧ IsH w' v' (-x) ∧ Below w.heap.size w w' := by
  obtain ⟨A, c, rfl, hs⟩ := h
  have hB : Below w.heap.size w w := Below.refl _ _
  have hc1 := hs.2.1
  have hc2 := hs.2.2
  have ed : dg B9 (-x) = dg B9 x := by unfold dg; rw [Int.natAbs_neg]
  have el : decide (0 < (dg B9 x).length) = !(dg B9 x).isEmpty := by cases dg B9 x <;> simp
  have en : (!decide (x < 0) && decide (0 < (dg B9 x).length)) = decide (-x < 0) := by
    rw [el, dg, isEmpty_digs B9two]
    rw [Bool.eq_iff_iff]
    simp
    omega
  have HD := Lib.hid ed
  have HN := Lib.hid en
  clear ed el en
  generalize dg B9 x = l at *
  obtain ⟨neg, hneg⟩ : ∃ neg, decide (x < 0) = neg := ⟨_, rfl⟩
  rw [hneg]
  have HG := Lib.hid hneg
  clear hneg
  cases neg
  all_goals
    go_enter Tryz.func103, Tryz.ntmps103
    go_wp2
  all_goals
    refine bodyPost_ret (v := _) (by simp [results, Tryz.results103, go_sem]; rfl) rfl ⟨_, rfl, ⟨A, c, ?_, ?_⟩, ?_⟩
  all_goals rw [HD.out] at *
  all_goals first
    | exact below_alloc (below_alloc hB _) _
    | exact hs.below (below_alloc (below_alloc hB _) _)
    | (rw [← HN.out, HG.out]; simp; done)
    | (rw [← HN.out, HG.out]; rfl)

theorem hplus_s {x y : Int} {A1 A2 : Option Addr} {n1 n2 c1 c2 : Nat} (hn1 : n1 = (dg B9 x).length) (hn2 : n2 = (dg B9 y).length) (s1 : n1 ≤ 1000000000000) (s2 : n2 ≤ 1000000000000) (w : World) (h1 : SlI w .u32 A1 c1 (dg B9 x)) (h2 : SlI w .u32 A2 c2 (dg B9 y)) :
    Calls Tryz.prog 44 #[.slice A1 n1 c1, .slice A2 n2 c2] w fun e w' => ∃ A c l, e = .returned (.slice A l.length c) ∧ Hid (SlI w' .u32 A c l) ∧ Hid (Dg B9 l) ∧ Hid (V B9 l = (x.natAbs : Int) + y.natAbs) ∧ Below w.heap.size w w' := by
  subst hn1 hn2
  refine (hplus_c _ _ _ _ _ _ w h1 h2 (dg_dg B9two _) (dg_dg B9two _) s1 s2).mono ?_
  rintro e w' ⟨A, c, l, rfl, h3, h4, h5, h6⟩
  exact ⟨A, c, l, rfl, h3, h4, by show _ = _; rw [h5, dg_V B9two, dg_V B9two], h6⟩
theorem hminus_s {x y : Int} {A1 A2 : Option Addr} {n1 n2 c1 c2 : Nat} (hn1 : n1 = (dg B9 x).length) (hn2 : n2 = (dg B9 y).length) (s1 : n1 ≤ 1000000000000) (hle : y.natAbs ≤ x.natAbs) (w : World) (h1 : SlI w .u32 A1 c1 (dg B9 x)) (h2 : SlI w .u32 A2 c2 (dg B9 y)) :
    Calls Tryz.prog 46 #[.slice A1 n1 c1, .slice A2 n2 c2] w fun e w' => ∃ A c l, e = .returned (.slice A l.length c) ∧ Hid (SlI w' .u32 A c l) ∧ Hid (Dg B9 l) ∧ Hid (V B9 l = (x.natAbs : Int) - y.natAbs) ∧ Below w.heap.size w w' := by
  subst hn1 hn2
  refine (hminus_c _ _ _ _ _ _ w h1 h2 (dg_dg B9two _) (dg_dg B9two _) s1 (digs_len_mono B9two hle) (by rw [dg_V B9two, dg_V B9two]; omega)).mono ?_
  rintro e w' ⟨A, c, l, rfl, h3, h4, h5, h6⟩
  exact ⟨A, c, l, rfl, h3, h4, by show _ = _; rw [h5, dg_V B9two, dg_V B9two], h6⟩
theorem hcompare_s {x y : Int} {A1 A2 : Option Addr} {n1 n2 c1 c2 : Nat} (hn1 : n1 = (dg B9 x).length) (hn2 : n2 = (dg B9 y).length) (w : World) (h1 : SlI w .u32 A1 c1 (dg B9 x)) (h2 : SlI w .u32 A2 c2 (dg B9 y)) :
    Calls Tryz.prog 45 #[.slice A1 n1 c1, .slice A2 n2 c2] w fun e w' => e = .returned (.int .i64 (icmp (x.natAbs : Int) y.natAbs)) ∧ Below w.heap.size w w' := by
  subst hn1 hn2
  refine (hcompare_b _ _ _ _ _ _ w h1 h2 (dg_dg B9two _) (dg_dg B9two _) (dg_nm B9two _) (dg_nm B9two _)).mono ?_
  rintro e w' ⟨rfl, hb⟩
  exact ⟨by rw [dg_V B9two, dg_V B9two], hb⟩
theorem icmp_le0 (x y : Int) : 0 ≤ icmp x y ↔ y ≤ x := by unfold icmp; split <;> (try split) <;> omega
set_option maxRecDepth 100000 in
set_option maxHeartbeats 4000000 in
theorem hAdd_c (x y : Int) (v1 v2 : Value) (w : World) (h1 : IsH w v1 x) (h2 : IsH w v2 y) (sx : (dg B9 x).length ≤ 1000000000000) (sy : (dg B9 y).length ≤ 1000000000000) :
    Calls Tryz.prog 25 #[v1, v2] w fun e w' => ∃ v, e = .returned v ∧ IsH w' v (x + y) ∧ Below w.heap.size w w' := by
  obtain ⟨na, A1, n1, c1, rfl, H1⟩ := h1.form
  obtain ⟨nb, A2, n2, c2, rfl, H2⟩ := h2.form
  clear h1 h2
  obtain ⟨hna, hn1, -⟩ := H1.out.sl
  obtain ⟨hnb, hn2, -⟩ := H2.out.sl
  have E1 := Lib.hid hn1
  have E2 := Lib.hid hn2
  rw [← hn1] at sx
  rw [← hn2] at sy
  clear hn1 hn2
  by_cases hne : na = nb
  · subst hne
    have hxy : (x < 0 ↔ y < 0) := by rw [hna] at hnb; exact decide_eq_decide.1 hnb
    have HXY := Lib.hid hxy
    have hsg : ∀ m : Int, sgnd na m = if x < 0 then -m else m := fun m => by unfold sgnd; rw [hna]; by_cases h : x < 0 <;> simp [h]
    have HSG := Lib.hid hsg
    clear hxy hsg hna hnb
    cases na
    · go_enter Tryz.func25, Tryz.ntmps25
      go_wp2_with fail
      generalize hW : (w.alloc (Obj.cells #[Value.bool false, Value.slice A1 n1 c1] 57)).alloc (Obj.cells #[Value.bool false, Value.slice A2 n2 c2] 57) = W at *
      obtain ⟨V2, V3, hs, HB⟩ := start2H w _ W H1.out H2.out hW
      have R4 := newRes W 57
      replace V2 := V2.keep (below_alloc (Below.refl W.heap.size W) (Obj.cells #[Value.bool false, Value.slice none 0 0] 57)); replace V3 := V3.keep (below_alloc (Below.refl W.heap.size W) (Obj.cells #[Value.bool false, Value.slice none 0 0] 57))
      replace HB := below_alloc HB (Obj.cells #[Value.bool false, Value.slice none 0 0] 57)
      clear hW H1 H2
      generalize hW : W.alloc (Obj.cells #[Value.bool false, Value.slice none 0 0] 57) = W1 at *
      clear hW
      rw [hs] at R4
      clear hs
      have va0 := V2.c0; have vb0 := V3.c0
      go_wp2_with fail
      clear va0 vb0
      replace V2 := V2.drew; replace V3 := V3.drew; replace HB := below_drew HB
      replace R4 := R4.drew
      generalize hWd : W1.drew = wd at *
      refine wp_region_F (fun w' => w'.cell? ⟨w.heap.size, 0, none⟩ = some (.bool false) ∧ w'.cell? ⟨w.heap.size, 1, none⟩ = some (.slice A1 n1 c1) ∧ w'.cell? ⟨w.heap.size + 1, 0, none⟩ = some (.bool false) ∧ w'.cell? ⟨w.heap.size + 1, 1, none⟩ = some (.slice A2 n2 c2)) [8] (by kernel_rfl) (by rw [hWd]; exact ⟨V2.c0, V2.c1, V3.c0, V3.c1⟩) (fun hHeld => ?_)
      rw [hWd] at hHeld ⊢
      refine wpF_t (i := 0) (oi := op90c51764) (v := ?_) rfl (by kernel_rfl) (fun _ _ _ h => h) (Or.inl ⟨by rfl, ?_⟩) hHeld ?_; rotate_left
      · intro w_ hSw_; (try dsimp only at hSw_); go_simp; (try with_reducible rfl)
      try go_frame
      refine wpF_t (i := 1) (oi := op14d018dc) (v := ?_) rfl (by kernel_rfl) (fun _ _ _ h => h) (Or.inl ⟨by rfl, ?_⟩) hHeld ?_; rotate_left
      · intro w_ hSw_; (try dsimp only at hSw_); go_simp; (try with_reducible rfl)
      try go_frame
      refine wpF_t (i := 2) (oi := op6a2f7186) (v := ?_) rfl (by kernel_rfl) (fun _ _ _ h => h) (Or.inl ⟨by rfl, ?_⟩) hHeld ?_; rotate_left
      · intro w_ hSw_; (try dsimp only at hSw_); go_simp; (try with_reducible rfl)
      try go_frame
      refine wpF_t (i := 3) (oi := op0b4f3af0) (v := ?_) rfl (by kernel_rfl) (fun _ _ _ h => h) (Or.inl ⟨by rfl, ?_⟩) hHeld ?_; rotate_left
      · intro w_ hSw_; (try dsimp only at hSw_); go_simp; (try with_reducible rfl)
      try go_frame
      refine wpF_t (i := 4) (oi := ope988eaf7) (v := ?_) rfl (by kernel_rfl) (fun _ _ _ h => h) (Or.inl ⟨by rfl, ?_⟩) hHeld ?_; rotate_left
      · intro w_ hSw_; (try dsimp only at hSw_); go_simp; (try with_reducible rfl)
      try go_frame
      refine wpF_t (i := 5) (oi := op70d3099d) (v := ?_) rfl (by kernel_rfl) (fun _ _ _ h => h) (Or.inl ⟨by rfl, ?_⟩) hHeld ?_; rotate_left
      · intro w_ hSw_; (try dsimp only at hSw_); go_simp; (try with_reducible rfl)
      try go_frame
      refine wpAnyF_one (i := 6) (by kernel_rfl) rfl (fun K hK => ?_)
      go_simp
      (go_at_call 44; (with_reducible refine (hplus_s E1.out E2.out sx sy _ V2.iz.out.sl.2.2 V3.iz.out.sl.2.2).mono ?_); rintro e w5 ⟨A5, c5, l5, rfl, L5, D5, E5, hb⟩; replace V2 := V2.keep hb; replace V3 := V3.keep hb; replace R4 := R4.keep hb; replace HB := below_step HB hb; clear hb)
      refine hK.out _ _ (by exact ⟨V2.c0, V2.c1, V3.c0, V3.c1⟩) (fun hHeld => ?_)
      clear hK K
      try go_frame
      refine wpAnyF_one (i := 7) (by kernel_rfl) rfl (fun K hK => ?_)
      go_simp
      (go_at_call 43; (with_reducible refine (htrim_n false A5 c5 l5 _ L5.out D5.out).mono ?_); rintro e w6 ⟨v, rfl, hv, hb⟩; obtain ⟨n6, A6, m6, k6, rfl, H6⟩ := hv.form; clear hv; replace V2 := V2.keep hb; replace V3 := V3.keep hb; replace R4 := R4.keep hb; replace HB := below_step HB hb; clear hb; have RRh := R4; obtain ⟨⟨u1, r1⟩, ⟨u2, u3, u4, r2⟩, r3, r4, r5⟩ := R4)
      refine hK.out _ _ (by exact ⟨V2.c0, V2.c1, V3.c0, V3.c1⟩) (fun hHeld => ?_)
      clear hK K
      try go_frame
      refine wpAnyF_st (i := 8) (by kernel_rfl) (by kernel_rfl) rfl (fun K hK => ?_)
      go_simp
      refine hK.out _ _ ?_
      clear hK K
      try go_frame
      refine wpAnyF_done (by kernel_rfl) ?_ _
      clear hHeld hWd
      go_wp2
      refine bodyPost_ret (v := .agg #[.bool n6, .slice A6 m6 k6]) (by simp [results, Tryz.results25, go_sem, r1, r2, r5]) rfl ⟨_, rfl, ?_, below_set2 HB (by omega) _ _⟩
      rw [show x + y = sgnd false (V B9 l5) by rw [E5.out]; have := HXY.out; rw [HSG.out]; split <;> omega]
      exact H6.out.res2 RRh _ _
    · go_enter Tryz.func25, Tryz.ntmps25
      go_wp2_with fail
      generalize hW : (w.alloc (Obj.cells #[Value.bool true, Value.slice A1 n1 c1] 57)).alloc (Obj.cells #[Value.bool true, Value.slice A2 n2 c2] 57) = W at *
      obtain ⟨V2, V3, hs, HB⟩ := start2H w _ W H1.out H2.out hW
      have R4 := newRes W 57
      replace V2 := V2.keep (below_alloc (Below.refl W.heap.size W) (Obj.cells #[Value.bool false, Value.slice none 0 0] 57)); replace V3 := V3.keep (below_alloc (Below.refl W.heap.size W) (Obj.cells #[Value.bool false, Value.slice none 0 0] 57))
      replace HB := below_alloc HB (Obj.cells #[Value.bool false, Value.slice none 0 0] 57)
      clear hW H1 H2
      generalize hW : W.alloc (Obj.cells #[Value.bool false, Value.slice none 0 0] 57) = W1 at *
      clear hW
      rw [hs] at R4
      clear hs
      have va0 := V2.c0; have vb0 := V3.c0
      go_wp2_with fail
      clear va0 vb0
      replace V2 := V2.drew; replace V3 := V3.drew; replace HB := below_drew HB
      replace R4 := R4.drew
      generalize hWd : W1.drew = wd at *
      refine wp_region_F (fun w' => w'.cell? ⟨w.heap.size, 0, none⟩ = some (.bool true) ∧ w'.cell? ⟨w.heap.size, 1, none⟩ = some (.slice A1 n1 c1) ∧ w'.cell? ⟨w.heap.size + 1, 0, none⟩ = some (.bool true) ∧ w'.cell? ⟨w.heap.size + 1, 1, none⟩ = some (.slice A2 n2 c2)) [8] (by kernel_rfl) (by rw [hWd]; exact ⟨V2.c0, V2.c1, V3.c0, V3.c1⟩) (fun hHeld => ?_)
      rw [hWd] at hHeld ⊢
      refine wpF_t (i := 0) (oi := op90c51764) (v := ?_) rfl (by kernel_rfl) (fun _ _ _ h => h) (Or.inl ⟨by rfl, ?_⟩) hHeld ?_; rotate_left
      · intro w_ hSw_; (try dsimp only at hSw_); go_simp; (try with_reducible rfl)
      try go_frame
      refine wpF_t (i := 1) (oi := op14d018dc) (v := ?_) rfl (by kernel_rfl) (fun _ _ _ h => h) (Or.inl ⟨by rfl, ?_⟩) hHeld ?_; rotate_left
      · intro w_ hSw_; (try dsimp only at hSw_); go_simp; (try with_reducible rfl)
      try go_frame
      refine wpF_t (i := 2) (oi := op6a2f7186) (v := ?_) rfl (by kernel_rfl) (fun _ _ _ h => h) (Or.inl ⟨by rfl, ?_⟩) hHeld ?_; rotate_left
      · intro w_ hSw_; (try dsimp only at hSw_); go_simp; (try with_reducible rfl)
      try go_frame
      refine wpF_t (i := 3) (oi := op0b4f3af0) (v := ?_) rfl (by kernel_rfl) (fun _ _ _ h => h) (Or.inl ⟨by rfl, ?_⟩) hHeld ?_; rotate_left
      · intro w_ hSw_; (try dsimp only at hSw_); go_simp; (try with_reducible rfl)
      try go_frame
      refine wpF_t (i := 4) (oi := ope988eaf7) (v := ?_) rfl (by kernel_rfl) (fun _ _ _ h => h) (Or.inl ⟨by rfl, ?_⟩) hHeld ?_; rotate_left
      · intro w_ hSw_; (try dsimp only at hSw_); go_simp; (try with_reducible rfl)
      try go_frame
      refine wpF_t (i := 5) (oi := op70d3099d) (v := ?_) rfl (by kernel_rfl) (fun _ _ _ h => h) (Or.inl ⟨by rfl, ?_⟩) hHeld ?_; rotate_left
      · intro w_ hSw_; (try dsimp only at hSw_); go_simp; (try with_reducible rfl)
      try go_frame
      refine wpAnyF_one (i := 6) (by kernel_rfl) rfl (fun K hK => ?_)
      go_simp
      (go_at_call 44; (with_reducible refine (hplus_s E1.out E2.out sx sy _ V2.iz.out.sl.2.2 V3.iz.out.sl.2.2).mono ?_); rintro e w5 ⟨A5, c5, l5, rfl, L5, D5, E5, hb⟩; replace V2 := V2.keep hb; replace V3 := V3.keep hb; replace R4 := R4.keep hb; replace HB := below_step HB hb; clear hb)
      refine hK.out _ _ (by exact ⟨V2.c0, V2.c1, V3.c0, V3.c1⟩) (fun hHeld => ?_)
      clear hK K
      try go_frame
      refine wpAnyF_one (i := 7) (by kernel_rfl) rfl (fun K hK => ?_)
      go_simp
      (go_at_call 43; (with_reducible refine (htrim_n true A5 c5 l5 _ L5.out D5.out).mono ?_); rintro e w6 ⟨v, rfl, hv, hb⟩; obtain ⟨n6, A6, m6, k6, rfl, H6⟩ := hv.form; clear hv; replace V2 := V2.keep hb; replace V3 := V3.keep hb; replace R4 := R4.keep hb; replace HB := below_step HB hb; clear hb; have RRh := R4; obtain ⟨⟨u1, r1⟩, ⟨u2, u3, u4, r2⟩, r3, r4, r5⟩ := R4)
      refine hK.out _ _ (by exact ⟨V2.c0, V2.c1, V3.c0, V3.c1⟩) (fun hHeld => ?_)
      clear hK K
      try go_frame
      refine wpAnyF_st (i := 8) (by kernel_rfl) (by kernel_rfl) rfl (fun K hK => ?_)
      go_simp
      refine hK.out _ _ ?_
      clear hK K
      try go_frame
      refine wpAnyF_done (by kernel_rfl) ?_ _
      clear hHeld hWd
      go_wp2
      refine bodyPost_ret (v := .agg #[.bool n6, .slice A6 m6 k6]) (by simp [results, Tryz.results25, go_sem, r1, r2, r5]) rfl ⟨_, rfl, ?_, below_set2 HB (by omega) _ _⟩
      rw [show x + y = sgnd true (V B9 l5) by rw [E5.out]; have := HXY.out; rw [HSG.out]; split <;> omega]
      exact H6.out.res2 RRh _ _
  · have hxy : ¬ (x < 0 ↔ y < 0) := fun h => hne (by rw [hna, hnb]; exact decide_eq_decide.2 h)
    have HXY := Lib.hid hxy
    have HSA : Hid (∀ m : Int, sgnd na m = if x < 0 then -m else m) := fun m => by unfold sgnd; rw [hna]; by_cases h : x < 0 <;> simp [h]
    have HSB : Hid (∀ m : Int, sgnd nb m = if y < 0 then -m else m) := fun m => by unfold sgnd; rw [hnb]; by_cases h : y < 0 <;> simp [h]
    have hbe : (na == nb) = false := by simpa using hne
    clear hxy hna hnb hne
    by_cases hle : (y.natAbs : Int) ≤ x.natAbs
    · have hc : 0 ≤ icmp (x.natAbs : Int) y.natAbs := (icmp_le0 _ _).2 hle
      go_enter Tryz.func25, Tryz.ntmps25
      go_wp2_with fail
      generalize hW : (w.alloc (Obj.cells #[Value.bool na, Value.slice A1 n1 c1] 57)).alloc (Obj.cells #[Value.bool nb, Value.slice A2 n2 c2] 57) = W at *
      obtain ⟨V2, V3, hs, HB⟩ := start2H w _ W H1.out H2.out hW
      have R4 := newRes W 57
      replace V2 := V2.keep (below_alloc (Below.refl W.heap.size W) (Obj.cells #[Value.bool false, Value.slice none 0 0] 57)); replace V3 := V3.keep (below_alloc (Below.refl W.heap.size W) (Obj.cells #[Value.bool false, Value.slice none 0 0] 57))
      replace HB := below_alloc HB (Obj.cells #[Value.bool false, Value.slice none 0 0] 57)
      clear hW H1 H2
      generalize hW : W.alloc (Obj.cells #[Value.bool false, Value.slice none 0 0] 57) = W1 at *
      clear hW
      rw [hs] at R4
      clear hs
      have va0 := V2.c0; have va1 := V2.c1; have vb0 := V3.c0; have vb1 := V3.c1
      go_wp2_with fail
      (with_reducible refine (hcompare_s E1.out E2.out _ V2.iz.out.sl.2.2 V3.iz.out.sl.2.2).mono ?_)
      rintro e w2 ⟨rfl, hb⟩
      replace V2 := V2.keep hb; replace V3 := V3.keep hb; replace R4 := R4.keep hb; replace HB := below_step HB hb; clear hb
      clear va0 va1 vb0 vb1
      generalize icmp (x.natAbs : Int) y.natAbs = cm at *
      go_wp2_with fail
      replace V2 := V2.drew; replace V3 := V3.drew; replace HB := below_drew HB
      replace R4 := R4.drew
      generalize hWd : w2.drew = wd at *
      refine wp_region_F (fun w' => w'.cell? ⟨w.heap.size, 0, none⟩ = some (.bool na) ∧ w'.cell? ⟨w.heap.size, 1, none⟩ = some (.slice A1 n1 c1) ∧ w'.cell? ⟨w.heap.size + 1, 0, none⟩ = some (.bool nb) ∧ w'.cell? ⟨w.heap.size + 1, 1, none⟩ = some (.slice A2 n2 c2)) [8] (by kernel_rfl) (by rw [hWd]; exact ⟨V2.c0, V2.c1, V3.c0, V3.c1⟩) (fun hHeld => ?_)
      rw [hWd] at hHeld ⊢
      refine wpF_t (i := 0) (oi := { dst := some 24, op := Go.Op.fieldAddr 57 (Go.Operand.tmp 2) 0, type := 0, pos := "whole.go:165", after := #[], guard := none }) (v := ?_) rfl (by kernel_rfl) (fun _ _ _ h => h) (Or.inl ⟨by rfl, ?_⟩) hHeld ?_; rotate_left
      · intro w_ hSw_; (try dsimp only at hSw_); go_simp; (try with_reducible rfl)
      try go_frame
      refine wpF_t (i := 1) (oi := { dst := some 25, op := Go.Op.load 4 (Go.Operand.tmp 24), type := 4, pos := "whole.go:165", after := #[{ on := 0, ground := Go.Ground.data }], guard := none }) (v := ?_) rfl (by kernel_rfl) (fun _ _ _ h => h) (Or.inl ⟨by rfl, ?_⟩) hHeld ?_; rotate_left
      · intro w_ hSw_; (try dsimp only at hSw_); go_simp; (try with_reducible rfl)
      try go_frame
      refine wpF_t (i := 2) (oi := { dst := some 26, op := Go.Op.fieldAddr 57 (Go.Operand.tmp 2) 1, type := 0, pos := "whole.go:165", after := #[], guard := none }) (v := ?_) rfl (by kernel_rfl) (fun _ _ _ h => h) (Or.inl ⟨by rfl, ?_⟩) hHeld ?_; rotate_left
      · intro w_ hSw_; (try dsimp only at hSw_); go_simp; (try with_reducible rfl)
      try go_frame
      refine wpF_t (i := 3) (oi := { dst := some 27, op := Go.Op.load 55 (Go.Operand.tmp 26), type := 55, pos := "whole.go:165", after := #[{ on := 2, ground := Go.Ground.data }], guard := none }) (v := ?_) rfl (by kernel_rfl) (fun _ _ _ h => h) (Or.inl ⟨by rfl, ?_⟩) hHeld ?_; rotate_left
      · intro w_ hSw_; (try dsimp only at hSw_); go_simp; (try with_reducible rfl)
      try go_frame
      refine wpF_t (i := 4) (oi := { dst := some 28, op := Go.Op.fieldAddr 57 (Go.Operand.tmp 3) 1, type := 0, pos := "whole.go:165", after := #[], guard := none }) (v := ?_) rfl (by kernel_rfl) (fun _ _ _ h => h) (Or.inl ⟨by rfl, ?_⟩) hHeld ?_; rotate_left
      · intro w_ hSw_; (try dsimp only at hSw_); go_simp; (try with_reducible rfl)
      try go_frame
      refine wpF_t (i := 5) (oi := { dst := some 29, op := Go.Op.load 55 (Go.Operand.tmp 28), type := 55, pos := "whole.go:165", after := #[{ on := 4, ground := Go.Ground.data }], guard := none }) (v := ?_) rfl (by kernel_rfl) (fun _ _ _ h => h) (Or.inl ⟨by rfl, ?_⟩) hHeld ?_; rotate_left
      · intro w_ hSw_; (try dsimp only at hSw_); go_simp; (try with_reducible rfl)
      try go_frame
      refine wpAnyF_one (i := 6) (by kernel_rfl) rfl (fun K hK => ?_)
      go_simp
      (go_at_call 46; (with_reducible refine (hminus_s E1.out E2.out sx (by omega) _ V2.iz.out.sl.2.2 V3.iz.out.sl.2.2).mono ?_); rintro e w5 ⟨A5, c5, l5, rfl, L5, D5, E5, hb⟩; replace V2 := V2.keep hb; replace V3 := V3.keep hb; replace R4 := R4.keep hb; replace HB := below_step HB hb; clear hb)
      refine hK.out _ _ (by exact ⟨V2.c0, V2.c1, V3.c0, V3.c1⟩) (fun hHeld => ?_)
      clear hK K
      try go_frame
      refine wpAnyF_one (i := 7) (by kernel_rfl) rfl (fun K hK => ?_)
      go_simp
      (go_at_call 43; (with_reducible refine (htrim_n na A5 c5 l5 _ L5.out D5.out).mono ?_); rintro e w6 ⟨v, rfl, hv, hb⟩; obtain ⟨n6, A6, m6, k6, rfl, H6⟩ := hv.form; clear hv; replace V2 := V2.keep hb; replace V3 := V3.keep hb; replace R4 := R4.keep hb; replace HB := below_step HB hb; clear hb; have RRh := R4; obtain ⟨⟨u1, r1⟩, ⟨u2, u3, u4, r2⟩, r3, r4, r5⟩ := R4)
      refine hK.out _ _ (by exact ⟨V2.c0, V2.c1, V3.c0, V3.c1⟩) (fun hHeld => ?_)
      clear hK K
      try go_frame
      refine wpAnyF_st (i := 8) (by kernel_rfl) (by kernel_rfl) rfl (fun K hK => ?_)
      go_simp
      refine hK.out _ _ ?_
      clear hK K
      try go_frame
      refine wpAnyF_done (by kernel_rfl) ?_ _
      clear hHeld hWd
      go_wp2
      refine bodyPost_ret (v := .agg #[.bool n6, .slice A6 m6 k6]) (by simp [results, Tryz.results25, go_sem, r1, r2, r5]) rfl ⟨_, rfl, ?_, below_set2 HB (by omega) _ _⟩
      rw [show x + y = sgnd na (V B9 l5) by rw [E5.out]; have := HXY.out; rw [HSA.out]; split <;> omega]
      exact H6.out.res2 RRh _ _
    · have hc : ¬ 0 ≤ icmp (x.natAbs : Int) y.natAbs := fun h => hle ((icmp_le0 _ _).1 h)
      go_enter Tryz.func25, Tryz.ntmps25
      go_wp2_with fail
      generalize hW : (w.alloc (Obj.cells #[Value.bool na, Value.slice A1 n1 c1] 57)).alloc (Obj.cells #[Value.bool nb, Value.slice A2 n2 c2] 57) = W at *
      obtain ⟨V2, V3, hs, HB⟩ := start2H w _ W H1.out H2.out hW
      have R4 := newRes W 57
      replace V2 := V2.keep (below_alloc (Below.refl W.heap.size W) (Obj.cells #[Value.bool false, Value.slice none 0 0] 57)); replace V3 := V3.keep (below_alloc (Below.refl W.heap.size W) (Obj.cells #[Value.bool false, Value.slice none 0 0] 57))
      replace HB := below_alloc HB (Obj.cells #[Value.bool false, Value.slice none 0 0] 57)
      clear hW H1 H2
      generalize hW : W.alloc (Obj.cells #[Value.bool false, Value.slice none 0 0] 57) = W1 at *
      clear hW
      rw [hs] at R4
      clear hs
      have va0 := V2.c0; have va1 := V2.c1; have vb0 := V3.c0; have vb1 := V3.c1
      go_wp2_with fail
      (with_reducible refine (hcompare_s E1.out E2.out _ V2.iz.out.sl.2.2 V3.iz.out.sl.2.2).mono ?_)
      rintro e w2 ⟨rfl, hb⟩
      replace V2 := V2.keep hb; replace V3 := V3.keep hb; replace R4 := R4.keep hb; replace HB := below_step HB hb; clear hb
      clear va0 va1 vb0 vb1
      generalize icmp (x.natAbs : Int) y.natAbs = cm at *
      go_wp2_with fail
      replace V2 := V2.drew; replace V3 := V3.drew; replace HB := below_drew HB
      replace R4 := R4.drew
      generalize hWd : w2.drew = wd at *
      refine wp_region_F (fun w' => w'.cell? ⟨w.heap.size, 0, none⟩ = some (.bool na) ∧ w'.cell? ⟨w.heap.size, 1, none⟩ = some (.slice A1 n1 c1) ∧ w'.cell? ⟨w.heap.size + 1, 0, none⟩ = some (.bool nb) ∧ w'.cell? ⟨w.heap.size + 1, 1, none⟩ = some (.slice A2 n2 c2)) [8] (by kernel_rfl) (by rw [hWd]; exact ⟨V2.c0, V2.c1, V3.c0, V3.c1⟩) (fun hHeld => ?_)
      rw [hWd] at hHeld ⊢
      refine wpF_t (i := 0) (oi := { dst := some 32, op := Go.Op.fieldAddr 57 (Go.Operand.tmp 3) 0, type := 0, pos := "whole.go:167", after := #[], guard := none }) (v := ?_) rfl (by kernel_rfl) (fun _ _ _ h => h) (Or.inl ⟨by rfl, ?_⟩) hHeld ?_; rotate_left
      · intro w_ hSw_; (try dsimp only at hSw_); go_simp; (try with_reducible rfl)
      try go_frame
      refine wpF_t (i := 1) (oi := { dst := some 33, op := Go.Op.load 4 (Go.Operand.tmp 32), type := 4, pos := "whole.go:167", after := #[{ on := 0, ground := Go.Ground.data }], guard := none }) (v := ?_) rfl (by kernel_rfl) (fun _ _ _ h => h) (Or.inl ⟨by rfl, ?_⟩) hHeld ?_; rotate_left
      · intro w_ hSw_; (try dsimp only at hSw_); go_simp; (try with_reducible rfl)
      try go_frame
      refine wpF_t (i := 2) (oi := { dst := some 34, op := Go.Op.fieldAddr 57 (Go.Operand.tmp 3) 1, type := 0, pos := "whole.go:167", after := #[], guard := none }) (v := ?_) rfl (by kernel_rfl) (fun _ _ _ h => h) (Or.inl ⟨by rfl, ?_⟩) hHeld ?_; rotate_left
      · intro w_ hSw_; (try dsimp only at hSw_); go_simp; (try with_reducible rfl)
      try go_frame
      refine wpF_t (i := 3) (oi := { dst := some 35, op := Go.Op.load 55 (Go.Operand.tmp 34), type := 55, pos := "whole.go:167", after := #[{ on := 2, ground := Go.Ground.data }], guard := none }) (v := ?_) rfl (by kernel_rfl) (fun _ _ _ h => h) (Or.inl ⟨by rfl, ?_⟩) hHeld ?_; rotate_left
      · intro w_ hSw_; (try dsimp only at hSw_); go_simp; (try with_reducible rfl)
      try go_frame
      refine wpF_t (i := 4) (oi := { dst := some 36, op := Go.Op.fieldAddr 57 (Go.Operand.tmp 2) 1, type := 0, pos := "whole.go:167", after := #[], guard := none }) (v := ?_) rfl (by kernel_rfl) (fun _ _ _ h => h) (Or.inl ⟨by rfl, ?_⟩) hHeld ?_; rotate_left
      · intro w_ hSw_; (try dsimp only at hSw_); go_simp; (try with_reducible rfl)
      try go_frame
      refine wpF_t (i := 5) (oi := { dst := some 37, op := Go.Op.load 55 (Go.Operand.tmp 36), type := 55, pos := "whole.go:167", after := #[{ on := 4, ground := Go.Ground.data }], guard := none }) (v := ?_) rfl (by kernel_rfl) (fun _ _ _ h => h) (Or.inl ⟨by rfl, ?_⟩) hHeld ?_; rotate_left
      · intro w_ hSw_; (try dsimp only at hSw_); go_simp; (try with_reducible rfl)
      try go_frame
      refine wpAnyF_one (i := 6) (by kernel_rfl) rfl (fun K hK => ?_)
      go_simp
      (go_at_call 46; (with_reducible refine (hminus_s E2.out E1.out sy (by omega) _ V3.iz.out.sl.2.2 V2.iz.out.sl.2.2).mono ?_); rintro e w5 ⟨A5, c5, l5, rfl, L5, D5, E5, hb⟩; replace V2 := V2.keep hb; replace V3 := V3.keep hb; replace R4 := R4.keep hb; replace HB := below_step HB hb; clear hb)
      refine hK.out _ _ (by exact ⟨V2.c0, V2.c1, V3.c0, V3.c1⟩) (fun hHeld => ?_)
      clear hK K
      try go_frame
      refine wpAnyF_one (i := 7) (by kernel_rfl) rfl (fun K hK => ?_)
      go_simp
      (go_at_call 43; (with_reducible refine (htrim_n nb A5 c5 l5 _ L5.out D5.out).mono ?_); rintro e w6 ⟨v, rfl, hv, hb⟩; obtain ⟨n6, A6, m6, k6, rfl, H6⟩ := hv.form; clear hv; replace V2 := V2.keep hb; replace V3 := V3.keep hb; replace R4 := R4.keep hb; replace HB := below_step HB hb; clear hb; have RRh := R4; obtain ⟨⟨u1, r1⟩, ⟨u2, u3, u4, r2⟩, r3, r4, r5⟩ := R4)
      refine hK.out _ _ (by exact ⟨V2.c0, V2.c1, V3.c0, V3.c1⟩) (fun hHeld => ?_)
      clear hK K
      try go_frame
      refine wpAnyF_st (i := 8) (by kernel_rfl) (by kernel_rfl) rfl (fun K hK => ?_)
      go_simp
      refine hK.out _ _ ?_
      clear hK K
      try go_frame
      refine wpAnyF_done (by kernel_rfl) ?_ _
      clear hHeld hWd
      go_wp2
      refine bodyPost_ret (v := .agg #[.bool n6, .slice A6 m6 k6]) (by simp [results, Tryz.results25, go_sem, r1, r2, r5]) rfl ⟨_, rfl, ?_, below_set2 HB (by omega) _ _⟩
      rw [show x + y = sgnd nb (V B9 l5) by rw [E5.out]; have := HXY.out; rw [HSB.out]; split <;> omega]
      exact H6.out.res2 RRh _ _
end Go.Proofs.YtiaeeclmlchpoaaGreatDoor

set_option linter.unusedVariables false
set_option linter.unusedSimpArgs false
namespace Go.Proofs.YtiaeeclmlchpoaaGreatDoor
open Go.RowKit

set_option maxRecDepth 100000 in
set_option maxHeartbeats 4000000 in
theorem hSub_c (x y : Int) (v1 v2 : Value) (w : World) (h1 : IsH w v1 x) (h2 : IsH w v2 y) (sx : (dg B9 x).length ≤ 1000000000000) (sy : (dg B9 y).length ≤ 1000000000000) :
    Calls Tryz.prog 96 #[v1, v2] w fun e w' => ∃ v, e = .returned v ∧ IsH w' v (x - y) ∧ Below w.heap.size w w' := by
  obtain ⟨na, A1, n1, c1, rfl, H1⟩ := h1.form
  obtain ⟨nb, A2, n2, c2, rfl, H2⟩ := h2.form
  clear h1 h2
  have sy' : (dg B9 (-y)).length ≤ 1000000000000 := by rw [dg_neg]; exact sy
  go_enter Tryz.func96, Tryz.ntmps96
  go_wp2_with fail
  generalize hW : (w.alloc (Obj.cells #[Value.bool na, Value.slice A1 n1 c1] 57)).alloc (Obj.cells #[Value.bool nb, Value.slice A2 n2 c2] 57) = W at *
  obtain ⟨V2, V3, hs, HB⟩ := start2H w _ W H1.out H2.out hW
  have R4 := newRes W 57
  replace V2 := V2.keep (below_alloc (Below.refl W.heap.size W) (Obj.cells #[Value.bool false, Value.slice none 0 0] 57)); replace V3 := V3.keep (below_alloc (Below.refl W.heap.size W) (Obj.cells #[Value.bool false, Value.slice none 0 0] 57))
  replace HB := below_alloc HB (Obj.cells #[Value.bool false, Value.slice none 0 0] 57)
  clear hW H1 H2
  generalize hW : W.alloc (Obj.cells #[Value.bool false, Value.slice none 0 0] 57) = W1 at *
  clear hW
  rw [hs] at R4
  clear hs
  replace V2 := V2.drew; replace V3 := V3.drew; replace HB := below_drew HB
  replace R4 := R4.drew
  generalize hWd : W1.drew = wd at *
  refine wp_region_F (fun w' => w'.cell? ⟨w.heap.size, 0, none⟩ = some (.bool na) ∧ w'.cell? ⟨w.heap.size, 1, none⟩ = some (.slice A1 n1 c1) ∧ w'.cell? ⟨w.heap.size + 1, 0, none⟩ = some (.bool nb) ∧ w'.cell? ⟨w.heap.size + 1, 1, none⟩ = some (.slice A2 n2 c2)) [4] (by kernel_rfl) (by rw [hWd]; exact ⟨V2.c0, V2.c1, V3.c0, V3.c1⟩) (fun hHeld => ?_)
  rw [hWd] at hHeld ⊢
  refine wpF_t (i := 0) (oi := { dst := some 5, op := Go.Op.load 57 (Go.Operand.tmp 2), type := 57, pos := "whole.go:171", after := #[], guard := none }) (v := ?_) rfl (by kernel_rfl) (fun _ _ _ h => h) (Or.inl ⟨by rfl, ?_⟩) hHeld ?_; rotate_left
  · intro w_ hSw_; (try dsimp only at hSw_); go_simp; (try with_reducible rfl)
  try go_frame
  refine wpF_t (i := 1) (oi := { dst := some 6, op := Go.Op.load 57 (Go.Operand.tmp 3), type := 57, pos := "whole.go:171", after := #[], guard := none }) (v := ?_) rfl (by kernel_rfl) (fun _ _ _ h => h) (Or.inl ⟨by rfl, ?_⟩) hHeld ?_; rotate_left
  · intro w_ hSw_; (try dsimp only at hSw_); go_simp; (try with_reducible rfl)
  try go_frame
  refine wpAnyF_one (i := 2) (by kernel_rfl) rfl (fun K hK => ?_)
  go_simp
  (go_at_call 103; (with_reducible refine (hNeg_c y _ _ (by exact V3.iz.out)).mono ?_); rintro e w5 ⟨v, rfl, hv, hb⟩; obtain ⟨n5, A5, m5, k5, rfl, H5⟩ := hv.form; clear hv; replace V2 := V2.keep hb; replace V3 := V3.keep hb; replace R4 := R4.keep hb; replace HB := below_step HB hb; clear hb)
  refine hK.out _ _ (by exact ⟨V2.c0, V2.c1, V3.c0, V3.c1⟩) (fun hHeld => ?_)
  clear hK K
  try go_frame
  refine wpAnyF_one (i := 3) (by kernel_rfl) rfl (fun K hK => ?_)
  go_simp
  (go_at_call 25; (with_reducible refine (hAdd_c x (-y) _ _ _ (by exact V2.iz.out) H5.out sx sy').mono ?_); rintro e w6 ⟨v, rfl, hv, hb⟩; obtain ⟨n6, A6, m6, k6, rfl, H6⟩ := hv.form; clear hv; replace V2 := V2.keep hb; replace V3 := V3.keep hb; replace R4 := R4.keep hb; replace HB := below_step HB hb; clear hb; have RRh := R4; obtain ⟨⟨u1, r1⟩, ⟨u2, u3, u4, r2⟩, r3, r4, r5⟩ := R4)
  refine hK.out _ _ (by exact ⟨V2.c0, V2.c1, V3.c0, V3.c1⟩) (fun hHeld => ?_)
  clear hK K
  try go_frame
  refine wpAnyF_st (i := 4) (by kernel_rfl) (by kernel_rfl) rfl (fun K hK => ?_)
  go_simp
  refine hK.out _ _ ?_
  clear hK K
  try go_frame
  refine wpAnyF_done (by kernel_rfl) ?_ _
  clear hHeld hWd
  go_wp2
  refine bodyPost_ret (v := .agg #[.bool n6, .slice A6 m6 k6]) (by simp [results, Tryz.results96, go_sem, r1, r2, r5]) rfl ⟨_, rfl, ?_, below_set2 HB (by omega) _ _⟩
  rw [Int.sub_eq_add_neg]
  exact H6.out.res2 RRh _ _

theorem of_step {n u : Nat} {l : List Int} (h : digs B9 n = l ++ digs B9 u) (hu : 0 < u) : digs B9 n = (l ++ [((u % 1000000000 : Nat) : Int)]) ++ digs B9 (u / 1000000000) := by
  rw [h, List.append_assoc]
  congr 1
  exact digs_pos B9two hu
set_option maxRecDepth 100000 in
set_option maxHeartbeats 4000000 in
theorem hOf_c (i : Int) (w : World) (h0 : -9223372036854775807 ≤ i) (h1 : i ≤ 9223372036854775807) :
    Calls Tryz.prog 26 #[.int .i64 i] w fun e w' => ∃ v, e = .returned v ∧ IsH w' v i ∧ Below w.heap.size w w' := by
  have HL : Hid ((digs B9 i.natAbs).length ≤ 8) := digs_len_le B9two (by rw [show (B9 ^ 8 : Nat) = 1000000000000000000000000000000000000000000000000000000000000000000000000 from rfl]; omega)
  by_cases hi : i < 0
  · have hw1 : IntKind.u64.wrap i = i + 18446744073709551616 := by rw [IntKind.wrap_u64]; omega
    have hw2 : IntKind.u64.wrap (-(i + 18446744073709551616)) = -i := by rw [IntKind.wrap_u64]; omega
    go_enter Tryz.func26, Tryz.ntmps26
    go_wp2_with fail
    have R2 := newRes w 57
    have HB := below_alloc (Below.refl w.heap.size w) (Obj.cells #[Value.bool false, Value.slice none 0 0] 57)
    have hsz : (w.alloc (Obj.cells #[Value.bool false, Value.slice none 0 0] 57)).heap.size = w.heap.size + 1 := by simp
    generalize hW : w.alloc (Obj.cells #[Value.bool false, Value.slice none 0 0] 57) = W at *
    clear hW
    go_loopg [3, 4] i.natAbs (fun g out uv wr => ∃ (u : Nat) (l : List Int), g = u ∧ uv = .int .u64 u ∧ u < 18446744073709551616 ∧ OwI wr (w.heap.size + 1) 90 .u32 out l ∧ w.heap.size + 1 ≤ wr.heap.size ∧ Hid (Below (w.heap.size + 1) W wr) ∧ Hid (digs B9 i.natAbs = l ++ digs B9 u))
    case atStart => exact ⟨i.natAbs, [], rfl, by congr 1; omega, by omega, OwI.nil _ _ _ _, by omega, Below.refl _ _, by show _ = _; rw [List.nil_append]⟩
    case round =>
      clear hsz
      obtain ⟨u, l, hgk, rfl, hu, HO, hB, HBB, HI⟩ := hrel
      have hll : l.length ≤ 8 := by
        have h2 := HL.out
        rw [HI.out, List.length_append] at h2
        omega
      have hLL : Hid ((l.length + 1) * 4 ≤ 140737488355328) := by show _ ≤ _; omega
      by_cases hu0 : 0 < u
      · have HS := Lib.hid (of_step HI.out hu0)
        have hui : 0 < (u : Int) := by omega
        obtain ⟨r, hr⟩ : ∃ r, u % 1000000000 = r := ⟨_, rfl⟩
        obtain ⟨q, hq⟩ : ∃ q, u / 1000000000 = q := ⟨_, rfl⟩
        rw [hr, hq] at HS
        have hr1 : (u : Int) % 1000000000 = (r : Int) := by omega
        have hq1 : (u : Int) / 1000000000 = (q : Int) := by omega
        have hr2 : r < 1000000000 := by omega
        have hqu : q < u := by omega
        clear hr hq HI
        go_wp2_with (at_builtin; refine app_I (w.heap.size + 1) rfl _ _ 55 90 .u32 4 rfl Tryz.underlying55 info_u32 (by decide) _ l _ HO rfl rfl HBB.out hB hLL.out ?_; intro v1 w1 HO1 HB1 hB1)
        go_roundg q
        case measure => omega
        case rel => exact ⟨q, _, rfl, by go_num, by omega, HO1, hB1, HB1, HS.out⟩
      · have hz : u = 0 := by omega
        subst hz
        have HE : Hid (dg B9 i = l) := by show _ = _; unfold dg; rw [HI.out, digs_zero, List.append_nil]
        clear HI
        obtain ⟨A1, c1, rfl, hs⟩ := HO.form
        have HSL := Lib.hid hs
        clear hs
        have RRh := R2.keepB HBB.out (by omega)
        have HBF := HB.trans (HBB.out.mono (by omega))
        have HRR := Lib.hid RRh
        clear R2 HB
        obtain ⟨⟨u1, r1⟩, ⟨u2, u3, u4, r2⟩, r3, r4, r5⟩ := RRh
        go_wp2
        refine bodyPost_ret (v := _) (by simp [results, Tryz.results26, go_sem, r1, r2, r5]; rfl) rfl ⟨_, rfl, ?_, below_set2 HBF (by omega) _ _⟩
        refine IsZ.res2 ⟨A1, c1, ?_, by rw [HE.out]; exact HSL.out⟩ HRR.out _ _
        first | (rw [HE.out]; done) | (rw [HE.out, decide_eq_true hi]; done) | (rw [HE.out]; rfl)
  · have hi0 : 0 ≤ i := by omega
    go_enter Tryz.func26, Tryz.ntmps26
    go_wp2_with fail
    have R2 := newRes w 57
    have HB := below_alloc (Below.refl w.heap.size w) (Obj.cells #[Value.bool false, Value.slice none 0 0] 57)
    have hsz : (w.alloc (Obj.cells #[Value.bool false, Value.slice none 0 0] 57)).heap.size = w.heap.size + 1 := by simp
    generalize hW : w.alloc (Obj.cells #[Value.bool false, Value.slice none 0 0] 57) = W at *
    clear hW
    go_loopg [3, 4] i.natAbs (fun g out uv wr => ∃ (u : Nat) (l : List Int), g = u ∧ uv = .int .u64 u ∧ u < 18446744073709551616 ∧ OwI wr (w.heap.size + 1) 90 .u32 out l ∧ w.heap.size + 1 ≤ wr.heap.size ∧ Hid (Below (w.heap.size + 1) W wr) ∧ Hid (digs B9 i.natAbs = l ++ digs B9 u))
    case atStart => exact ⟨i.natAbs, [], rfl, by congr 1; omega, by omega, OwI.nil _ _ _ _, by omega, Below.refl _ _, by show _ = _; rw [List.nil_append]⟩
    case round =>
      clear hsz
      obtain ⟨u, l, hgk, rfl, hu, HO, hB, HBB, HI⟩ := hrel
      have hll : l.length ≤ 8 := by
        have h2 := HL.out
        rw [HI.out, List.length_append] at h2
        omega
      have hLL : Hid ((l.length + 1) * 4 ≤ 140737488355328) := by show _ ≤ _; omega
      by_cases hu0 : 0 < u
      · have HS := Lib.hid (of_step HI.out hu0)
        have hui : 0 < (u : Int) := by omega
        obtain ⟨r, hr⟩ : ∃ r, u % 1000000000 = r := ⟨_, rfl⟩
        obtain ⟨q, hq⟩ : ∃ q, u / 1000000000 = q := ⟨_, rfl⟩
        rw [hr, hq] at HS
        have hr1 : (u : Int) % 1000000000 = (r : Int) := by omega
        have hq1 : (u : Int) / 1000000000 = (q : Int) := by omega
        have hr2 : r < 1000000000 := by omega
        have hqu : q < u := by omega
        clear hr hq HI
        go_wp2_with (at_builtin; refine app_I (w.heap.size + 1) rfl _ _ 55 90 .u32 4 rfl Tryz.underlying55 info_u32 (by decide) _ l _ HO rfl rfl HBB.out hB hLL.out ?_; intro v1 w1 HO1 HB1 hB1)
        go_roundg q
        case measure => omega
        case rel => exact ⟨q, _, rfl, by go_num, by omega, HO1, hB1, HB1, HS.out⟩
      · have hz : u = 0 := by omega
        subst hz
        have HE : Hid (dg B9 i = l) := by show _ = _; unfold dg; rw [HI.out, digs_zero, List.append_nil]
        clear HI
        obtain ⟨A1, c1, rfl, hs⟩ := HO.form
        have HSL := Lib.hid hs
        clear hs
        have RRh := R2.keepB HBB.out (by omega)
        have HBF := HB.trans (HBB.out.mono (by omega))
        have HRR := Lib.hid RRh
        clear R2 HB
        obtain ⟨⟨u1, r1⟩, ⟨u2, u3, u4, r2⟩, r3, r4, r5⟩ := RRh
        go_wp2
        refine bodyPost_ret (v := _) (by simp [results, Tryz.results26, go_sem, r1, r2, r5]; rfl) rfl ⟨_, rfl, ?_, below_set2 HBF (by omega) _ _⟩
        refine IsZ.res2 ⟨A1, c1, ?_, by rw [HE.out]; exact HSL.out⟩ HRR.out _ _
        first | (rw [HE.out]; done) | (rw [HE.out, decide_eq_true hi]; done) | (rw [HE.out]; rfl)
end Go.Proofs.YtiaeeclmlchpoaaGreatDoor

set_option linter.unusedVariables false
set_option linter.unusedSimpArgs false
namespace Go.Proofs.YtiaeeclmlchpoaaGreatDoor
open Go.RowKit

set_option maxRecDepth 100000 in
set_option maxHeartbeats 4000000 in
theorem hMul_c (x y : Int) (v1 v2 : Value) (w : World) (h1 : IsH w v1 x) (h2 : IsH w v2 y) (sx : (dg B9 x).length ≤ 1000000000) (sy : (dg B9 y).length ≤ 1000000000) :
    Calls Tryz.prog 81 #[v1, v2] w fun e w' => ∃ v, e = .returned v ∧ IsH w' v (x * y) ∧ Below w.heap.size w w' := by
  obtain ⟨na, A1, n1, c1, rfl, H1⟩ := h1.form
  obtain ⟨nb, A2, n2, c2, rfl, H2⟩ := h2.form
  clear h1 h2
  obtain ⟨hna, hn1, L1⟩ := H1.out.sl
  obtain ⟨hnb, hn2, L2⟩ := H2.out.sl
  have D1 := Lib.hid (dg_dg B9two x)
  have D2 := Lib.hid (dg_dg B9two y)
  have V1 := Lib.hid (dg_V B9two x)
  have V2 := Lib.hid (dg_V B9two y)
  generalize dg B9 x = a at *
  generalize dg B9 y = b at *
  subst hn1 hn2
  replace hna := hna.symm
  replace hnb := hnb.symm
  have HR : Hid (sgnd (na != nb) (V B9 a * V B9 b) = x * y) := by
    show _ = _
    rw [V1.out, V2.out, ← Int.natCast_mul, ← Int.natAbs_mul]; unfold sgnd
    rcases Int.lt_trichotomy x 0 with hx | hx | hx <;> rcases Int.lt_trichotomy y 0 with hy | hy | hy
    · have := Int.mul_pos_of_neg_of_neg hx hy
      have e1 : na = true := by rw [← hna]; simpa using hx
      have e2 : nb = true := by rw [← hnb]; simpa using hy
      subst e1 e2; simp; omega
    · subst hy; simp
    · have := Int.mul_neg_of_neg_of_pos hx hy
      have e1 : na = true := by rw [← hna]; simpa using hx
      have e2 : nb = false := by rw [← hnb]; simp; omega
      subst e1 e2; simp; omega
    · subst hx; simp
    · subst hx; simp
    · subst hx; simp
    · have := Int.mul_neg_of_pos_of_neg hx hy
      have e1 : na = false := by rw [← hna]; simp; omega
      have e2 : nb = true := by rw [← hnb]; simpa using hy
      subst e1 e2; simp; omega
    · subst hy; simp
    · have := Int.mul_pos hx hy
      have e1 : na = false := by rw [← hna]; simp; omega
      have e2 : nb = false := by rw [← hnb]; simp; omega
      subst e1 e2; simp; omega
  clear hna hnb V1 V2
  replace L1 := Lib.hid L1
  replace L2 := Lib.hid L2
  have hmk := fun W => run_make_row' (P := Tryz.prog) 55 90 (.int .u32 0) 4 Tryz.underlying55 info_u32 rfl .i64 .i64 (a.length + b.length + 1) (by omega) (by omega) W
  rw [show ((a.length + b.length + 1 : Nat) : Int) = (a.length : Int) + (b.length : Int) + 1 by omega] at hmk
  go_enter Tryz.func81, Tryz.ntmps81
  go_upto_region 1 with fail
  generalize hW : (w.alloc (Obj.cells #[Value.bool na, Value.slice A1 a.length c1] 57)).alloc (Obj.cells #[Value.bool nb, Value.slice A2 b.length c2] 57) = W0 at *
  obtain ⟨V2, V3, hs, HBW⟩ := start2H w _ W0 H1.out H2.out hW
  have R4 := newRes W0 57
  replace L1 := Lib.hid ((L1.out.below HBW).below (below_alloc (Below.refl W0.heap.size W0) (Obj.cells #[Value.bool false, Value.slice none 0 0] 57)))
  replace L2 := Lib.hid ((L2.out.below HBW).below (below_alloc (Below.refl W0.heap.size W0) (Obj.cells #[Value.bool false, Value.slice none 0 0] 57)))
  replace V2 := V2.keep (below_alloc (Below.refl W0.heap.size W0) (Obj.cells #[Value.bool false, Value.slice none 0 0] 57)); replace V3 := V3.keep (below_alloc (Below.refl W0.heap.size W0) (Obj.cells #[Value.bool false, Value.slice none 0 0] 57))
  replace HBW := below_alloc HBW (Obj.cells #[Value.bool false, Value.slice none 0 0] 57)
  clear hW H1 H2
  generalize hW : W0.alloc (Obj.cells #[Value.bool false, Value.slice none 0 0] 57) = W at *
  clear hW
  rw [hs] at R4
  clear hs
  have va1 := V2.c1; have vb1 := V3.c1
  go_upto_region 2 with fail
  clear hmk va1 vb1
  have HG0 := Lib.hid (BlkI.new W 90 .u32 (a.length + b.length + 1))
  have HB0 := below_alloc (Below.refl W.heap.size W) (Obj.cells (madeCells #[Value.int IntKind.u32 0] (a.length + b.length + 1)) 90)
  generalize hW : W.alloc (Obj.cells (madeCells #[Value.int IntKind.u32 0] (a.length + b.length + 1)) 90) = Wm at *
  clear hW
  have va1 := (V2.keep HB0).c1
  go_wp2_with fail
  clear va1
  go_loopg [26] a.length (fun g iv wr => ∃ (i : Nat) (l : List Int), g = a.length - i ∧ iv = .int .i64 i ∧ Hid (BlkI wr W.heap.size 90 .u32 l) ∧ Below W.heap.size W wr ∧ Hid (MulO a b l i))
  case atStart => exact ⟨0, _, rfl, rfl, HG0, HB0, MulO.first a b⟩
  case round =>
    clear HG0 HB0
    obtain ⟨i, l, hgk, rfl, HG, HB, HI⟩ := hrel
    obtain ⟨i1, i2, i3, i4⟩ := HI.out
    have I1 := Lib.hid i1
    have D3 := Lib.hid i2
    clear i1 i2 i3
    have W2 := V2.keep HB
    have W3 := V3.keep HB
    have vb1 := W3.c1
    have va0 := W2.c0
    have vb0 := W3.c0
    by_cases hi : i < a.length
    · obtain ⟨ba, oa, rfl, hla, hca⟩ := (L1.out.below HB).cell (j := i) hi
      have hi0 : (0 : Int) ≤ (i : Int) := by omega
      have hi1 : (i : Int) < (a.length : Int) := by omega
      obtain ⟨x1, x2⟩ := gd9 D1.out i
      obtain ⟨X, hX⟩ : ∃ X, gd a i = X := ⟨_, rfl⟩
      rw [hX] at hca x1 x2
      have HX := Lib.hid hX
      clear hX
      have HM := Lib.hid (MulI.first HI.out hi)
      clear HI
      go_wp2_with fail
      clear hca hla va0 vb0 vb1
      go_loopg [8, 34] b.length (fun g cv kv wq => ∃ (k : Nat) (cy : Int) (l : List Int), g = b.length - k ∧ kv = .int .i64 k ∧ cv = .int .u64 cy ∧ k ≤ b.length ∧ Hid (BlkI wq W.heap.size 90 .u32 l) ∧ Below W.heap.size W wq ∧ Hid (MulI a b l i k cy))
      case atStart => exact ⟨0, 0, l, rfl, rfl, rfl, by omega, HG, HB, HM⟩
      case round =>
        clear HG HB HM W2 W3 I1 D3
        obtain ⟨k, cy, l, hgk2, rfl, rfl, hkb, HG, HB, HI⟩ := hrel
        obtain ⟨j1, j2, j3, j4, -, j6, j7⟩ := HI.out
        have W3 := V3.keep HB
        have vb1 := W3.c1
        by_cases hk : k < b.length
        · have HST := Lib.hid (HI.out.step D1.out D2.out hkb)
          rw [HX.out] at HST
          obtain ⟨y1, y2⟩ := gd9 D2.out k
          obtain ⟨o1, o2⟩ := gd9 j2 (i + k)
          have q1 := HG.out.cell (j := i + k) (by omega)
          have q2 := HG.out.frozen (i + k)
          obtain ⟨bb, ob, rfl, hlb, hcb⟩ := (L2.out.below HB).cell (j := k) hk
          obtain ⟨Y, hY⟩ : ∃ Y, gd b k = Y := ⟨_, rfl⟩
          obtain ⟨O, hO⟩ : ∃ O, gd l (i + k) = O := ⟨_, rfl⟩
          rw [hY] at hcb HST y1 y2
          rw [hO] at q1 HST o1 o2
          have p1 : 0 ≤ X * Y := Int.mul_nonneg x1 y1
          have p2 : X * Y ≤ 999999999 * 999999999 := Int.mul_le_mul (by omega) (by omega) y1 (by omega)
          obtain ⟨p, hp⟩ : ∃ p, X * Y = p := ⟨_, rfl⟩
          rw [hp] at HST p1 p2
          have hk0 : (0 : Int) ≤ (k : Int) := by omega
          have hk1 : (k : Int) < (b.length : Int) := by omega
          have hk2 : (0 : Int) ≤ (i : Int) + (k : Int) := by omega
          have hk3 : (i : Int) + (k : Int) < (a.length : Int) + (b.length : Int) + 1 := by omega
          have hk4 : (i : Int) + (k : Int) < ((a.length + b.length + 1 : Nat) : Int) := by omega
          have hkn : i + k < a.length + b.length + 1 := by omega
          have e0 : ((i : Int) + (k : Int)).toNat = i + k := by omega
          clear j1 j2 HI hY hO
          go_wp2
          go_roundg (b.length - (k + 1))
          case measure => omega
          case rel => exact ⟨k + 1, _, _, rfl, by go_num, rfl, by omega, HG.out.set _ _, HB.setCell (p := ⟨_, _, none⟩) (Nat.le_refl _) _, HST.out⟩
        · have hkk : k = b.length := by omega
          subst hkk
          have hk1 : ¬ ((b.length : Int) < (b.length : Int)) := by omega
          clear hk j1 j2 hgk2
          go_wp2_with fail
          go_loopg [8, 12] 1 (fun g cv kv wq => ∃ (k : Nat) (cy : Int) (l : List Int), g = b.length + 1 - k ∧ kv = .int .i64 ((i : Int) + (k : Int)) ∧ cv = .int .u64 cy ∧ b.length ≤ k ∧ Hid (BlkI wq W.heap.size 90 .u32 l) ∧ Below W.heap.size W wq ∧ Hid (MulI a b l i k cy))
          case atStart => exact ⟨b.length, cy, l, by omega, rfl, rfl, by omega, HG, HB, HI⟩
          case round =>
            clear HG HB HI W3 vb1 j3 j4 j6 j7
            obtain ⟨k, cy, l, hgk2, rfl, rfl, hkb, HG, HB, HI⟩ := hrel
            obtain ⟨j1, j2, j3, j4, -, j6, j7⟩ := HI.out
            by_cases hcy : 0 < cy
            · have hkl := HI.out.place D1.out D2.out (.inr hcy)
              have HST := Lib.hid (HI.out.step D1.out D2.out hkl)
              rw [gd_ge (show b.length ≤ k from hkb), Int.mul_zero, Int.add_zero] at HST
              obtain ⟨o1, o2⟩ := gd9 j2 (i + k)
              have q1 := HG.out.cell (j := i + k) (by omega)
              have q2 := HG.out.frozen (i + k)
              obtain ⟨O, hO⟩ : ∃ O, gd l (i + k) = O := ⟨_, rfl⟩
              rw [hO] at q1 HST o1 o2
              have hk2 : (0 : Int) ≤ (i : Int) + (k : Int) := by omega
              have hk3 : (i : Int) + (k : Int) < (a.length : Int) + (b.length : Int) + 1 := by omega
              have hk4 : (i : Int) + (k : Int) < ((a.length + b.length + 1 : Nat) : Int) := by omega
              have hkn : i + k < a.length + b.length + 1 := by omega
              have e0 : ((i : Int) + (k : Int)).toNat = i + k := by omega
              clear j1 j2 HI hO
              go_wp2
              go_roundg (b.length + 1 - (k + 1))
              case measure => omega
              case rel => exact ⟨k + 1, _, _, rfl, by go_num, rfl, by omega, HG.out.set _ _, HB.setCell (p := ⟨_, _, none⟩) (Nat.le_refl _) _, HST.out⟩
            · obtain rfl : cy = 0 := by omega
              have HST := Lib.hid (HI.out.last hkb)
              clear HI j1 j2
              go_wp2
              go_roundg (a.length - (i + 1))
              case measure => omega
              case rel => exact ⟨i + 1, l, rfl, by go_num, HG, HB, HST.out⟩
    · have HE := Lib.hid (HI.out.last (by omega))
      have HL := Lib.hid (HG.out.slI (by have := I1.out; omega))
      have hll : a.length + b.length + 1 = l.length := I1.out.symm
      have RR := R4.keep HB
      have HBF := HBW.trans (HB.mono HBW.size)
      clear HI
      rw [hll]
      cases na <;> cases nb
      all_goals
        go_wp2_with fail
        (with_reducible refine (htrim_n _ _ _ l _ HL.out D3.out).mono ?_)
        rintro e w6 ⟨v, rfl, hv, hb⟩
        obtain ⟨n6, A6, m6, k6, rfl, H6⟩ := hv.form; clear hv
        replace RR := RR.keep hb
        replace HBF := below_step HBF hb
        clear hb
        have RRh := RR
        obtain ⟨⟨u1, r1⟩, ⟨u2, u3, u4, r2⟩, r3, r4, r5⟩ := RR
        go_wp2
        refine bodyPost_ret (v := .agg #[.bool n6, .slice A6 m6 k6]) (by simp [results, Tryz.results81, go_sem, r1, r2, r5]) rfl ⟨_, rfl, ?_, below_set2 HBF (by omega) _ _⟩
        rw [← HR.out, ← HE.out]
        exact H6.out.res2 RRh _ _
end Go.Proofs.YtiaeeclmlchpoaaGreatDoor

set_option linter.unusedVariables false
set_option linter.unusedSimpArgs false
namespace Go.Proofs.YtiaeeclmlchpoaaGreatDoor
open Go.RowKit

theorem startH (w : World) {na : Bool} {A : Option Addr} {n c : Nat} {z : Int} (t : TypeId) (W : World) (h : IsH w (.agg #[.bool na, .slice A n c]) z)
    (hW : (w.alloc (.cells #[.bool na, .slice A n c] t)).alloc (.cells #[.bool false, .slice none 0 0] t) = W) :
    VH W w.heap.size na A n c z ∧ Res2 W (w.heap.size + 1) ∧ W.heap.size = w.heap.size + 1 + 1 ∧ Below w.heap.size w W := by
  have h1 := VX.new w t h
  have h2 := newRes (w.alloc (.cells #[.bool na, .slice A n c] t)) t
  have e : (w.alloc (.cells #[.bool na, .slice A n c] t)).heap.size = w.heap.size + 1 := by simp
  rw [e] at h2
  subst hW
  exact ⟨h1.keep (below_alloc (Below.refl _ _) _), h2, by simp, below_alloc (below_alloc (Below.refl _ _) _) _⟩
theorem set_gd {l : List Int} {k : Nat} (h : k < l.length) (x : Int) : gd (l.set k x) k = x := by unfold gd; simp [h]
set_option maxRecDepth 100000 in
set_option maxHeartbeats 4000000 in
theorem hSmall_c (z d : Int) (v : Value) (w : World) (h : IsH w v z) (hd1 : 1 ≤ d) (hd2 : d ≤ 1000000000) (sz : (dg B9 z).length ≤ 1000000000) :
    Calls Tryz.prog 80 #[v, .int .i64 d] w fun e w' => ∃ v', e = .returned (.tuple #[v', .int .i64 (z % d)]) ∧ IsH w' v' (z / d) ∧ Below w.heap.size w w' := by
  obtain ⟨na, A, n, c, rfl, H⟩ := h.form
  clear h
  obtain ⟨hna, hn, L1⟩ := H.out.sl
  have D1 := Lib.hid (dg_dg B9two z)
  have V1 := Lib.hid (dg_V B9two z)
  have LQ : Hid (∀ s, (dg B9 (sgnd s ((z.natAbs : Int) / d))).length ≤ 1000000000) := fun s => by
    have h1 : ((z.natAbs : Int) / d).natAbs ≤ (z.natAbs : Int).natAbs := Int.natAbs_ediv_le_natAbs _ _
    unfold dg at sz ⊢
    rw [sgnd_abs]
    have h2 := digs_len_mono B9two h1
    rw [Int.natAbs_natCast] at h2
    omega
  generalize dg B9 z = a at *
  subst hn
  have HNA := Lib.hid hna
  clear hna
  replace L1 := Lib.hid L1
  have hmk := fun W => run_make_row' (P := Tryz.prog) 55 90 (.int .u32 0) 4 Tryz.underlying55 info_u32 rfl .i64 .i64 a.length (by omega) (by omega) W
  go_enter Tryz.func80, Tryz.ntmps80
  go_upto_region 1 with fail
  generalize hW : (w.alloc (Obj.cells #[Value.bool na, Value.slice A a.length c] 57)).alloc (Obj.cells #[Value.bool false, Value.slice none 0 0] 57) = W at *
  obtain ⟨V2, R4, hs, HBW⟩ := startH w _ W H.out hW
  replace L1 := Lib.hid (L1.out.below HBW)
  clear hW H hs
  have va1 := V2.c1
  go_upto_region 2 with fail
  clear hmk va1
  have HG0 := Lib.hid (BlkI.new W 90 .u32 a.length)
  have HB0 := below_alloc (Below.refl W.heap.size W) (Obj.cells (madeCells #[Value.int IntKind.u32 0] a.length) 90)
  generalize hW : W.alloc (Obj.cells (madeCells #[Value.int IntKind.u32 0] a.length) 90) = Wm at *
  clear hW
  have va1 := (V2.keep HB0).c1
  go_wp2_with fail
  clear va1
  have hud : IntKind.u64.wrap d = d := by rw [IntKind.wrap_u64]; omega
  go_loopg [7, 8] a.length (fun g rv iv wr => ∃ (k : Nat) (r : Int) (l : List Int), g = k ∧ iv = .int .i64 ((k : Int) - 1) ∧ rv = .int .u64 r ∧ Hid (BlkI wr W.heap.size 90 .u32 l) ∧ Below W.heap.size W wr ∧ Hid (PartI a l d k r))
  case atStart => exact ⟨a.length, 0, _, rfl, rfl, rfl, HG0, HB0, PartI.first a d hd1⟩
  case round =>
    clear HG0 HB0
    obtain ⟨k, r, l, hgk, rfl, rfl, HG, HB0, HI⟩ := hrel
    obtain ⟨i1, i2, i3, i4, -, i6⟩ := HI.out
    have W2 := V2.keep HB0
    have va0 := W2.c0
    have va1 := W2.c1
    rcases Nat.eq_zero_or_pos k with rfl | hk0
    · obtain ⟨e1, e2⟩ := HI.out.last
      have E1 := Lib.hid e1
      have E2 := Lib.hid e2
      have D3 := Lib.hid i2
      have HL := Lib.hid (HG.out.slI (by omega))
      have hll : l.length = a.length := i1
      clear HI e1 e2 i1 i2 HG
      replace R4 := R4.keep HB0
      have HB := HBW.trans (HB0.mono HBW.size)
      replace V2 := W2
      clear HBW HB0 W2 L1
      rw [← hll]
      clear hll
      rw [V1.out] at E1 E2
      go_wp2_with fail
      (with_reducible refine (htrim_n _ _ _ l _ HL.out D3.out).mono ?_)
      rintro e w6 ⟨v, rfl, hv, hb⟩
      obtain ⟨n6, A6, m6, k6, rfl, H6⟩ := hv.form; clear hv
      have R6 := (R4.keep hb).2.2.2.2
      replace V2 := V2.keep hb; replace R4 := R4.keep hb; replace HB := below_step HB hb
      clear hb va0 va1 HL D3
      rw [E1.out] at H6
      have HQ := H6
      have V10 := VX.new w6 57 H6.out
      replace V2 := V2.keep (below_alloc (Below.refl w6.heap.size w6) (Obj.cells #[Value.bool n6, Value.slice A6 m6 k6] 57)); replace R4 := R4.keep (below_alloc (Below.refl w6.heap.size w6) (Obj.cells #[Value.bool n6, Value.slice A6 m6 k6] 57)); replace HB := below_step HB (below_alloc (Below.refl w6.heap.size w6) (Obj.cells #[Value.bool n6, Value.slice A6 m6 k6] 57))
      have va0 := V2.c0
      have HZ : Hid ((if na then -z else z) = (z.natAbs : Int)) := by
        show _ = _
        rw [HNA.out]; by_cases h : z < 0 <;> simp [h] <;> omega
      obtain ⟨b10, hb10⟩ : ∃ b, w6.heap.size = b := ⟨_, rfl⟩
      rw [hb10] at V10
      have hnb : w.heap.size + 1 < b10 := by rw [← hb10]; exact R6
      have hrd : r < d := i4
      go_upto_region 10 with fail
      generalize hW : w6.alloc (Obj.cells #[Value.bool n6, Value.slice A6 m6 k6] 57) = W6 at *
      clear hW
      try rw [hb10]
      clear hb10
      have hwr : IntKind.i64.wrap r = r := by rw [IntKind.wrap_i64]; omega
      by_cases hneg : na = true
      · by_cases hr : 0 < r
        · have HR : Hid (z / d = sgnd true ((z.natAbs : Int) / d) - 1 ∧ z % d = d - r) := by
            have e := neg_div1 (n := (z.natAbs : Int)) hd1 rfl rfl (by rw [← E2.out]; omega)
            have hz := HZ.out
            rw [if_pos hneg] at hz
            have hz2 : -(z.natAbs : Int) = z := by omega
            rw [hz2] at e
            refine ⟨?_, by rw [e.2, E2.out]⟩
            rw [e.1]; show _ = -((z.natAbs : Int) / d) - 1; omega
          subst hneg
          have hwd : IntKind.i64.wrap (d - r) = d - r := by rw [IntKind.wrap_i64]; omega
          go_wp2_with fail
          replace V10 := V10.drew
          replace R4 := R4.drew
          replace HB := below_drew HB
          generalize hWd : W6.drew = wd at *
          refine wp_region_F (fun w' => w'.cell? ⟨b10, 0, none⟩ = some (.bool n6) ∧ w'.cell? ⟨b10, 1, none⟩ = some (.slice A6 m6 k6)) [7, 8] (by kernel_rfl) (by rw [hWd]; exact ⟨V10.c0, V10.c1⟩) (fun hHeld => ?_)
          rw [hWd] at hHeld ⊢
          refine wpF_t (i := 0) (oi := { dst := some 54, op := Go.Op.load 57 (Go.Operand.tmp 10), type := 57, pos := "whole.go:252", after := #[], guard := none }) (v := ?_) rfl (by kernel_rfl) (fun _ _ _ h => h) (Or.inl ⟨by rfl, ?_⟩) hHeld ?_; rotate_left
          · intro w_ hSw_; (try dsimp only at hSw_); go_simp; (try with_reducible rfl)
          try go_frame
          refine wpF_p (i := 3) (oi := { dst := some 57, op := Go.Op.move (Go.Operand.tmp 1), type := 3, pos := "whole.go:252", after := #[{ on := 7, ground := Go.Ground.gcOnly Go.Departure.lateStores }], guard := none }) (v := ?_) rfl (by kernel_rfl) (fun _ _ _ h => h) (Or.inl ⟨by rfl, ?_⟩) hHeld ?_; rotate_left
          · intro w_ hSw_; (try dsimp only at hSw_); go_simp; (try with_reducible rfl)
          try go_frame
          refine wpF_p (i := 4) (oi := { dst := some 58, op := Go.Op.move (Go.Operand.tmp 7), type := 85, pos := "whole.go:252", after := #[{ on := 7, ground := Go.Ground.gcOnly Go.Departure.lateStores }], guard := none }) (v := ?_) rfl (by kernel_rfl) (fun _ _ _ h => h) (Or.inl ⟨by rfl, ?_⟩) hHeld ?_; rotate_left
          · intro w_ hSw_; (try dsimp only at hSw_); go_simp; (try with_reducible rfl)
          try go_frame
          refine wpF_p (i := 5) (oi := { dst := some 59, op := Go.Op.convert 85 3 (Go.Operand.tmp 58), type := 3, pos := "whole.go:252", after := #[{ on := 4, ground := Go.Ground.data }, { on := 7, ground := Go.Ground.gcOnly Go.Departure.lateStores }], guard := none }) (v := ?_) rfl (by kernel_rfl) (fun _ _ _ h => h) (Or.inl ⟨by rfl, ?_⟩) hHeld ?_; rotate_left
          · intro w_ hSw_; (try dsimp only at hSw_); go_simp; (try with_reducible rfl)
          try go_frame
          refine wpF_p (i := 6) (oi := { dst := some 60, op := Go.Op.binOp Go.BinOp.sub 3 (Go.Operand.tmp 57) (Go.Operand.tmp 59) 3, type := 3, pos := "whole.go:252", after := #[{ on := 3, ground := Go.Ground.data }, { on := 5, ground := Go.Ground.data }, { on := 7, ground := Go.Ground.gcOnly Go.Departure.lateStores }], guard := none }) (v := ?_) rfl (by kernel_rfl) (fun _ _ _ h => h) (Or.inl ⟨by rfl, ?_⟩) hHeld ?_; rotate_left
          · intro w_ hSw_; (try dsimp only at hSw_); go_simp; (try with_reducible rfl)
          try go_frame
          refine wpAnyF_one (i := 1) (by kernel_rfl) rfl (fun K hK => ?_)
          go_simp
          (go_at_call 26; (with_reducible refine (hOf_c 1 _ (by omega) (by omega)).mono ?_); rintro e w7 ⟨v, rfl, hv, hb⟩; obtain ⟨n7, A7, m7, k7, rfl, H7⟩ := hv.form; clear hv; replace V10 := V10.keep hb; replace R4 := R4.keep hb; replace HB := below_step HB hb; clear hb)
          refine hK.out _ _ (by exact ⟨V10.c0, V10.c1⟩) (fun hHeld => ?_)
          clear hK K
          try go_frame
          refine wpAnyF_one (i := 2) (by kernel_rfl) rfl (fun K hK => ?_)
          go_simp
          (go_at_call 96; (with_reducible refine (hSub_c (sgnd true ((z.natAbs : Int) / d)) 1 _ _ _ (by exact V10.iz.out) H7.out (by have := LQ.out true; omega) len_one).mono ?_); rintro e w8 ⟨v, rfl, hv, hb⟩; obtain ⟨n8, A8, m8, k8, rfl, H8⟩ := hv.form; clear hv; replace V10 := V10.keep hb; replace R4 := R4.keep hb; replace HB := below_step HB hb; clear hb; have RRh := R4; obtain ⟨⟨u1, r1⟩, ⟨u2, u3, u4, r2⟩, r3, r4, r5⟩ := R4)
          refine hK.out _ _ (by exact ⟨V10.c0, V10.c1⟩) (fun hHeld => ?_)
          clear hK K
          try go_frame
          refine wpAnyF_st (i := 7) (by kernel_rfl) (by kernel_rfl) rfl (fun K hK => ?_)
          go_simp
          refine hK.out _ _ ?_
          clear hK K
          try go_frame
          refine wpAnyF_st (i := 8) (by kernel_rfl) (by kernel_rfl) rfl (fun K hK => ?_)
          go_simp
          refine hK.out _ _ ?_
          clear hK K
          try go_frame
          refine wpAnyF_done (by kernel_rfl) ?_ _
          clear hHeld hWd
          go_wp2
          refine bodyPost_ret (v := .tuple #[.agg #[.bool n8, .slice A8 m8 k8], .int .i64 (d - r)]) (by simp [results, Tryz.results80, go_sem, r1, r2, r5]) rfl ⟨_, by rw [HR.out.2], ?_, below_set2 HB (by omega) _ _⟩
          rw [HR.out.1]
          exact H8.out.res2 RRh _ _
        · have hr0 : r = 0 := by omega
          have HR : Hid (z / d = sgnd na ((z.natAbs : Int) / d) ∧ z % d = r) := by
            have e := neg_div0 (n := (z.natAbs : Int)) hd1 rfl rfl (by rw [← E2.out]; omega)
            have hz := HZ.out
            rw [if_pos hneg] at hz
            have hz2 : -(z.natAbs : Int) = z := by omega
            rw [hz2] at e
            refine ⟨?_, by rw [e.2, hr0]⟩
            rw [e.1, hneg]; rfl
          subst hneg
          clear hr0
          have va0 := V2.c0
          have vm0 := V10.c0; have vm1 := V10.c1
          have RRh := R4
          obtain ⟨⟨u1, r1⟩, ⟨u2, u3, u4, r2⟩, r3, r4, r5⟩ := R4
          have hnb2 : b10 ≠ w.heap.size + 1 := by omega
          go_wp2
          refine bodyPost_ret (v := .tuple #[.agg #[.bool n6, .slice A6 m6 k6], .int .i64 r]) (by simp [results, Tryz.results80, go_sem, r1, r2, r5]) rfl ⟨_, by rw [HR.out.2], ?_, below_set2 HB (by omega) _ _⟩
          rw [HR.out.1]
          exact V10.iz.out.res2 RRh _ _
      · have HR : Hid (z / d = sgnd na ((z.natAbs : Int) / d) ∧ z % d = r) := by
          have hz := HZ.out
          rw [if_neg hneg] at hz
          have hf : na = false := by simpa using hneg
          rw [hf, ← hz]
          exact ⟨rfl, by rw [E2.out, ← hz]⟩
        have hf : na = false := by simpa using hneg
        subst hf
        have va0 := V2.c0
        have vm0 := V10.c0; have vm1 := V10.c1
        have RRh := R4
        obtain ⟨⟨u1, r1⟩, ⟨u2, u3, u4, r2⟩, r3, r4, r5⟩ := R4
        have hnb2 : b10 ≠ w.heap.size + 1 := by omega
        go_wp2
        refine bodyPost_ret (v := .tuple #[.agg #[.bool n6, .slice A6 m6 k6], .int .i64 r]) (by simp [results, Tryz.results80, go_sem, r1, r2, r5]) rfl ⟨_, by rw [HR.out.2], ?_, below_set2 HB (by omega) _ _⟩
        rw [HR.out.1]
        exact V10.iz.out.res2 RRh _ _
    · obtain ⟨k, rfl⟩ : ∃ m, k = m + 1 := ⟨k - 1, by omega⟩
      have HST := Lib.hid (HI.out.step D1.out)
      have hq := gd9 HST.out.2.1 k
      rw [set_gd (by omega)] at hq
      obtain ⟨hq0, hq1⟩ := hq
      obtain ⟨x1, x2⟩ := gd9 D1.out k
      obtain ⟨ba, oa, rfl, hla, hca⟩ := (L1.out.below HB0).cell (j := k) (by omega)
      have q1 := HG.out.cell (j := k) (by omega)
      have q2 := HG.out.frozen k
      obtain ⟨X, hX⟩ : ∃ X, gd a k = X := ⟨_, rfl⟩
      rw [hX] at hca x1 x2 HST hq0 hq1
      obtain ⟨S, hS⟩ : ∃ S, r * 1000000000 + X = S := ⟨_, rfl⟩
      have hS0 : 0 ≤ S := by omega
      have hS1 : S < 1000000000000000000 := by omega
      rw [hS] at HST hq0 hq1
      have hr0 := Int.emod_nonneg S (show d ≠ 0 by omega)
      have hr1 := Int.emod_lt_of_pos S (show 0 < d by omega)
      have hd0 : ¬ d = 0 := by omega
      have hk1 : (k : Int) < (a.length : Int) := by omega
      have hki : (0 : Int) ≤ (k : Int) := by omega
      rw [show ((k + 1 : Nat) : Int) - 1 = (k : Int) by omega]
      clear i1 i2 HI hX
      go_wp2
      go_roundg k
      case measure => omega
      case rel => exact ⟨k, _, _, rfl, by go_num, rfl, HG.out.set _ _, HB0.setCell (p := ⟨_, _, none⟩) (Nat.le_refl _) _, HST.out⟩
end Go.Proofs.YtiaeeclmlchpoaaGreatDoor

set_option linter.unusedVariables false
set_option linter.unusedSimpArgs false
namespace Go.Proofs.YtiaeeclmlchpoaaGreatDoor
open Go.RowKit

abbrev op3e253f66 : Oper := { dst := some 17, op := Go.Op.move (Go.Operand.tmp 35), type := 108, pos := "step.go:66", after := #[{ on := 17, ground := Go.Ground.data }], guard := none }
abbrev ope728bf13 : Oper := { dst := some 36, op := Go.Op.extract (Go.Operand.tmp 17) 0, type := 57, pos := "step.go:66", after := #[{ on := 18, ground := Go.Ground.data }], guard := none }
abbrev op6f71d9af : Oper := { dst := some 37, op := Go.Op.extract (Go.Operand.tmp 17) 1, type := 3, pos := "step.go:66", after := #[{ on := 18, ground := Go.Ground.data }, { on := 22, ground := Go.Ground.gcOnly Go.Departure.lateStores }], guard := none }
attribute [local go_sem] op3e253f66 ope728bf13 op6f71d9af
/-- A map and a number come in: their blocks. -/
theorem startMH (w : World) {md : Int} {A : Option Addr} {n c : Nat} {A' : Option Addr} {n' c' : Nat} {M : Mp} {nz : Bool} {Az : Option Addr} {mz kz : Nat} {z : Int} (t t' : TypeId) (W : World)
    (hM : IsM w (.agg #[.int .i64 md, .slice A n c, .slice A' n' c']) M) (hz : IsH w (.agg #[.bool nz, .slice Az mz kz]) z)
    (hW : (w.alloc (.cells #[.int .i64 md, .slice A n c, .slice A' n' c'] t)).alloc (.cells #[.bool nz, .slice Az mz kz] t') = W) :
    VM W w.heap.size md A n c A' n' c' M ∧ VH W (w.heap.size + 1) nz Az mz kz z ∧ W.heap.size = w.heap.size + 1 + 1 ∧ Below w.heap.size w W := by
  have h1 := VM.new w t hM
  have h2 := VX.new (w.alloc (.cells #[.int .i64 md, .slice A n c, .slice A' n' c'] t)) t' (hz.below (below_alloc (Below.refl _ _) _))
  have e : (w.alloc (.cells #[.int .i64 md, .slice A n c, .slice A' n' c'] t)).heap.size = w.heap.size + 1 := by simp
  rw [e] at h2
  subst hW
  exact ⟨h1.keep (below_alloc (Below.refl _ _) _), h2, by simp, below_alloc (below_alloc (Below.refl _ _) _) _⟩
set_option maxRecDepth 100000 in
set_option maxHeartbeats 8000000 in
theorem Next_c (M : Mp) (z : Int) (v u : Value) (w : World) (hM : IsM w v M) (hz : IsH w u z) (hok : okM M) (sz : (dg B9 z).length ≤ 900000000) :
    Calls Tryz.prog 60 #[v, u] w fun e w' => ∃ v r, e = .returned (.tuple #[v, .int .i64 r]) ∧ IsH w' v (stepZ M z) ∧ r = z % M.mod ∧ Below w.heap.size w w' := by
  obtain ⟨md, A, n, c, A', n', c', rfl, HM⟩ := hM.form
  obtain ⟨nz, Az, mz, kz, rfl, HZ⟩ := hz.form
  obtain ⟨emd, en, en', s1, s2⟩ := HM.out.sl
  obtain ⟨m2, m12, hl1, hl2, hrow⟩ := hok
  rw [← emd] at m2 m12 hl1 hl2 hrow
  obtain ⟨r, hr⟩ : ∃ r : Nat, z % md = r := ⟨(z % md).toNat, by have := Int.emod_nonneg z (show md ≠ 0 by omega); omega⟩
  have hrl : (r : Int) < md := by have := Int.emod_lt_of_pos z (show 0 < md by omega); omega
  have hrow := hrow r hrl
  obtain ⟨bA, oA, rfl, hlA, cA⟩ := s1.cell (j := r) (by omega)
  obtain ⟨bB, oB, rfl, hlB, cB⟩ := s2.cell (j := r) (by omega)
  have HST : Hid (stepZ M z = (gd M.mul r * z + gd M.add r) / md) := by show _ = _; unfold stepZ; rw [← emd, hr, Int.toNat_natCast]
  obtain ⟨x, hx⟩ : ∃ x, gd M.mul r = x := ⟨_, rfl⟩
  obtain ⟨y, hy⟩ : ∃ y, gd M.add r = y := ⟨_, rfl⟩
  obtain ⟨x1, x2, y1, y2, -⟩ := hrow
  rw [hx, Int.mul_comm] at HST
  rw [hx] at cA x1 x2
  rw [hy] at cB HST y1 y2
  have CA : CL w bA (oA + r) (.int .i64 x) := ⟨cA, hlA⟩
  have CB : CL w bB (oB + r) (.int .i64 y) := ⟨cB, hlB⟩
  have LX : Hid ((dg B9 x).length ≤ 2) := len_small (by omega) (by omega)
  have LY : Hid ((dg B9 y).length ≤ 2) := len_small (by omega) (by omega)
  have LXZ : Hid ((dg B9 (z * x)).length ≤ 900000002) := by have := len_mul B9two z x; have := LX.out; show _ ≤ _; omega
  have LS : Hid ((dg B9 (z * x + y)).length ≤ 1000000000) := by have := len_add B9two (z * x) y; have := LXZ.out; have := LY.out; show _ ≤ _; omega
  have LZ : Hid ((dg B9 z).length ≤ 900000000) := sz
  have hi0 : (0 : Int) ≤ (r : Int) := by omega
  have hrn : (r : Int) < (n : Int) := by omega
  have hrn' : (r : Int) < (n' : Int) := by omega
  have HRZ : Hid (z % md = r) := hr
  have HRM : Hid ((r : Int) = z % M.mod) := by show _ = _; rw [← emd, hr]
  clear hx hy cA cB hM hz s1 s2 hlA hlB hl1 hl2 en en' emd hr sz hrl
  go_enter Tryz.func60, Tryz.ntmps60
  go_upto_region 1 with fail
  generalize hW : (w.alloc (Obj.cells #[Value.int .i64 md, Value.slice (some ⟨bA, oA, none⟩) n c, Value.slice (some ⟨bB, oB, none⟩) n' c'] 24)).alloc (Obj.cells #[Value.bool nz, Value.slice Az mz kz] 57) = W at *
  obtain ⟨VM_, VZ, hs, HB⟩ := startMH w _ _ W HM.out HZ.out hW
  replace CA := CA.keep HB
  replace CB := CB.keep HB
  have RR := newRes W 57
  replace VM_ := VM_.keep (below_alloc (Below.refl W.heap.size W) (Obj.cells #[Value.bool false, Value.slice none 0 0] 57)); replace VZ := VZ.keep (below_alloc (Below.refl W.heap.size W) (Obj.cells #[Value.bool false, Value.slice none 0 0] 57)); replace CA := CA.keep (below_alloc (Below.refl W.heap.size W) (Obj.cells #[Value.bool false, Value.slice none 0 0] 57)); replace CB := CB.keep (below_alloc (Below.refl W.heap.size W) (Obj.cells #[Value.bool false, Value.slice none 0 0] 57))
  replace HB := below_alloc HB (Obj.cells #[Value.bool false, Value.slice none 0 0] 57)
  clear hW
  generalize hW : W.alloc (Obj.cells #[Value.bool false, Value.slice none 0 0] 57) = W1 at *
  clear hW HM HZ
  rw [hs] at RR
  clear hs
  have vz0 := VZ.c0; have vz1 := VZ.c1; have vm0 := VM_.c0
  go_wp2_with fail
  (with_reducible refine (hSmall_c z md _ _ VZ.iz.out (by omega) (by omega) (by have := LZ.out; omega)).mono ?_)
  rintro e w1 ⟨v, rfl, hv, hb1⟩
  obtain ⟨n1, A1, m1, k1, rfl, H1⟩ := hv.form; clear hv
  replace VM_ := VM_.keep hb1; replace VZ := VZ.keep hb1; replace CA := CA.keep hb1; replace CB := CB.keep hb1; replace RR := RR.keep hb1; replace HB := below_step HB hb1
  clear hb1 vz0 vz1 vm0
  rw [HRZ.out]
  go_upto_region 2 with fail
  replace VM_ := VM_.keep (below_alloc (Below.refl w1.heap.size w1) (Obj.cells #[Value.bool n1, Value.slice A1 m1 k1] 57)); replace VZ := VZ.keep (below_alloc (Below.refl w1.heap.size w1) (Obj.cells #[Value.bool n1, Value.slice A1 m1 k1] 57)); replace CA := CA.keep (below_alloc (Below.refl w1.heap.size w1) (Obj.cells #[Value.bool n1, Value.slice A1 m1 k1] 57)); replace CB := CB.keep (below_alloc (Below.refl w1.heap.size w1) (Obj.cells #[Value.bool n1, Value.slice A1 m1 k1] 57)); replace RR := RR.keep (below_alloc (Below.refl w1.heap.size w1) (Obj.cells #[Value.bool n1, Value.slice A1 m1 k1] 57)); replace HB := below_alloc HB ((Obj.cells #[Value.bool n1, Value.slice A1 m1 k1] 57))
  generalize hW : w1.alloc (Obj.cells #[Value.bool n1, Value.slice A1 m1 k1] 57) = W2 at *
  clear hW H1
  replace VM_ := VM_.drew; replace VZ := VZ.drew; replace CA := CA.drew; replace CB := CB.drew; replace RR := RR.drew
  replace HB := below_drew HB
  generalize hWd : W2.drew = wd at *
  refine wp_region_F (fun w' => w'.cell? ⟨w.heap.size, 0, none⟩ = some (.int .i64 md) ∧ w'.cell? ⟨w.heap.size, 1, none⟩ = some (.slice (some ⟨bA, oA, none⟩) n c) ∧ w'.cell? ⟨w.heap.size, 2, none⟩ = some (.slice (some ⟨bB, oB, none⟩) n' c') ∧ w'.cell? ⟨(w.heap.size + 1), 0, none⟩ = some (.bool nz) ∧ w'.cell? ⟨(w.heap.size + 1), 1, none⟩ = some (.slice Az mz kz) ∧ w'.cell? ⟨bA, oA + r, none⟩ = some (.int .i64 x) ∧ w'.cell? ⟨bB, oB + r, none⟩ = some (.int .i64 y)) [22, 23] (by kernel_rfl) (by rw [hWd]; exact ⟨VM_.c0, VM_.c1, VM_.c2, VZ.c0, VZ.c1, CA.c, CB.c⟩) (fun hHeld => ?_)
  rw [hWd] at hHeld ⊢
  refine wpF_t (i := 0) (oi := { dst := some 18, op := Go.Op.load 57 (Go.Operand.tmp 3), type := 57, pos := "step.go:66", after := #[], guard := none }) (v := ?_) rfl (by kernel_rfl) (fun _ _ _ h => h) (Or.inl ⟨by rfl, ?_⟩) hHeld ?_; rotate_left
  · intro w_ hSw_; (try dsimp only at hSw_); go_simp; (try with_reducible rfl)
  try go_frame
  refine wpF_t (i := 1) (oi := { dst := some 19, op := Go.Op.fieldAddr 24 (Go.Operand.tmp 2) 1, type := 0, pos := "step.go:66", after := #[], guard := none }) (v := ?_) rfl (by kernel_rfl) (fun _ _ _ h => h) (Or.inl ⟨by rfl, ?_⟩) hHeld ?_; rotate_left
  · intro w_ hSw_; (try dsimp only at hSw_); go_simp; (try with_reducible rfl)
  try go_frame
  refine wpF_t (i := 2) (oi := { dst := some 20, op := Go.Op.load 22 (Go.Operand.tmp 19), type := 22, pos := "step.go:66", after := #[{ on := 1, ground := Go.Ground.data }], guard := none }) (v := ?_) rfl (by kernel_rfl) (fun _ _ _ h => h) (Or.inl ⟨by rfl, ?_⟩) hHeld ?_; rotate_left
  · intro w_ hSw_; (try dsimp only at hSw_); go_simp; (try with_reducible rfl)
  try go_frame
  refine wpF_t (i := 3) (oi := { dst := some 21, op := Go.Op.move (Go.Operand.tmp 7), type := 3, pos := "step.go:66", after := #[], guard := none }) (v := ?_) rfl (by kernel_rfl) (fun _ _ _ h => h) (Or.inl ⟨by rfl, ?_⟩) hHeld ?_; rotate_left
  · intro w_ hSw_; (try dsimp only at hSw_); go_simp; (try with_reducible rfl)
  try go_frame
  refine wpF_t (i := 4) (oi := { dst := some 22, op := Go.Op.indexAddr 22 (Go.Operand.tmp 20) (Go.Operand.tmp 21), type := 0, pos := "step.go:66", after := #[{ on := 2, ground := Go.Ground.data }, { on := 3, ground := Go.Ground.data }], guard := none }) (v := ?_) rfl (by kernel_rfl) (fun _ _ _ h => h) (Or.inl ⟨by rfl, ?_⟩) hHeld ?_; rotate_left
  · intro w_ hSw_; (try dsimp only at hSw_); go_simp; (try with_reducible rfl)
  try go_frame
  refine wpF_t (i := 5) (oi := { dst := some 23, op := Go.Op.load 3 (Go.Operand.tmp 22), type := 3, pos := "step.go:66", after := #[{ on := 4, ground := Go.Ground.data }], guard := none }) (v := ?_) rfl (by kernel_rfl) (fun _ _ _ h => h) (Or.inl ⟨by rfl, ?_⟩) hHeld ?_; rotate_left
  · intro w_ hSw_; (try dsimp only at hSw_); go_simp; (try with_reducible rfl)
  try go_frame
  refine wpF_t (i := 8) (oi := { dst := some 26, op := Go.Op.fieldAddr 24 (Go.Operand.tmp 2) 2, type := 0, pos := "step.go:66", after := #[], guard := none }) (v := ?_) rfl (by kernel_rfl) (fun _ _ _ h => h) (Or.inl ⟨by rfl, ?_⟩) hHeld ?_; rotate_left
  · intro w_ hSw_; (try dsimp only at hSw_); go_simp; (try with_reducible rfl)
  try go_frame
  refine wpF_t (i := 9) (oi := { dst := some 27, op := Go.Op.load 22 (Go.Operand.tmp 26), type := 22, pos := "step.go:66", after := #[{ on := 8, ground := Go.Ground.data }], guard := none }) (v := ?_) rfl (by kernel_rfl) (fun _ _ _ h => h) (Or.inl ⟨by rfl, ?_⟩) hHeld ?_; rotate_left
  · intro w_ hSw_; (try dsimp only at hSw_); go_simp; (try with_reducible rfl)
  try go_frame
  refine wpF_t (i := 10) (oi := { dst := some 28, op := Go.Op.move (Go.Operand.tmp 7), type := 3, pos := "step.go:66", after := #[], guard := none }) (v := ?_) rfl (by kernel_rfl) (fun _ _ _ h => h) (Or.inl ⟨by rfl, ?_⟩) hHeld ?_; rotate_left
  · intro w_ hSw_; (try dsimp only at hSw_); go_simp; (try with_reducible rfl)
  try go_frame
  refine wpF_t (i := 11) (oi := { dst := some 29, op := Go.Op.indexAddr 22 (Go.Operand.tmp 27) (Go.Operand.tmp 28), type := 0, pos := "step.go:66", after := #[{ on := 9, ground := Go.Ground.data }, { on := 10, ground := Go.Ground.data }], guard := none }) (v := ?_) rfl (by kernel_rfl) (fun _ _ _ h => h) (Or.inl ⟨by rfl, ?_⟩) hHeld ?_; rotate_left
  · intro w_ hSw_; (try dsimp only at hSw_); go_simp; (try with_reducible rfl)
  try go_frame
  refine wpF_t (i := 12) (oi := { dst := some 30, op := Go.Op.load 3 (Go.Operand.tmp 29), type := 3, pos := "step.go:66", after := #[{ on := 11, ground := Go.Ground.data }], guard := none }) (v := ?_) rfl (by kernel_rfl) (fun _ _ _ h => h) (Or.inl ⟨by rfl, ?_⟩) hHeld ?_; rotate_left
  · intro w_ hSw_; (try dsimp only at hSw_); go_simp; (try with_reducible rfl)
  try go_frame
  refine wpF_t (i := 15) (oi := { dst := some 33, op := Go.Op.fieldAddr 24 (Go.Operand.tmp 2) 0, type := 0, pos := "step.go:66", after := #[], guard := none }) (v := ?_) rfl (by kernel_rfl) (fun _ _ _ h => h) (Or.inl ⟨by rfl, ?_⟩) hHeld ?_; rotate_left
  · intro w_ hSw_; (try dsimp only at hSw_); go_simp; (try with_reducible rfl)
  try go_frame
  refine wpF_t (i := 16) (oi := { dst := some 34, op := Go.Op.load 3 (Go.Operand.tmp 33), type := 3, pos := "step.go:66", after := #[{ on := 15, ground := Go.Ground.data }], guard := none }) (v := ?_) rfl (by kernel_rfl) (fun _ _ _ h => h) (Or.inl ⟨by rfl, ?_⟩) hHeld ?_; rotate_left
  · intro w_ hSw_; (try dsimp only at hSw_); go_simp; (try with_reducible rfl)
  try go_frame
  refine wpAnyF_two (i := 6) (j := 21) (by kernel_rfl) rfl rfl (fun K hK => ?_) (fun K hK => ?_)
  · go_simp
    (go_at_call 26; (with_reducible refine (hOf_c x _ (by omega) (by omega)).mono ?_); rintro e w5 ⟨v, rfl, hv, hb5⟩; obtain ⟨n5, A5, m5, k5, rfl, H5⟩ := hv.form; clear hv; replace VM_ := VM_.keep hb5; replace VZ := VZ.keep hb5; replace CA := CA.keep hb5; replace CB := CB.keep hb5; replace RR := RR.keep hb5; replace HB := below_step HB hb5)
    clear hb5
    refine hK.out _ _ (by exact ⟨VM_.c0, VM_.c1, VM_.c2, VZ.c0, VZ.c1, CA.c, CB.c⟩) (fun hHeld => ?_)
    clear hK K
    try go_frame
    refine wpAnyF_two (i := 7) (j := 21) (by kernel_rfl) rfl rfl (fun K hK => ?_) (fun K hK => ?_)
    · go_simp
      (go_at_call 81; (with_reducible refine (hMul_c z x _ _ _ (by exact VZ.iz.out) H5.out (by have := LZ.out; omega) (by have := LX.out; omega)).mono ?_); rintro e w7 ⟨v, rfl, hv, hb7⟩; obtain ⟨n7, A7, m7, k7, rfl, H7⟩ := hv.form; clear hv; replace VM_ := VM_.keep hb7; replace VZ := VZ.keep hb7; replace CA := CA.keep hb7; replace CB := CB.keep hb7; replace RR := RR.keep hb7; replace HB := below_step HB hb7)
      clear hb7
      refine hK.out _ _ (by exact ⟨VM_.c0, VM_.c1, VM_.c2, VZ.c0, VZ.c1, CA.c, CB.c⟩) (fun hHeld => ?_)
      clear hK K
      try go_frame
      refine wpAnyF_two (i := 13) (j := 21) (by kernel_rfl) rfl rfl (fun K hK => ?_) (fun K hK => ?_)
      · go_simp
        (go_at_call 26; (with_reducible refine (hOf_c y _ (by omega) (by omega)).mono ?_); rintro e w13 ⟨v, rfl, hv, hb13⟩; obtain ⟨n13, A13, m13, k13, rfl, H13⟩ := hv.form; clear hv; replace VM_ := VM_.keep hb13; replace VZ := VZ.keep hb13; replace CA := CA.keep hb13; replace CB := CB.keep hb13; replace RR := RR.keep hb13; replace HB := below_step HB hb13; replace H7 := Lib.hid (H7.out.below hb13))
        clear hb13
        refine hK.out _ _ (by exact ⟨VM_.c0, VM_.c1, VM_.c2, VZ.c0, VZ.c1, CA.c, CB.c⟩) (fun hHeld => ?_)
        clear hK K
        try go_frame
        refine wpAnyF_two (i := 14) (j := 21) (by kernel_rfl) rfl rfl (fun K hK => ?_) (fun K hK => ?_)
        · go_simp
          (go_at_call 25; (with_reducible refine (hAdd_c (z * x) y _ _ _ H7.out H13.out (by have := LXZ.out; omega) (by have := LY.out; omega)).mono ?_); rintro e w14 ⟨v, rfl, hv, hb14⟩; obtain ⟨n14, A14, m14, k14, rfl, H14⟩ := hv.form; clear hv; replace VM_ := VM_.keep hb14; replace VZ := VZ.keep hb14; replace CA := CA.keep hb14; replace CB := CB.keep hb14; replace RR := RR.keep hb14; replace HB := below_step HB hb14)
          clear hb14
          refine hK.out _ _ (by exact ⟨VM_.c0, VM_.c1, VM_.c2, VZ.c0, VZ.c1, CA.c, CB.c⟩) (fun hHeld => ?_)
          clear hK K
          try go_frame
          refine wpAnyF_two (i := 17) (j := 21) (by kernel_rfl) rfl rfl (fun K hK => ?_) (fun K hK => ?_)
          · go_simp
            (go_at_call 80; (with_reducible refine (hSmall_c (z * x + y) md _ _ H14.out (by omega) (by omega) LS.out).mono ?_); rintro e w17 ⟨v, rfl, hv, hb17⟩; generalize (z * x + y) % md = rr at *; obtain ⟨n17, A17, m17, k17, rfl, H17⟩ := hv.form; clear hv; replace VM_ := VM_.keep hb17; replace VZ := VZ.keep hb17; replace CA := CA.keep hb17; replace CB := CB.keep hb17; replace RR := RR.keep hb17; replace HB := below_step HB hb17)
            clear hb17
            refine hK.out _ _ (by exact ⟨VM_.c0, VM_.c1, VM_.c2, VZ.c0, VZ.c1, CA.c, CB.c⟩) (fun hHeld => ?_)
            clear hK K
            try go_frame
            refine wpF_t (i := 18) (oi := op3e253f66) (v := ?_) rfl (by kernel_rfl) (fun _ _ _ h => h) (Or.inl ⟨by rfl, ?_⟩) hHeld ?_; rotate_left
            · intro w_ hSw_; (try dsimp only at hSw_); go_simp; (try with_reducible rfl)
            try go_frame
            refine wpF_t (i := 19) (oi := ope728bf13) (v := ?_) rfl (by kernel_rfl) (fun _ _ _ h => h) (Or.inl ⟨by rfl, ?_⟩) hHeld ?_; rotate_left
            · intro w_ hSw_; (try dsimp only at hSw_); go_simp; (try with_reducible rfl)
            try go_frame
            refine wpF_p (i := 20) (oi := op6f71d9af) (v := ?_) rfl (by kernel_rfl) (fun _ _ _ h => h) (Or.inl ⟨by rfl, ?_⟩) hHeld ?_; rotate_left
            · intro w_ hSw_; (try dsimp only at hSw_); go_simp; (try with_reducible rfl)
            try go_frame
            refine wpAnyF_one (i := 21) (by kernel_rfl) rfl (fun K hK => ?_)
            go_simp
            refine hK.out _ _ (by replace VM_ := VM_.keep (below_alloc (Below.refl w17.heap.size w17) (Obj.cells #[Value.bool false, Value.slice none 0 0] 57)); replace VZ := VZ.keep (below_alloc (Below.refl w17.heap.size w17) (Obj.cells #[Value.bool false, Value.slice none 0 0] 57)); replace CA := CA.keep (below_alloc (Below.refl w17.heap.size w17) (Obj.cells #[Value.bool false, Value.slice none 0 0] 57)); replace CB := CB.keep (below_alloc (Below.refl w17.heap.size w17) (Obj.cells #[Value.bool false, Value.slice none 0 0] 57)); replace RR := RR.keep (below_alloc (Below.refl w17.heap.size w17) (Obj.cells #[Value.bool false, Value.slice none 0 0] 57)); exact ⟨VM_.c0, VM_.c1, VM_.c2, VZ.c0, VZ.c1, CA.c, CB.c⟩) (fun hHeld => ?_)
            clear hK K
            try go_frame
            have hba1 := HB.size
            have ltVM_ := VM_.lt
            have ltVZ := VZ.lt
            have ltCA := CA.lt
            have ltCB := CB.lt
            have ltRR := RR.lt
            have RA := newRes w17 57
            replace VM_ := VM_.keep (below_alloc (Below.refl w17.heap.size w17) (Obj.cells #[Value.bool false, Value.slice none 0 0] 57)); replace VZ := VZ.keep (below_alloc (Below.refl w17.heap.size w17) (Obj.cells #[Value.bool false, Value.slice none 0 0] 57)); replace CA := CA.keep (below_alloc (Below.refl w17.heap.size w17) (Obj.cells #[Value.bool false, Value.slice none 0 0] 57)); replace CB := CB.keep (below_alloc (Below.refl w17.heap.size w17) (Obj.cells #[Value.bool false, Value.slice none 0 0] 57)); replace RR := RR.keep (below_alloc (Below.refl w17.heap.size w17) (Obj.cells #[Value.bool false, Value.slice none 0 0] 57))
            replace HB := below_alloc HB (Obj.cells #[Value.bool false, Value.slice none 0 0] 57)
            replace H17 := Lib.hid (H17.out.below (below_alloc (Below.refl w17.heap.size w17) (Obj.cells #[Value.bool false, Value.slice none 0 0] 57)))
            generalize hWa : w17.alloc (Obj.cells #[Value.bool false, Value.slice none 0 0] 57) = wa at *
            generalize hba : w17.heap.size = ba at *
            refine wpAnyF_st (i := 22) (by kernel_rfl) (by kernel_rfl) rfl (fun K hK => ?_)
            obtain ⟨⟨u1_, r1_⟩, ⟨u2_, u3_, u4_, r2_⟩, r3_, r4_, r5_⟩ := RA
            have RA : Res2 _ ba := ⟨⟨u1_, r1_⟩, ⟨u2_, u3_, u4_, r2_⟩, r3_, r4_, r5_⟩
            go_simp
            refine hK.out _ _ ?_
            clear hK K r1_ r2_ r3_ r4_ r5_
            try go_frame
            refine wpAnyF_st (i := 23) (by kernel_rfl) (by kernel_rfl) rfl (fun K hK => ?_)
            obtain ⟨⟨u1_, r1_⟩, ⟨u2_, u3_, u4_, r2_⟩, r3_, r4_, r5_⟩ := RA
            have RA : Res2 _ ba := ⟨⟨u1_, r1_⟩, ⟨u2_, u3_, u4_, r2_⟩, r3_, r4_, r5_⟩
            go_simp
            refine hK.out _ _ ?_
            clear hK K r1_ r2_ r3_ r4_ r5_
            try go_frame
            refine wpAnyF_done (by kernel_rfl) ?_ _
            clear hHeld
            have V6 := VX.store RA H17.out
            have hne : ba ≠ w.heap.size + 1 + 1 := by omega
            replace RR := RR.far (x := .bool n17) (y := .slice A17 m17 k17) hne
            replace HB := below_set2 (b := ba) HB (by omega) (.bool n17) (.slice A17 m17 k17)
            generalize hW9 : (wa.setCell ⟨ba, 0, none⟩ (.bool n17)).setCell ⟨ba, 1, none⟩ (.slice A17 m17 k17) = W9 at *
            clear hW9 RA CA CB VM_ VZ
            have vs0 := V6.c0; have vs1 := V6.c1; have vsf := V6.f0; have vsg := V6.f1; have vsl := V6.lt
            have RRh := RR
            obtain ⟨⟨u1, r1⟩, ⟨u2, u3, u4, r2⟩, r3, r4, r5⟩ := RR
            go_wp2
            refine bodyPost_ret (v := .tuple #[.agg #[.bool n17, .slice A17 m17 k17], .int .i64 r]) (by simp [results, Tryz.results60, go_sem, r1, r2, r5]) rfl ⟨_, r, rfl, by rw [HST.out]; exact V6.iz.out.res2 RRh _ _, HRM.out, below_set2 HB (by omega) _ _⟩
          · go_simp
            refine hK.out _ _ (by replace VM_ := VM_.keep (below_alloc (Below.refl w14.heap.size w14) (Obj.cells #[Value.bool false, Value.slice none 0 0] 57)); replace VZ := VZ.keep (below_alloc (Below.refl w14.heap.size w14) (Obj.cells #[Value.bool false, Value.slice none 0 0] 57)); replace CA := CA.keep (below_alloc (Below.refl w14.heap.size w14) (Obj.cells #[Value.bool false, Value.slice none 0 0] 57)); replace CB := CB.keep (below_alloc (Below.refl w14.heap.size w14) (Obj.cells #[Value.bool false, Value.slice none 0 0] 57)); replace RR := RR.keep (below_alloc (Below.refl w14.heap.size w14) (Obj.cells #[Value.bool false, Value.slice none 0 0] 57)); exact ⟨VM_.c0, VM_.c1, VM_.c2, VZ.c0, VZ.c1, CA.c, CB.c⟩) (fun hHeld => ?_)
            clear hK K
            try go_frame
            have hba1 := HB.size
            have ltVM_ := VM_.lt
            have ltVZ := VZ.lt
            have ltCA := CA.lt
            have ltCB := CB.lt
            have ltRR := RR.lt
            have RA := newRes w14 57
            replace VM_ := VM_.keep (below_alloc (Below.refl w14.heap.size w14) (Obj.cells #[Value.bool false, Value.slice none 0 0] 57)); replace VZ := VZ.keep (below_alloc (Below.refl w14.heap.size w14) (Obj.cells #[Value.bool false, Value.slice none 0 0] 57)); replace CA := CA.keep (below_alloc (Below.refl w14.heap.size w14) (Obj.cells #[Value.bool false, Value.slice none 0 0] 57)); replace CB := CB.keep (below_alloc (Below.refl w14.heap.size w14) (Obj.cells #[Value.bool false, Value.slice none 0 0] 57)); replace RR := RR.keep (below_alloc (Below.refl w14.heap.size w14) (Obj.cells #[Value.bool false, Value.slice none 0 0] 57))
            replace HB := below_alloc HB (Obj.cells #[Value.bool false, Value.slice none 0 0] 57)
            replace H14 := Lib.hid (H14.out.below (below_alloc (Below.refl w14.heap.size w14) (Obj.cells #[Value.bool false, Value.slice none 0 0] 57)))
            generalize hWa : w14.alloc (Obj.cells #[Value.bool false, Value.slice none 0 0] 57) = wa at *
            generalize hba : w14.heap.size = ba at *
            refine wpAnyF_one (i := 17) (by kernel_rfl) rfl (fun K hK => ?_)
            go_simp
            (go_at_call 80; (with_reducible refine (hSmall_c (z * x + y) md _ _ H14.out (by omega) (by omega) LS.out).mono ?_); rintro e w17 ⟨v, rfl, hv, hb17⟩; generalize (z * x + y) % md = rr at *; obtain ⟨n17, A17, m17, k17, rfl, H17⟩ := hv.form; clear hv; replace VM_ := VM_.keep hb17; replace VZ := VZ.keep hb17; replace CA := CA.keep hb17; replace CB := CB.keep hb17; replace RR := RR.keep hb17; replace HB := below_step HB hb17)
            replace RA := RA.keep hb17
            clear hb17
            refine hK.out _ _ (by exact ⟨VM_.c0, VM_.c1, VM_.c2, VZ.c0, VZ.c1, CA.c, CB.c⟩) (fun hHeld => ?_)
            clear hK K
            try go_frame
            refine wpF_t (i := 18) (oi := op3e253f66) (v := ?_) rfl (by kernel_rfl) (fun _ _ _ h => h) (Or.inl ⟨by rfl, ?_⟩) hHeld ?_; rotate_left
            · intro w_ hSw_; (try dsimp only at hSw_); go_simp; (try with_reducible rfl)
            try go_frame
            refine wpF_t (i := 19) (oi := ope728bf13) (v := ?_) rfl (by kernel_rfl) (fun _ _ _ h => h) (Or.inl ⟨by rfl, ?_⟩) hHeld ?_; rotate_left
            · intro w_ hSw_; (try dsimp only at hSw_); go_simp; (try with_reducible rfl)
            try go_frame
            refine wpF_p (i := 20) (oi := op6f71d9af) (v := ?_) rfl (by kernel_rfl) (fun _ _ _ h => h) (Or.inl ⟨by rfl, ?_⟩) hHeld ?_; rotate_left
            · intro w_ hSw_; (try dsimp only at hSw_); go_simp; (try with_reducible rfl)
            try go_frame
            refine wpAnyF_st (i := 22) (by kernel_rfl) (by kernel_rfl) rfl (fun K hK => ?_)
            obtain ⟨⟨u1_, r1_⟩, ⟨u2_, u3_, u4_, r2_⟩, r3_, r4_, r5_⟩ := RA
            have RA : Res2 _ ba := ⟨⟨u1_, r1_⟩, ⟨u2_, u3_, u4_, r2_⟩, r3_, r4_, r5_⟩
            go_simp
            refine hK.out _ _ ?_
            clear hK K r1_ r2_ r3_ r4_ r5_
            try go_frame
            refine wpAnyF_st (i := 23) (by kernel_rfl) (by kernel_rfl) rfl (fun K hK => ?_)
            obtain ⟨⟨u1_, r1_⟩, ⟨u2_, u3_, u4_, r2_⟩, r3_, r4_, r5_⟩ := RA
            have RA : Res2 _ ba := ⟨⟨u1_, r1_⟩, ⟨u2_, u3_, u4_, r2_⟩, r3_, r4_, r5_⟩
            go_simp
            refine hK.out _ _ ?_
            clear hK K r1_ r2_ r3_ r4_ r5_
            try go_frame
            refine wpAnyF_done (by kernel_rfl) ?_ _
            clear hHeld
            have V6 := VX.store RA H17.out
            have hne : ba ≠ w.heap.size + 1 + 1 := by omega
            replace RR := RR.far (x := .bool n17) (y := .slice A17 m17 k17) hne
            replace HB := below_set2 (b := ba) HB (by omega) (.bool n17) (.slice A17 m17 k17)
            generalize hW9 : (w17.setCell ⟨ba, 0, none⟩ (.bool n17)).setCell ⟨ba, 1, none⟩ (.slice A17 m17 k17) = W9 at *
            clear hW9 RA CA CB VM_ VZ
            have vs0 := V6.c0; have vs1 := V6.c1; have vsf := V6.f0; have vsg := V6.f1; have vsl := V6.lt
            have RRh := RR
            obtain ⟨⟨u1, r1⟩, ⟨u2, u3, u4, r2⟩, r3, r4, r5⟩ := RR
            go_wp2
            refine bodyPost_ret (v := .tuple #[.agg #[.bool n17, .slice A17 m17 k17], .int .i64 r]) (by simp [results, Tryz.results60, go_sem, r1, r2, r5]) rfl ⟨_, r, rfl, by rw [HST.out]; exact V6.iz.out.res2 RRh _ _, HRM.out, below_set2 HB (by omega) _ _⟩
        · go_simp
          refine hK.out _ _ (by replace VM_ := VM_.keep (below_alloc (Below.refl w13.heap.size w13) (Obj.cells #[Value.bool false, Value.slice none 0 0] 57)); replace VZ := VZ.keep (below_alloc (Below.refl w13.heap.size w13) (Obj.cells #[Value.bool false, Value.slice none 0 0] 57)); replace CA := CA.keep (below_alloc (Below.refl w13.heap.size w13) (Obj.cells #[Value.bool false, Value.slice none 0 0] 57)); replace CB := CB.keep (below_alloc (Below.refl w13.heap.size w13) (Obj.cells #[Value.bool false, Value.slice none 0 0] 57)); replace RR := RR.keep (below_alloc (Below.refl w13.heap.size w13) (Obj.cells #[Value.bool false, Value.slice none 0 0] 57)); exact ⟨VM_.c0, VM_.c1, VM_.c2, VZ.c0, VZ.c1, CA.c, CB.c⟩) (fun hHeld => ?_)
          clear hK K
          try go_frame
          have hba1 := HB.size
          have ltVM_ := VM_.lt
          have ltVZ := VZ.lt
          have ltCA := CA.lt
          have ltCB := CB.lt
          have ltRR := RR.lt
          have RA := newRes w13 57
          replace VM_ := VM_.keep (below_alloc (Below.refl w13.heap.size w13) (Obj.cells #[Value.bool false, Value.slice none 0 0] 57)); replace VZ := VZ.keep (below_alloc (Below.refl w13.heap.size w13) (Obj.cells #[Value.bool false, Value.slice none 0 0] 57)); replace CA := CA.keep (below_alloc (Below.refl w13.heap.size w13) (Obj.cells #[Value.bool false, Value.slice none 0 0] 57)); replace CB := CB.keep (below_alloc (Below.refl w13.heap.size w13) (Obj.cells #[Value.bool false, Value.slice none 0 0] 57)); replace RR := RR.keep (below_alloc (Below.refl w13.heap.size w13) (Obj.cells #[Value.bool false, Value.slice none 0 0] 57))
          replace HB := below_alloc HB (Obj.cells #[Value.bool false, Value.slice none 0 0] 57)
          replace H7 := Lib.hid (H7.out.below (below_alloc (Below.refl w13.heap.size w13) (Obj.cells #[Value.bool false, Value.slice none 0 0] 57)))
          replace H13 := Lib.hid (H13.out.below (below_alloc (Below.refl w13.heap.size w13) (Obj.cells #[Value.bool false, Value.slice none 0 0] 57)))
          generalize hWa : w13.alloc (Obj.cells #[Value.bool false, Value.slice none 0 0] 57) = wa at *
          generalize hba : w13.heap.size = ba at *
          refine wpAnyF_one (i := 14) (by kernel_rfl) rfl (fun K hK => ?_)
          go_simp
          (go_at_call 25; (with_reducible refine (hAdd_c (z * x) y _ _ _ H7.out H13.out (by have := LXZ.out; omega) (by have := LY.out; omega)).mono ?_); rintro e w14 ⟨v, rfl, hv, hb14⟩; obtain ⟨n14, A14, m14, k14, rfl, H14⟩ := hv.form; clear hv; replace VM_ := VM_.keep hb14; replace VZ := VZ.keep hb14; replace CA := CA.keep hb14; replace CB := CB.keep hb14; replace RR := RR.keep hb14; replace HB := below_step HB hb14)
          replace RA := RA.keep hb14
          clear hb14
          refine hK.out _ _ (by exact ⟨VM_.c0, VM_.c1, VM_.c2, VZ.c0, VZ.c1, CA.c, CB.c⟩) (fun hHeld => ?_)
          clear hK K
          try go_frame
          refine wpAnyF_one (i := 17) (by kernel_rfl) rfl (fun K hK => ?_)
          go_simp
          (go_at_call 80; (with_reducible refine (hSmall_c (z * x + y) md _ _ H14.out (by omega) (by omega) LS.out).mono ?_); rintro e w17 ⟨v, rfl, hv, hb17⟩; generalize (z * x + y) % md = rr at *; obtain ⟨n17, A17, m17, k17, rfl, H17⟩ := hv.form; clear hv; replace VM_ := VM_.keep hb17; replace VZ := VZ.keep hb17; replace CA := CA.keep hb17; replace CB := CB.keep hb17; replace RR := RR.keep hb17; replace HB := below_step HB hb17)
          replace RA := RA.keep hb17
          clear hb17
          refine hK.out _ _ (by exact ⟨VM_.c0, VM_.c1, VM_.c2, VZ.c0, VZ.c1, CA.c, CB.c⟩) (fun hHeld => ?_)
          clear hK K
          try go_frame
          refine wpF_t (i := 18) (oi := op3e253f66) (v := ?_) rfl (by kernel_rfl) (fun _ _ _ h => h) (Or.inl ⟨by rfl, ?_⟩) hHeld ?_; rotate_left
          · intro w_ hSw_; (try dsimp only at hSw_); go_simp; (try with_reducible rfl)
          try go_frame
          refine wpF_t (i := 19) (oi := ope728bf13) (v := ?_) rfl (by kernel_rfl) (fun _ _ _ h => h) (Or.inl ⟨by rfl, ?_⟩) hHeld ?_; rotate_left
          · intro w_ hSw_; (try dsimp only at hSw_); go_simp; (try with_reducible rfl)
          try go_frame
          refine wpF_p (i := 20) (oi := op6f71d9af) (v := ?_) rfl (by kernel_rfl) (fun _ _ _ h => h) (Or.inl ⟨by rfl, ?_⟩) hHeld ?_; rotate_left
          · intro w_ hSw_; (try dsimp only at hSw_); go_simp; (try with_reducible rfl)
          try go_frame
          refine wpAnyF_st (i := 22) (by kernel_rfl) (by kernel_rfl) rfl (fun K hK => ?_)
          obtain ⟨⟨u1_, r1_⟩, ⟨u2_, u3_, u4_, r2_⟩, r3_, r4_, r5_⟩ := RA
          have RA : Res2 _ ba := ⟨⟨u1_, r1_⟩, ⟨u2_, u3_, u4_, r2_⟩, r3_, r4_, r5_⟩
          go_simp
          refine hK.out _ _ ?_
          clear hK K r1_ r2_ r3_ r4_ r5_
          try go_frame
          refine wpAnyF_st (i := 23) (by kernel_rfl) (by kernel_rfl) rfl (fun K hK => ?_)
          obtain ⟨⟨u1_, r1_⟩, ⟨u2_, u3_, u4_, r2_⟩, r3_, r4_, r5_⟩ := RA
          have RA : Res2 _ ba := ⟨⟨u1_, r1_⟩, ⟨u2_, u3_, u4_, r2_⟩, r3_, r4_, r5_⟩
          go_simp
          refine hK.out _ _ ?_
          clear hK K r1_ r2_ r3_ r4_ r5_
          try go_frame
          refine wpAnyF_done (by kernel_rfl) ?_ _
          clear hHeld
          have V6 := VX.store RA H17.out
          have hne : ba ≠ w.heap.size + 1 + 1 := by omega
          replace RR := RR.far (x := .bool n17) (y := .slice A17 m17 k17) hne
          replace HB := below_set2 (b := ba) HB (by omega) (.bool n17) (.slice A17 m17 k17)
          generalize hW9 : (w17.setCell ⟨ba, 0, none⟩ (.bool n17)).setCell ⟨ba, 1, none⟩ (.slice A17 m17 k17) = W9 at *
          clear hW9 RA CA CB VM_ VZ
          have vs0 := V6.c0; have vs1 := V6.c1; have vsf := V6.f0; have vsg := V6.f1; have vsl := V6.lt
          have RRh := RR
          obtain ⟨⟨u1, r1⟩, ⟨u2, u3, u4, r2⟩, r3, r4, r5⟩ := RR
          go_wp2
          refine bodyPost_ret (v := .tuple #[.agg #[.bool n17, .slice A17 m17 k17], .int .i64 r]) (by simp [results, Tryz.results60, go_sem, r1, r2, r5]) rfl ⟨_, r, rfl, by rw [HST.out]; exact V6.iz.out.res2 RRh _ _, HRM.out, below_set2 HB (by omega) _ _⟩
      · go_simp
        refine hK.out _ _ (by replace VM_ := VM_.keep (below_alloc (Below.refl w7.heap.size w7) (Obj.cells #[Value.bool false, Value.slice none 0 0] 57)); replace VZ := VZ.keep (below_alloc (Below.refl w7.heap.size w7) (Obj.cells #[Value.bool false, Value.slice none 0 0] 57)); replace CA := CA.keep (below_alloc (Below.refl w7.heap.size w7) (Obj.cells #[Value.bool false, Value.slice none 0 0] 57)); replace CB := CB.keep (below_alloc (Below.refl w7.heap.size w7) (Obj.cells #[Value.bool false, Value.slice none 0 0] 57)); replace RR := RR.keep (below_alloc (Below.refl w7.heap.size w7) (Obj.cells #[Value.bool false, Value.slice none 0 0] 57)); exact ⟨VM_.c0, VM_.c1, VM_.c2, VZ.c0, VZ.c1, CA.c, CB.c⟩) (fun hHeld => ?_)
        clear hK K
        try go_frame
        have hba1 := HB.size
        have ltVM_ := VM_.lt
        have ltVZ := VZ.lt
        have ltCA := CA.lt
        have ltCB := CB.lt
        have ltRR := RR.lt
        have RA := newRes w7 57
        replace VM_ := VM_.keep (below_alloc (Below.refl w7.heap.size w7) (Obj.cells #[Value.bool false, Value.slice none 0 0] 57)); replace VZ := VZ.keep (below_alloc (Below.refl w7.heap.size w7) (Obj.cells #[Value.bool false, Value.slice none 0 0] 57)); replace CA := CA.keep (below_alloc (Below.refl w7.heap.size w7) (Obj.cells #[Value.bool false, Value.slice none 0 0] 57)); replace CB := CB.keep (below_alloc (Below.refl w7.heap.size w7) (Obj.cells #[Value.bool false, Value.slice none 0 0] 57)); replace RR := RR.keep (below_alloc (Below.refl w7.heap.size w7) (Obj.cells #[Value.bool false, Value.slice none 0 0] 57))
        replace HB := below_alloc HB (Obj.cells #[Value.bool false, Value.slice none 0 0] 57)
        replace H7 := Lib.hid (H7.out.below (below_alloc (Below.refl w7.heap.size w7) (Obj.cells #[Value.bool false, Value.slice none 0 0] 57)))
        generalize hWa : w7.alloc (Obj.cells #[Value.bool false, Value.slice none 0 0] 57) = wa at *
        generalize hba : w7.heap.size = ba at *
        refine wpAnyF_one (i := 13) (by kernel_rfl) rfl (fun K hK => ?_)
        go_simp
        (go_at_call 26; (with_reducible refine (hOf_c y _ (by omega) (by omega)).mono ?_); rintro e w13 ⟨v, rfl, hv, hb13⟩; obtain ⟨n13, A13, m13, k13, rfl, H13⟩ := hv.form; clear hv; replace VM_ := VM_.keep hb13; replace VZ := VZ.keep hb13; replace CA := CA.keep hb13; replace CB := CB.keep hb13; replace RR := RR.keep hb13; replace HB := below_step HB hb13; replace H7 := Lib.hid (H7.out.below hb13))
        replace RA := RA.keep hb13
        clear hb13
        refine hK.out _ _ (by exact ⟨VM_.c0, VM_.c1, VM_.c2, VZ.c0, VZ.c1, CA.c, CB.c⟩) (fun hHeld => ?_)
        clear hK K
        try go_frame
        refine wpAnyF_one (i := 14) (by kernel_rfl) rfl (fun K hK => ?_)
        go_simp
        (go_at_call 25; (with_reducible refine (hAdd_c (z * x) y _ _ _ H7.out H13.out (by have := LXZ.out; omega) (by have := LY.out; omega)).mono ?_); rintro e w14 ⟨v, rfl, hv, hb14⟩; obtain ⟨n14, A14, m14, k14, rfl, H14⟩ := hv.form; clear hv; replace VM_ := VM_.keep hb14; replace VZ := VZ.keep hb14; replace CA := CA.keep hb14; replace CB := CB.keep hb14; replace RR := RR.keep hb14; replace HB := below_step HB hb14)
        replace RA := RA.keep hb14
        clear hb14
        refine hK.out _ _ (by exact ⟨VM_.c0, VM_.c1, VM_.c2, VZ.c0, VZ.c1, CA.c, CB.c⟩) (fun hHeld => ?_)
        clear hK K
        try go_frame
        refine wpAnyF_one (i := 17) (by kernel_rfl) rfl (fun K hK => ?_)
        go_simp
        (go_at_call 80; (with_reducible refine (hSmall_c (z * x + y) md _ _ H14.out (by omega) (by omega) LS.out).mono ?_); rintro e w17 ⟨v, rfl, hv, hb17⟩; generalize (z * x + y) % md = rr at *; obtain ⟨n17, A17, m17, k17, rfl, H17⟩ := hv.form; clear hv; replace VM_ := VM_.keep hb17; replace VZ := VZ.keep hb17; replace CA := CA.keep hb17; replace CB := CB.keep hb17; replace RR := RR.keep hb17; replace HB := below_step HB hb17)
        replace RA := RA.keep hb17
        clear hb17
        refine hK.out _ _ (by exact ⟨VM_.c0, VM_.c1, VM_.c2, VZ.c0, VZ.c1, CA.c, CB.c⟩) (fun hHeld => ?_)
        clear hK K
        try go_frame
        refine wpF_t (i := 18) (oi := op3e253f66) (v := ?_) rfl (by kernel_rfl) (fun _ _ _ h => h) (Or.inl ⟨by rfl, ?_⟩) hHeld ?_; rotate_left
        · intro w_ hSw_; (try dsimp only at hSw_); go_simp; (try with_reducible rfl)
        try go_frame
        refine wpF_t (i := 19) (oi := ope728bf13) (v := ?_) rfl (by kernel_rfl) (fun _ _ _ h => h) (Or.inl ⟨by rfl, ?_⟩) hHeld ?_; rotate_left
        · intro w_ hSw_; (try dsimp only at hSw_); go_simp; (try with_reducible rfl)
        try go_frame
        refine wpF_p (i := 20) (oi := op6f71d9af) (v := ?_) rfl (by kernel_rfl) (fun _ _ _ h => h) (Or.inl ⟨by rfl, ?_⟩) hHeld ?_; rotate_left
        · intro w_ hSw_; (try dsimp only at hSw_); go_simp; (try with_reducible rfl)
        try go_frame
        refine wpAnyF_st (i := 22) (by kernel_rfl) (by kernel_rfl) rfl (fun K hK => ?_)
        obtain ⟨⟨u1_, r1_⟩, ⟨u2_, u3_, u4_, r2_⟩, r3_, r4_, r5_⟩ := RA
        have RA : Res2 _ ba := ⟨⟨u1_, r1_⟩, ⟨u2_, u3_, u4_, r2_⟩, r3_, r4_, r5_⟩
        go_simp
        refine hK.out _ _ ?_
        clear hK K r1_ r2_ r3_ r4_ r5_
        try go_frame
        refine wpAnyF_st (i := 23) (by kernel_rfl) (by kernel_rfl) rfl (fun K hK => ?_)
        obtain ⟨⟨u1_, r1_⟩, ⟨u2_, u3_, u4_, r2_⟩, r3_, r4_, r5_⟩ := RA
        have RA : Res2 _ ba := ⟨⟨u1_, r1_⟩, ⟨u2_, u3_, u4_, r2_⟩, r3_, r4_, r5_⟩
        go_simp
        refine hK.out _ _ ?_
        clear hK K r1_ r2_ r3_ r4_ r5_
        try go_frame
        refine wpAnyF_done (by kernel_rfl) ?_ _
        clear hHeld
        have V6 := VX.store RA H17.out
        have hne : ba ≠ w.heap.size + 1 + 1 := by omega
        replace RR := RR.far (x := .bool n17) (y := .slice A17 m17 k17) hne
        replace HB := below_set2 (b := ba) HB (by omega) (.bool n17) (.slice A17 m17 k17)
        generalize hW9 : (w17.setCell ⟨ba, 0, none⟩ (.bool n17)).setCell ⟨ba, 1, none⟩ (.slice A17 m17 k17) = W9 at *
        clear hW9 RA CA CB VM_ VZ
        have vs0 := V6.c0; have vs1 := V6.c1; have vsf := V6.f0; have vsg := V6.f1; have vsl := V6.lt
        have RRh := RR
        obtain ⟨⟨u1, r1⟩, ⟨u2, u3, u4, r2⟩, r3, r4, r5⟩ := RR
        go_wp2
        refine bodyPost_ret (v := .tuple #[.agg #[.bool n17, .slice A17 m17 k17], .int .i64 r]) (by simp [results, Tryz.results60, go_sem, r1, r2, r5]) rfl ⟨_, r, rfl, by rw [HST.out]; exact V6.iz.out.res2 RRh _ _, HRM.out, below_set2 HB (by omega) _ _⟩
    · go_simp
      refine hK.out _ _ (by replace VM_ := VM_.keep (below_alloc (Below.refl w5.heap.size w5) (Obj.cells #[Value.bool false, Value.slice none 0 0] 57)); replace VZ := VZ.keep (below_alloc (Below.refl w5.heap.size w5) (Obj.cells #[Value.bool false, Value.slice none 0 0] 57)); replace CA := CA.keep (below_alloc (Below.refl w5.heap.size w5) (Obj.cells #[Value.bool false, Value.slice none 0 0] 57)); replace CB := CB.keep (below_alloc (Below.refl w5.heap.size w5) (Obj.cells #[Value.bool false, Value.slice none 0 0] 57)); replace RR := RR.keep (below_alloc (Below.refl w5.heap.size w5) (Obj.cells #[Value.bool false, Value.slice none 0 0] 57)); exact ⟨VM_.c0, VM_.c1, VM_.c2, VZ.c0, VZ.c1, CA.c, CB.c⟩) (fun hHeld => ?_)
      clear hK K
      try go_frame
      have hba1 := HB.size
      have ltVM_ := VM_.lt
      have ltVZ := VZ.lt
      have ltCA := CA.lt
      have ltCB := CB.lt
      have ltRR := RR.lt
      have RA := newRes w5 57
      replace VM_ := VM_.keep (below_alloc (Below.refl w5.heap.size w5) (Obj.cells #[Value.bool false, Value.slice none 0 0] 57)); replace VZ := VZ.keep (below_alloc (Below.refl w5.heap.size w5) (Obj.cells #[Value.bool false, Value.slice none 0 0] 57)); replace CA := CA.keep (below_alloc (Below.refl w5.heap.size w5) (Obj.cells #[Value.bool false, Value.slice none 0 0] 57)); replace CB := CB.keep (below_alloc (Below.refl w5.heap.size w5) (Obj.cells #[Value.bool false, Value.slice none 0 0] 57)); replace RR := RR.keep (below_alloc (Below.refl w5.heap.size w5) (Obj.cells #[Value.bool false, Value.slice none 0 0] 57))
      replace HB := below_alloc HB (Obj.cells #[Value.bool false, Value.slice none 0 0] 57)
      replace H5 := Lib.hid (H5.out.below (below_alloc (Below.refl w5.heap.size w5) (Obj.cells #[Value.bool false, Value.slice none 0 0] 57)))
      generalize hWa : w5.alloc (Obj.cells #[Value.bool false, Value.slice none 0 0] 57) = wa at *
      generalize hba : w5.heap.size = ba at *
      refine wpAnyF_one (i := 7) (by kernel_rfl) rfl (fun K hK => ?_)
      go_simp
      (go_at_call 81; (with_reducible refine (hMul_c z x _ _ _ (by exact VZ.iz.out) H5.out (by have := LZ.out; omega) (by have := LX.out; omega)).mono ?_); rintro e w7 ⟨v, rfl, hv, hb7⟩; obtain ⟨n7, A7, m7, k7, rfl, H7⟩ := hv.form; clear hv; replace VM_ := VM_.keep hb7; replace VZ := VZ.keep hb7; replace CA := CA.keep hb7; replace CB := CB.keep hb7; replace RR := RR.keep hb7; replace HB := below_step HB hb7)
      replace RA := RA.keep hb7
      clear hb7
      refine hK.out _ _ (by exact ⟨VM_.c0, VM_.c1, VM_.c2, VZ.c0, VZ.c1, CA.c, CB.c⟩) (fun hHeld => ?_)
      clear hK K
      try go_frame
      refine wpAnyF_one (i := 13) (by kernel_rfl) rfl (fun K hK => ?_)
      go_simp
      (go_at_call 26; (with_reducible refine (hOf_c y _ (by omega) (by omega)).mono ?_); rintro e w13 ⟨v, rfl, hv, hb13⟩; obtain ⟨n13, A13, m13, k13, rfl, H13⟩ := hv.form; clear hv; replace VM_ := VM_.keep hb13; replace VZ := VZ.keep hb13; replace CA := CA.keep hb13; replace CB := CB.keep hb13; replace RR := RR.keep hb13; replace HB := below_step HB hb13; replace H7 := Lib.hid (H7.out.below hb13))
      replace RA := RA.keep hb13
      clear hb13
      refine hK.out _ _ (by exact ⟨VM_.c0, VM_.c1, VM_.c2, VZ.c0, VZ.c1, CA.c, CB.c⟩) (fun hHeld => ?_)
      clear hK K
      try go_frame
      refine wpAnyF_one (i := 14) (by kernel_rfl) rfl (fun K hK => ?_)
      go_simp
      (go_at_call 25; (with_reducible refine (hAdd_c (z * x) y _ _ _ H7.out H13.out (by have := LXZ.out; omega) (by have := LY.out; omega)).mono ?_); rintro e w14 ⟨v, rfl, hv, hb14⟩; obtain ⟨n14, A14, m14, k14, rfl, H14⟩ := hv.form; clear hv; replace VM_ := VM_.keep hb14; replace VZ := VZ.keep hb14; replace CA := CA.keep hb14; replace CB := CB.keep hb14; replace RR := RR.keep hb14; replace HB := below_step HB hb14)
      replace RA := RA.keep hb14
      clear hb14
      refine hK.out _ _ (by exact ⟨VM_.c0, VM_.c1, VM_.c2, VZ.c0, VZ.c1, CA.c, CB.c⟩) (fun hHeld => ?_)
      clear hK K
      try go_frame
      refine wpAnyF_one (i := 17) (by kernel_rfl) rfl (fun K hK => ?_)
      go_simp
      (go_at_call 80; (with_reducible refine (hSmall_c (z * x + y) md _ _ H14.out (by omega) (by omega) LS.out).mono ?_); rintro e w17 ⟨v, rfl, hv, hb17⟩; generalize (z * x + y) % md = rr at *; obtain ⟨n17, A17, m17, k17, rfl, H17⟩ := hv.form; clear hv; replace VM_ := VM_.keep hb17; replace VZ := VZ.keep hb17; replace CA := CA.keep hb17; replace CB := CB.keep hb17; replace RR := RR.keep hb17; replace HB := below_step HB hb17)
      replace RA := RA.keep hb17
      clear hb17
      refine hK.out _ _ (by exact ⟨VM_.c0, VM_.c1, VM_.c2, VZ.c0, VZ.c1, CA.c, CB.c⟩) (fun hHeld => ?_)
      clear hK K
      try go_frame
      refine wpF_t (i := 18) (oi := op3e253f66) (v := ?_) rfl (by kernel_rfl) (fun _ _ _ h => h) (Or.inl ⟨by rfl, ?_⟩) hHeld ?_; rotate_left
      · intro w_ hSw_; (try dsimp only at hSw_); go_simp; (try with_reducible rfl)
      try go_frame
      refine wpF_t (i := 19) (oi := ope728bf13) (v := ?_) rfl (by kernel_rfl) (fun _ _ _ h => h) (Or.inl ⟨by rfl, ?_⟩) hHeld ?_; rotate_left
      · intro w_ hSw_; (try dsimp only at hSw_); go_simp; (try with_reducible rfl)
      try go_frame
      refine wpF_p (i := 20) (oi := op6f71d9af) (v := ?_) rfl (by kernel_rfl) (fun _ _ _ h => h) (Or.inl ⟨by rfl, ?_⟩) hHeld ?_; rotate_left
      · intro w_ hSw_; (try dsimp only at hSw_); go_simp; (try with_reducible rfl)
      try go_frame
      refine wpAnyF_st (i := 22) (by kernel_rfl) (by kernel_rfl) rfl (fun K hK => ?_)
      obtain ⟨⟨u1_, r1_⟩, ⟨u2_, u3_, u4_, r2_⟩, r3_, r4_, r5_⟩ := RA
      have RA : Res2 _ ba := ⟨⟨u1_, r1_⟩, ⟨u2_, u3_, u4_, r2_⟩, r3_, r4_, r5_⟩
      go_simp
      refine hK.out _ _ ?_
      clear hK K r1_ r2_ r3_ r4_ r5_
      try go_frame
      refine wpAnyF_st (i := 23) (by kernel_rfl) (by kernel_rfl) rfl (fun K hK => ?_)
      obtain ⟨⟨u1_, r1_⟩, ⟨u2_, u3_, u4_, r2_⟩, r3_, r4_, r5_⟩ := RA
      have RA : Res2 _ ba := ⟨⟨u1_, r1_⟩, ⟨u2_, u3_, u4_, r2_⟩, r3_, r4_, r5_⟩
      go_simp
      refine hK.out _ _ ?_
      clear hK K r1_ r2_ r3_ r4_ r5_
      try go_frame
      refine wpAnyF_done (by kernel_rfl) ?_ _
      clear hHeld
      have V6 := VX.store RA H17.out
      have hne : ba ≠ w.heap.size + 1 + 1 := by omega
      replace RR := RR.far (x := .bool n17) (y := .slice A17 m17 k17) hne
      replace HB := below_set2 (b := ba) HB (by omega) (.bool n17) (.slice A17 m17 k17)
      generalize hW9 : (w17.setCell ⟨ba, 0, none⟩ (.bool n17)).setCell ⟨ba, 1, none⟩ (.slice A17 m17 k17) = W9 at *
      clear hW9 RA CA CB VM_ VZ
      have vs0 := V6.c0; have vs1 := V6.c1; have vsf := V6.f0; have vsg := V6.f1; have vsl := V6.lt
      have RRh := RR
      obtain ⟨⟨u1, r1⟩, ⟨u2, u3, u4, r2⟩, r3, r4, r5⟩ := RR
      go_wp2
      refine bodyPost_ret (v := .tuple #[.agg #[.bool n17, .slice A17 m17 k17], .int .i64 r]) (by simp [results, Tryz.results60, go_sem, r1, r2, r5]) rfl ⟨_, r, rfl, by rw [HST.out]; exact V6.iz.out.res2 RRh _ _, HRM.out, below_set2 HB (by omega) _ _⟩
  · go_simp
    refine hK.out _ _ (by replace VM_ := VM_.keep (below_alloc (Below.refl wd.heap.size wd) (Obj.cells #[Value.bool false, Value.slice none 0 0] 57)); replace VZ := VZ.keep (below_alloc (Below.refl wd.heap.size wd) (Obj.cells #[Value.bool false, Value.slice none 0 0] 57)); replace CA := CA.keep (below_alloc (Below.refl wd.heap.size wd) (Obj.cells #[Value.bool false, Value.slice none 0 0] 57)); replace CB := CB.keep (below_alloc (Below.refl wd.heap.size wd) (Obj.cells #[Value.bool false, Value.slice none 0 0] 57)); replace RR := RR.keep (below_alloc (Below.refl wd.heap.size wd) (Obj.cells #[Value.bool false, Value.slice none 0 0] 57)); exact ⟨VM_.c0, VM_.c1, VM_.c2, VZ.c0, VZ.c1, CA.c, CB.c⟩) (fun hHeld => ?_)
    clear hK K
    try go_frame
    have hba1 := HB.size
    have ltVM_ := VM_.lt
    have ltVZ := VZ.lt
    have ltCA := CA.lt
    have ltCB := CB.lt
    have ltRR := RR.lt
    have RA := newRes wd 57
    replace VM_ := VM_.keep (below_alloc (Below.refl wd.heap.size wd) (Obj.cells #[Value.bool false, Value.slice none 0 0] 57)); replace VZ := VZ.keep (below_alloc (Below.refl wd.heap.size wd) (Obj.cells #[Value.bool false, Value.slice none 0 0] 57)); replace CA := CA.keep (below_alloc (Below.refl wd.heap.size wd) (Obj.cells #[Value.bool false, Value.slice none 0 0] 57)); replace CB := CB.keep (below_alloc (Below.refl wd.heap.size wd) (Obj.cells #[Value.bool false, Value.slice none 0 0] 57)); replace RR := RR.keep (below_alloc (Below.refl wd.heap.size wd) (Obj.cells #[Value.bool false, Value.slice none 0 0] 57))
    replace HB := below_alloc HB (Obj.cells #[Value.bool false, Value.slice none 0 0] 57)
    generalize hWa : wd.alloc (Obj.cells #[Value.bool false, Value.slice none 0 0] 57) = wa at *
    generalize hba : wd.heap.size = ba at *
    refine wpAnyF_one (i := 6) (by kernel_rfl) rfl (fun K hK => ?_)
    go_simp
    (go_at_call 26; (with_reducible refine (hOf_c x _ (by omega) (by omega)).mono ?_); rintro e w5 ⟨v, rfl, hv, hb5⟩; obtain ⟨n5, A5, m5, k5, rfl, H5⟩ := hv.form; clear hv; replace VM_ := VM_.keep hb5; replace VZ := VZ.keep hb5; replace CA := CA.keep hb5; replace CB := CB.keep hb5; replace RR := RR.keep hb5; replace HB := below_step HB hb5)
    replace RA := RA.keep hb5
    clear hb5
    refine hK.out _ _ (by exact ⟨VM_.c0, VM_.c1, VM_.c2, VZ.c0, VZ.c1, CA.c, CB.c⟩) (fun hHeld => ?_)
    clear hK K
    try go_frame
    refine wpAnyF_one (i := 7) (by kernel_rfl) rfl (fun K hK => ?_)
    go_simp
    (go_at_call 81; (with_reducible refine (hMul_c z x _ _ _ (by exact VZ.iz.out) H5.out (by have := LZ.out; omega) (by have := LX.out; omega)).mono ?_); rintro e w7 ⟨v, rfl, hv, hb7⟩; obtain ⟨n7, A7, m7, k7, rfl, H7⟩ := hv.form; clear hv; replace VM_ := VM_.keep hb7; replace VZ := VZ.keep hb7; replace CA := CA.keep hb7; replace CB := CB.keep hb7; replace RR := RR.keep hb7; replace HB := below_step HB hb7)
    replace RA := RA.keep hb7
    clear hb7
    refine hK.out _ _ (by exact ⟨VM_.c0, VM_.c1, VM_.c2, VZ.c0, VZ.c1, CA.c, CB.c⟩) (fun hHeld => ?_)
    clear hK K
    try go_frame
    refine wpAnyF_one (i := 13) (by kernel_rfl) rfl (fun K hK => ?_)
    go_simp
    (go_at_call 26; (with_reducible refine (hOf_c y _ (by omega) (by omega)).mono ?_); rintro e w13 ⟨v, rfl, hv, hb13⟩; obtain ⟨n13, A13, m13, k13, rfl, H13⟩ := hv.form; clear hv; replace VM_ := VM_.keep hb13; replace VZ := VZ.keep hb13; replace CA := CA.keep hb13; replace CB := CB.keep hb13; replace RR := RR.keep hb13; replace HB := below_step HB hb13; replace H7 := Lib.hid (H7.out.below hb13))
    replace RA := RA.keep hb13
    clear hb13
    refine hK.out _ _ (by exact ⟨VM_.c0, VM_.c1, VM_.c2, VZ.c0, VZ.c1, CA.c, CB.c⟩) (fun hHeld => ?_)
    clear hK K
    try go_frame
    refine wpAnyF_one (i := 14) (by kernel_rfl) rfl (fun K hK => ?_)
    go_simp
    (go_at_call 25; (with_reducible refine (hAdd_c (z * x) y _ _ _ H7.out H13.out (by have := LXZ.out; omega) (by have := LY.out; omega)).mono ?_); rintro e w14 ⟨v, rfl, hv, hb14⟩; obtain ⟨n14, A14, m14, k14, rfl, H14⟩ := hv.form; clear hv; replace VM_ := VM_.keep hb14; replace VZ := VZ.keep hb14; replace CA := CA.keep hb14; replace CB := CB.keep hb14; replace RR := RR.keep hb14; replace HB := below_step HB hb14)
    replace RA := RA.keep hb14
    clear hb14
    refine hK.out _ _ (by exact ⟨VM_.c0, VM_.c1, VM_.c2, VZ.c0, VZ.c1, CA.c, CB.c⟩) (fun hHeld => ?_)
    clear hK K
    try go_frame
    refine wpAnyF_one (i := 17) (by kernel_rfl) rfl (fun K hK => ?_)
    go_simp
    (go_at_call 80; (with_reducible refine (hSmall_c (z * x + y) md _ _ H14.out (by omega) (by omega) LS.out).mono ?_); rintro e w17 ⟨v, rfl, hv, hb17⟩; generalize (z * x + y) % md = rr at *; obtain ⟨n17, A17, m17, k17, rfl, H17⟩ := hv.form; clear hv; replace VM_ := VM_.keep hb17; replace VZ := VZ.keep hb17; replace CA := CA.keep hb17; replace CB := CB.keep hb17; replace RR := RR.keep hb17; replace HB := below_step HB hb17)
    replace RA := RA.keep hb17
    clear hb17
    refine hK.out _ _ (by exact ⟨VM_.c0, VM_.c1, VM_.c2, VZ.c0, VZ.c1, CA.c, CB.c⟩) (fun hHeld => ?_)
    clear hK K
    try go_frame
    refine wpF_t (i := 18) (oi := op3e253f66) (v := ?_) rfl (by kernel_rfl) (fun _ _ _ h => h) (Or.inl ⟨by rfl, ?_⟩) hHeld ?_; rotate_left
    · intro w_ hSw_; (try dsimp only at hSw_); go_simp; (try with_reducible rfl)
    try go_frame
    refine wpF_t (i := 19) (oi := ope728bf13) (v := ?_) rfl (by kernel_rfl) (fun _ _ _ h => h) (Or.inl ⟨by rfl, ?_⟩) hHeld ?_; rotate_left
    · intro w_ hSw_; (try dsimp only at hSw_); go_simp; (try with_reducible rfl)
    try go_frame
    refine wpF_p (i := 20) (oi := op6f71d9af) (v := ?_) rfl (by kernel_rfl) (fun _ _ _ h => h) (Or.inl ⟨by rfl, ?_⟩) hHeld ?_; rotate_left
    · intro w_ hSw_; (try dsimp only at hSw_); go_simp; (try with_reducible rfl)
    try go_frame
    refine wpAnyF_st (i := 22) (by kernel_rfl) (by kernel_rfl) rfl (fun K hK => ?_)
    obtain ⟨⟨u1_, r1_⟩, ⟨u2_, u3_, u4_, r2_⟩, r3_, r4_, r5_⟩ := RA
    have RA : Res2 _ ba := ⟨⟨u1_, r1_⟩, ⟨u2_, u3_, u4_, r2_⟩, r3_, r4_, r5_⟩
    go_simp
    refine hK.out _ _ ?_
    clear hK K r1_ r2_ r3_ r4_ r5_
    try go_frame
    refine wpAnyF_st (i := 23) (by kernel_rfl) (by kernel_rfl) rfl (fun K hK => ?_)
    obtain ⟨⟨u1_, r1_⟩, ⟨u2_, u3_, u4_, r2_⟩, r3_, r4_, r5_⟩ := RA
    have RA : Res2 _ ba := ⟨⟨u1_, r1_⟩, ⟨u2_, u3_, u4_, r2_⟩, r3_, r4_, r5_⟩
    go_simp
    refine hK.out _ _ ?_
    clear hK K r1_ r2_ r3_ r4_ r5_
    try go_frame
    refine wpAnyF_done (by kernel_rfl) ?_ _
    clear hHeld
    have V6 := VX.store RA H17.out
    have hne : ba ≠ w.heap.size + 1 + 1 := by omega
    replace RR := RR.far (x := .bool n17) (y := .slice A17 m17 k17) hne
    replace HB := below_set2 (b := ba) HB (by omega) (.bool n17) (.slice A17 m17 k17)
    generalize hW9 : (w17.setCell ⟨ba, 0, none⟩ (.bool n17)).setCell ⟨ba, 1, none⟩ (.slice A17 m17 k17) = W9 at *
    clear hW9 RA CA CB VM_ VZ
    have vs0 := V6.c0; have vs1 := V6.c1; have vsf := V6.f0; have vsg := V6.f1; have vsl := V6.lt
    have RRh := RR
    obtain ⟨⟨u1, r1⟩, ⟨u2, u3, u4, r2⟩, r3, r4, r5⟩ := RR
    go_wp2
    refine bodyPost_ret (v := .tuple #[.agg #[.bool n17, .slice A17 m17 k17], .int .i64 r]) (by simp [results, Tryz.results60, go_sem, r1, r2, r5]) rfl ⟨_, r, rfl, by rw [HST.out]; exact V6.iz.out.res2 RRh _ _, HRM.out, below_set2 HB (by omega) _ _⟩
end Go.Proofs.YtiaeeclmlchpoaaGreatDoor

set_option linter.unusedVariables false
set_option linter.unusedSimpArgs false
namespace Go.Proofs.YtiaeeclmlchpoaaGreatDoor
open Go.RowKit Go.Shelf

attribute [local go_sem] Oper.semAt_some

set_option maxHeartbeats 1000000 in
theorem Walk_c (M : Mp) (z : Int) (v u : Value) (w : World) (hM : IsM w v M) (hz : IsH w u z) :
    Calls Tryz.prog 48 #[v, u] w fun e w' => e = .returned (.func (.func 59) #[] #[.pointer (some ⟨w.heap.size + 1, 0, none⟩), .pointer (some ⟨w.heap.size, 0, none⟩)]) ∧
      (∃ md A n c A' n' c', VM w' w.heap.size md A n c A' n' c' M) ∧ (∃ nv A n c, VH w' (w.heap.size + 1) nv A n c z) ∧ Below w.heap.size w w' := by
  obtain ⟨md, A, n, c, A', n', c', rfl, HM⟩ := hM.form
  obtain ⟨nz, Az, mz, kz, rfl, HZ⟩ := hz.form
  clear hM hz
  go_enter Tryz.func48, Tryz.ntmps48
  go_wp2
  obtain ⟨V1, V2, hs, HB⟩ := startMH w 24 57 _ HM.out HZ.out rfl
  go_ret
  exact ⟨rfl, ⟨_, _, _, _, _, _, _, V1⟩, ⟨_, _, _, _, V2⟩, HB⟩

/-- The number after k steps. -/
def itZ (M : Mp) (z : Int) : Nat → Int
  | 0 => z
  | k + 1 => stepZ M (itZ M z k)
abbrev XZ := Bool × Option Addr × Nat × Nat
/-- What the iterator knows: its map's block, and that its own block holds the number after k steps. -/
def RW (M : Mp) (z : Int) (bm bn : Nat) (k : Nat) (x : XZ) (W : World) : Prop := (∃ md A n c A' n' c', VM W bm md A n c A' n' c' M) ∧ VH W bn x.1 x.2.1 x.2.2.1 x.2.2.2 (itZ M z k)
abbrev encZ (k : Nat) (x : XZ) : Array Value := #[.int .i64 (k : Int), .agg #[.bool x.1, .slice x.2.1 x.2.2.1 x.2.2.2]]

set_option maxRecDepth 100000 in
set_option maxHeartbeats 2000000 in
theorem Walk1_st (M : Mp) (z : Int) (bm bn N n : Nat) (hn1 : 1 ≤ n) (hne : bn ≠ bm) (hok : okM M) (sz : ∀ k, k < N → (dg B9 (itZ M z k)).length ≤ 900000000) (hN : N ≤ 1000000000) :
    SeqSt Fence.wide n Tryz.prog 59 #[.pointer (some ⟨bn, 0, none⟩), .pointer (some ⟨bm, 0, none⟩)] encZ (RW M z bm bn) bn N := by
  intro l J Jx W hJ hY hN0 h0 hR0
  refine callsIn_of_wp Tryz.func59 rfl trivial ?_ rfl
  simp only [Tryz.ntmps59, List.size_toArray, List.length_cons, List.length_nil, Nat.reduceAdd, Nat.reduceSub, Array.replicate_succ, Array.replicate_zero, List.push_toArray, List.append_toArray, List.nil_append, List.cons_append]
  obtain ⟨x0, hx0⟩ := hR0
  gi_wp2
  gi_loopw [4] (fun kv wr => ∃ (k : Nat) (x : XZ), kv = .int .i64 (k : Int) ∧ k ≤ N ∧ J k wr ∧ RW M z bm bn k x wr) (fun kv wr => N - (intOf kv).toNat)
  case atStart => exact ⟨0, x0, rfl, Nat.zero_le _, h0, hx0⟩
  case round =>
    obtain ⟨k, x, rfl, hk, hj, hr⟩ := hrel
    have hkN : k < N := by
      rcases Nat.lt_or_ge k N with h | h
      · exact h
      · obtain rfl : k = N := by omega
        exact absurd hj (hN0 wr)
    obtain ⟨fn, tmps, assign, body, hy, hR⟩ := hY k x wr hj hr hkN
    obtain ⟨nv, A, m, c⟩ := x
    dsimp only [encZ] at hy
    have hrV := hr.2
    have c0 := hrV.c0
    have c1 := hrV.c1
    clear hr hrV
    gi_wp2
    refine hR.mono ?_
    rintro e W3 (⟨rfl, hJ3, ⟨md, Am, nm, cm, Am', nm', cm', hM3⟩, hV3⟩ | ⟨rfl, hJx3⟩)
    · have d0 := hV3.c0
      have d1 := hV3.c1
      have m0 := hM3.c0
      have m1 := hM3.c1
      have m2 := hM3.c2
      have HK := Lib.hid (sz k hkN)
      gi_wp2_with (refine ⟨trivial, ?_⟩; gi_at_call 60; refine (callsIn_wide.2 (Next_c M (itZ M z k) _ _ _ hM3.im.out hV3.iz.out hok HK.out)).mono ?_; rintro e w1 ⟨v1, r1, rfl, hv1, hr1, hb1⟩; obtain ⟨n1, A1, m1, k1, rfl, H1⟩ := hv1.form; have V4 := hV3.keep hb1; have M4 := hM3.keep hb1; have R4 := V4.res; have e0 := V4.c0; have e1 := V4.c1; have ef := V4.f0; have eg := V4.f1; clear hr1 hv1)
      refine ⟨⟨k + 1, (n1, A1, m1, k1), by go_num, by omega, hJ _ _ _ (hJ _ _ _ hJ3 (St.of hb1)) (St.set R4 _ _), ⟨md, Am, nm, cm, Am', nm', cm', M4.far R4 hne⟩, VX.store R4 H1.out⟩, ?_⟩
      simp only [intOf]
      omega
    · gi_wp2
      go_end0
      exact ⟨⟨_, rfl⟩, hJx3⟩
end Go.Proofs.YtiaeeclmlchpoaaGreatDoor

set_option linter.unusedVariables false
set_option linter.unusedSimpArgs false
namespace Go.Proofs.YtiaeeclmlchpoaaGreatDoor
open Go.RowKit

theorem info_H : (Tryz.prog.info? 57).map (fun i => (i.zero, i.size, i.bytes)) = some (some (.agg #[.bool false, .slice none 0 0]), 2, 32) := by kernel_rfl
section
variable {P : Program} {ops : Array Oper} {rest : List Oper} {o : Oper} {a : Act} {Q : Exit → Act → World → Prop}
theorem op_Zs {B : Nat} {k : IntKind} {W : World} {K : Act → World → Prop} (base : Nat) (s x : Operand) (t e : TypeId) (bytes : Nat)
    (ho : o.op = .call { callee := .builtin .append, args := #[s, x], argTypes := #[t, t] })
    (ht : P.underlying t = some (.slice e)) (hinfo : (P.info? e).map (fun i => (i.zero, i.size, i.bytes)) = some (some (.agg #[.bool false, .slice none 0 0]), 2, bytes)) (hb0 : 0 < bytes)
    (v : Value) (l m : List Int) (A : Option Addr) (n c : Nat) (hn : n = m.length) (HO : OwZ B k W base e v l) (HL : LsZ B k W A c m) (hs : a.eval s = v) (hx : a.eval x = .slice A n c) (hv : v ≠ .slice none 0 0 ∨ m ≠ []) (hbase : base ≤ W.heap.size) (hl : (l.length + m.length) * bytes ≤ 140737488355328)
    (h : ∀ v1 w1, OwZ B k w1 base e v1 (l ++ m) → Below base W w1 → Kp W w1 → base ≤ w1.heap.size → K (a.put o.dst v1) w1) :
    Oper.wp P o a W K Q := by
  subst hn
  obtain ⟨v', w', hr, h1, h2, h3, h4⟩ := run_app_Zs (P := P) base t o.type e bytes ht hinfo hb0 v l m A c HO HL hv hbase hl
  unfold Oper.wp execOp
  simp only [ho, resolve, invoke, builtin, Sem.run_bind, Sem.run_pure, Result.andThen_ok, List.map_toArray, List.map_cons, List.map_nil, hs, hx, hr]
  exact h v' w' h1 h2 h3 h4
theorem app_Zs {B : Nat} {k : IntKind} {W : World} (base : Nat) (hgd : o.guard = none) (s x : Operand) (t e : TypeId) (bytes : Nat)
    (ho : o.op = .call { callee := .builtin .append, args := #[s, x], argTypes := #[t, t] })
    (ht : P.underlying t = some (.slice e)) (hinfo : (P.info? e).map (fun i => (i.zero, i.size, i.bytes)) = some (some (.agg #[.bool false, .slice none 0 0]), 2, bytes)) (hb0 : 0 < bytes)
    (v : Value) (l m : List Int) (A : Option Addr) (n c : Nat) (hn : n = m.length) (HO : OwZ B k W base e v l) (HL : LsZ B k W A c m) (hs : a.eval s = v) (hx : a.eval x = .slice A n c) (hv : v ≠ .slice none 0 0 ∨ m ≠ []) (hbase : base ≤ W.heap.size) (hl : (l.length + m.length) * bytes ≤ 140737488355328)
    (h : ∀ v1 w1, OwZ B k w1 base e v1 (l ++ m) → Below base W w1 → Kp W w1 → base ≤ w1.heap.size → wpList P ops Q rest (a.put o.dst v1) w1) :
    wpList P ops Q (o :: rest) a W :=
  wpList_plain hgd fun _ hK => by
    subst hn
    obtain ⟨v', w', hr, h1, h2, h3, h4⟩ := run_app_Zs (P := P) base t o.type e bytes ht hinfo hb0 v l m A c HO HL hv hbase hl
    unfold Oper.wp execOp
    simp only [ho, resolve, invoke, builtin, Sem.run_bind, Sem.run_pure, Result.andThen_ok, List.map_toArray, List.map_cons, List.map_nil, hs, hx, hr]
    exact hK _ _ (h v' w' h1 h2 h3 h4)
end
set_option maxRecDepth 100000 in
set_option maxHeartbeats 1000000 in
theorem Clone_c (A : Option Addr) (c : Nat) (l : List Int) (w : World) (h : LsZ B9 .u32 w A c l) (h0 : l ≠ []) (sz : l.length ≤ 1000000) :
    Calls Tryz.prog 61 #[.slice A l.length c] w fun e w' => ∃ v, e = .returned v ∧ OwZ B9 .u32 w' w.heap.size 57 v l ∧ Below w.heap.size w w' := by
  have hA : ∃ b off, A = some ⟨b, off, none⟩ := by
    obtain ⟨b, off, _, _, _, _, e, _⟩ := h.at (j := 0) (List.length_pos_iff.2 h0)
    exact ⟨b, off, e⟩
  obtain ⟨b, off, rfl⟩ := hA
  have HO0 : OwZ B9 .u32 (w.alloc (.cells #[] 57)) w.heap.size 57 (.slice (some ⟨w.heap.size, 0, none⟩) 0 0) [] := OwZ.made0 (Nat.le_refl _)
  have HB0 := below_alloc (Below.refl w.heap.size w) (Obj.cells #[] 57)
  have HL := h.below HB0
  have hb := HB0.size
  have hsn := fun W : World => _root_.Go.run_eql_slice_nil (P := Tryz.prog) W 63 57 (some ⟨b, off, none⟩) l.length c Tryz.underlying63
  simp only [Option.isNone_some] at hsn
  go_enter Tryz.func61, Tryz.ntmps61
  go_wp2_with (at_builtin; refine app_Zs w.heap.size rfl _ _ 63 57 32 rfl Tryz.underlying63 info_H (by decide) _ [] l _ _ c rfl HO0 HL rfl rfl (.inr h0) hb (by simp; omega) ?_; intro v1 w1 HO1 HB1 HK1 hb1)
  go_ret
  exact ⟨_, rfl, by simpa using HO1, HB0.trans HB1⟩
theorem OwZ.base_le {B : Nat} {k : IntKind} {w : World} {base base' : Nat} {e : TypeId} {v : Value} {l : List Int} (h : OwZ B k w base e v l) (hb : base' ≤ base) : OwZ B k w base' e v l := by
  obtain ⟨xs, ⟨⟨h1, h2⟩, h3⟩, h4⟩ := h
  refine ⟨xs, ⟨⟨h1, ?_⟩, h3⟩, h4⟩
  rcases h2 with h2 | ⟨g, cap, cur, r0, r1, r2⟩
  · exact .inl h2
  · exact .inr ⟨g, cap, cur, r0, Nat.le_trans hb r1, r2⟩
/-- Where the least number first stands. -/
def mnL (l : List Int) : Nat := leastF l l.length 0 0
def turnL (l : List Int) : List Int := l.drop (mnL l) ++ l.take (mnL l)
set_option maxRecDepth 100000 in
set_option maxHeartbeats 4000000 in
theorem turned_c (A : Option Addr) (c : Nat) (l : List Int) (w : World) (h : LsZ B9 .u32 w A c l) (h0 : l ≠ []) (sz : l.length ≤ 1000000) :
    Calls Tryz.prog 49 #[.slice A l.length c] w fun e w' => ∃ v, e = .returned v ∧ OwZ B9 .u32 w' w.heap.size 57 v (turnL l) ∧ Below w.heap.size w w' := by
  have hA : ∃ b off, A = some ⟨b, off, none⟩ := by
    obtain ⟨b, off, _, _, _, _, e, _⟩ := h.at (j := 0) (List.length_pos_iff.2 h0)
    exact ⟨b, off, e⟩
  obtain ⟨b, off, rfl⟩ := hA
  have hcl : l.length ≤ c := by obtain ⟨_, _, h2, _⟩ := h; exact h2
  have hc63 : c ≤ 9223372036854775807 := by obtain ⟨_, _, _, h2, _⟩ := h; exact h2
  have LL0 := Lib.hid h
  obtain ⟨n, hn⟩ : ∃ n, l.length = n := ⟨_, rfl⟩
  have HLN := Lib.hid hn
  have hn0 : 0 < n := by have := List.length_pos_iff.2 h0; omega
  have HN0 := Lib.hid h0
  rw [hn] at sz hcl ⊢
  clear h hn h0
  have HB0 : Below w.heap.size w w := Below.refl _ _
  go_enter Tryz.func49, Tryz.ntmps49
  go_wp2_with fail
  go_loopg [3, 7] n (fun g av iv wr => ∃ (i m : Nat), av = .int .i64 m ∧ iv = .int .i64 i ∧ g = n - i ∧ i ≤ n ∧ m < n ∧ Hid (LsZ B9 .u32 wr (some ⟨b, off, none⟩) c l) ∧ Below w.heap.size w wr ∧ Hid (leastF l n 0 0 = leastF l (n - i) i m))
  case atStart => exact ⟨0, 0, rfl, rfl, rfl, by omega, hn0, LL0, HB0, rfl⟩
  case round =>
    clear LL0 HB0
    obtain ⟨i, m, rfl, rfl, hgk, hi, hm, LL, HB, HM⟩ := hrel
    by_cases hin : i < n
    · have hi0 : (0 : Int) ≤ (i : Int) := by omega
      have hm0 : (0 : Int) ≤ (m : Int) := by omega
      have hi1 : (i : Int) < (n : Int) := by omega
      have hm1 : (m : Int) < (n : Int) := by omega
      obtain ⟨np, Ap, mp, kp, p0, p1, HP⟩ := LL.out.el (j := i) (by rw [HLN.out]; exact hin)
      obtain ⟨nq, Aq, mq, kq, q0, q1, HQ⟩ := LL.out.el (j := m) (by rw [HLN.out]; exact hm)
      go_wp2_with fail
      replace p0 := p0.drew; replace p1 := p1.drew; replace q0 := q0.drew; replace q1 := q1.drew
      replace LL := Lib.hid (LL.out.below (below_drew (Below.refl _ _)))
      replace HP := Lib.hid (HP.out.below (below_drew (Below.refl _ _)))
      replace HQ := Lib.hid (HQ.out.below (below_drew (Below.refl _ _)))
      replace HB := below_drew HB
      generalize hWd : wr.drew = wd at *
      refine wp_region_F (fun w' => w'.cell? ⟨b, off + i * 2, none⟩ = some (.bool np) ∧ w'.cell? ⟨b, off + i * 2 + 1, none⟩ = some (.slice Ap mp kp) ∧ w'.cell? ⟨b, off + m * 2, none⟩ = some (.bool nq) ∧ w'.cell? ⟨b, off + m * 2 + 1, none⟩ = some (.slice Aq mq kq)) [] (by kernel_rfl) (by rw [hWd]; exact ⟨p0.c, p1.c, q0.c, q1.c⟩) (fun hHeld => ?_)
      rw [hWd] at hHeld ⊢
      refine wpF_t (i := 0) (oi := { dst := some 10, op := Go.Op.move (Go.Operand.tmp 0), type := 63, pos := "fate.go:41", after := #[], guard := none }) (v := ?_) rfl (by kernel_rfl) (fun _ _ _ h => h) (Or.inl ⟨by rfl, ?_⟩) hHeld ?_; rotate_left
      · intro w_ hSw_; (try dsimp only at hSw_); go_simp; (try with_reducible rfl)
      try go_frame
      refine wpF_t (i := 1) (oi := { dst := some 11, op := Go.Op.move (Go.Operand.tmp 4), type := 3, pos := "fate.go:41", after := #[], guard := none }) (v := ?_) rfl (by kernel_rfl) (fun _ _ _ h => h) (Or.inl ⟨by rfl, ?_⟩) hHeld ?_; rotate_left
      · intro w_ hSw_; (try dsimp only at hSw_); go_simp; (try with_reducible rfl)
      try go_frame
      refine wpF_t (i := 2) (oi := { dst := some 12, op := Go.Op.indexAddr 63 (Go.Operand.tmp 10) (Go.Operand.tmp 11), type := 0, pos := "fate.go:41", after := #[{ on := 0, ground := Go.Ground.data }, { on := 1, ground := Go.Ground.data }], guard := none }) (v := ?_) rfl (by kernel_rfl) (fun _ _ _ h => h) (Or.inl ⟨by rfl, ?_⟩) hHeld ?_; rotate_left
      · intro w_ hSw_; (try dsimp only at hSw_); go_simp; (try with_reducible rfl)
      try go_frame
      refine wpF_t (i := 3) (oi := { dst := some 13, op := Go.Op.load 57 (Go.Operand.tmp 12), type := 57, pos := "fate.go:41", after := #[{ on := 2, ground := Go.Ground.data }], guard := none }) (v := ?_) rfl (by kernel_rfl) (fun _ _ _ h => h) (Or.inl ⟨by rfl, ?_⟩) hHeld ?_; rotate_left
      · intro w_ hSw_; (try dsimp only at hSw_); go_simp; (try with_reducible rfl)
      try go_frame
      refine wpF_t (i := 4) (oi := { dst := some 14, op := Go.Op.move (Go.Operand.tmp 0), type := 63, pos := "fate.go:41", after := #[], guard := none }) (v := ?_) rfl (by kernel_rfl) (fun _ _ _ h => h) (Or.inl ⟨by rfl, ?_⟩) hHeld ?_; rotate_left
      · intro w_ hSw_; (try dsimp only at hSw_); go_simp; (try with_reducible rfl)
      try go_frame
      refine wpF_t (i := 5) (oi := { dst := some 15, op := Go.Op.move (Go.Operand.tmp 3), type := 3, pos := "fate.go:41", after := #[], guard := none }) (v := ?_) rfl (by kernel_rfl) (fun _ _ _ h => h) (Or.inl ⟨by rfl, ?_⟩) hHeld ?_; rotate_left
      · intro w_ hSw_; (try dsimp only at hSw_); go_simp; (try with_reducible rfl)
      try go_frame
      refine wpF_t (i := 6) (oi := { dst := some 16, op := Go.Op.indexAddr 63 (Go.Operand.tmp 14) (Go.Operand.tmp 15), type := 0, pos := "fate.go:41", after := #[{ on := 4, ground := Go.Ground.data }, { on := 5, ground := Go.Ground.data }], guard := none }) (v := ?_) rfl (by kernel_rfl) (fun _ _ _ h => h) (Or.inl ⟨by rfl, ?_⟩) hHeld ?_; rotate_left
      · intro w_ hSw_; (try dsimp only at hSw_); go_simp; (try with_reducible rfl)
      try go_frame
      refine wpF_t (i := 7) (oi := { dst := some 17, op := Go.Op.load 57 (Go.Operand.tmp 16), type := 57, pos := "fate.go:41", after := #[{ on := 6, ground := Go.Ground.data }], guard := none }) (v := ?_) rfl (by kernel_rfl) (fun _ _ _ h => h) (Or.inl ⟨by rfl, ?_⟩) hHeld ?_; rotate_left
      · intro w_ hSw_; (try dsimp only at hSw_); go_simp; (try with_reducible rfl)
      try go_frame
      refine wpAnyF_one (i := 8) (by kernel_rfl) rfl (fun K hK => ?_)
      go_simp
      (go_at_call 32; (with_reducible refine (hCmp_c (gd l i) (gd l m) _ _ _ HP.out HQ.out).mono ?_); rintro e w5 ⟨rfl, hb5⟩; replace LL := Lib.hid (LL.out.below hb5); replace p0 := p0.keep hb5; replace p1 := p1.keep hb5; replace q0 := q0.keep hb5; replace q1 := q1.keep hb5; replace HB := below_step HB hb5; clear hb5)
      refine hK.out _ _ (by exact ⟨p0.c, p1.c, q0.c, q1.c⟩) (fun hHeld => ?_)
      clear hK K
      try go_frame
      refine wpF_t (i := 9) (oi := { dst := some 19, op := Go.Op.binOp Go.BinOp.lss 3 (Go.Operand.tmp 18) (Go.Operand.const (Go.Value.int Go.IntKind.i64 0)) 3, type := 4, pos := "fate.go:41", after := #[{ on := 8, ground := Go.Ground.data }], guard := none }) (v := ?_) rfl (by kernel_rfl) (fun _ _ _ h => h) (Or.inl ⟨by rfl, ?_⟩) hHeld ?_; rotate_left
      · intro w_ hSw_; (try dsimp only at hSw_); go_simp; (try with_reducible rfl)
      try go_frame
      refine wpAnyF_done (by kernel_rfl) ?_ _
      clear hHeld hWd HP HQ p0 p1 q0 q1
      by_cases hlt : gd l i < gd l m
      · have HM2 : Hid (leastF l n 0 0 = leastF l (n - (i + 1)) (i + 1) i) := by
          show _ = _
          rw [HM.out, show n - i = (n - (i + 1)) + 1 by omega, leastF, if_pos hlt]
        have hc : icmp (gd l i) (gd l m) < 0 := (icmp_lt' _ _).2 hlt
        clear hlt HM
        go_wp2
        go_roundg (n - (i + 1))
        case measure => omega
        case rel => exact ⟨i + 1, i, rfl, by go_num, rfl, by omega, by omega, LL, HB, HM2⟩
      · have HM2 : Hid (leastF l n 0 0 = leastF l (n - (i + 1)) (i + 1) m) := by
          show _ = _
          rw [HM.out, show n - i = (n - (i + 1)) + 1 by omega, leastF, if_neg hlt]
        have hc : ¬ icmp (gd l i) (gd l m) < 0 := fun h => hlt ((icmp_lt' _ _).1 h)
        clear hlt HM
        go_wp2
        go_roundg (n - (i + 1))
        case measure => omega
        case rel => exact ⟨i + 1, m, rfl, by go_num, rfl, by omega, by omega, LL, HB, HM2⟩
    · obtain rfl : i = n := by omega
      have HMM : Hid (mnL l = m) := by show _ = _; unfold mnL; rw [HLN.out, HM.out, Nat.sub_self]; rfl
      clear HM hgk hi hin
      have hm0 : (0 : Int) ≤ (m : Int) := by omega
      have hm1 : (m : Int) ≤ (i : Int) := by omega
      go_wp2_with fail
      have hmc : m ≤ c := by omega
      have hcne : ¬ c = m := by omega
      have hld : (l.drop m).length = i - m := by rw [List.length_drop, HLN.out]
      have hlt : (l.take m).length = m := by rw [List.length_take, HLN.out]; omega
      have HCL : Hid (∀ W, LsZ B9 .u32 W (some ⟨b, off + m * 2, none⟩) (c - m) (l.drop m) → Calls Tryz.prog 61 #[.slice (some ⟨b, off + m * 2, none⟩) (i - m) (c - m)] W fun e w' => ∃ v, e = .returned v ∧ OwZ B9 .u32 w' W.heap.size 57 v (l.drop m) ∧ Below W.heap.size W w') := by
        intro W hW
        rw [← hld]
        exact Clone_c _ _ _ W hW (List.length_pos_iff.1 (by omega)) (by omega)
      have LD : Hid (LsZ B9 .u32 wr (some ⟨b, off + m * 2, none⟩) (c - m) (l.drop m)) := by
        have h := LL.out.drop (n := m) (by rw [HLN.out]; omega)
        rw [if_neg hcne, Option.map_some, plain_add] at h
        exact h
      have LT := Lib.hid (LL.out.take (n := m) (by rw [HLN.out]; omega))
      replace LD := Lib.hid (LD.out.below (below_drew (Below.refl _ _)))
      replace LT := Lib.hid (LT.out.below (below_drew (Below.refl _ _)))
      replace HB := below_drew HB
      have HLD := Lib.hid hld
      have HLT := Lib.hid hlt
      clear hld hlt LL
      generalize hWd : wr.drew = wd at *
      refine wp_region_F (fun w' => 0 ≤ w'.heap.size) [] (by kernel_rfl) (by rw [hWd]; exact Nat.zero_le _) (fun hHeld => ?_)
      rw [hWd] at hHeld ⊢
      refine wpF_t (i := 0) (oi := { dst := some 22, op := Go.Op.move (Go.Operand.tmp 0), type := 63, pos := "fate.go:45", after := #[], guard := none }) (v := ?_) rfl (by kernel_rfl) (fun _ _ _ h => h) (Or.inl ⟨by rfl, ?_⟩) hHeld ?_; rotate_left
      · intro w_ hSw_; (try dsimp only at hSw_); go_simp; (try with_reducible rfl)
      try go_frame
      refine wpF_t (i := 1) (oi := { dst := some 23, op := Go.Op.move (Go.Operand.tmp 3), type := 3, pos := "fate.go:45", after := #[], guard := none }) (v := ?_) rfl (by kernel_rfl) (fun _ _ _ h => h) (Or.inl ⟨by rfl, ?_⟩) hHeld ?_; rotate_left
      · intro w_ hSw_; (try dsimp only at hSw_); go_simp; (try with_reducible rfl)
      try go_frame
      refine wpF_t (i := 2) (oi := { dst := some 24, op := Go.Op.slice 63 (Go.Operand.tmp 22) (some (Go.Operand.tmp 23)) none none, type := 63, pos := "fate.go:45", after := #[{ on := 0, ground := Go.Ground.data }, { on := 1, ground := Go.Ground.data }], guard := none }) (v := ?_) rfl (by kernel_rfl) (fun _ _ _ h => h) (Or.inl ⟨by rfl, ?_⟩) hHeld ?_; rotate_left
      · intro w_ hSw_; (try dsimp only at hSw_); go_simp; (try with_reducible rfl)
      try go_frame
      refine wpF_t (i := 4) (oi := { dst := some 26, op := Go.Op.move (Go.Operand.tmp 0), type := 63, pos := "fate.go:45", after := #[], guard := none }) (v := ?_) rfl (by kernel_rfl) (fun _ _ _ h => h) (Or.inl ⟨by rfl, ?_⟩) hHeld ?_; rotate_left
      · intro w_ hSw_; (try dsimp only at hSw_); go_simp; (try with_reducible rfl)
      try go_frame
      refine wpF_t (i := 5) (oi := { dst := some 27, op := Go.Op.move (Go.Operand.tmp 3), type := 3, pos := "fate.go:45", after := #[], guard := none }) (v := ?_) rfl (by kernel_rfl) (fun _ _ _ h => h) (Or.inl ⟨by rfl, ?_⟩) hHeld ?_; rotate_left
      · intro w_ hSw_; (try dsimp only at hSw_); go_simp; (try with_reducible rfl)
      try go_frame
      refine wpF_t (i := 6) (oi := { dst := some 28, op := Go.Op.slice 63 (Go.Operand.tmp 26) none (some (Go.Operand.tmp 27)) none, type := 63, pos := "fate.go:45", after := #[{ on := 4, ground := Go.Ground.data }, { on := 5, ground := Go.Ground.data }], guard := none }) (v := ?_) rfl (by kernel_rfl) (fun _ _ _ h => h) (Or.inl ⟨by rfl, ?_⟩) hHeld ?_; rotate_left
      · intro w_ hSw_; (try dsimp only at hSw_); go_simp; (try with_reducible rfl)
      try go_frame
      refine wpAnyF_one (i := 3) (by kernel_rfl) rfl (fun K hK => ?_)
      go_simp
      (go_at_call 61; (with_reducible refine (HCL.out _ LD.out).mono ?_); rintro e w3 ⟨v3, rfl, HO3, hb3⟩; replace LT := Lib.hid (LT.out.below hb3); have HB3 := below_step HB hb3; have hne3 := Lib.hid (HO3.ne (List.length_pos_iff.1 (by rw [HLD.out]; omega))); have hbs := hb3.size; clear HCL LD)
      refine hK.out _ _ (by exact Nat.zero_le _) (fun hHeld => ?_)
      clear hK K
      try go_frame
      refine wpAnyF_one (i := 7) (by kernel_rfl) rfl (fun K hK => ?_)
      rw [if_pos (show Region.wanted _ _ = true from rfl)]
      (refine op_Zs wd.heap.size _ _ 63 57 32 rfl Tryz.underlying63 info_H (by decide) v3 (l.drop m) (l.take m) _ m c HLT.out.symm HO3 LT.out rfl rfl (.inl hne3.out) hbs (by rw [HLD.out, HLT.out]; omega) ?_; intro v1 w1 HO1 HB1 HK1 hb1)
      refine hK.out _ _ (by exact Nat.zero_le _) (fun hHeld => ?_)
      clear hK K
      try go_frame
      refine wpF_t (i := 8) (oi := { dst := some 2, op := Go.Op.assign (Go.Operand.tmp 29), type := 63, pos := "fate.go:45", after := #[{ on := 7, ground := Go.Ground.data }, { on := 7, ground := Go.Ground.chain }, { on := 0, ground := Go.Ground.phase }, { on := 1, ground := Go.Ground.phase }, { on := 2, ground := Go.Ground.phase }, { on := 3, ground := Go.Ground.phase }, { on := 4, ground := Go.Ground.phase }, { on := 5, ground := Go.Ground.phase }, { on := 6, ground := Go.Ground.phase }, { on := 7, ground := Go.Ground.phase }], guard := none }) (v := ?_) rfl (by kernel_rfl) (fun _ _ _ h => h) (Or.inl ⟨by rfl, ?_⟩) hHeld ?_; rotate_left
      · intro w_ hSw_; (try dsimp only at hSw_); go_simp; (try with_reducible rfl)
      try go_frame
      refine wpAnyF_done (by kernel_rfl) ?_ _
      clear hHeld
      have hwwd := Lib.hid HB.size
      replace HB := HB3.trans (HB1.mono (by have := HB.size; omega))
      have HOM : Hid (OwZ B9 .u32 w1 wd.heap.size 57 v1 (turnL l)) := by
        show OwZ _ _ _ _ _ _ _
        unfold turnL
        rw [HMM.out]
        exact HO1
      have hwd := Lib.hid (HOM.out.base_le (base' := w.heap.size) hwwd.out)
      obtain ⟨A2, c2, rfl, hs⟩ := HOM.out.form
      clear hs HOM HO1
      go_wp2
      refine bodyPost_ret (v := .slice A2 (turnL l).length c2) (by simp [results, Tryz.results49, go_sem]) rfl ⟨_, rfl, hwd.out, HB⟩
end Go.Proofs.YtiaeeclmlchpoaaGreatDoor
