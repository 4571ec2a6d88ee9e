/- Certificates reckoned out at given maps. No condition. -/
import Derived.Test.YtibdipfhfaeooaaGreatDoorZM
import Derived.Test.YtibdipfhfaeooaaGreatDoorZD
import Derived.Test.YtibdipfhfaeooaaGreatDoorZQ
import Derived.Test.YtibdipfhfaeooaaGreatDoorZG
import Derived.Test.YtibdipfhfaeooaaGreatDoorZ2
import Derived.Test.YtibdipfhfaeooaaGreatDoorZ3
import Derived.Maps.RangeWalk
set_option linter.unusedVariables false
set_option linter.unusedSimpArgs false
namespace Go.Proofs.YtibdipfhfaeooaaGreatDoor

/-- The map of the example: 1 comes to 4, 2, 1. -/
def fourM : Mp := ⟨2, [1, 4], [0, 4]⟩
theorem fourM_ok : okM fourM := okB_iff.1 (by decide)
theorem fourM_down : downP fourM 3 = (3, 1) := by decide +kernel
end Go.Proofs.YtibdipfhfaeooaaGreatDoor


set_option linter.unusedVariables false
set_option linter.unusedSimpArgs false
namespace Go.Proofs.YtibdipfhfaeooaaGreatDoor

theorem acc_of_found {M : Mp} {K : Nat} {T : Int} {ls : List (List Int)} (hok : okM M) (hr : Rise M) (hk : 1 ≤ K) (hR : M.mod ^ K ≤ 65536) (hd : downP M K = (K, T)) (hT : T ≤ 20000) (hfine : ∀ n : Nat, (n : Int) ≤ T → Fine M n) (hf : FoundL M T ls) : Acc M K T ls := by
 obtain ⟨g1, g2, g3⟩ := downP_falls hok hd (by omega)
 refine ⟨hr, hk, hR, g2, hT, ⟨fun i hi => ?_, hf.incr⟩, by rw [hd]; show K ≠ 0; omega, by rw [hd]; exact Int.le_refl _, fun n hn => ?_⟩
 ·obtain ⟨n, hn, e⟩ := hf.each i hi
  rw [e]
  exact loop_of_flw (most := 20000) hok hr (hfine n hn).1 (hfine n hn).2
 ·exact ⟨(hfine n hn).1, hf.all n hn⟩
/-- A certificate of the numbers 0 and 1, each of which comes to a cycle of its own. -/
theorem found_two {M : Mp} {ls : List (List Int)} (hf : FoundL M 1 ls) (h0 : gd (cyc M 0) 0 = 0) (h1 : gd (cyc M 1) 0 = 1) : ls = [cyc M 0, cyc M 1] := by
 have he : ∀ i, i < ls.length → lpi ls i = cyc M 0 ∨ lpi ls i = cyc M 1 := fun i hi => by
  obtain ⟨n, hn, e⟩ := hf.each i hi
  have : n = 0 ∨ n = 1 := by omega
  rcases this with rfl | rfl
  ·exact .inl e
  ·exact .inr e
 have hg : ∀ i, i < ls.length → gd (lpi ls i) 0 = 0 ∨ gd (lpi ls i) 0 = 1 := fun i hi => by
  rcases he i hi with e | e <;> rw [e]
  ·exact .inl h0
  ·exact .inr h1
 obtain ⟨a, ha, ea⟩ := hf.all 0 (by omega)
 obtain ⟨b, hb, eb⟩ := hf.all 1 (by omega)
 have ea2 : gd (lpi ls a) 0 = 0 := by rw [ea]; exact h0
 have eb2 : gd (lpi ls b) 0 = 1 := by rw [eb]; exact h1
 have hlen : ls.length < 3 := by
  rcases Nat.lt_or_ge ls.length 3 with h | h
  ·exact h
  ·exfalso
   have h2 : gd (lpi ls 0) 0 < gd (lpi ls 1) 0 := hf.incr 0 (by omega)
   have h3 : gd (lpi ls 1) 0 < gd (lpi ls 2) 0 := hf.incr 1 (by omega)
   have h4 := hg 0 (by omega)
   have h5 := hg 2 (by omega)
   omega
 have hab : a ≠ b := fun e => by rw [e] at ea2; omega
 have hinc : gd (lpi ls 0) 0 < gd (lpi ls 1) 0 := hf.incr 0 (by omega)
 have g0 := hg 0 (by omega)
 have g1 := hg 1 (by omega)
 have e0 : lpi ls 0 = cyc M 0 := by
  rcases he 0 (by omega) with e | e
  ·exact e
  ·rw [e] at hinc; omega
 have e1 : lpi ls 1 = cyc M 1 := by
  rcases he 1 (by omega) with e | e
  ·rw [e] at hinc; omega
  ·exact e
 match ls, hlen with
 | [], _ => exact absurd ha (by simp)
 | [x], _ => exact absurd hab (by simp at ha hb; omega)
 | [x, y], _ =>
  have q0 : x = cyc M 0 := e0
  have q1 : y = cyc M 1 := e1
  rw [q0, q1]
set_option maxRecDepth 100000 in
theorem four_flw0 : (flwA fourM 20001 [] 0).1 = 0 ∧ (flwA fourM 20001 [] 0).2.2 = [0] := by decide +kernel
set_option maxRecDepth 100000 in
theorem four_flw1 : (flwA fourM 20001 [] 1).1 = 0 ∧ (flwA fourM 20001 [] 1).2.2 = [1, 4, 2] := by decide +kernel
theorem four_fine (n : Nat) (h : (n : Int) ≤ 1) : Fine fourM n := by
 have : n = 0 ∨ n = 1 := by omega
 rcases this with rfl | rfl
 ·exact ⟨four_flw0.1, by rw [show ((0 : Nat) : Int) = 0 from rfl, four_flw0.2]; decide⟩
 ·exact ⟨four_flw1.1, by rw [show ((1 : Nat) : Int) = 1 from rfl, four_flw1.2]; decide⟩
theorem four_found {ls : List (List Int)} (h : FoundL fourM 1 ls) : ls = [[0], [1, 4, 2]] := by
 have h0 : cyc fourM 0 = [0] := four_flw0.2
 have h1 : cyc fourM 1 = [1, 4, 2] := four_flw1.2
 have := found_two h (by rw [h0]; rfl) (by rw [h1]; rfl)
 rw [h0, h1] at this
 exact this
theorem four_rise : Rise fourM := by
 intro r hr
 have : r < 2 := hr
 match r, this with
 | 0, _ => decide
 | 1, _ => decide
end Go.Proofs.YtibdipfhfaeooaaGreatDoor


set_option linter.unusedVariables false
set_option linter.unusedSimpArgs false
namespace Go.Proofs.YtibdipfhfaeooaaGreatDoor
open Go.RowKit

def prs (l : List (Nat × Nat)) : List Value := l.flatMap fun p => [.int .i64 p.1, .int .i64 p.2]
def gp (l : List (Nat × Nat)) (i : Nat) : Nat × Nat := l.getD i (0, 0)
theorem prs_at (l : List (Nat × Nat)) : ∀ i, i < l.length → (prs l)[i * 2]? = some (.int .i64 (gp l i).1) ∧ (prs l)[i * 2 + 1]? = some (.int .i64 (gp l i).2) := by
 induction l with
 | nil => intro i h; cases h
 | cons a t ih =>
  intro i h
  have e : prs (a :: t) = .int .i64 a.1 :: .int .i64 a.2 :: prs t := rfl
  rw [e]
  cases i with
  | zero => exact ⟨rfl, rfl⟩
  | succ i =>
   obtain ⟨h1, h2⟩ := ih i (by simpa using h)
   have eg : gp (a :: t) (i + 1) = gp t i := by simp [gp]
   rw [eg, show (i + 1) * 2 = i * 2 + 1 + 1 by omega]
   exact ⟨by simpa using h1, by simpa using h2⟩
/-- A slice of pairs. -/
def LsR (w : World) (A : Option Addr) (c : Nat) (l : List (Nat × Nat)) : Prop := Rd w 2 A l.length (prs l) ∧ l.length ≤ c ∧ c ≤ 9223372036854775807
/-- A row of pairs of the call's own. -/
def OwR (w : World) (base : Nat) (e : TypeId) (v : Value) (l : List (Nat × Nat)) : Prop := w.ownsRow base e 2 v l.length (prs l)
section
variable {w w' : World} {base : Nat} {e : TypeId} {v : Value} {l : List (Nat × Nat)} {A : Option Addr} {c : Nat}
theorem LsR.below (h : LsR w A c l) (hb : Below w.heap.size w w') : LsR w' A c l := ⟨h.1.below hb, h.2⟩
theorem LsR.nil (w : World) : LsR w none 0 [] := ⟨Rd.nil, Nat.le_refl _, by omega⟩
theorem LsR.el (h : LsR w A c l) {j : Nat} (hj : j < l.length) : ∃ b off, A = some ⟨b, off, none⟩ ∧ CL w b (off + j * 2) (.int .i64 (gp l j).1) ∧ CL w b (off + j * 2 + 1) (.int .i64 (gp l j).2) := by
 obtain ⟨b, off, e, hl, hc⟩ := h.1.2 (by omega)
 obtain ⟨h1, h2⟩ := prs_at l j hj
 exact ⟨b, off, e, ⟨hc _ _ h1, hl⟩, ⟨by rw [Nat.add_assoc]; exact hc _ _ h2, hl⟩⟩
theorem OwR.nil (w : World) (base : Nat) (e : TypeId) : OwR w base e (.slice none 0 0) [] := World.ownsRow_nil _ _ _ _
theorem OwR.below (h : OwR w base e v l) (hb : Below w.heap.size w w') : OwR w' base e v l :=
 World.ownsRow.kept (row := none) h ⟨hb.os, hb.tape, hb.output, hb.size, fun i hi _ => hb.block i hi⟩ (by cases v.ownBlock <;> simp)
theorem OwR.form (h : OwR w base e v l) : ∃ A c, v = .slice A l.length c ∧ LsR w A c l := by
 have hh : w.ownsRow base e 2 v l.length (prs l) := h
 have h2 := hh.2
 rcases h2 with ⟨rfl, h0⟩ | ⟨g, cap, cur, rfl, hb, hg, hnc, hm, _⟩
 ·have : l = [] := List.eq_nil_of_length_eq_zero h0
  subst this
  exact ⟨none, 0, rfl, ⟨hh.1, fun h => absurd h (by simp)⟩, Nat.le_refl _, by omega⟩
 ·refine ⟨some ⟨g, 0, none⟩, cap, rfl, Rd.of_own hh, hnc, ?_⟩
  simp only [maxLen] at hm
  omega
end
end Go.Proofs.YtibdipfhfaeooaaGreatDoor


set_option linter.unusedVariables false
set_option linter.unusedSimpArgs false
namespace Go.Proofs.YtibdipfhfaeooaaGreatDoor
open Go.RowKit

def digsF : Nat → Nat → Nat → List Int
 | 0, _, _ => []
 | f + 1, B, n => if n = 0 then [] else ((n % B : Nat) : Int) :: digsF f B (n / B)
theorem digsF_eq {B : Nat} (hB : 2 ≤ B) : ∀ f n, n < B ^ f → digsF f B n = digs B n := by
  intro f
  induction f with
  | zero => intro n h; rw [Nat.pow_zero] at h; obtain rfl : n = 0 := by omega
            rw [digs_zero]; rfl
  | succ f ih =>
    intro n h
    unfold digsF
    by_cases h0 : n = 0
    · rw [if_pos h0, h0, digs_zero]
    · rw [if_neg h0, digs_pos hB (by omega), ih]
      rw [Nat.pow_succ] at h
      exact Nat.div_lt_of_lt_mul (by rw [Nat.mul_comm]; exact h)
def txF (f : Nat) (z : Int) : List Int := (if z < 0 then [45] else []) ++ (if z.natAbs = 0 then [48] else ((digsF f 10 z.natAbs).map (· + 48)).reverse)
theorem tS_F (f : Nat) (z : Int) (h : z.natAbs < 10 ^ f) : tS z = mkS (txF f z) := by
 unfold tS tx txN txF
 rw [digsF_eq (by omega) f _ h]
/-- Collatz's map. -/
def colM : Mp := ⟨2, [1, 3], [0, 1]⟩
theorem colM_ok : okM colM := okB_iff.1 (by decide)
end Go.Proofs.YtibdipfhfaeooaaGreatDoor


set_option linter.unusedVariables false
set_option linter.unusedSimpArgs false
namespace Go.Proofs.YtibdipfhfaeooaaGreatDoor
open Go.RowKit

/-- Two blocks hold Collatz's map. -/
theorem colIs (w : World) (o : Obj) (t : TypeId) : BlkI (((w.alloc o).alloc (.cells #[.int .i64 1, .int .i64 3] t)).alloc (.cells #[.int .i64 0, .int .i64 1] t)) (w.heap.size + 1) t .i64 [1, 3] ∧ BlkI (((w.alloc o).alloc (.cells #[.int .i64 1, .int .i64 3] t)).alloc (.cells #[.int .i64 0, .int .i64 1] t)) (w.heap.size + 1 + 1) t .i64 [0, 1] := by
 have e1 : (w.alloc o).heap.size = w.heap.size + 1 := by simp
 have e2 : ((w.alloc o).alloc (.cells #[.int .i64 1, .int .i64 3] t)).heap.size = w.heap.size + 1 + 1 := by simp
 have h1 : BlkI ((w.alloc o).alloc (.cells #[.int .i64 1, .int .i64 3] t)) (w.alloc o).heap.size t .i64 [1, 3] := heap_alloc_new _ _
 have h2 : BlkI (((w.alloc o).alloc (.cells #[.int .i64 1, .int .i64 3] t)).alloc (.cells #[.int .i64 0, .int .i64 1] t)) ((w.alloc o).alloc (.cells #[.int .i64 1, .int .i64 3] t)).heap.size t .i64 [0, 1] := heap_alloc_new _ _
 have h1 := h1.below (below_alloc (Below.refl _ _) (.cells #[.int .i64 0, .int .i64 1] t))
 rw [e1] at h1
 rw [e2] at h2
 exact ⟨h1, h2⟩
set_option maxHeartbeats 4000000 in
theorem Col_c (w : World) : Calls Tryz.prog 46 #[] w fun e w' => ∃ v, e = .returned v ∧ IsM w' v colM ∧ Below w.heap.size w w' := by
 go_enter Tryz.func46, Tryz.ntmps46
 go_wp2
 obtain ⟨h1, h2⟩ := colIs w (.cells #[.int .i64 2, .slice (some ⟨w.heap.size + 1, 0, none⟩) 2 2, .slice (some ⟨w.heap.size + 1 + 1, 0, none⟩) 2 2] 24) 3
 refine bodyPost_ret (v := .agg #[.int .i64 2, .slice (some ⟨w.heap.size + 1, 0, none⟩) 2 2, .slice (some ⟨w.heap.size + 1 + 1, 0, none⟩) 2 2]) (by simp [results, Tryz.results46, go_sem]) rfl ⟨_, rfl, ?_, ?_⟩
 ·exact ⟨_, 2, _, 2, rfl, h1.slI (by show 2 ≤ 9223372036854775807; decide), h2.slI (by show 2 ≤ 9223372036854775807; decide)⟩
 ·exact below_alloc (below_alloc (below_alloc (Below.refl _ _) _) _) _
theorem col_rise : Rise colM := by
 intro r hr
 have : r < 2 := hr
 match r, this with
 | 0, _ => decide
 | 1, _ => decide
theorem lit0 : tS 0 = (⟨#[48]⟩ : ByteArray) := (tS_F 3 0 (by decide)).trans (by kernel_rfl)
theorem lit1 : tS 1 = (⟨#[49]⟩ : ByteArray) := (tS_F 3 1 (by decide)).trans (by kernel_rfl)
theorem dlN_20000 {T : Int} (h0 : 0 ≤ T) (h1 : T ≤ 20000) : dlN T.natAbs ≤ 2000 := by
 obtain ⟨u, rfl⟩ := Int.eq_ofNat_of_zero_le h0
 exact dlN_of_small (by omega)
/-- Two slices of whole numbers, made one after the other: a map. -/
theorem two_isM (w : World) (t : TypeId) (md : Int) (l1 l2 : List Int) (h1 : l1.length ≤ 9223372036854775807) (h2 : l2.length ≤ 9223372036854775807) :
  IsM ((w.alloc (.cells (ints .i64 l1).toArray t)).alloc (.cells (ints .i64 l2).toArray t)) (.agg #[.int .i64 md, .slice (some ⟨w.heap.size, 0, none⟩) l1.length l1.length, .slice (some ⟨w.heap.size + 1, 0, none⟩) l2.length l2.length]) ⟨md, l1, l2⟩ := by
 have e1 : (w.alloc (.cells (ints .i64 l1).toArray t)).heap.size = w.heap.size + 1 := by simp
 have g1 : BlkI (w.alloc (.cells (ints .i64 l1).toArray t)) w.heap.size t .i64 l1 := heap_alloc_new _ _
 have g2 : BlkI ((w.alloc (.cells (ints .i64 l1).toArray t)).alloc (.cells (ints .i64 l2).toArray t)) (w.alloc (.cells (ints .i64 l1).toArray t)).heap.size t .i64 l2 := heap_alloc_new _ _
 have g1 := g1.below (below_alloc (Below.refl _ _) (.cells (ints .i64 l2).toArray t))
 rw [e1] at g2
 exact ⟨_, l1.length, _, l2.length, rfl, g1.slI h1, g2.slI h2⟩
end Go.Proofs.YtibdipfhfaeooaaGreatDoor


set_option linter.unusedVariables false
set_option linter.unusedSimpArgs false
namespace Go.Proofs.YtibdipfhfaeooaaGreatDoor
open Go.RowKit

end Go.Proofs.YtibdipfhfaeooaaGreatDoor

