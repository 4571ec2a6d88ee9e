/- Certificates reckoned out at given maps. No condition. -/
import Derived.Test.YtibdipfhfaeooaaGreatDoorZM
import Derived.Test.YtibdipfhfaeooaaGreatDoorZD
import Derived.Test.YtibdipfhfaeooaaGreatDoorZQ
import Derived.Test.YtibdipfhfaeooaaGreatDoorZG
import Derived.Test.YtibdipfhfaeooaaGreatDoorZ2
import Derived.Test.YtibdipfhfaeooaaGreatDoorZ3
import Derived.Maps.RangeWalk
set_option linter.unusedVariables false
set_option linter.unusedSimpArgs false
namespace Go.Proofs.YtibdipfhfaeooaaGreatDoor

/-- The map of the example: 1 comes to 4, 2, 1. -/
def fourM : Mp := ⟨2, [1, 4], [0, 4]⟩
theorem fourM_ok : okM fourM := okB_iff.1 (by decide)
theorem fourM_down : downP fourM 3 = (3, 1) := by decide +kernel
theorem colM_down : (downP ⟨2, [1, 3], [0, 1]⟩ 8).1 = 0 := by decide +kernel
/-- The map of a long way down. -/
def stairM : Mp := ⟨5, [1, 625, 1, 1, 1], [0, 2500, 3, 2, 1]⟩
theorem stairM_ok : okM stairM := okB_iff.1 (by decide)
set_option maxRecDepth 100000 in
theorem stairM_down : downP stairM 6 = (5, 1) := by decide +kernel
set_option maxRecDepth 100000 in
theorem stairM_down4 : (downP stairM 4).1 = 0 := by decide +kernel
end Go.Proofs.YtibdipfhfaeooaaGreatDoor


set_option linter.unusedVariables false
set_option linter.unusedSimpArgs false
namespace Go.Proofs.YtibdipfhfaeooaaGreatDoor

theorem acc_of_found {M : Mp} {K : Nat} {T : Int} {ls : List (List Int)} (hok : okM M) (hr : Rise M) (hk : 1 ≤ K) (hR : M.mod ^ K ≤ 65536) (hd : downP M K = (K, T)) (hT : T ≤ 20000) (hfine : ∀ n : Nat, (n : Int) ≤ T → Fine M n) (hf : FoundL M T ls) : Acc M K T ls := by
 obtain ⟨g1, g2, g3⟩ := downP_falls hok hd (by omega)
 refine ⟨hr, hk, hR, g2, hT, ⟨fun i hi => ?_, hf.incr⟩, by rw [hd]; show K ≠ 0; omega, by rw [hd]; exact Int.le_refl _, fun n hn => ?_⟩
 ·obtain ⟨n, hn, e⟩ := hf.each i hi
  rw [e]
  exact loop_of_flw (most := 20000) hok hr (hfine n hn).1 (hfine n hn).2
 ·exact ⟨(hfine n hn).1, hf.all n hn⟩
/-- A certificate of the numbers 0 and 1, each of which comes to a cycle of its own. -/
theorem found_two {M : Mp} {ls : List (List Int)} (hf : FoundL M 1 ls) (h0 : gd (cyc M 0) 0 = 0) (h1 : gd (cyc M 1) 0 = 1) : ls = [cyc M 0, cyc M 1] := by
 have he : ∀ i, i < ls.length → lpi ls i = cyc M 0 ∨ lpi ls i = cyc M 1 := fun i hi => by
  obtain ⟨n, hn, e⟩ := hf.each i hi
  have : n = 0 ∨ n = 1 := by omega
  rcases this with rfl | rfl
  ·exact .inl e
  ·exact .inr e
 have hg : ∀ i, i < ls.length → gd (lpi ls i) 0 = 0 ∨ gd (lpi ls i) 0 = 1 := fun i hi => by
  rcases he i hi with e | e <;> rw [e]
  ·exact .inl h0
  ·exact .inr h1
 obtain ⟨a, ha, ea⟩ := hf.all 0 (by omega)
 obtain ⟨b, hb, eb⟩ := hf.all 1 (by omega)
 have ea2 : gd (lpi ls a) 0 = 0 := by rw [ea]; exact h0
 have eb2 : gd (lpi ls b) 0 = 1 := by rw [eb]; exact h1
 have hlen : ls.length < 3 := by
  rcases Nat.lt_or_ge ls.length 3 with h | h
  ·exact h
  ·exfalso
   have h2 : gd (lpi ls 0) 0 < gd (lpi ls 1) 0 := hf.incr 0 (by omega)
   have h3 : gd (lpi ls 1) 0 < gd (lpi ls 2) 0 := hf.incr 1 (by omega)
   have h4 := hg 0 (by omega)
   have h5 := hg 2 (by omega)
   omega
 have hab : a ≠ b := fun e => by rw [e] at ea2; omega
 have hinc : gd (lpi ls 0) 0 < gd (lpi ls 1) 0 := hf.incr 0 (by omega)
 have g0 := hg 0 (by omega)
 have g1 := hg 1 (by omega)
 have e0 : lpi ls 0 = cyc M 0 := by
  rcases he 0 (by omega) with e | e
  ·exact e
  ·rw [e] at hinc; omega
 have e1 : lpi ls 1 = cyc M 1 := by
  rcases he 1 (by omega) with e | e
  ·rw [e] at hinc; omega
  ·exact e
 match ls, hlen with
 | [], _ => exact absurd ha (by simp)
 | [x], _ => exact absurd hab (by simp at ha hb; omega)
 | [x, y], _ =>
  have q0 : x = cyc M 0 := e0
  have q1 : y = cyc M 1 := e1
  rw [q0, q1]
set_option maxRecDepth 100000 in
theorem four_flw0 : (flwA fourM 20001 [] 0).1 = 0 ∧ (flwA fourM 20001 [] 0).2.2 = [0] := by decide +kernel
set_option maxRecDepth 100000 in
theorem four_flw1 : (flwA fourM 20001 [] 1).1 = 0 ∧ (flwA fourM 20001 [] 1).2.2 = [1, 4, 2] := by decide +kernel
set_option maxRecDepth 100000 in
theorem stair_flw0 : (flwA stairM 20001 [] 0).1 = 0 ∧ (flwA stairM 20001 [] 0).2.2 = [0] := by decide +kernel
set_option maxRecDepth 100000 in
theorem stair_flw1 : (flwA stairM 20001 [] 1).1 = 0 ∧ (flwA stairM 20001 [] 1).2.2 = [1, 625, 125, 25, 5] := by decide +kernel
theorem four_fine (n : Nat) (h : (n : Int) ≤ 1) : Fine fourM n := by
 have : n = 0 ∨ n = 1 := by omega
 rcases this with rfl | rfl
 ·exact ⟨four_flw0.1, by rw [show ((0 : Nat) : Int) = 0 from rfl, four_flw0.2]; decide⟩
 ·exact ⟨four_flw1.1, by rw [show ((1 : Nat) : Int) = 1 from rfl, four_flw1.2]; decide⟩
theorem stair_fine (n : Nat) (h : (n : Int) ≤ 1) : Fine stairM n := by
 have : n = 0 ∨ n = 1 := by omega
 rcases this with rfl | rfl
 ·exact ⟨stair_flw0.1, by rw [show ((0 : Nat) : Int) = 0 from rfl, stair_flw0.2]; decide⟩
 ·exact ⟨stair_flw1.1, by rw [show ((1 : Nat) : Int) = 1 from rfl, stair_flw1.2]; decide⟩
theorem four_found {ls : List (List Int)} (h : FoundL fourM 1 ls) : ls = [[0], [1, 4, 2]] := by
 have h0 : cyc fourM 0 = [0] := four_flw0.2
 have h1 : cyc fourM 1 = [1, 4, 2] := four_flw1.2
 have := found_two h (by rw [h0]; rfl) (by rw [h1]; rfl)
 rw [h0, h1] at this
 exact this
theorem stair_found {ls : List (List Int)} (h : FoundL stairM 1 ls) : ls = [[0], [1, 625, 125, 25, 5]] := by
 have h0 : cyc stairM 0 = [0] := stair_flw0.2
 have h1 : cyc stairM 1 = [1, 625, 125, 25, 5] := stair_flw1.2
 have := found_two h (by rw [h0]; rfl) (by rw [h1]; rfl)
 rw [h0, h1] at this
 exact this
theorem stair_rise : Rise stairM := by
 intro r hr
 have : r < 5 := hr
 match r, this with
 | 0, _ => decide
 | 1, _ => decide
 | 2, _ => decide
 | 3, _ => decide
 | 4, _ => decide
theorem four_rise : Rise fourM := by
 intro r hr
 have : r < 2 := hr
 match r, this with
 | 0, _ => decide
 | 1, _ => decide
theorem stair_down5 : downP stairM 5 = (5, 1) := dwn_same 6 0 _ _ _ 5 1 stairM_down (by omega) 5 (by omega)
/-- The stairs' certificate is accepted; with fewer steps it is not. -/
theorem stair_acc {ls : List (List Int)} (h : FoundL stairM 1 ls) : Acc stairM 5 1 ls := acc_of_found stairM_ok stair_rise (by omega) (by decide) stair_down5 (by omega) stair_fine h
theorem stair_not {B : Int} {ls : List (List Int)} (h : Acc stairM 4 B ls) : False := h.down stairM_down4
end Go.Proofs.YtibdipfhfaeooaaGreatDoor


set_option linter.unusedVariables false
set_option linter.unusedSimpArgs false
namespace Go.Proofs.YtibdipfhfaeooaaGreatDoor
open Go.RowKit

def prs (l : List (Nat × Nat)) : List Value := l.flatMap fun p => [.int .i64 p.1, .int .i64 p.2]
def gp (l : List (Nat × Nat)) (i : Nat) : Nat × Nat := l.getD i (0, 0)
theorem prs_at (l : List (Nat × Nat)) : ∀ i, i < l.length → (prs l)[i * 2]? = some (.int .i64 (gp l i).1) ∧ (prs l)[i * 2 + 1]? = some (.int .i64 (gp l i).2) := by
 induction l with
 | nil => intro i h; cases h
 | cons a t ih =>
  intro i h
  have e : prs (a :: t) = .int .i64 a.1 :: .int .i64 a.2 :: prs t := rfl
  rw [e]
  cases i with
  | zero => exact ⟨rfl, rfl⟩
  | succ i =>
   obtain ⟨h1, h2⟩ := ih i (by simpa using h)
   have eg : gp (a :: t) (i + 1) = gp t i := by simp [gp]
   rw [eg, show (i + 1) * 2 = i * 2 + 1 + 1 by omega]
   exact ⟨by simpa using h1, by simpa using h2⟩
/-- A slice of pairs. -/
def LsR (w : World) (A : Option Addr) (c : Nat) (l : List (Nat × Nat)) : Prop := Rd w 2 A l.length (prs l) ∧ l.length ≤ c ∧ c ≤ 9223372036854775807
/-- A row of pairs of the call's own. -/
def OwR (w : World) (base : Nat) (e : TypeId) (v : Value) (l : List (Nat × Nat)) : Prop := w.ownsRow base e 2 v l.length (prs l)
section
variable {w w' : World} {base : Nat} {e : TypeId} {v : Value} {l : List (Nat × Nat)} {A : Option Addr} {c : Nat}
theorem LsR.below (h : LsR w A c l) (hb : Below w.heap.size w w') : LsR w' A c l := ⟨h.1.below hb, h.2⟩
theorem LsR.nil (w : World) : LsR w none 0 [] := ⟨Rd.nil, Nat.le_refl _, by omega⟩
theorem LsR.el (h : LsR w A c l) {j : Nat} (hj : j < l.length) : ∃ b off, A = some ⟨b, off, none⟩ ∧ CL w b (off + j * 2) (.int .i64 (gp l j).1) ∧ CL w b (off + j * 2 + 1) (.int .i64 (gp l j).2) := by
 obtain ⟨b, off, e, hl, hc⟩ := h.1.2 (by omega)
 obtain ⟨h1, h2⟩ := prs_at l j hj
 exact ⟨b, off, e, ⟨hc _ _ h1, hl⟩, ⟨by rw [Nat.add_assoc]; exact hc _ _ h2, hl⟩⟩
theorem OwR.nil (w : World) (base : Nat) (e : TypeId) : OwR w base e (.slice none 0 0) [] := World.ownsRow_nil _ _ _ _
theorem OwR.below (h : OwR w base e v l) (hb : Below w.heap.size w w') : OwR w' base e v l :=
 World.ownsRow.kept (row := none) h ⟨hb.os, hb.tape, hb.output, hb.size, fun i hi _ => hb.block i hi⟩ (by cases v.ownBlock <;> simp)
theorem OwR.form (h : OwR w base e v l) : ∃ A c, v = .slice A l.length c ∧ LsR w A c l := by
 have hh : w.ownsRow base e 2 v l.length (prs l) := h
 have h2 := hh.2
 rcases h2 with ⟨rfl, h0⟩ | ⟨g, cap, cur, rfl, hb, hg, hnc, hm, _⟩
 ·have : l = [] := List.eq_nil_of_length_eq_zero h0
  subst this
  exact ⟨none, 0, rfl, ⟨hh.1, fun h => absurd h (by simp)⟩, Nat.le_refl _, by omega⟩
 ·refine ⟨some ⟨g, 0, none⟩, cap, rfl, Rd.of_own hh, hnc, ?_⟩
  simp only [maxLen] at hm
  omega
end
end Go.Proofs.YtibdipfhfaeooaaGreatDoor


set_option linter.unusedVariables false
set_option linter.unusedSimpArgs false
namespace Go.Proofs.YtibdipfhfaeooaaGreatDoor
open Go.RowKit

def digsF : Nat → Nat → Nat → List Int
 | 0, _, _ => []
 | f + 1, B, n => if n = 0 then [] else ((n % B : Nat) : Int) :: digsF f B (n / B)
theorem digsF_eq {B : Nat} (hB : 2 ≤ B) : ∀ f n, n < B ^ f → digsF f B n = digs B n := by
  intro f
  induction f with
  | zero => intro n h; rw [Nat.pow_zero] at h; obtain rfl : n = 0 := by omega
            rw [digs_zero]; rfl
  | succ f ih =>
    intro n h
    unfold digsF
    by_cases h0 : n = 0
    · rw [if_pos h0, h0, digs_zero]
    · rw [if_neg h0, digs_pos hB (by omega), ih]
      rw [Nat.pow_succ] at h
      exact Nat.div_lt_of_lt_mul (by rw [Nat.mul_comm]; exact h)
def txF (f : Nat) (z : Int) : List Int := (if z < 0 then [45] else []) ++ (if z.natAbs = 0 then [48] else ((digsF f 10 z.natAbs).map (· + 48)).reverse)
theorem tS_F (f : Nat) (z : Int) (h : z.natAbs < 10 ^ f) : tS z = mkS (txF f z) := by
 unfold tS tx txN txF
 rw [digsF_eq (by omega) f _ h]
/-- Collatz's map. -/
def colM : Mp := ⟨2, [1, 3], [0, 1]⟩
theorem colM_ok : okM colM := okB_iff.1 (by decide)
end Go.Proofs.YtibdipfhfaeooaaGreatDoor


set_option linter.unusedVariables false
set_option linter.unusedSimpArgs false
namespace Go.Proofs.YtibdipfhfaeooaaGreatDoor
open Go.RowKit

/-- Two blocks hold Collatz's map. -/
theorem colIs (w : World) (o : Obj) (t : TypeId) : BlkI (((w.alloc o).alloc (.cells #[.int .i64 1, .int .i64 3] t)).alloc (.cells #[.int .i64 0, .int .i64 1] t)) (w.heap.size + 1) t .i64 [1, 3] ∧ BlkI (((w.alloc o).alloc (.cells #[.int .i64 1, .int .i64 3] t)).alloc (.cells #[.int .i64 0, .int .i64 1] t)) (w.heap.size + 1 + 1) t .i64 [0, 1] := by
 have e1 : (w.alloc o).heap.size = w.heap.size + 1 := by simp
 have e2 : ((w.alloc o).alloc (.cells #[.int .i64 1, .int .i64 3] t)).heap.size = w.heap.size + 1 + 1 := by simp
 have h1 : BlkI ((w.alloc o).alloc (.cells #[.int .i64 1, .int .i64 3] t)) (w.alloc o).heap.size t .i64 [1, 3] := heap_alloc_new _ _
 have h2 : BlkI (((w.alloc o).alloc (.cells #[.int .i64 1, .int .i64 3] t)).alloc (.cells #[.int .i64 0, .int .i64 1] t)) ((w.alloc o).alloc (.cells #[.int .i64 1, .int .i64 3] t)).heap.size t .i64 [0, 1] := heap_alloc_new _ _
 have h1 := h1.below (below_alloc (Below.refl _ _) (.cells #[.int .i64 0, .int .i64 1] t))
 rw [e1] at h1
 rw [e2] at h2
 exact ⟨h1, h2⟩
set_option maxHeartbeats 4000000 in
theorem Col_c (w : World) : Calls Tryz.prog 46 #[] w fun e w' => ∃ v, e = .returned v ∧ IsM w' v colM ∧ Below w.heap.size w w' := by
 go_enter Tryz.func46, Tryz.ntmps46
 go_wp2
 obtain ⟨h1, h2⟩ := colIs w (.cells #[.int .i64 2, .slice (some ⟨w.heap.size + 1, 0, none⟩) 2 2, .slice (some ⟨w.heap.size + 1 + 1, 0, none⟩) 2 2] 24) 3
 refine bodyPost_ret (v := .agg #[.int .i64 2, .slice (some ⟨w.heap.size + 1, 0, none⟩) 2 2, .slice (some ⟨w.heap.size + 1 + 1, 0, none⟩) 2 2]) (by simp [results, Tryz.results46, go_sem]) rfl ⟨_, rfl, ?_, ?_⟩
 ·exact ⟨_, 2, _, 2, rfl, h1.slI (by show 2 ≤ 9223372036854775807; decide), h2.slI (by show 2 ≤ 9223372036854775807; decide)⟩
 ·exact below_alloc (below_alloc (below_alloc (Below.refl _ _) _) _) _
theorem col_rise : Rise colM := by
 intro r hr
 have : r < 2 := hr
 match r, this with
 | 0, _ => decide
 | 1, _ => decide
theorem lit0 : tS 0 = (⟨#[48]⟩ : ByteArray) := (tS_F 3 0 (by decide)).trans (by kernel_rfl)
theorem lit1 : tS 1 = (⟨#[49]⟩ : ByteArray) := (tS_F 3 1 (by decide)).trans (by kernel_rfl)
/-- No certificate of Collatz's map is found in 8 steps. -/
theorem col_R {e : Ending} {w' : World} (h : FindR colM 8 e w') : e = .returned (.tuple #[zPr, .int .i64 4]) := by
 have hd : (downP colM (8 : Int).toNat).1 = 0 := colM_down
 rcases h with ⟨h, -⟩ | ⟨-, h, -⟩ | ⟨-, -, -, -, ⟨-, h⟩ | ⟨h, -⟩ | ⟨h, -⟩⟩
 ·rw [okB_iff.2 colM_ok] at h; cases h
 ·exact absurd ⟨col_rise, by omega, by decide⟩ h
 ·exact h
 ·exact absurd hd h
 ·exact absurd hd h
/-- The certificate of the example is found. -/
theorem four_R {e : Ending} {w' : World} (h : FindR fourM 3 e w') : ∃ A c, e = .returned (.tuple #[.agg #[.int .i64 3, .string { data := #[49] }, .slice A 2 c], .int .i64 0]) ∧ LsL w' A c [[0], [1, 4, 2]] := by
 have hd : downP fourM (3 : Int).toNat = (3, 1) := fourM_down
 rcases h with ⟨h, -⟩ | ⟨-, h, -⟩ | ⟨-, -, -, -, ⟨h, -⟩ | ⟨h, h2, -⟩ | ⟨-, -, -, A, c, ls, he, hl, hf, -⟩⟩
 ·rw [okB_iff.2 fourM_ok] at h; cases h
 ·exact absurd ⟨four_rise, by omega, by decide⟩ h
 ·rw [hd] at h; cases h
 ·exfalso
  rw [hd] at h2
  rcases h2 with h2 | ⟨k, h3, h4⟩
  ·exact absurd h2 (by decide)
  ·exact h4 (four_fine k h3)
 ·rw [hd] at he hf
  have e2 := four_found hf
  subst e2
  refine ⟨A, c, ?_, hl⟩
  rw [he, ← lit1]
  rfl
/-- The stairs' certificate is found. -/
theorem stair_R {e : Ending} {w' : World} (h : FindR stairM 6 e w') : ∃ A c, e = .returned (.tuple #[.agg #[.int .i64 5, .string { data := #[49] }, .slice A 2 c], .int .i64 0]) ∧ LsL w' A c [[0], [1, 625, 125, 25, 5]] ∧ FoundL stairM 1 [[0], [1, 625, 125, 25, 5]] := by
 have hd : downP stairM (6 : Int).toNat = (5, 1) := stairM_down
 rcases h with ⟨h, -⟩ | ⟨-, h, -⟩ | ⟨-, -, -, -, ⟨h, -⟩ | ⟨h, h2, -⟩ | ⟨-, -, -, A, c, ls, he, hl, hf, -⟩⟩
 ·rw [okB_iff.2 stairM_ok] at h; cases h
 ·exact absurd ⟨stair_rise, by omega, by decide⟩ h
 ·rw [hd] at h; cases h
 ·exfalso
  rw [hd] at h2
  rcases h2 with h2 | ⟨k, h3, h4⟩
  ·exact absurd h2 (by decide)
  ·exact h4 (stair_fine k h3)
 ·rw [hd] at he hf
  have e2 := stair_found hf
  subst e2
  refine ⟨A, c, ?_, hl, hf⟩
  rw [he, ← lit1]
  rfl
theorem stair_R4 {e : Ending} {w' : World} (h : FindR stairM 4 e w') : e = .returned (.tuple #[zPr, .int .i64 4]) := by
 have hd : (downP stairM (4 : Int).toNat).1 = 0 := stairM_down4
 rcases h with ⟨h, -⟩ | ⟨-, h, -⟩ | ⟨-, -, -, -, ⟨-, h⟩ | ⟨h, -⟩ | ⟨h, -⟩⟩
 ·rw [okB_iff.2 stairM_ok] at h; cases h
 ·exact absurd ⟨stair_rise, by omega, by decide⟩ h
 ·exact h
 ·exact absurd hd h
 ·exact absurd hd h
theorem dlN_20000 {T : Int} (h0 : 0 ≤ T) (h1 : T ≤ 20000) : dlN T.natAbs ≤ 2000 := by
 obtain ⟨u, rfl⟩ := Int.eq_ofNat_of_zero_le h0
 exact dlN_of_small (by omega)
/-- What Find tells where a certificate is accepted. -/
theorem find_R {M : Mp} {Kn : Nat} {Bz : Int} {ls : List (List Int)} (hac : Acc M Kn Bz ls) (hok : okM M) {e : Ending} {w' : World} (h : FindR M (Kn : Int) e w') :
  ∃ (k : Nat) (T : Int) (A : Option Addr) (c : Nat) (ls' : List (List Int)), e = .returned (.tuple #[.agg #[.int .i64 (k : Int), .string (tS T), .slice A ls'.length c], .int .i64 0]) ∧ LsL w' A c ls' ∧ Acc M k T ls' ∧ k ≤ Kn ∧ (∀ l ∈ ls', ∀ z ∈ l, dlN z.natAbs ≤ 2000) ∧ dlN T.natAbs ≤ 2000 := by
 unfold FindR at h
 rw [Int.toNat_natCast] at h
 rcases h with ⟨h, -⟩ | ⟨-, h, -⟩ | ⟨-, -, -, -, ⟨h, -⟩ | ⟨h, h2, -⟩ | ⟨-, -, -, A, c, ls', he, hl, hf, hz⟩⟩
 ·rw [okB_iff.2 hok] at h; cases h
 ·exact absurd ⟨hac.rise, by have := hac.k0; omega, hac.rests⟩ h
 ·exact absurd h hac.down
 ·exfalso
  have h1 := hac.top
  have h3 := hac.b1
  rcases h2 with h2 | ⟨k, h4, h5⟩
  ·omega
  ·exact h5 ⟨(hac.come k (by omega)).1, hac.len hok (by omega)⟩
 ·obtain ⟨h1, h2⟩ := found_acc hac hok (K' := (downP M Kn).1) (T := (downP M Kn).2) rfl hf
  exact ⟨_, _, A, c, ls', he, hl, h1, h2, hz, dlN_20000 h1.b0 h1.b1⟩
/-- Two slices of whole numbers, made one after the other: a map. -/
theorem two_isM (w : World) (t : TypeId) (md : Int) (l1 l2 : List Int) (h1 : l1.length ≤ 9223372036854775807) (h2 : l2.length ≤ 9223372036854775807) :
  IsM ((w.alloc (.cells (ints .i64 l1).toArray t)).alloc (.cells (ints .i64 l2).toArray t)) (.agg #[.int .i64 md, .slice (some ⟨w.heap.size, 0, none⟩) l1.length l1.length, .slice (some ⟨w.heap.size + 1, 0, none⟩) l2.length l2.length]) ⟨md, l1, l2⟩ := by
 have e1 : (w.alloc (.cells (ints .i64 l1).toArray t)).heap.size = w.heap.size + 1 := by simp
 have g1 : BlkI (w.alloc (.cells (ints .i64 l1).toArray t)) w.heap.size t .i64 l1 := heap_alloc_new _ _
 have g2 : BlkI ((w.alloc (.cells (ints .i64 l1).toArray t)).alloc (.cells (ints .i64 l2).toArray t)) (w.alloc (.cells (ints .i64 l1).toArray t)).heap.size t .i64 l2 := heap_alloc_new _ _
 have g1 := g1.below (below_alloc (Below.refl _ _) (.cells (ints .i64 l2).toArray t))
 rw [e1] at g2
 exact ⟨_, l1.length, _, l2.length, rfl, g1.slI h1, g2.slI h2⟩
set_option maxRecDepth 100000 in
set_option maxHeartbeats 8000000 in
theorem tcomes_c (w : World) (ht : Tb w) : Calls Tryz.prog 13 #[] w fun e w' => e = .returned (.bool true) ∧ Below w.heap.size w w' := by
 have HTB := Lib.hid ht
 have HM : Hid (IsM ((w.alloc (.cells #[.int .i64 1, .int .i64 4] 3)).alloc (.cells #[.int .i64 0, .int .i64 4] 3)) (.agg #[.int .i64 2, .slice (some ⟨w.heap.size, 0, none⟩) 2 2, .slice (some ⟨w.heap.size + 1, 0, none⟩) 2 2]) fourM) := two_isM w 3 2 [1, 4] [0, 4] (by decide) (by decide)
 have HB := below_alloc (below_alloc (Below.refl w.heap.size w) (Obj.cells #[Value.int .i64 1, Value.int .i64 4] 3)) (Obj.cells #[Value.int .i64 0, Value.int .i64 4] 3)
 clear ht
 go_enter Tryz.func13, Tryz.ntmps13
 go_wp2_with fail
 (with_reducible refine (Find_c fourM 3 _ _ (by exact HM.out) (HTB.out.below HB)).mono ?_)
 rintro e w2 ⟨hR, hb⟩
 obtain ⟨A2, c2, rfl, hl⟩ := four_R hR
 replace HB := below_step HB hb
 clear hR hl hb HM
 go_upto_region 2 with fail
 have VP := VQ.new (x := .int .i64 3) (y := .string { data := #[49] }) (z := .slice A2 2 c2) w2 27
 have hb := below_alloc (Below.refl w2.heap.size w2) (Obj.cells #[Value.int .i64 3, Value.string { data := #[49] }, Value.slice A2 2 c2] 27)
 replace HB := below_step HB hb
 generalize hWa : w2.alloc (Obj.cells #[Value.int .i64 3, Value.string { data := #[49] }, Value.slice A2 2 c2] 27) = w3 at *
 obtain ⟨b3, hb3⟩ : ∃ b, w2.heap.size = b := ⟨_, rfl⟩
 rw [hb3] at VP ⊢
 clear hWa hb hb3
 go_wp2_with fail
 (with_reducible refine (Col_c _).mono ?_)
 rintro e w4 ⟨v, rfl, hv, hb⟩
 obtain ⟨md4, A4, n4, k4, A4', n4', k4', rfl, HM4⟩ := hv.form
 replace HB := below_step HB hb
 replace VP := VP.keep hb
 clear hv hb
 go_wp2_with fail
 (with_reducible refine (Find_c colM 8 _ _ HM4.out (HTB.out.below HB)).mono ?_)
 rintro e w5 ⟨hR, hb⟩
 obtain rfl := col_R hR
 replace HB := below_step HB hb
 replace VP := VP.keep hb
 clear hR hb HM4
 go_upto_region 3 with fail
 generalize hWa : w5.alloc _ = w6
 have hb : Below w5.heap.size w5 w6 := by subst hWa; exact below_alloc (Below.refl _ _) _
 replace HB := below_step HB hb
 replace VP := VP.keep hb
 clear hWa hb
 have p0 := VP.c0; have p1 := VP.c1; have p2 := VP.c2
 go_wp2
 go_ret
 exact ⟨rfl, HB⟩
end Go.Proofs.YtibdipfhfaeooaaGreatDoor


set_option linter.unusedVariables false
set_option linter.unusedSimpArgs false
namespace Go.Proofs.YtibdipfhfaeooaaGreatDoor
open Go.RowKit

set_option maxRecDepth 100000 in
set_option maxHeartbeats 4000000 in
theorem has_c (l : List Int) (A : Option Addr) (c : Nat) (z : Int) (v : Value) (w : World) (hL : LsS w A c (l.map tS)) (hv : IsN w v z) (sz : (dg B9 z).length ≤ 1000000000) (B : Bool) (hB : B = true ↔ z ∈ l) :
  Calls Tryz.prog 52 #[.slice A l.length c, v] w fun e w' => e = .returned (.bool B) ∧ Below w.heap.size w w' := by
 obtain ⟨nz, Az, mz, kz, rfl, HZ⟩ := hv.form
 have VZ := VX.new w 35 HZ.out
 have HB := below_alloc (Below.refl w.heap.size w) (Obj.cells #[Value.bool nz, Value.slice Az mz kz] 35)
 have HL := Lib.hid hL
 have HBB := Lib.hid hB
 have hlc : l.length ≤ 9223372036854775807 := by
  have := hL.2
  rw [List.length_map] at this
  omega
 obtain ⟨n, hn⟩ : ∃ n, l.length = n := ⟨_, rfl⟩
 have HN := Lib.hid hn
 rw [hn] at hlc ⊢
 clear hv HZ hL hB hn
 have z0 := VZ.c0; have z1 := VZ.c1
 go_enter Tryz.func52, Tryz.ntmps52
 go_wp2_with fail
 (with_reducible refine (Text_c z _ _ VZ.iz.out sz).mono ?_)
 rintro e w2 ⟨rfl, hb⟩
 replace HB := below_step HB hb
 clear hb z0 z1 VZ
 go_wp2_with fail
 go_loopg [6] n (fun g iv wr => ∃ i : Nat, g = n - i ∧ iv = .int .i64 i ∧ i ≤ n ∧ Below w.heap.size w wr ∧ Hid (∀ j, j < i → gd l j ≠ z))
 case atStart => exact ⟨0, rfl, rfl, Nat.zero_le _, HB, fun j h => absurd h (by omega)⟩
 case round =>
  clear HB
  obtain ⟨i, hgi, rfl, hi, HB, HI⟩ := hrel
  have hi0 : (0 : Int) ≤ (i : Int) := by omega
  by_cases hin : i < n
  ·have hi1 : (i : Int) < (n : Int) := by omega
   have HIL : Hid (i < l.length) := by show _ < _; rw [HN.out]; exact hin
   obtain ⟨bA, oA, rfl, hlt, hc⟩ := (HL.out.below HB).cell (j := i) (by rw [List.length_map]; exact HIL.out)
   rw [gsm _ HIL.out] at hc
   by_cases he : gd l i = z
   ·have HR : Hid (B = true) := HBB.out.2 (by rw [← he, gd_lt HIL.out]; exact List.getElem_mem HIL.out)
    have hb1 : ((tS (gd l i)).toList == (tS z).toList) = true := by rw [bsBeq]; exact decide_eq_true (by rw [he])
    clear he hlt
    go_wp2
    go_ret
    exact ⟨by rw [HR.out] <;> rfl, HB⟩
   ·have hb1 : ((tS (gd l i)).toList == (tS z).toList) = false := by rw [bsBeq]; exact decide_eq_false (fun e => he (tS_inj e))
    have HI2 : Hid (∀ j, j < i + 1 → gd l j ≠ z) := fun j hj => by
     rcases Nat.lt_or_ge j i with h | h
     ·exact HI.out j h
     ·obtain rfl : j = i := by omega
      exact he
    clear he hlt HI
    go_wp2
    go_roundg (n - (i + 1))
    case measure => omega
    case rel => exact ⟨i + 1, rfl, by go_num, by omega, HB, HI2⟩
  ·obtain rfl : i = n := by omega
   have hi1 : ¬ (i : Int) < (i : Int) := by omega
   have HR : Hid (B = false) := by
    show _ = _
    cases e : B with
    | false => rfl
    | true =>
     exfalso
     obtain ⟨j, hj, e2⟩ := List.mem_iff_getElem.1 (HBB.out.1 e)
     exact HI.out j (by rw [← HN.out]; exact hj) (by rw [gd_lt hj]; exact e2)
   clear HI
   go_wp2
   go_ret
   exact ⟨by rw [HR.out] <;> rfl, HB⟩
set_option maxRecDepth 100000 in
set_option maxHeartbeats 4000000 in
theorem short_c (l : List ByteArray) (A : Option Addr) (c : Nat) (w : World) (hL : LsS w A c l) (hsz : ∀ j, j < l.length → (gs l j).size ≤ 9223372036854775807) (B : Bool) (hB : B = true ↔ ∀ j, j < l.length → (gs l j).size ≤ 601 ∧ vldL (codes (gs l j)) = true) :
  Calls Tryz.prog 12 #[.slice A l.length c] w fun e w' => e = .returned (.bool B) ∧ Below w.heap.size w w' := by
 have HB : Below w.heap.size w w := Below.refl _ _
 have HL := Lib.hid hL
 have HBB := Lib.hid hB
 have HSZ := Lib.hid hsz
 have hF : Hid (¬ (∀ j, j < l.length → (gs l j).size ≤ 601 ∧ vldL (codes (gs l j)) = true) → B = false) := fun h => by
  cases e : B with
  | false => rfl
  | true => exact absurd (HBB.out.1 e) h
 have hlc : l.length ≤ 9223372036854775807 := by have := hL.2; omega
 obtain ⟨n, hn⟩ : ∃ n, l.length = n := ⟨_, rfl⟩
 have HN := Lib.hid hn
 rw [hn] at hlc ⊢
 clear hL hB hsz hn
 go_enter Tryz.func12, Tryz.ntmps12
 go_wp2_with fail
 go_loopg [3] n (fun g iv wr => ∃ i : Nat, g = n - i ∧ iv = .int .i64 i ∧ i ≤ n ∧ Below w.heap.size w wr ∧ Hid (∀ j, j < i → (gs l j).size ≤ 601 ∧ vldL (codes (gs l j)) = true))
 case atStart => exact ⟨0, rfl, rfl, Nat.zero_le _, HB, fun j h => absurd h (by omega)⟩
 case round =>
  clear HB
  obtain ⟨i, hgi, rfl, hi, HB, HI⟩ := hrel
  have hi0 : (0 : Int) ≤ (i : Int) := by omega
  by_cases hin : i < n
  ·have hi1 : (i : Int) < (n : Int) := by omega
   have HIL : Hid (i < l.length) := by show _ < _; rw [HN.out]; exact hin
   obtain ⟨bA, oA, rfl, hlt, hc⟩ := (HL.out.below HB).cell (j := i) HIL.out
   obtain ⟨s, hs⟩ : ∃ s, gs l i = s := ⟨_, rfl⟩
   have HS := Lib.hid hs
   have hs63 : s.size ≤ 9223372036854775807 := by rw [← hs]; exact HSZ.out i HIL.out
   rw [hs] at hc
   clear hs hlt
   by_cases hbig : 601 < s.size
   ·have hb1 : (601 : Int) < (s.size : Int) := by omega
    have HBG := Lib.hid hbig
    have HR := Lib.hid (hF.out fun h => by have := (h i HIL.out).1; rw [HS.out] at this; have := HBG.out; omega)
    clear hbig HI
    go_wp2
    go_ret
    exact ⟨by rw [HR.out] <;> rfl, HB⟩
   ·have hb1 : ¬ (601 : Int) < (s.size : Int) := by omega
    have hb2 : decide ((601 : Int) < (s.size : Int)) = false := decide_eq_false hb1
    have hb3 : decide (601 < s.size) = false := decide_eq_false hbig
    have HBG := Lib.hid hbig
    clear hbig
    cases hv : vldL (codes s) with
    | false =>
     have HV := Lib.hid hv
     have HR := Lib.hid (hF.out fun h => by have := (h i HIL.out).2; rw [HS.out, HV.out] at this; cases this)
     clear hv HI
     go_wp2_with fail
     (with_reducible refine (Valid_c s _ hs63).mono ?_)
     rintro e w4 ⟨he, rfl⟩
     obtain rfl : e = .returned (.bool false) := by rw [he, HV.out]
     clear he
     go_wp2
     go_ret
     exact ⟨by rw [HR.out] <;> rfl, HB⟩
    | true =>
     have HV := Lib.hid hv
     have HI2 : Hid (∀ j, j < i + 1 → (gs l j).size ≤ 601 ∧ vldL (codes (gs l j)) = true) := fun j hj => by
      rcases Nat.lt_or_ge j i with h | h
      ·exact HI.out j h
      ·obtain rfl : j = i := by omega
       rw [HS.out]
       exact ⟨by have := HBG.out; omega, HV.out⟩
     clear hv HI
     go_wp2_with fail
     (with_reducible refine (Valid_c s _ hs63).mono ?_)
     rintro e w4 ⟨he, rfl⟩
     obtain rfl : e = .returned (.bool true) := by rw [he, HV.out]
     clear he
     go_wp2
     go_roundg (n - (i + 1))
     case measure => omega
     case rel => exact ⟨i + 1, rfl, by go_num, by omega, HB, HI2⟩
  ·obtain rfl : i = n := by omega
   have hi1 : ¬ (i : Int) < (i : Int) := by omega
   have HR : Hid (B = true) := HBB.out.2 fun j hj => HI.out j (by rw [← HN.out]; exact hj)
   clear HI
   go_wp2
   go_ret
   exact ⟨by rw [HR.out] <;> rfl, HB⟩
set_option maxRecDepth 100000 in
set_option maxHeartbeats 4000000 in
theorem same_c (a b : List ByteArray) (A A' : Option Addr) (c c' : Nat) (w : World) (hL : LsS w A c a) (hL' : LsS w A' c' b) (heq : a = b) :
  Calls Tryz.prog 19 #[.slice A a.length c, .slice A' b.length c'] w fun e w' => e = .returned (.bool true) ∧ Below w.heap.size w w' := by
 subst heq
 have HB : Below w.heap.size w w := Below.refl _ _
 have HL := Lib.hid hL
 have HL' := Lib.hid hL'
 have hlc : a.length ≤ 9223372036854775807 := by have := hL.2; omega
 obtain ⟨n, hn⟩ : ∃ n, a.length = n := ⟨_, rfl⟩
 have HN := Lib.hid hn
 rw [hn] at hlc ⊢
 clear hL hL' hn
 go_enter Tryz.func19, Tryz.ntmps19
 go_wp2_with fail
 go_loopg [5] n (fun g iv wr => ∃ i : Nat, g = n - i ∧ iv = .int .i64 i ∧ i ≤ n ∧ Below w.heap.size w wr)
 case atStart => exact ⟨0, rfl, rfl, Nat.zero_le _, HB⟩
 case round =>
  clear HB
  obtain ⟨i, hgi, rfl, hi, HB⟩ := hrel
  have hi0 : (0 : Int) ≤ (i : Int) := by omega
  by_cases hin : i < n
  ·have hi1 : (i : Int) < (n : Int) := by omega
   have HIL : Hid (i < a.length) := by show _ < _; rw [HN.out]; exact hin
   obtain ⟨bA, oA, rfl, hlt, hc⟩ := (HL.out.below HB).cell (j := i) HIL.out
   obtain ⟨bB, oB, rfl, hlt', hc'⟩ := (HL'.out.below HB).cell (j := i) HIL.out
   have CA : CL wr bA (oA + i) (.string (gs a i)) := ⟨hc, hlt⟩
   have CB : CL wr bB (oB + i) (.string (gs a i)) := ⟨hc', hlt'⟩
   generalize gs a i = s at *
   clear hc hc' hlt hlt'
   go_upto_region 6 with fail
   replace CA := CA.drew; replace CB := CB.drew; replace HB := below_drew HB
   generalize hWd : wr.drew = wd at *
   refine wp_region_F (fun w' => w'.cell? ⟨bA, oA + i, none⟩ = some (.string s) ∧ w'.cell? ⟨bB, oB + i, none⟩ = some (.string s)) [] (by kernel_rfl) (by rw [hWd]; exact ⟨CA.c, CB.c⟩) (fun hHeld => ?_)
   rw [hWd] at hHeld ⊢
   refine tF 0 ({ dst := some 17, op := Go.Op.move (Go.Operand.tmp 0), type := 43, pos := "top.go:93", after := #[], guard := none }) hHeld ?_; try go_frame
   refine tF 1 ({ dst := some 18, op := Go.Op.move (Go.Operand.tmp 5), type := 3, pos := "top.go:93", after := #[], guard := none }) hHeld ?_; try go_frame
   refine tF 2 ({ dst := some 19, op := Go.Op.indexAddr 43 (Go.Operand.tmp 17) (Go.Operand.tmp 18), type := 0, pos := "top.go:93", after := #[{ on := 0, ground := Go.Ground.data }, { on := 1, ground := Go.Ground.data }], guard := none }) hHeld ?_; try go_frame
   refine tF 3 ({ dst := some 20, op := Go.Op.load 9 (Go.Operand.tmp 19), type := 9, pos := "top.go:93", after := #[{ on := 2, ground := Go.Ground.data }], guard := none }) hHeld ?_; try go_frame
   refine tF 4 ({ dst := some 21, op := Go.Op.move (Go.Operand.tmp 1), type := 43, pos := "top.go:93", after := #[], guard := none }) hHeld ?_; try go_frame
   refine tF 5 ({ dst := some 22, op := Go.Op.move (Go.Operand.tmp 5), type := 3, pos := "top.go:93", after := #[], guard := none }) hHeld ?_; try go_frame
   refine tF 6 ({ dst := some 23, op := Go.Op.indexAddr 43 (Go.Operand.tmp 21) (Go.Operand.tmp 22), type := 0, pos := "top.go:93", after := #[{ on := 4, ground := Go.Ground.data }, { on := 5, ground := Go.Ground.data }], guard := none }) hHeld ?_; try go_frame
   refine tF 7 ({ dst := some 24, op := Go.Op.load 9 (Go.Operand.tmp 23), type := 9, pos := "top.go:93", after := #[{ on := 6, ground := Go.Ground.data }], guard := none }) hHeld ?_; try go_frame
   refine tF 8 ({ dst := some 25, op := Go.Op.binOp Go.BinOp.neq 9 (Go.Operand.tmp 20) (Go.Operand.tmp 24) 9, type := 4, pos := "top.go:93", after := #[{ on := 3, ground := Go.Ground.data }, { on := 7, ground := Go.Ground.data }], guard := none }) hHeld ?_; try go_frame
   refine wpAnyF_done (by kernel_rfl) ?_ _
   clear hHeld hWd
   have hbb : (s.toList == s.toList) = true := by simp
   go_wp2
   go_roundg (n - (i + 1))
   case measure => omega
   case rel => exact ⟨i + 1, rfl, by go_num, by omega, HB⟩
  ·obtain rfl : i = n := by omega
   have hi1 : ¬ (i : Int) < (i : Int) := by omega
   go_wp2
   go_ret
   exact ⟨rfl, HB⟩
end Go.Proofs.YtibdipfhfaeooaaGreatDoor

