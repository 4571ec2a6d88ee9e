/- Along an orbit the cycle is the same; the records: plain facts. No condition. -/
import Derived.Test.YtiaeeclmlchpoaaGreatDoorZ9
set_option linter.unusedVariables false
set_option linter.unusedSimpArgs false
namespace Go.Proofs.YtiaeeclmlchpoaaGreatDoor
open Go.RowKit

theorem mod_back (L d e : Nat) (he : e < L) : (d + (e + (L - d % L)) % L) % L = e := by
  have hd := Nat.mod_lt d (show 0 < L by omega)
  rw [Nat.add_mod, Nat.mod_mod, ← Nat.add_mod]
  have h : d + (e + (L - d % L)) = e + L * (d / L + 1) := by
    have := Nat.div_add_mod d L
    rw [Nat.mul_add, Nat.mul_one]
    omega
  rw [h, Nat.add_mul_mod_self_left, Nat.mod_eq_of_lt he]
theorem flw_fit {M : Mp} {z : Int} {most t : Nat} {l : List Int} (h : flwA M (most + 1) [] z = (0, t, l)) (j : Nat) : dl (itZ M z j) ≤ 2000 := by
  rcases flwA_FS M z most with ⟨h', -⟩ | ⟨h', -⟩ | ⟨t', s, L, h', -, -, -, -, h5, -⟩
  · rw [h] at h'; cases h'
  · rw [h] at h'; cases h'
  · exact h5 j
/-- Each number of an orbit comes to the same cycle. -/
theorem flw_along {M : Mp} {z : Int} {most t : Nat} {l : List Int} (h : flwA M (most + 1) [] z = (0, t, l)) (k : Nat) : flwA M (most + 1) [] (itZ M z k) = (0, t - k, l) := by
  rcases flwA_FS M z most with ⟨h', -⟩ | ⟨h', -⟩ | ⟨t', s, L, h', h1, h2, h3, h4, h5, h6, h7, h8⟩
  · rw [h] at h'; cases h'
  · rw [h] at h'; cases h'
  · rw [h] at h'
    have e1 : t = t' := by injection h' with _ h'; injection h'
    have e2 : l = (List.range L).map fun i => itZ M z (s + i) := by injection h' with _ h'; injection h'
    subst e1
    clear h'
    have hlen : l.length = L := by rw [e2]; simp
    have hg : ∀ i, i < L → gd l i = itZ M z (s + i) := fun i hi => by rw [e2, gd_range _ _ hi]
    refine (flwA_FS M (itZ M z k) most).uniq ?_
    rcases Nat.lt_or_ge t k with hk | hk
    · obtain ⟨d, rfl⟩ : ∃ d, k = t + d := ⟨k - t, by omega⟩
      obtain ⟨s', hs'⟩ : ∃ s', ((s - t) + (L - d % L)) % L = s' := ⟨_, rfl⟩
      have hs'L : s' < L := by rw [← hs']; exact Nat.mod_lt _ h1
      have hms : itZ M z (t + d + s') = itZ M z s := by
        have := per_mod (f := itZ M z) h1 (it_per h6) (d + s')
        rw [← hs', mod_back L d (s - t) (by omega), hs', show t + (s - t) = s by omega, show t + (d + s') = t + d + s' by omega] at this
        exact this.symm
      rw [show t - (t + d) = 0 by omega]
      refine FS.cyc s' (L := L) h1 (by omega) (by omega) (by omega) (fun j _ => by rw [itZ_add]; exact h5 _) ?_ ?_ ?_ hlen ?_
      · rw [itZ_add, itZ_add, Nat.zero_add, Nat.add_zero]; exact it_per' h6 (by omega)
      · intro i j hi hj he
        rw [itZ_add, itZ_add] at he
        have hp : itZ M z (t + d + i + (j - i)) = itZ M z (t + d + i) := by rw [show t + d + i + (j - i) = t + d + j by omega]; exact he.symm
        have q1 := it_mul h6 (n := t) (Nat.le_refl _) (d + i)
        have q2 := it_mul h6 (n := t + (j - i)) (by omega) (d + i)
        have hge : t + d + i ≤ t + L * (d + i) := by have : d + i ≤ L * (d + i) := Nat.le_mul_of_pos_left _ h1; omega
        have q3 := it_per' hp hge
        rw [q1, show t + L * (d + i) + (j - i) = t + (j - i) + L * (d + i) by omega, q2] at q3
        exact h7 t (t + (j - i)) (by omega) (by omega) q3.symm
      · intro j _ _
        rw [itZ_add, itZ_add, hms]; exact h8 _ (by omega)
      · intro i hi
        have h9 := itZ_add M z (t + d + s') i
        rw [hms, itZ_add] at h9
        rw [hg i hi, itZ_add, show t + d + (s' + i) = (t + d + s') + i by omega, ← h9]
    · refine FS.cyc (s - k) (L := L) h1 (by omega) (by omega) (by omega) (fun j _ => by rw [itZ_add]; exact h5 _) ?_ ?_ ?_ hlen ?_
      · rw [itZ_add, itZ_add, show k + (t - k + L) = t + L by omega, show k + (t - k) = t by omega]; exact h6
      · intro i j hi hj
        rw [itZ_add, itZ_add]; exact h7 _ _ (by omega) (by omega)
      · intro j _ _
        rw [itZ_add, itZ_add, show k + (s - k) = s by omega]; exact h8 _ (by omega)
      · intro i hi
        rw [hg i hi, itZ_add, show k + (s - k + i) = s + i by omega]
theorem recL_mono (M : Mp) (most n : Nat) : (recL M most n).length ≤ (recL M most (n + 1)).length ∧ ∀ i, i < (recL M most n).length → gp (recL M most (n + 1)) i = gp (recL M most n) i := by
  show (recL M most n).length ≤ (recS M most (recL M most n) (n + 1)).length ∧ _
  constructor
  · unfold recS; split
    · rw [List.length_append]; exact Nat.le_add_right _ _
    · exact Nat.le_refl _
  · intro i hi
    show gp (recS M most (recL M most n) (n + 1)) i = _
    unfold recS; split
    · rw [gp_lt (by rw [List.length_append]; omega), gp_lt hi, List.getElem_append_left hi]
    · rfl
/-- The records up to n are the first ones of the records up to m; the others are greater. -/
theorem recL_pre (M : Mp) (most n : Nat) : ∀ m, n ≤ m → (recL M most n).length ≤ (recL M most m).length ∧ (∀ i, i < (recL M most n).length → gp (recL M most m) i = gp (recL M most n) i) ∧ ∀ i, (recL M most n).length ≤ i → i < (recL M most m).length → n < (gp (recL M most m) i).1 := by
  intro m
  induction m with
  | zero => intro h; obtain rfl : n = 0 := by omega
            exact ⟨Nat.le_refl _, fun _ _ => rfl, fun i _ h => absurd h (by simp [recL])⟩
  | succ m ih =>
    intro h
    rcases Nat.lt_or_ge m n with h1 | h1
    · obtain rfl : n = m + 1 := by omega
      exact ⟨Nat.le_refl _, fun _ _ => rfl, fun i h2 h3 => by omega⟩
    · obtain ⟨i1, i2, i3⟩ := ih h1
      obtain ⟨m1, m2⟩ := recL_mono M most m
      refine ⟨by omega, fun i hi => by rw [m2 i (by omega), i2 i hi], fun i h2 h3 => ?_⟩
      rcases Nat.lt_or_ge i (recL M most m).length with h4 | h4
      · rw [m2 i h4]; exact i3 i h2 h4
      · have e : (recL M most (m + 1)) = recS M most (recL M most m) (m + 1) := rfl
        rw [e] at h3 ⊢
        unfold recS at h3 ⊢
        split at h3
        · rename_i hc
          rw [if_pos hc, gp_lt h3]
          have hi : i = (recL M most m).length := by rw [List.length_append] at h3; simp at h3; omega
          subst hi
          simp; omega
        · omega
theorem recL_up (M : Mp) (most : Nat) (n : Nat) : ∀ i, 0 < i → i < (recL M most n).length → (gp (recL M most n) (i - 1)).1 < (gp (recL M most n) i).1 ∧ (gp (recL M most n) (i - 1)).2 < (gp (recL M most n) i).2 := by
  induction n with
  | zero => intro i _ h; cases h
  | succ n ih =>
    intro i h0
    show i < (recS M most (recL M most n) (n + 1)).length → (gp (recS M most (recL M most n) (n + 1)) (i - 1)).1 < (gp (recS M most (recL M most n) (n + 1)) i).1 ∧ (gp (recS M most (recL M most n) (n + 1)) (i - 1)).2 < (gp (recS M most (recL M most n) (n + 1)) i).2
    unfold recS
    split
    · rename_i hc
      intro h
      have hl : (recL M most n ++ [(n + 1, (flwA M (most + 1) [] ((n + 1 : Nat) : Int)).2.1)]).length = (recL M most n).length + 1 := by simp
      rcases Nat.lt_or_ge i (recL M most n).length with h1 | h1
      · rw [gp_lt h, gp_lt (show i - 1 < _ by omega), List.getElem_append_left h1, List.getElem_append_left (by omega), ← gp_lt h1, ← gp_lt (show i - 1 < (recL M most n).length by omega)]
        exact ih i h0 h1
      · have hi : i = (recL M most n).length := by omega
        rw [gp_lt h, gp_lt (show i - 1 < _ by omega), List.getElem_append_left (show i - 1 < (recL M most n).length by omega), ← gp_lt (show i - 1 < (recL M most n).length by omega)]
        subst hi
        have hel := recL_el M most n ((recL M most n).length - 1) (by omega)
        refine ⟨?_, ?_⟩
        · simp; omega
        · simp
          rcases hc.2 with h2 | h2
          · omega
          · exact h2
    · exact ih i h0
/-- No number up to n comes to a cycle after more steps than the last record. -/
theorem recL_best (M : Mp) (most : Nat) (n : Nat) : ∀ k, 1 ≤ k → k ≤ n → (flwA M (most + 1) [] (k : Int)).1 = 0 → 0 < (recL M most n).length ∧ (flwA M (most + 1) [] (k : Int)).2.1 ≤ lastS (recL M most n) := by
  induction n with
  | zero => intro k h1 h2; omega
  | succ n ih =>
    intro k h1 h2 h3
    show 0 < (recS M most (recL M most n) (n + 1)).length ∧ _ ≤ lastS (recS M most (recL M most n) (n + 1))
    have hlast : ∀ a b, lastS (recL M most n ++ [(a, b)]) = b := fun a b => by unfold lastS; rw [gp_lt (by simp)]; simp
    unfold recS
    rcases Nat.lt_or_ge k (n + 1) with h4 | h4
    · obtain ⟨i1, i2⟩ := ih k h1 (by omega) h3
      split
      · rename_i hc
        rw [hlast]
        refine ⟨by simp, ?_⟩
        rcases hc.2 with h5 | h5 <;> omega
      · exact ⟨i1, i2⟩
    · obtain rfl : k = n + 1 := by omega
      split
      · rw [hlast]; exact ⟨by simp, Nat.le_refl _⟩
      · rename_i hc
        have h5 : ¬ ((recL M most n).length = 0 ∨ lastS (recL M most n) < (flwA M (most + 1) [] ((n + 1 : Nat) : Int)).2.1) := fun h => hc ⟨h3, h⟩
        omega
/-- The number after some steps, or that one is too long. -/
def runF (M : Mp) : Nat → Int → Int × ByteArray
  | 0, z => if 2000 < dl z then (3, ⟨#[]⟩) else (0, tS z)
  | f + 1, z => if 2000 < dl z then (3, ⟨#[]⟩) else runF M f (stepZ M z)
theorem runF_fit {M : Mp} (k : Nat) : ∀ z, (∀ j, j ≤ k → dl (itZ M z j) ≤ 2000) → runF M k z = (0, tS (itZ M z k)) := by
  induction k with
  | zero => intro z h; unfold runF; rw [if_neg (by have := h 0 (Nat.le_refl _); show ¬ _; simp [itZ] at this; omega)]; rfl
  | succ k ih =>
    intro z h
    unfold runF
    rw [if_neg (by have := h 0 (Nat.zero_le _); simp [itZ] at this; omega), ih _ (fun j hj => by rw [itZ_shift]; exact h (j + 1) (by omega)), itZ_shift]
theorem runF_long {M : Mp} (k : Nat) : ∀ z j, j ≤ k → 2000 < dl (itZ M z j) → (∀ i, i < j → dl (itZ M z i) ≤ 2000) → runF M k z = (3, ⟨#[]⟩) := by
  induction k with
  | zero => intro z j hj h _; obtain rfl : j = 0 := by omega
            unfold runF; rw [if_pos (by simpa [itZ] using h)]
  | succ k ih =>
    intro z j hj h hi
    unfold runF
    cases j with
    | zero => rw [if_pos (by simpa [itZ] using h)]
    | succ j =>
      rw [if_neg (by have := hi 0 (by omega); simp [itZ] at this; omega)]
      exact ih _ j (by omega) (by rw [itZ_shift]; exact h) (fun i h' => by rw [itZ_shift]; exact hi (i + 1) (by omega))
end Go.Proofs.YtiaeeclmlchpoaaGreatDoor
