/- A certificate that came in: its parts. No condition. -/
import Derived.Test.YtibdipfhfaeooaaGreatDoorZX
import Derived.Test.YtibdipfhfaeooaaGreatDoorZG
import Derived.SliceStrings
import Derived.Deep.Slices
set_option linter.unusedVariables false
set_option linter.unusedSimpArgs false
namespace Go.Proofs.YtibdipfhfaeooaaGreatDoor
open Go Go.ChangeShapes Go.WideShapes Go.ChangeAt Go.RowKit Go.Joins Go.Deep

section
variable {P : Program} {H : Type} {enc : TypeId × Value → H}
theorem addr_of {w : World} {a : Addr} {v : Value} (h : w.cell? (a.add 0) = some v) : ∃ b off, a = ⟨b, off, none⟩ ∧ b < w.heap.size := by
 obtain ⟨b, off, q⟩ := a
 have hq : q = none := by simpa [Addr.add] using World.cell?_spot h
 subst hq
 refine ⟨b, off, rfl, ?_⟩
 rcases Nat.lt_or_ge b w.heap.size with h' | h'
 ·exact h'
 ·rw [World.cell?] at h
  have e : ((⟨b, off, none⟩ : Addr).add 0).block = b := rfl
  rw [e] at h
  simp only [Array.getElem?_eq_none h'] at h
  cases h
/-- A slice of strings that came in. -/
theorem ss_of {w : World} {base : Nat} {spare : Nat → Bool} {held : Bool} {t e : TypeId} {fuel : Nat} {v : Value} {x : DataW H × List MemPlace} (ht : P.underlying t = some (.slice e)) (he : P.underlying e = some .string) (hc : P.cellsOf e = 1)
  (h : DataW.trod enc P w base spare held fuel t [v] = some x) : ∃ A c l, v = .slice A l.length c ∧ LsS w A c l ∧ ∀ s ∈ l, s.size ≤ maxLen := by
 rcases open_strings ht he hc h with ⟨hcs, -⟩ | ⟨a, len, cap, ss, hcs, -, hl, hm, hz, hx, hcell, hsz⟩
 ·obtain rfl : v = .slice none 0 0 := by simpa using hcs
  exact ⟨none, 0, [], rfl, LsS.nil _, fun s h => by cases h⟩
 ·obtain rfl : v = .slice (some a) len cap := by simpa using hcs
  have hlz : len ≤ ss.length := by rw [hz]; split <;> omega
  refine ⟨some a, cap, ss.take len, by rw [List.length_take, Nat.min_eq_left hlz], ⟨⟨by simp [strs], fun hp => ?_⟩, by rw [List.length_take]; omega, by simp only [maxLen] at hm; omega⟩, fun s hs => hsz s (List.mem_of_mem_take hs)⟩
  rw [List.length_take] at hp
  obtain ⟨b, off, rfl, hlt⟩ := addr_of (hcell 0 (by omega))
  refine ⟨b, off, rfl, hlt, fun j u hu => ?_⟩
  have hjl : j < (ss.take len).length := by
   rcases Nat.lt_or_ge j (ss.take len).length with h' | h'
   ·exact h'
   ·rw [List.getElem?_eq_none (by simpa [strs] using h')] at hu; cases hu
  rw [List.length_take] at hjl
  have h1 := hcell j (by omega)
  rw [plain_add] at h1
  rw [h1, ← hu]
  simp [strs, List.getElem?_take, show j < len by omega, List.getD]
  rw [List.getElem?_eq_getElem (by omega)]
  simp
/-- A slice of loops that came in. -/
theorem loops_of {w : World} {base : Nat} {spare : Nat → Bool} {held : Bool} {t e e2 : TypeId} {f0 : Field} {fuel : Nat} {v : Value} {x : DataW H × List MemPlace} (ht : P.underlying t = some (.slice e)) (hc : P.cellsOf e = 1) (hs : P.underlying e = some (.struct #[f0])) (hf : f0.offset = 0)
  (ht2 : P.underlying f0.type = some (.slice e2)) (hc0 : P.cellsOf f0.type = 1) (he2 : P.underlying e2 = some .string) (hc2 : P.cellsOf e2 = 1)
  (h : DataW.trod enc P w base spare held fuel t [v] = some x) : ∃ A c L, v = .slice A L.length c ∧ LsB w A c L ∧ ∀ l ∈ L, ∀ s ∈ l, s.size ≤ maxLen := by
 rcases open_slice1 ht hc h with ⟨hcs, -⟩ | ⟨a, len, cap, m, n, V, D, Pl, hcs, -, hl, hm, hmm, -, hx⟩
 ·obtain rfl : v = .slice none 0 0 := by simpa using hcs
  exact ⟨none, 0, [], rfl, ⟨by simp, fun j hj => absurd hj (by simp)⟩, fun s h => by cases h⟩
 ·obtain rfl : v = .slice (some a) len cap := by simpa using hcs
  have hlm : len ≤ m := by rw [hmm]; split <;> omega
  obtain ⟨f, hfl⟩ := choose_lt (n := len) (p := fun i (l : List ByteArray) => ∃ A1 c1, w.cell? (a.add i) = some (.slice A1 l.length c1) ∧ LsS w A1 c1 l ∧ ∀ s ∈ l, s.size ≤ maxLen) (fun i hi => by
   obtain ⟨h1, h2⟩ := hx i (by omega)
   obtain ⟨y0, n2, -, -, h3⟩ := trod_struct1 hs h2
   rw [hf, hc0] at h3
   obtain ⟨A1, c1, l, e1, h4, h5⟩ := ss_of ht2 he2 hc2 (v := V i) (by simpa using h3)
   exact ⟨l, A1, c1, by rw [h1, e1], h4, h5⟩)
  refine ⟨some a, cap, (List.range len).map f, by simp, ⟨by simp only [maxLen] at hm; simp; omega, fun j hj => ?_⟩, fun l hl2 => ?_⟩
  ·have hj2 : j < len := by simpa using hj
   obtain ⟨A1, c1, h1, h2, -⟩ := hfl j hj2
   obtain ⟨_, _, h0, -, -⟩ := hfl 0 (by omega)
   obtain ⟨b, off, rfl, hlt⟩ := addr_of h0
   rw [plain_add] at h1
   have e : lsi ((List.range len).map f) j = f j := by rw [lsi_lt hj]; simp
   rw [e]
   exact ⟨b, off, A1, c1, rfl, ⟨h1, hlt⟩, h2⟩
  ·obtain ⟨j, hj, rfl⟩ := List.mem_map.1 hl2
   obtain ⟨A1, c1, -, -, h3⟩ := hfl j (List.mem_range.1 hj)
   exact h3
/-- A certificate that came in. -/
theorem open_P {r : Reach} {b0 : Nat} {w : World} {t eL e2 : TypeId} {f0 f1 f2 g0 : Field} {v : Value} {d : DataW H} {p : List MemPlace} (hs : P.underlying t = some (.struct #[f0, f1, f2])) (hone : oneCellFields P #[f0, f1, f2] = true) (hC : P.cellsOf t = 3)
  (h0 : P.underlying f0.type = some (.int .i64)) (h1 : P.underlying f1.type = some .string) (h2 : P.underlying f2.type = some (.slice eL)) (hcL : P.cellsOf eL = 1) (hsL : P.underlying eL = some (.struct #[g0])) (hg : g0.offset = 0)
  (ht2 : P.underlying g0.type = some (.slice e2)) (hc0 : P.cellsOf g0.type = 1) (he2 : P.underlying e2 = some .string) (hc2 : P.cellsOf e2 = 1)
  (hv : Value.okWide P w r b0 t v) (h : DataW.Trod enc P w 0 (fun _ => true) true t v d p) : ∃ K S A c L, v = .agg #[.int .i64 K, .string S, .slice A L.length c] ∧ (Lit.int .i64 K).wf = true ∧ S.size ≤ maxLen ∧ LsB w A c L ∧ ∀ l ∈ L, ∀ s ∈ l, s.size ≤ maxLen := by
 obtain ⟨v0, v1, v2, y0, y1, y2, n, rfl, hd, -, k0, k1, k2⟩ := open_agg3 hs hone hC hv h
 obtain ⟨a, e0, -, ha⟩ := DataW.trod_int h0 k0
 obtain ⟨s, e1, -, hsz⟩ := DataW.trod_string h1 k1
 obtain ⟨A, c, L, rfl, hL, hz⟩ := loops_of h2 hcL hsL hg ht2 hc0 he2 hc2 k2
 obtain rfl : v0 = .int .i64 a := by simpa using e0
 obtain rfl : v1 = .string s := by simpa using e1
 exact ⟨a, s, A, c, L, rfl, ha, hsz, hL, hz⟩
end
end Go.Proofs.YtibdipfhfaeooaaGreatDoor

