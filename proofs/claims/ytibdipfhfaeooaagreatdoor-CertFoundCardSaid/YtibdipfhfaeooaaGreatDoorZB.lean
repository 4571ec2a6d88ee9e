/- Sets of strings (map[string]bool) of the call's own. No condition. -/
import Derived.Test.YtibdipfhfaeooaaGreatDoorZA
import Derived.Maps.OwnOps
import Derived.Test.YtibdipfhfaeooaaGreatDoorZ8
import Derived.Test.YtibdipfhfaeooaaGreatDoorZ2
set_option linter.unusedVariables false
set_option linter.unusedSimpArgs false
namespace Go.Proofs.YtibdipfhfaeooaaGreatDoor
open Go.RowKit Go.Shelf Go.Maps

def kB (s : ByteArray) : Lit := .string s.data.toList
theorem kB_inj {a b : ByteArray} (h : kB a = kB b) : a = b := by
 unfold kB at h
 injection h with h
 have e : a.data = b.data := by rw [← Array.toList_inj]; exact h
 cases a
 cases b
 simp only at e
 rw [e]
theorem kB_key (s : ByteArray) : WideAt.IsKeyLit (kB s) := trivial
theorem snocIndB {α : Type} {P : List α → Prop} (h0 : P []) (h1 : ∀ l z, P l → P (l ++ [z])) (l : List α) : P l := by
 rw [← List.reverse_reverse l]
 generalize l.reverse = m
 induction m with
 | nil => exact h0
 | cons a t ih => rw [List.reverse_cons]; exact h1 _ _ ih
/-- The set of some strings. -/
def setD (l : List ByteArray) : DataW Unit := l.foldl (fun D s => D.put (kB s) (.lit (.bool true))) (.map [])
theorem setD_snoc (l : List ByteArray) (s : ByteArray) : setD (l ++ [s]) = (setD l).put (kB s) (.lit (.bool true)) := by unfold setD; rw [List.foldl_append]; rfl
theorem setD_map (l : List ByteArray) : IsMap (setD l) := by
 refine snocIndB (P := fun l => IsMap (setD l)) ⟨[], rfl⟩ (fun l z ih => ?_) l
 rw [setD_snoc]; exact ih.put _ _
def inB (l : List ByteArray) (s : ByteArray) : Bool := l.any fun t => decide (t = s)
theorem inB_iff {l : List ByteArray} {s : ByteArray} : inB l s = true ↔ s ∈ l := by
 unfold inB
 rw [List.any_eq_true]
 constructor
 ·rintro ⟨t, h1, h2⟩; rw [← of_decide_eq_true h2]; exact h1
 ·intro h; exact ⟨s, h, decide_eq_true rfl⟩
theorem inB_snoc (l : List ByteArray) (s t : ByteArray) : inB (l ++ [t]) s = (inB l s || decide (t = s)) := by unfold inB; simp
theorem setD_at (l : List ByteArray) (s : ByteArray) : (setD l).atKey (kB s) (.lit (.bool false)) = .lit (.bool (inB l s)) := by
 refine snocIndB (P := fun l => (setD l).atKey (kB s) (.lit (.bool false)) = .lit (.bool (inB l s))) rfl (fun l y ih => ?_) l
 rw [setD_snoc, inB_snoc]
 by_cases h : s = y
 ·subst h
  rw [atKey_put_same (setD_map l) (kB_key _), decide_eq_true rfl, Bool.or_true]
 ·rw [atKey_put_other (fun e => h (kB_inj e)), ih, decide_eq_false (fun e => h e.symm), Bool.or_false]
/-- Block b holds a set of the call's own. -/
def OwnSet (W : World) (b n : Nat) (l : List ByteArray) : Prop := W.ownsMap Tryz.prog 9 (plainElem (H := Unit) Tryz.prog 4) b n (setD l)
theorem zeroB_ (w : World) : (zeroValue 4).run Tryz.prog w = .ok (.bool false) w := by kernel_rfl
theorem plainElem_bool_inv {P : Program} {e : TypeId} (he : P.underlying e = some .bool) {v : Value} {z : DataW Unit × List MemPlace} (h : plainElem P e v = some z) : ∃ x, v = .bool x ∧ z = (.lit (.bool x), []) := by
 unfold plainElem at h
 rw [he] at h
 split at h
 ·cases h; exact ⟨_, rfl, rfl⟩
 ·rename_i q q' a e1; cases e1
 ·rename_i e1; cases e1
 ·cases h
section
variable {W W' : World} {b n : Nat} {l : List ByteArray} {s : ByteArray}
theorem OwnSet.made (W : World) : OwnSet (W.alloc (.map #[] 0)) W.heap.size 0 [] := World.ownsMap_made _ _ _ _
theorem OwnSet.lt (h : OwnSet W b n l) : b < W.heap.size := World.ownsMap.lt h
theorem OwnSet.kept {row : Option Nat} (h : OwnSet W b n l) (hg : W.grownBy W' row) (hne : some b ≠ row) : OwnSet W' b n l := World.ownsMap.kept h hg hne
theorem OwnSet.below (h : OwnSet W b n l) (hb : Below W.heap.size W W') : OwnSet W' b n l := h.kept (row := none) ⟨hb.os, hb.tape, hb.output, hb.size, fun i hi _ => hb.block i hi⟩ (by simp)
theorem OwnSet.keepB {base : Nat} (h : OwnSet W b n l) (hb : Below base W W') (hl : b < base) : OwnSet W' b n l := by
 obtain ⟨es, ck, h1, h2⟩ := h
 exact ⟨es, ck, (hb.block b hl).trans h1, h2⟩
theorem OwnSet.nocells (h : OwnSet W b n l) : ∀ r, some b = some r → ∃ o : Obj, W.heap[r]? = some o ∧ o.isCells = false := fun r e => by
 cases e
 obtain ⟨es, ck, hh, -⟩ := h
 exact ⟨_, hh, rfl⟩
theorem OwnSet.look (h : OwnSet W b n l) (hs : s.size ≤ maxLen) : (Instr.lookup 137 (.map (some b)) (.string s) false).run Tryz.prog W = .ok (.bool (inB l s)) W := by
 obtain ⟨v, ps, hrun, hv⟩ := World.ownsMap.lookup h (string_keyed Tryz.underlying9) Tryz.underlying137 (zeroB_ W) (plainElem_bool Tryz.underlying4 false) (WideMaps.keyOf_string_mk Tryz.underlying9 hs)
 obtain ⟨x, rfl, hx⟩ := plainElem_bool_inv Tryz.underlying4 hv
 have h2 := setD_at l s
 have h1 := congrArg Prod.fst hx
 have h3 : (setD l).atKey (kB s) (.lit (.bool false)) = .lit (.bool x) := h1
 have h4 : inB l s = x := congrArg (fun d : DataW Unit => match d with | .lit (.bool b) => b | _ => false) (h2.symm.trans h3)
 subst h4
 exact hrun
theorem LsS.own {A : Option Addr} {c : Nat} {row : Option Nat} {L : List ByteArray} (h : LsS W A c L) (hg : W.grownBy W' row) (hr : ∀ r, row = some r → ∃ o : Obj, W.heap[r]? = some o ∧ o.isCells = false) : LsS W' A c L := by
 obtain ⟨⟨h0, h1⟩, h2⟩ := h
 refine ⟨⟨h0, fun hn => ?_⟩, h2⟩
 obtain ⟨b, off, e, hl, hc⟩ := h1 hn
 exact ⟨b, off, e, Nat.lt_of_lt_of_le hl hg.size, fun j u hu => cell_kept (hc j u hu) hg hr⟩
theorem LsS.at {bA oA c : Nat} {L : List ByteArray} (h : LsS W (some ⟨bA, oA, none⟩) c L) {j : Nat} (hj : j < L.length) : W.cell? ⟨bA, oA + j, none⟩ = some (.string (gs L j)) := by
 obtain ⟨b, off, e, hl, hc⟩ := h.cell hj
 cases e
 exact hc
theorem LsS.ptr {A : Option Addr} {c : Nat} {L : List ByteArray} (h : LsS W A c L) (h0 : 0 < L.length) : ∃ b o, A = some ⟨b, o, none⟩ := by
 obtain ⟨b, off, e, -⟩ := h.cell h0
 exact ⟨b, off, e⟩
end
section
variable {ops : Array Oper} {rest : List Oper} {o : Oper} {a : Act} {Q : Exit → Act → World → Prop}
/-- One string more in a set of the call's own. -/
theorem upd_set {w : World} (hg : o.guard = none) (m x v : Operand) (hop : o.op = Op.mapUpdate 137 m x v) (b n : Nat) (l : List ByteArray) (s : ByteArray)
  (hm : a.eval m = .map (some b)) (hown : OwnSet w b n l) (hn : n < maxLen) (hs : s.size ≤ maxLen) (hx : a.eval x = .string s) (hv : a.eval v = .bool true)
  (hK : ∀ w', OwnSet w' b (n + 1) (l ++ [s]) → w.grownBy w' (some b) → Kp w w' → wpList Tryz.prog ops Q rest (a.put o.dst undef) w') : wpList Tryz.prog ops Q (o :: rest) a w := by
 refine wpList_mapUpdate_own w hg m x v _ hop 9 4 (string_keyed Tryz.underlying9) Tryz.underlying137 _ b n (setD l) hm hown hn _ _ (kB s) hx hv (WideMaps.keyOf_string_mk Tryz.underlying9 hs) _ [] (plainElem_bool Tryz.underlying4 true) ?_
 intro w' h1 h2
 refine hK w' ?_ h2 (Kp.own h2 (OwnSet.nocells hown))
 unfold OwnSet
 rw [setD_snoc]
 exact h1
end
end Go.Proofs.YtibdipfhfaeooaaGreatDoor


set_option linter.unusedVariables false
set_option linter.unusedSimpArgs false
namespace Go.Proofs.YtibdipfhfaeooaaGreatDoor
open Go.RowKit

theorem itZ_shift (M : Mp) (z : Int) (i : Nat) : itZ M (stepZ M z) i = itZ M z (i + 1) := by
 induction i with
 | zero => rfl
 | succ i ih => show stepZ M _ = _; rw [ih]; rfl
theorem itZ_add (M : Mp) (z : Int) (i : Nat) : ∀ j, itZ M (itZ M z i) j = itZ M z (i + j) := by
 intro j
 induction j with
 | zero => rfl
 | succ j ih => show stepZ M _ = _; rw [ih]; rfl
theorem leastF_spec {l : List Int} (f : Nat) : ∀ i m, m < i ∨ m = i → (leastF l f i m = m ∨ i ≤ leastF l f i m) ∧ (leastF l f i m = m ∨ leastF l f i m < i + f) ∧ gd l (leastF l f i m) ≤ gd l m ∧ ∀ j, i ≤ j → j < i + f → gd l (leastF l f i m) ≤ gd l j := by
 induction f with
 | zero => intro i m _; exact ⟨.inl rfl, .inl rfl, Int.le_refl _, fun j h1 h2 => by omega⟩
 | succ f ih =>
  intro i m hm
  unfold leastF
  by_cases hc : gd l i < gd l m
  ·rw [if_pos hc]
   obtain ⟨h1, h2, h3, h4⟩ := ih (i + 1) i (by omega)
   refine ⟨.inr (by rcases h1 with h | h <;> omega), .inr (by rcases h2 with h | h <;> omega), by omega, fun j g1 g2 => ?_⟩
   rcases Nat.lt_or_ge i j with h | h
   ·exact h4 j h (by omega)
   ·obtain rfl : j = i := by omega
    exact h3
  ·rw [if_neg hc]
   obtain ⟨h1, h2, h3, h4⟩ := ih (i + 1) m (by omega)
   refine ⟨by rcases h1 with h | h <;> omega, by rcases h2 with h | h <;> omega, h3, fun j g1 g2 => ?_⟩
   rcases Nat.lt_or_ge i j with h | h
   ·exact h4 j h (by omega)
   ·obtain rfl : j = i := by omega
    omega
theorem per_mod {f : Nat → Int} {a len : Nat} (hl : 0 < len) (h : ∀ j, f (a + j + len) = f (a + j)) (n : Nat) : f (a + n % len) = f (a + n) := by
 induction n using Nat.strongRecOn with
 | ind n ih =>
  rcases Nat.lt_or_ge n len with h1 | h1
  ·rw [Nat.mod_eq_of_lt h1]
  ·have := ih (n - len) (by omega)
   rw [Nat.mod_eq_sub_mod h1, this, ← h (n - len)]
   congr 1; omega
/-- A number that is met again is met again and again. -/
theorem it_per {M : Mp} {z : Int} {t L : Nat} (h : itZ M z (t + L) = itZ M z t) (j : Nat) : itZ M z (t + j + L) = itZ M z (t + j) := by
 rw [show t + j + L = (t + L) + j by omega, ← itZ_add, h, itZ_add]
/-- What is asked of what follow returns. -/
def FS (M : Mp) (z : Int) (most : Nat) (r : Int × Nat × List Int) : Prop :=
 (r = (3, 0, []) ∧ ∃ j, j ≤ most ∧ 2000 < dl (itZ M z j) ∧ ∀ i, i < j → dl (itZ M z i) ≤ 2000) ∨
 (r = (4, 0, []) ∧ (∀ j, j ≤ most → dl (itZ M z j) ≤ 2000) ∧ ∀ i j, i < j → j ≤ most → itZ M z i ≠ itZ M z j) ∨
 (∃ t s L, r = (0, t, (List.range L).map fun i => itZ M z (s + i)) ∧ 0 < L ∧ t + L ≤ most ∧ t ≤ s ∧ s < t + L ∧ (∀ j, dl (itZ M z j) ≤ 2000) ∧ itZ M z (t + L) = itZ M z t ∧ (∀ i j, i < j → j < t + L → itZ M z i ≠ itZ M z j) ∧ ∀ j, t ≤ j → itZ M z s ≤ itZ M z j)
theorem fit_all {M : Mp} {z : Int} {t L : Nat} (hL : 0 < L) (h : itZ M z (t + L) = itZ M z t) (hf : ∀ j, j < t + L → dl (itZ M z j) ≤ 2000) (j : Nat) : dl (itZ M z j) ≤ 2000 := by
 rcases Nat.lt_or_ge j (t + L) with h1 | h1
 ·exact hf j h1
 ·have := per_mod (f := itZ M z) hL (it_per h) (j - t)
  rw [show t + (j - t) = j by omega] at this
  rw [← this]
  exact hf _ (by have := Nat.mod_lt (j - t) hL; omega)
theorem le_all {M : Mp} {z y : Int} {t L : Nat} (hL : 0 < L) (h : itZ M z (t + L) = itZ M z t) (hf : ∀ j, t ≤ j → j < t + L → y ≤ itZ M z j) {j : Nat} (hj : t ≤ j) : y ≤ itZ M z j := by
 have := per_mod (f := itZ M z) hL (it_per h) (j - t)
 rw [show t + (j - t) = j by omega] at this
 rw [← this]
 exact hf _ (by omega) (by have := Nat.mod_lt (j - t) hL; omega)
theorem list_gd' {a b : List Int} (hl : a.length = b.length) (h : ∀ i, i < a.length → gd a i = gd b i) : a = b := by
 apply List.ext_getElem hl
 intro i h1 h2
 have := h i h1
 rwa [gd_lt h1, gd_lt h2] at this
theorem gd_range (n : Nat) (f : Nat → Int) {j : Nat} (h : j < n) : gd ((List.range n).map f) j = f j := by
 rw [gd_lt (by simpa using h)]; simp
theorem FS.cyc {M : Mp} {z : Int} {most t L : Nat} {l : List Int} (s : Nat) (hL : 0 < L) (hm : t + L ≤ most) (hs1 : t ≤ s) (hs2 : s < t + L) (hf : ∀ j, j < t + L → dl (itZ M z j) ≤ 2000) (h : itZ M z (t + L) = itZ M z t)
  (hi : ∀ i j, i < j → j < t + L → itZ M z i ≠ itZ M z j) (hle : ∀ j, t ≤ j → j < t + L → itZ M z s ≤ itZ M z j) (hl : l.length = L) (hg : ∀ i, i < L → gd l i = itZ M z (s + i)) : FS M z most (0, t, l) := by
 refine .inr (.inr ⟨t, s, L, ?_, hL, hm, hs1, hs2, fit_all hL h hf, h, hi, fun j hj => le_all hL h hle hj⟩)
 rw [list_gd' (a := l) (b := (List.range L).map fun i => itZ M z (s + i)) (by simpa using hl) (fun i hi => by rw [gd_range _ _ (by omega)]; exact hg i (by omega))]
theorem turn_gd {c : List Int} {m i : Nat} (hm : m < c.length) (hi : i < c.length) : gd (c.drop m ++ c.take m) i = gd c (if m + i < c.length then m + i else m + i - c.length) := by
 split
 ·rename_i h
  rw [gd_lt (by simp; omega), gd_lt h, List.getElem_append_left (by simp; omega)]
  simp
 ·rename_i h
  rw [gd_lt (by simp; omega), gd_lt (by omega), List.getElem_append_right (by simp; omega)]
  simp only [List.length_drop, List.getElem_take]
  congr 1; omega
theorem flwA_spec (M : Mp) (z : Int) (most f : Nat) : ∀ k, k + f = most + 1 → (∀ i, i < k → dl (itZ M z i) ≤ 2000) → (∀ i j, i < j → j < k → itZ M z i ≠ itZ M z j) → FS M z most (flwA M f ((List.range k).map (itZ M z)) (itZ M z k)) := by
 induction f with
 | zero =>
  intro k hk hf hi
  refine .inr (.inl ⟨rfl, fun j hj => hf j (by omega), fun i j h1 h2 => hi i j h1 (by omega)⟩)
 | succ f ih =>
  intro k hk hf hi
  unfold flwA
  split
  ·rename_i h
   exact .inl ⟨rfl, k, by omega, h, hf⟩
  ·rename_i hfit
   have hf' : ∀ i, i < k + 1 → dl (itZ M z i) ≤ 2000 := fun i h => by
    rcases Nat.lt_or_ge i k with h1 | h1
    ·exact hf i h1
    ·obtain rfl : i = k := by omega
     omega
   obtain ⟨pre, hpre⟩ : ∃ pre, (List.range k).map (itZ M z) = pre := ⟨_, rfl⟩
   have hpl : pre.length = k := by rw [← hpre]; simp
   have hpg : ∀ i, i < k → gd pre i = itZ M z i := fun i h => by rw [← hpre, gd_range _ _ h]
   split
   ·rename_i hin
    rw [hpre] at hin ⊢
    have hx : pre.idxOf (itZ M z k) < pre.length := List.idxOf_lt_length_iff.2 hin
    have he : gd pre (pre.idxOf (itZ M z k)) = itZ M z k := by rw [gd_lt hx]; exact List.getElem_idxOf hx
    generalize pre.idxOf (itZ M z k) = t at *
    rw [hpg t (by omega)] at he
    obtain ⟨c, hc⟩ : ∃ c, pre.drop t = c := ⟨_, rfl⟩
    have hcl : c.length = k - t := by rw [← hc]; simp [hpl]
    have hcg : ∀ i, i < k - t → gd c i = itZ M z (t + i) := fun i h => by
     rw [← hc, ← hpg (t + i) (by omega), gd_lt (by simp; omega), gd_lt (by omega)]; simp
    rw [hc]
    unfold turnL
    obtain ⟨m1, m2, m3, m4⟩ := leastF_spec (l := c) c.length 0 0 (.inr rfl)
    have e1 : mnL c = leastF c c.length 0 0 := rfl
    rw [← e1] at m1 m2 m3 m4
    generalize mnL c = m at *
    have hm : m < c.length := by rcases m2 with h | h <;> omega
    have hper : itZ M z (t + (k - t)) = itZ M z t := by rw [show t + (k - t) = k by omega]; exact he.symm
    refine FS.cyc (t + m) (L := k - t) (by omega) (by omega) (by omega) (by omega) (fun j h => hf' j (by omega)) hper (fun i j h1 h2 => hi i j h1 (by omega)) ?_ (by simp; omega) ?_
    ·intro j h1 h2
     have := m4 (j - t) (by omega) (by omega)
     rw [hcg m (by omega), hcg _ (by omega), show t + (j - t) = j by omega] at this
     exact this
    ·intro i h
     rw [turn_gd hm (by omega)]
     split
     ·rw [hcg _ (by omega)]; congr 1; omega
     ·rw [hcg _ (by omega), ← it_per hper]; congr 1; omega
   ·rename_i hin
    have e : (List.range k).map (itZ M z) ++ [itZ M z k] = (List.range (k + 1)).map (itZ M z) := by rw [List.range_succ]; simp
    rw [e]
    refine ih (k + 1) (by omega) hf' (fun i j h1 h2 => ?_)
    rcases Nat.lt_or_ge j k with h3 | h3
    ·exact hi i j h1 h3
    ·obtain rfl : j = k := by omega
     intro he
     exact hin (by rw [← he]; exact List.mem_map.2 ⟨i, by simpa using h1, rfl⟩)
theorem flwA_FS (M : Mp) (z : Int) (most : Nat) : FS M z most (flwA M (most + 1) [] z) :=
 flwA_spec M z most (most + 1) 0 (by omega) (fun i h => absurd h (by omega)) (fun i j _ h => absurd h (by omega))
end Go.Proofs.YtibdipfhfaeooaaGreatDoor


set_option linter.unusedVariables false
set_option linter.unusedSimpArgs false
namespace Go.Proofs.YtibdipfhfaeooaaGreatDoor
open Go.RowKit

theorem dig_of_valid {s : ByteArray} (h : vldL (codes s) = true) : ∃ z : Int, s = tS z ∧ dlN z.natAbs ≤ 2000 := by
 obtain ⟨z, hz, hd⟩ := vld_num h
 exact ⟨z, codes_inj (by rw [codes_tS]; exact hz), hd⟩
theorem tS_sz {z : Int} (h : dlN z.natAbs ≤ 2000) : (tS z).size ≤ 9223372036854775807 := by
 unfold tS; rw [mkS_size]; unfold tx
 have : (txN z.natAbs).length ≤ 2000 := h
 split <;> simp <;> omega
theorem vld_tS {z : Int} (h : dlN z.natAbs ≤ 2000) : vldL (codes (tS z)) = true := by rw [codes_tS]; exact vld_tx z h
end Go.Proofs.YtibdipfhfaeooaaGreatDoor

