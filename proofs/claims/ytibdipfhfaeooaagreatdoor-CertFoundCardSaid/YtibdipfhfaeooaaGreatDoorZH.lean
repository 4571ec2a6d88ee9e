/- A rest in a variable's six cells; one step of a rest (cert's next). No condition. -/
import Derived.Test.YtibdipfhfaeooaaGreatDoorZG
import Derived.Test.YtibdipfhfaeooaaGreatDoorZ4
import Derived.Test.YtibdipfhfaeooaaGreatDoorZ3
set_option linter.unusedVariables false
set_option linter.unusedSimpArgs false
set_option exponentiation.threshold 2000
namespace Go.Proofs.YtibdipfhfaeooaaGreatDoor
open Go.RowKit

/-- A value that is a rest. -/
def IsL (w : World) (v : Value) (x : Lf) : Prop := ∃ n1 A1 m1 k1 n2 A2 m2 k2 n3 A3 m3 k3, v = .agg #[.bool n1, .slice A1 m1 k1, .bool n2, .slice A2 m2 k2, .bool n3, .slice A3 m3 k3] ∧ IsI w (.agg #[.bool n1, .slice A1 m1 k1]) x.at_ ∧ IsI w (.agg #[.bool n2, .slice A2 m2 k2]) x.mul ∧ IsI w (.agg #[.bool n3, .slice A3 m3 k3]) x.add
/-- Block b holds a rest. -/
structure VL (W : World) (b : Nat) (n1 : Bool) (A1 : Option Addr) (m1 k1 : Nat) (n2 : Bool) (A2 : Option Addr) (m2 k2 : Nat) (n3 : Bool) (A3 : Option Addr) (m3 k3 : Nat) (x : Lf) : Prop where
 c0 : W.cell? ⟨b, 0, none⟩ = some (.bool n1)
 c1 : W.cell? ⟨b, 1, none⟩ = some (.slice A1 m1 k1)
 c2 : W.cell? ⟨b, 2, none⟩ = some (.bool n2)
 c3 : W.cell? ⟨b, 3, none⟩ = some (.slice A2 m2 k2)
 c4 : W.cell? ⟨b, 4, none⟩ = some (.bool n3)
 c5 : W.cell? ⟨b, 5, none⟩ = some (.slice A3 m3 k3)
 lt : b < W.heap.size
 i1 : Hid (IsI W (.agg #[.bool n1, .slice A1 m1 k1]) x.at_)
 i2 : Hid (IsI W (.agg #[.bool n2, .slice A2 m2 k2]) x.mul)
 i3 : Hid (IsI W (.agg #[.bool n3, .slice A3 m3 k3]) x.add)
section
variable {W w1 : World} {b : Nat} {n1 : Bool} {A1 : Option Addr} {m1 k1 : Nat} {n2 : Bool} {A2 : Option Addr} {m2 k2 : Nat} {n3 : Bool} {A3 : Option Addr} {m3 k3 : Nat} {x : Lf}
theorem VL.keep (h : VL W b n1 A1 m1 k1 n2 A2 m2 k2 n3 A3 m3 k3 x) (hb : Below W.heap.size W w1) : VL w1 b n1 A1 m1 k1 n2 A2 m2 k2 n3 A3 m3 k3 x :=
 ⟨kcell hb h.lt h.c0, kcell hb h.lt h.c1, kcell hb h.lt h.c2, kcell hb h.lt h.c3, kcell hb h.lt h.c4, kcell hb h.lt h.c5, Nat.lt_of_lt_of_le h.lt hb.size, h.i1.out.below hb, h.i2.out.below hb, h.i3.out.below hb⟩
theorem VL.drew (h : VL W b n1 A1 m1 k1 n2 A2 m2 k2 n3 A3 m3 k3 x) : VL W.drew b n1 A1 m1 k1 n2 A2 m2 k2 n3 A3 m3 k3 x := h.keep (below_drew (Below.refl _ _))
theorem VL.new (W : World) (t : TypeId) (h1 : IsI W (.agg #[.bool n1, .slice A1 m1 k1]) x.at_) (h2 : IsI W (.agg #[.bool n2, .slice A2 m2 k2]) x.mul) (h3 : IsI W (.agg #[.bool n3, .slice A3 m3 k3]) x.add) :
  VL (W.alloc (.cells #[.bool n1, .slice A1 m1 k1, .bool n2, .slice A2 m2 k2, .bool n3, .slice A3 m3 k3] t)) W.heap.size n1 A1 m1 k1 n2 A2 m2 k2 n3 A3 m3 k3 x :=
 ⟨by simp [go_sem], by simp [go_sem], by simp [go_sem], by simp [go_sem], by simp [go_sem], by simp [go_sem], by simp, h1.below (below_alloc (Below.refl _ _) _), h2.below (below_alloc (Below.refl _ _) _), h3.below (below_alloc (Below.refl _ _) _)⟩
theorem VL.far {b' : Nat} {p q : Value} (h : VL W b n1 A1 m1 k1 n2 A2 m2 k2 n3 A3 m3 k3 x) (hr : Res2 W b') (hne : b' ≠ b) : VL ((W.setCell ⟨b', 0, none⟩ p).setCell ⟨b', 1, none⟩ q) b n1 A1 m1 k1 n2 A2 m2 k2 n3 A3 m3 k3 x := by
 have e : ∀ (o : Nat) (w : World) (u : Value) (o' : Nat), (w.setCell ⟨b', o', none⟩ u).cell? ⟨b, o, none⟩ = w.cell? ⟨b, o, none⟩ := fun o w u o' => World.cell?_setCell_other _ _ _ _ (by simp [hne])
 exact ⟨by rw [e, e]; exact h.c0, by rw [e, e]; exact h.c1, by rw [e, e]; exact h.c2, by rw [e, e]; exact h.c3, by rw [e, e]; exact h.c4, by rw [e, e]; exact h.c5, by simpa [World.setCell] using h.lt, h.i1.out.res2 hr p q, h.i2.out.res2 hr p q, h.i3.out.res2 hr p q⟩
end
/-- A number that is not too great has few words. -/
theorem szI {z : Int} (h : z.natAbs ≤ 1000000000000 * 10 ^ 200) : (dg B64 z).length ≤ 1000 := by
 have h1 : z.natAbs < 10 ^ 300 := by
  have e : 1000000000000 * 10 ^ 200 < 10 ^ 300 := by decide
  exact Nat.lt_of_le_of_lt h e
 have h2 := digs_len_le B64two (Nat.lt_of_lt_of_le h1 (ten_le 300))
 unfold dg
 omega
end Go.Proofs.YtibdipfhfaeooaaGreatDoor


set_option linter.unusedVariables false
set_option linter.unusedSimpArgs false
namespace Go.Proofs.YtibdipfhfaeooaaGreatDoor
open Go.RowKit

def Fl (l : List Lf) : List Int := l.flatMap fun x => [x.at_, x.mul, x.add]
theorem Fl_len (l : List Lf) : (Fl l).length = 3 * l.length := by
 induction l with
 | nil => rfl
 | cons a t ih => unfold Fl at ih ⊢; rw [List.flatMap_cons, List.length_append, ih, List.length_cons]; simp; omega
theorem Fl_snoc (l : List Lf) (x : Lf) : Fl (l ++ [x]) = Fl l ++ [x.at_] ++ [x.mul] ++ [x.add] := by unfold Fl; rw [List.flatMap_append]; simp
def gF (l : List Lf) (i : Nat) : Lf := l.getD i ⟨0, 0, 0⟩
theorem gF_lt {l : List Lf} {i : Nat} (h : i < l.length) : gF l i = l[i] := by simp [gF, h]
theorem Fl_at (l : List Lf) : ∀ i, i < l.length → (Fl l)[3 * i]? = some (gF l i).at_ ∧ (Fl l)[3 * i + 1]? = some (gF l i).mul ∧ (Fl l)[3 * i + 2]? = some (gF l i).add := by
 induction l with
 | nil => intro i h; cases h
 | cons a t ih =>
  intro i h
  have e : Fl (a :: t) = a.at_ :: a.mul :: a.add :: Fl t := rfl
  rw [e]
  cases i with
  | zero => exact ⟨rfl, rfl, rfl⟩
  | succ i =>
   obtain ⟨h1, h2, h3⟩ := ih i (by simpa using h)
   have eg : gF (a :: t) (i + 1) = gF t i := by simp [gF]
   rw [eg, show 3 * (i + 1) = 3 * i + 1 + 1 + 1 by omega]
   exact ⟨by simpa using h1, by simpa using h2, by simpa using h3⟩
/-- A slice of such triples. -/
def LsF (B : Nat) (k : IntKind) (w : World) (A : Option Addr) (c : Nat) (l : List Lf) : Prop := ∃ xs, Rd w 6 A l.length xs ∧ l.length ≤ c ∧ c ≤ 9223372036854775807 ∧ Rl B k w xs (Fl l)
/-- A row of such triples of the call's own. -/
def OwF (B : Nat) (k : IntKind) (w : World) (base : Nat) (e : TypeId) (v : Value) (l : List Lf) : Prop := ∃ xs, OwP w base e 6 v l.length xs ∧ Rl B k w xs (Fl l)
section
variable {B : Nat} {k : IntKind} {w w' : World} {base : Nat} {e : TypeId} {v : Value} {l : List Lf} {A : Option Addr} {c : Nat}
theorem LsF.below (h : LsF B k w A c l) (hb : Below w.heap.size w w') : LsF B k w' A c l := by
 obtain ⟨xs, h1, h2, h3, h4⟩ := h
 exact ⟨xs, h1.below hb, h2, h3, h4.kp (Kp.of hb)⟩
theorem LsF.el (h : LsF B k w A c l) {j : Nat} (hj : j < l.length) : ∃ b off n1 A1 m1 k1 n2 A2 m2 k2 n3 A3 m3 k3, A = some ⟨b, off, none⟩ ∧ b < w.heap.size ∧
  w.cell? ⟨b, off + j * 6, none⟩ = some (.bool n1) ∧ w.cell? ⟨b, off + j * 6 + 1, none⟩ = some (.slice A1 m1 k1) ∧ w.cell? ⟨b, off + j * 6 + 2, none⟩ = some (.bool n2) ∧ w.cell? ⟨b, off + j * 6 + 3, none⟩ = some (.slice A2 m2 k2) ∧ w.cell? ⟨b, off + j * 6 + 4, none⟩ = some (.bool n3) ∧ w.cell? ⟨b, off + j * 6 + 5, none⟩ = some (.slice A3 m3 k3) ∧
  Hid (IsZ B k w (.agg #[.bool n1, .slice A1 m1 k1]) (gF l j).at_) ∧ Hid (IsZ B k w (.agg #[.bool n2, .slice A2 m2 k2]) (gF l j).mul) ∧ Hid (IsZ B k w (.agg #[.bool n3, .slice A3 m3 k3]) (gF l j).add) := by
 obtain ⟨xs, h1, h2, h3, h4⟩ := h
 obtain ⟨b, off, hA, hlt, hc⟩ := h1.2 (by omega)
 obtain ⟨g1, g2, g3⟩ := Fl_at l j hj
 obtain ⟨n1, A1, m1, k1, p1, p2, p3⟩ := h4 _ _ g1
 obtain ⟨n2, A2, m2, k2, q1, q2, q3⟩ := h4 _ _ g2
 obtain ⟨n3, A3, m3, k3, r1, r2, r3⟩ := h4 _ _ g3
 rw [show 2 * (3 * j) = j * 6 by omega] at p1 p2
 rw [show 2 * (3 * j + 1) = j * 6 + 2 by omega] at q1 q2
 rw [show 2 * (3 * j + 2) = j * 6 + 4 by omega] at r1 r2
 exact ⟨b, off, n1, A1, m1, k1, n2, A2, m2, k2, n3, A3, m3, k3, hA, hlt, hc _ _ p1, by rw [Nat.add_assoc]; exact hc _ _ p2, by rw [Nat.add_assoc]; exact hc _ _ q1, by rw [Nat.add_assoc]; exact hc _ _ q2, by rw [Nat.add_assoc]; exact hc _ _ r1, by rw [Nat.add_assoc]; exact hc _ _ r2, p3, q3, r3⟩
theorem OwF.nil (w : World) (base : Nat) (e : TypeId) : OwF B k w base e (.slice none 0 0) [] :=
 ⟨[], ⟨World.ownsRow_nil _ _ _ _, fun g _ _ _ hg => by simp [Value.ownBlock] at hg⟩, fun j z h => by simp [Fl] at h⟩
theorem OwF.below (h : OwF B k w base e v l) (hb : Below w.heap.size w w') : OwF B k w' base e v l := by
 obtain ⟨xs, h1, h2⟩ := h
 exact ⟨xs, h1.below hb, h2.kp (Kp.of hb)⟩
theorem OwF.form (h : OwF B k w base e v l) : ∃ A c, v = .slice A l.length c ∧ LsF B k w A c l := by
 obtain ⟨xs, h1, h2⟩ := h
 have hh := h1.1
 rcases h1.1.2 with ⟨rfl, h0⟩ | ⟨g, cap, cur, rfl, hb, hg, hnc, hm, _⟩
 ·have : l = [] := List.eq_nil_of_length_eq_zero h0
  subst this
  exact ⟨none, 0, rfl, xs, ⟨hh.1, fun h => absurd h (by simp)⟩, Nat.le_refl _, by omega, h2⟩
 ·refine ⟨some ⟨g, 0, none⟩, cap, rfl, xs, Rd.of_own hh, hnc, ?_, h2⟩
  simp only [maxLen] at hm
  omega
end
section
variable {P : Program} {ops : Array Oper} {rest : List Oper} {o : Oper} {a : Act} {Q : Exit → Act → World → Prop}
end
end Go.Proofs.YtibdipfhfaeooaaGreatDoor

