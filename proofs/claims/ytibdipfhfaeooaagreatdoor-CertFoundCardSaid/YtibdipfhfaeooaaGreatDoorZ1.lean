/- Plain facts about numbers written as lists of digits to a base, the lowest first. No condition. -/
import Derived.Below
import Derived.Deep.Draws
import Derived.Deep.AppendLies
import Derived.Maps.AppendAt
import Derived.OwnWalk
import Derived.Laws.OwnMore
import Derived.Laws.MakeOwn
import Derived.Laws.Slices
import Derived.WalkKit
import Derived.KernelRfl
import Derived.RowKit3
import Derived.Lib.Hide
import Derived.Outline
import Derived.Deep.RegionHeld3
import Derived.Deep.QuietTactic
import Derived.BigQuiet
import Derived.StillTailTactics
import Derived.WalkSpells
import Derived.Test.YtibdipfhfaeooaaGreatDoorProg
set_option linter.unusedVariables false
namespace Go.Proofs.YtibdipfhfaeooaaGreatDoor

/-- The number that a list of digits stands for, the lowest digit first. -/
def V (B : Nat) : List Int → Int
 | [] => 0
 | d :: l => d + B * V B l

/-- All digits lie below the base. -/
def Dg (B : Nat) (l : List Int) : Prop := ∀ d ∈ l, 0 ≤ d ∧ d < (B : Int)

/-- No zero at the end. -/
def Nm (l : List Int) : Prop := l.getLast? ≠ some 0

theorem Dg.nil (B : Nat) : Dg B [] := by intro d h; simp at h
theorem Dg.cons {B : Nat} {d : Int} {l : List Int} (h0 : 0 ≤ d) (h1 : d < (B : Int)) (h : Dg B l) : Dg B (d :: l) := by
 intro x hx; simp at hx; rcases hx with rfl | hx
 ·exact ⟨h0, h1⟩
 ·exact h x hx
theorem Dg.head {B : Nat} {d : Int} {l : List Int} (h : Dg B (d :: l)) : 0 ≤ d ∧ d < (B : Int) := h d (by simp)
theorem Dg.tail {B : Nat} {d : Int} {l : List Int} (h : Dg B (d :: l)) : Dg B l := fun x hx => h x (by simp [hx])
theorem Dg.append {B : Nat} {l m : List Int} (h : Dg B l) (k : Dg B m) : Dg B (l ++ m) := by
 intro x hx; simp at hx; rcases hx with hx | hx
 ·exact h x hx
 ·exact k x hx
theorem Dg.left {B : Nat} {l m : List Int} (h : Dg B (l ++ m)) : Dg B l := fun x hx => h x (by simp [hx])
theorem Dg.right {B : Nat} {l m : List Int} (h : Dg B (l ++ m)) : Dg B m := fun x hx => h x (by simp [hx])
theorem Dg.take {B : Nat} {l : List Int} (h : Dg B l) (n : Nat) : Dg B (l.take n) := fun x hx => h x (List.mem_of_mem_take hx)
theorem Dg.drop {B : Nat} {l : List Int} (h : Dg B l) (n : Nat) : Dg B (l.drop n) := fun x hx => h x (List.mem_of_mem_drop hx)
theorem Dg.getD {B : Nat} {l : List Int} (h : Dg B l) (hB : 0 < B) (i : Nat) : 0 ≤ l.getD i 0 ∧ l.getD i 0 < (B : Int) := by
 rw [List.getD_eq_getElem?_getD]
 cases hi : l[i]? with
 | none => simp; omega
 | some v => simp; exact h v (List.mem_of_getElem? hi)
theorem Dg.set {B : Nat} {l : List Int} (h : Dg B l) (i : Nat) {d : Int} (h0 : 0 ≤ d) (h1 : d < (B : Int)) : Dg B (l.set i d) := by
 intro x hx
 rcases List.mem_or_eq_of_mem_set hx with hx | rfl
 ·exact h x hx
 ·exact ⟨h0, h1⟩
theorem Dg.zeros {B : Nat} (hB : 0 < B) (n : Nat) : Dg B (List.replicate n 0) := by
 intro x hx; simp at hx; omega

theorem V_append (B : Nat) (l m : List Int) : V B (l ++ m) = V B l + (B : Int) ^ l.length * V B m := by
 induction l with
 | nil => simp [V]
 | cons d l ih => simp only [List.cons_append, V, ih, List.length_cons, Int.pow_succ]; grind
theorem V_snoc (B : Nat) (l : List Int) (d : Int) : V B (l ++ [d]) = V B l + (B : Int) ^ l.length * d := by
 rw [V_append]; simp [V]
theorem V_zeros (B n : Nat) : V B (List.replicate n 0) = 0 := by
 induction n with
 | zero => rfl
 | succ n ih => rw [List.replicate_succ, V, ih]; simp
theorem V_nonneg {B : Nat} {l : List Int} (h : Dg B l) : 0 ≤ V B l := by
 induction l with
 | nil => simp [V]
 | cons d l ih =>
  have h1 := h.head; have h2 := ih h.tail
  have h3 : 0 ≤ (B : Int) * V B l := Int.mul_nonneg (by omega) h2
  simp only [V]; omega
theorem V_lt {B : Nat} {l : List Int} (h : Dg B l) : V B l < (B : Int) ^ l.length := by
 induction l with
 | nil => simp [V]
 | cons d l ih =>
  have h1 := h.head; have h2 := ih h.tail
  have h3 : (B : Int) * (V B l + 1) ≤ (B : Int) * (B : Int) ^ l.length := Int.mul_le_mul_of_nonneg_left (by omega) (by omega)
  simp only [V, List.length_cons, Int.pow_succ]
  rw [Int.mul_add] at h3
  rw [Int.mul_comm ((B : Int) ^ l.length)]
  omega
theorem V_pos {B : Nat} {l : List Int} (hB : 0 < B) (h : Dg B l) (hn : Nm l) (hl : l ≠ []) : (B : Int) ^ (l.length - 1) ≤ V B l := by
 obtain ⟨m, d, rfl⟩ : ∃ m d, l = m ++ [d] := ⟨l.dropLast, l.getLast hl, (List.dropLast_concat_getLast hl).symm⟩
 rw [V_snoc]
 have h1 := V_nonneg h.left
 have h2 : 0 ≤ d ∧ d < (B : Int) := h d (by simp)
 have h3 : d ≠ 0 := by intro e; subst e; simp [Nm] at hn
 have h4 : (B : Int) ^ m.length * 1 ≤ (B : Int) ^ m.length * d := Int.mul_le_mul_of_nonneg_left (by omega) (Int.pow_nonneg (by omega))
 simp only [List.length_append, List.length_cons, List.length_nil]
 have e : m.length + (0 + 1) - 1 = m.length := by omega
 rw [e]; omega
theorem V_getD (B : Nat) (l : List Int) (i : Nat) : V B (l.take (i + 1)) = V B (l.take i) + (B : Int) ^ i * l.getD i 0 := by
 by_cases h : i < l.length
 ·rw [List.take_succ_eq_append_getElem h, V_snoc]
  rw [List.length_take, Nat.min_eq_left (by omega), List.getD_eq_getElem?_getD, List.getElem?_eq_getElem h]; rfl
 ·rw [List.take_of_length_le (by omega), List.take_of_length_le (by omega), List.getD_eq_getElem?_getD, List.getElem?_eq_none (by omega)]
  simp
theorem V_split (B : Nat) (l : List Int) (i : Nat) (h : i ≤ l.length) : V B l = V B (l.take i) + (B : Int) ^ i * V B (l.drop i) := by
 conv => lhs; rw [← List.take_append_drop i l]
 rw [V_append, List.length_take, Nat.min_eq_left h]
theorem V_drop (B : Nat) (l : List Int) (i : Nat) : V B (l.drop i) = l.getD i 0 + B * V B (l.drop (i + 1)) := by
 by_cases h : i < l.length
 ·rw [List.drop_eq_getElem_cons h, V, List.getD_eq_getElem?_getD, List.getElem?_eq_getElem h]; rfl
 ·rw [List.drop_of_length_le (by omega), List.drop_of_length_le (by omega), List.getD_eq_getElem?_getD, List.getElem?_eq_none (by omega)]
  simp [V]
theorem V_set (B : Nat) (l : List Int) (i : Nat) (d : Int) (h : i < l.length) : V B (l.set i d) = V B l + (B : Int) ^ i * (d - l.getD i 0) := by
 have e1 := V_split B (l.set i d) i (by simp; omega)
 have e2 := V_split B l i (by omega)
 rw [V_drop, List.take_set_of_le (Nat.le_refl _), List.drop_set_of_lt (by omega)] at e1
 rw [V_drop] at e2
 have e3 : (l.set i d).getD i 0 = d := by simp [h]
 rw [e3] at e1
 grind

/-- The digits of a number that is not negative. -/
def digs (B : Nat) (n : Nat) : List Int :=
 if _h : n = 0 ∨ B < 2 then [] else ((n % B : Nat) : Int) :: digs B (n / B)
termination_by n
decreasing_by exact Nat.div_lt_self (by omega) (by omega)

theorem digs_zero (B : Nat) : digs B 0 = [] := by unfold digs; simp
theorem digs_pos {B n : Nat} (hB : 2 ≤ B) (hn : 0 < n) : digs B n = ((n % B : Nat) : Int) :: digs B (n / B) := by
 rw [digs, dif_neg (by omega)]
theorem digs_dg {B : Nat} (hB : 2 ≤ B) (n : Nat) : Dg B (digs B n) := by
 induction n using Nat.strongRecOn with
 | ind n ih =>
  rcases Nat.eq_zero_or_pos n with rfl | hn
  ·rw [digs_zero]; exact Dg.nil B
  ·rw [digs_pos hB hn]
   have := Nat.mod_lt n (show 0 < B by omega)
   exact Dg.cons (by omega) (by omega) (ih _ (Nat.div_lt_self hn (by omega)))
theorem digs_V {B : Nat} (hB : 2 ≤ B) (n : Nat) : V B (digs B n) = n := by
 induction n using Nat.strongRecOn with
 | ind n ih =>
  rcases Nat.eq_zero_or_pos n with rfl | hn
  ·rw [digs_zero]; rfl
  ·rw [digs_pos hB hn, V, ih _ (Nat.div_lt_self hn (by omega))]
   have := Nat.mod_add_div n B
   rw [← Int.natCast_mul, ← Int.natCast_add, this]
theorem digs_nm {B : Nat} (hB : 2 ≤ B) (n : Nat) : Nm (digs B n) := by
 induction n using Nat.strongRecOn with
 | ind n ih =>
  rcases Nat.eq_zero_or_pos n with rfl | hn
  ·rw [digs_zero]; simp [Nm]
  ·rw [digs_pos hB hn]
   have h1 := ih _ (Nat.div_lt_self hn (show 1 < B by omega))
   rcases Nat.eq_zero_or_pos (n / B) with h0 | h0
   ·rw [h0, digs_zero]
    have : n % B = n := Nat.mod_eq_of_lt ((Nat.div_eq_zero_iff_lt (by omega)).1 h0)
    rw [this]; simp [Nm]; omega
   ·rw [digs_pos hB h0] at h1 ⊢
    simpa [Nm] using h1
theorem digs_nil {B n : Nat} (hB : 2 ≤ B) (h : digs B n = []) : n = 0 := by
 have := digs_V hB n; rw [h] at this; simp [V] at this; omega
theorem Nm.tail {d e : Int} {l : List Int} (h : Nm (d :: e :: l)) : Nm (e :: l) := by simpa [Nm] using h
/-- A list of digits without a zero at the end is the one of its number. -/
theorem digs_unique {B : Nat} (hB : 2 ≤ B) (l : List Int) (h : Dg B l) (hn : Nm l) : l = digs B (V B l).toNat := by
 induction l with
 | nil => simp [V, digs_zero]
 | cons d l ih =>
  have h1 := h.head
  have h2 := V_nonneg h.tail
  have hm : 0 ≤ (B : Int) * V B l := Int.mul_nonneg (by omega) h2
  have ih := ih h.tail (by cases l with | nil => simp [Nm] | cons e l => exact hn.tail)
  have hpos : 0 < V B (d :: l) := by
   have := V_pos (by omega) h hn (by simp)
   have : (0 : Int) < (B : Int) ^ ((d :: l).length - 1) := Int.pow_pos (by omega)
   omega
  have e : (V B (d :: l)).toNat = d.toNat + B * (V B l).toNat := by
   apply Int.ofNat.inj
   show ((V B (d :: l)).toNat : Int) = ((d.toNat + B * (V B l).toNat : Nat) : Int)
   rw [Int.natCast_add, Int.natCast_mul, Int.toNat_of_nonneg (by omega), Int.toNat_of_nonneg h1.1, Int.toNat_of_nonneg h2]; rfl
  rw [digs_pos hB (by omega), e]
  have hd : d.toNat < B := by omega
  rw [Nat.add_mul_mod_self_left, Nat.mod_eq_of_lt hd, Nat.add_mul_div_left _ _ (by omega), Nat.div_eq_of_lt hd, Nat.zero_add, ← ih]
  rw [Int.toNat_of_nonneg h1.1]
theorem digs_eq {B : Nat} (hB : 2 ≤ B) {l : List Int} {n : Nat} (h : Dg B l) (hn : Nm l) (e : V B l = n) : l = digs B n := by
 have := digs_unique hB l h hn
 rw [e] at this; simpa using this
theorem digs_len_le {B : Nat} (hB : 2 ≤ B) {n k : Nat} (h : n < B ^ k) : (digs B n).length ≤ k := by
 rcases Nat.eq_zero_or_pos n with rfl | hn
 ·rw [digs_zero]; simp
 ·have hne : digs B n ≠ [] := fun e => by have := digs_nil hB e; omega
  have h1 := V_pos (by omega) (digs_dg hB n) (digs_nm hB n) hne
  rw [digs_V hB] at h1
  have h2 : B ^ ((digs B n).length - 1) ≤ n := by
   have : ((B ^ ((digs B n).length - 1) : Nat) : Int) ≤ (n : Int) := by rw [Int.natCast_pow]; exact h1
   omega
  have h3 : (digs B n).length - 1 < k := (Nat.pow_lt_pow_iff_right (by omega)).1 (Nat.lt_of_le_of_lt h2 h)
  omega
theorem digs_len_lt {B : Nat} (hB : 2 ≤ B) (n : Nat) : n < B ^ (digs B n).length := by
 have := V_lt (digs_dg hB n)
 rw [digs_V hB] at this
 rw [← Int.natCast_pow] at this
 omega
theorem digs_len_mono {B : Nat} (hB : 2 ≤ B) {m n : Nat} (h : m ≤ n) : (digs B m).length ≤ (digs B n).length :=
 digs_len_le hB (Nat.lt_of_le_of_lt h (digs_len_lt hB n))

/-- What trimming leaves. -/
def trimmed : List Int → List Int
 | [] => []
 | d :: l => match trimmed l with
  | [] => if d = 0 then [] else [d]
  | e :: m => d :: e :: m
theorem trimmed_V (B : Nat) (l : List Int) : V B (trimmed l) = V B l := by
 induction l with
 | nil => rfl
 | cons d l ih =>
  unfold trimmed; rw [V, ← ih]
  cases h : trimmed l with
  | nil => by_cases hd : d = 0 <;> simp [V, hd]
  | cons e m => simp [V]
theorem trimmed_nm (l : List Int) : Nm (trimmed l) := by
 induction l with
 | nil => simp [trimmed, Nm]
 | cons d l ih =>
  unfold trimmed
  cases h : trimmed l with
  | nil => by_cases hd : d = 0 <;> simp [Nm, hd]
  | cons e m => rw [h] at ih; simpa [Nm] using ih
theorem trimmed_dg {B : Nat} {l : List Int} (h : Dg B l) : Dg B (trimmed l) := by
  induction l with
  | nil => exact h
  | cons d l ih =>
    have ih := ih h.tail
    unfold trimmed
    cases e : trimmed l with
    | nil => by_cases hd : d = 0 <;> simp [hd]
             · exact Dg.nil B
             · exact Dg.cons h.head.1 h.head.2 (Dg.nil B)
    | cons e m => simp only []; rw [← e]; exact Dg.cons h.head.1 h.head.2 ih
theorem trimmed_snoc_zero (l : List Int) : trimmed (l ++ [0]) = trimmed l := by
 induction l with
 | nil => simp [trimmed]
 | cons d l ih => simp only [List.cons_append]; rw [trimmed, trimmed, ih]
theorem trimmed_of_nm (l : List Int) (h : Nm l) : trimmed l = l := by
 induction l with
 | nil => rfl
 | cons d l ih =>
  unfold trimmed
  cases l with
  | nil => simp [Nm] at h; simp [trimmed, h]
  | cons e l => rw [ih h.tail]
theorem trimmed_digs {B : Nat} (hB : 2 ≤ B) {l : List Int} (h : Dg B l) : trimmed l = digs B (V B l).toNat := by
 have := digs_unique hB (trimmed l) (trimmed_dg h) (trimmed_nm l)
 rw [trimmed_V] at this; exact this
end Go.Proofs.YtibdipfhfaeooaaGreatDoor


set_option linter.unusedVariables false
set_option linter.unusedSimpArgs false
namespace Go.Proofs.YtibdipfhfaeooaaGreatDoor
open Go.RowKit

/-- The cells xs lie at A, n elements of sz cells each. -/
def Rd (w : World) (sz : Nat) (A : Option Addr) (n : Nat) (xs : List Value) : Prop :=
 xs.length = n * sz ∧ (0 < n → ∃ b off, A = some ⟨b, off, none⟩ ∧ b < w.heap.size ∧ ∀ j u, xs[j]? = some u → w.cell? ⟨b, off + j, none⟩ = some u)

section
variable {w w' : World} {sz n : Nat} {A : Option Addr} {xs : List Value}
theorem Rd.nil : Rd w sz A 0 [] := ⟨by simp, fun h => absurd h (by omega)⟩
theorem Rd.below (h : Rd w sz A n xs) (hb : Below w.heap.size w w') : Rd w' sz A n xs :=
 ⟨h.1, fun hn => by
  obtain ⟨b, off, e, hl, hc⟩ := h.2 hn
  exact ⟨b, off, e, Nat.lt_of_lt_of_le hl hb.size, fun j u hu => (hb.cell (p := ⟨b, off + j, none⟩) hl).trans (hc j u hu)⟩⟩
theorem Rd.take {k : Nat} (h : Rd w sz A n xs) (hk : k ≤ n) : Rd w sz A k (xs.take (k * sz)) :=
 ⟨by rw [List.length_take, h.1, Nat.min_eq_left (Nat.mul_le_mul_right _ hk)], fun hn => by
  obtain ⟨b, off, e, hl, hc⟩ := h.2 (by omega)
  refine ⟨b, off, e, hl, fun j u hu => hc j u ?_⟩
  rw [List.getElem?_take] at hu
  split at hu
  ·exact hu
  ·cases hu⟩
theorem plain_add (b off i : Nat) : (⟨b, off, none⟩ : Addr).add i = ⟨b, off + i, none⟩ := by
 unfold Addr.add
 by_cases h : i = 0 <;> simp [h]
theorem Rd.drop {k c : Nat} (h : Rd w sz A n xs) (hk : k ≤ n) (hc : n ≤ c) : Rd w sz (if c = k then A else A.map (·.add (k * sz))) (n - k) (xs.drop (k * sz)) := by
 refine ⟨by rw [List.length_drop, h.1, Nat.sub_mul], fun hn => ?_⟩
 obtain ⟨b, off, rfl, hl, hcell⟩ := h.2 (by omega)
 rw [if_neg (by omega)]
 refine ⟨b, off + k * sz, by simp [plain_add], hl, fun j u hu => ?_⟩
 rw [Nat.add_assoc]
 exact hcell _ u (by rw [← hu, List.getElem?_drop])
theorem Rd.at_ {k : Nat} (h : Rd w 1 A n xs) (hk : k < n) : ∃ b off, A = some ⟨b, off, none⟩ ∧ b < w.heap.size ∧ ∃ u, xs[k]? = some u ∧ w.cell? ⟨b, off + k, none⟩ = some u := by
 obtain ⟨b, off, e, hl, hc⟩ := h.2 (by omega)
 have hl' : k < xs.length := by have := h.1; omega
 exact ⟨b, off, e, hl, xs[k], List.getElem?_eq_getElem hl', hc k _ (List.getElem?_eq_getElem hl')⟩
theorem Rd.of_own {base c : Nat} {e : TypeId} (h : w.ownsRow base e sz (.slice A n c) n xs) : Rd w sz A n xs := by
 refine ⟨h.1, fun hn => ?_⟩
 obtain ⟨g, cap, hv, _, hlt⟩ := h.form hn
 have hA : A = some ⟨g, 0, none⟩ := by injection hv
 subst hA
 refine ⟨g, 0, rfl, hlt, fun j u hu => ?_⟩
 have := h.cells (g := g) rfl j u hu
 rwa [plain_add] at this
end

theorem below_alloc {w W : World} (h : Below w.heap.size w W) (o : Obj) : Below w.heap.size w (W.alloc o) := h.alloc h.size o
theorem below_drew {B : Nat} {w W : World} (h : Below B w W) : Below B w W.drew := h.drew
theorem below_drewN {B : Nat} {w W : World} (h : Below B w W) (n : Nat) : Below B w (W.drewN n) := ⟨h.os, h.tape, h.output, h.size, h.block⟩
theorem below_step {w W W' : World} (h : Below w.heap.size w W) (h' : Below W.heap.size W W') : Below w.heap.size w W' := h.trans (h'.mono h.size)
theorem below_set {w W : World} (h : Below w.heap.size w W) {b off : Nat} (hb : w.heap.size ≤ b) (u : Value) : Below w.heap.size w (W.setCell ⟨b, off, none⟩ u) := h.setCell (p := ⟨b, off, none⟩) hb u

/-- The number at a place of a list, 0 behind its end (under a name, so that a walk leaves it as it is). -/
def gd (l : List Int) (i : Nat) : Int := l.getD i 0
theorem gd_lt {l : List Int} {i : Nat} (h : i < l.length) : gd l i = l[i] := by simp [gd, h]
theorem gd_ge {l : List Int} {i : Nat} (h : l.length ≤ i) : gd l i = 0 := by simp [gd, List.getElem?_eq_none h]

/-- A store into a cell that holds nothing of the row leaves the row. -/
theorem Rd.set {w : World} {sz n : Nat} {A : Option Addr} {xs : List Value} (h : Rd w sz A n xs) {b o : Nat} {u x : Value} (hp : w.cell? ⟨b, o, none⟩ = some u) (hu : u ∉ xs) : Rd (w.setCell ⟨b, o, none⟩ x) sz A n xs := by
 refine ⟨h.1, fun hn => ?_⟩
 obtain ⟨b1, off, e, hl, hc⟩ := h.2 hn
 refine ⟨b1, off, e, by simpa [World.setCell] using hl, fun j v hv => ?_⟩
 rw [World.cell?_setCell_other]
 ·exact hc j v hv
 ·intro he
  rw [he] at hp
  have := hc j v hv
  rw [hp] at this
  injection this with this
  exact hu (this ▸ List.mem_of_getElem? hv)

/-- A row of whole numbers. -/
def ints (k : IntKind) (l : List Int) : List Value := l.map (Value.int k)
theorem ints_take (k : IntKind) (l : List Int) (n : Nat) : (ints k l).take n = ints k (l.take n) := by simp [ints]
theorem ints_append (k : IntKind) (l m : List Int) : ints k (l ++ m) = ints k l ++ ints k m := by simp [ints]

/-- A slice of whole numbers that reads as l; its length is that of l, its capacity c at least as great, and small enough to be counted. -/
def SlI (w : World) (k : IntKind) (A : Option Addr) (c : Nat) (l : List Int) : Prop :=
 Rd w 1 A l.length (ints k l) ∧ l.length ≤ c ∧ c ≤ 9223372036854775807

section
variable {w w' : World} {k : IntKind} {A : Option Addr} {c : Nat} {l : List Int}
theorem SlI.below (h : SlI w k A c l) (hb : Below w.heap.size w w') : SlI w' k A c l := ⟨h.1.below hb, h.2⟩
theorem SlI.cell (h : SlI w k A c l) {j : Nat} (hj : j < l.length) : ∃ b off, A = some ⟨b, off, none⟩ ∧ b < w.heap.size ∧ w.cell? ⟨b, off + j, none⟩ = some (.int k (gd l j)) := by
 obtain ⟨b, off, e, hl, u, hu, hc⟩ := h.1.at_ hj
 refine ⟨b, off, e, hl, hc.trans ?_⟩
 rw [← hu, gd_lt hj]
 simp [ints, hj]
theorem SlI.take (h : SlI w k A c l) {m : Nat} (hm : m ≤ l.length) : SlI w k A c (l.take m) := by
 have hl : (l.take m).length = m := by rw [List.length_take, Nat.min_eq_left hm]
 refine ⟨?_, by have := h.2.1; omega, h.2.2⟩
 rw [hl, ← ints_take]
 have := h.1.take hm
 rwa [Nat.mul_one] at this
end

theorem not_ints {k : IntKind} {l : List Int} {u : Value} (h : ∀ n, u ≠ .int k n) : u ∉ ints k l := by
 unfold ints
 intro hm
 obtain ⟨n, _, rfl⟩ := List.mem_map.1 hm
 exact h n rfl
theorem SlI.set {w : World} {k : IntKind} {A : Option Addr} {c : Nat} {l : List Int} (h : SlI w k A c l) {b o : Nat} {u x : Value} (hp : w.cell? ⟨b, o, none⟩ = some u) (hu : ∀ n, u ≠ .int k n) : SlI (w.setCell ⟨b, o, none⟩ x) k A c l :=
 ⟨h.1.set hp (not_ints hu), h.2⟩
/-- A block that is just a row of whole numbers. -/
def BlkI (w : World) (g : Nat) (e : TypeId) (k : IntKind) (l : List Int) : Prop := w.heap[g]? = some (.cells (ints k l).toArray e (0, 0))
section
variable {w w' : World} {g : Nat} {e : TypeId} {k : IntKind} {l : List Int}
theorem BlkI.lt (h : BlkI w g e k l) : g < w.heap.size := by
 rcases Nat.lt_or_ge g w.heap.size with hlt | hge
 ·exact hlt
 ·unfold BlkI at h; rw [Array.getElem?_eq_none hge] at h; cases h
theorem BlkI.cell (h : BlkI w g e k l) {j : Nat} (hj : j < l.length) : w.cell? ⟨g, j, none⟩ = some (.int k (gd l j)) := by
 unfold BlkI at h
 rw [World.cell?, h]
 simp [ints, hj, gd_lt hj]
theorem BlkI.frozen (h : BlkI w g e k l) (j : Nat) : w.frozen? ⟨g, j, none⟩ = false := by
 unfold BlkI at h
 simp [World.frozen?, h]
theorem BlkI.new (w : World) (e : TypeId) (k : IntKind) (m : Nat) : BlkI (w.alloc (.cells (madeCells #[.int k 0] m) e)) w.heap.size e k (List.replicate m 0) := by
 unfold BlkI
 rw [heap_alloc_new]
 congr 2
 apply Array.ext'
 rw [toList_madeCells_one]
 simp [ints]
theorem BlkI.drew (h : BlkI w g e k l) : BlkI w.drew g e k l := h
theorem BlkI.drewN (h : BlkI w g e k l) (n : Nat) : BlkI (w.drewN n) g e k l := h
theorem BlkI.below (h : BlkI w g e k l) (hb : Below w.heap.size w w') : BlkI w' g e k l := (hb.block g h.lt).trans h
theorem BlkI.set (h : BlkI w g e k l) (j : Nat) (x : Int) : BlkI (w.setCell ⟨g, j, none⟩ (.int k x)) g e k (l.set j x) := by
 unfold BlkI at h ⊢
 simp [World.setCell, Array.getElem?_modify, h, ints, List.map_set]
theorem BlkI.slI (h : BlkI w g e k l) (hl : l.length ≤ 9223372036854775807) : SlI w k (some ⟨g, 0, none⟩) l.length l := by
 refine ⟨⟨by simp [ints], fun hn => ⟨g, 0, rfl, h.lt, fun j u hu => ?_⟩⟩, Nat.le_refl _, hl⟩
 have hj : j < l.length := by
  rcases Nat.lt_or_ge j l.length with h1 | h1
  ·exact h1
  ·rw [List.getElem?_eq_none (by simpa [ints] using h1)] at hu; cases hu
 rw [Nat.zero_add, h.cell hj, gd_lt hj, ← hu]
 simp [ints, hj]
end
/-- Below B the world is as it was: what lies there reads as it did. -/
theorem kcellB {B : Nat} {W w1 : World} (hb : Below B W w1) {b o : Nat} {v : Value} (hl : b < B) (h : W.cell? ⟨b, o, none⟩ = some v) : w1.cell? ⟨b, o, none⟩ = some v := (hb.cell (p := ⟨b, o, none⟩) hl).trans h
theorem kfrozB {B : Nat} {W w1 : World} (hb : Below B W w1) {b o : Nat} (hl : b < B) (h : W.frozen? ⟨b, o, none⟩ = false) : w1.frozen? ⟨b, o, none⟩ = false := (hb.frozen (p := ⟨b, o, none⟩) hl).trans h

/-- A sign and digits to a base, as two cells, that stand for a whole number. -/
def dg (B : Nat) (z : Int) : List Int := digs B z.natAbs
def IsZ (B : Nat) (k : IntKind) (w : World) (v : Value) (z : Int) : Prop :=
 ∃ A c, v = .agg #[.bool (decide (z < 0)), .slice A (dg B z).length c] ∧ SlI w k A c (dg B z)
theorem IsZ.below {B : Nat} {k : IntKind} {w w' : World} {v : Value} {z : Int} (h : IsZ B k w v z) (hb : Below w.heap.size w w') : IsZ B k w' v z := by
 obtain ⟨A, c, e, hs⟩ := h
 exact ⟨A, c, e, hs.below hb⟩
theorem IsZ.form {B : Nat} {k : IntKind} {w : World} {v : Value} {z : Int} (h : IsZ B k w v z) : ∃ nv A n c, v = .agg #[.bool nv, .slice A n c] ∧ Hid (IsZ B k w (.agg #[.bool nv, .slice A n c]) z) := by
 obtain ⟨A, c, rfl, hs⟩ := h
 exact ⟨_, A, _, c, rfl, A, c, rfl, hs⟩
/-- Two cells for a result: a sign and digits. -/
def Res2 (W : World) (b : Nat) : Prop := (∃ u, W.cell? ⟨b, 0, none⟩ = some (.bool u)) ∧ (∃ A n c, W.cell? ⟨b, 1, none⟩ = some (.slice A n c)) ∧ W.frozen? ⟨b, 0, none⟩ = false ∧ W.frozen? ⟨b, 1, none⟩ = false ∧ b < W.heap.size
theorem kcell {W w1 : World} (hb : Below W.heap.size W w1) {b o : Nat} {v : Value} (hl : b < W.heap.size) (h : W.cell? ⟨b, o, none⟩ = some v) : w1.cell? ⟨b, o, none⟩ = some v := (hb.cell (p := ⟨b, o, none⟩) hl).trans h
theorem kfroz {W w1 : World} (hb : Below W.heap.size W w1) {b o : Nat} (hl : b < W.heap.size) (h : W.frozen? ⟨b, o, none⟩ = false) : w1.frozen? ⟨b, o, none⟩ = false := (hb.frozen (p := ⟨b, o, none⟩) hl).trans h
theorem Res2.keep {W w1 : World} {b : Nat} (h : Res2 W b) (hb : Below W.heap.size W w1) : Res2 w1 b := by
 obtain ⟨⟨u, h1⟩, ⟨A, n, c, h2⟩, h3, h4, h5⟩ := h
 have hz := hb.size
 exact ⟨⟨u, kcell hb h5 h1⟩, ⟨A, n, c, kcell hb h5 h2⟩, kfroz hb h5 h3, kfroz hb h5 h4, by omega⟩
theorem Res2.keepB {W w1 : World} {b B : Nat} (h : Res2 W b) (hb : Below B W w1) (hl : b < B) : Res2 w1 b := by
 obtain ⟨⟨u, h1⟩, ⟨A, n, c, h2⟩, h3, h4, h5⟩ := h
 have hz := hb.size
 exact ⟨⟨u, kcellB hb hl h1⟩, ⟨A, n, c, kcellB hb hl h2⟩, kfrozB hb hl h3, kfrozB hb hl h4, by omega⟩
theorem Res2.drew {W : World} {b : Nat} (h : Res2 W b) : Res2 W.drew b := h
theorem SlI.res2 {w : World} {k : IntKind} {A : Option Addr} {c : Nat} {l : List Int} (h : SlI w k A c l) {b : Nat} (hr : Res2 w b) (x y : Value) : SlI ((w.setCell ⟨b, 0, none⟩ x).setCell ⟨b, 1, none⟩ y) k A c l := by
 obtain ⟨⟨u, h1⟩, ⟨A', n', c', h2⟩, h3, h4, h5⟩ := hr
 refine (h.set (x := x) h1 (by simp)).set (u := .slice A' n' c') ?_ (by simp)
 rw [World.cell?_setCell_other _ _ _ _ (by simp)]
 exact h2
theorem IsZ.res2 {B : Nat} {k : IntKind} {w : World} {v : Value} {z : Int} (h : IsZ B k w v z) {b : Nat} (hr : Res2 w b) (x y : Value) : IsZ B k ((w.setCell ⟨b, 0, none⟩ x).setCell ⟨b, 1, none⟩ y) v z := by
 obtain ⟨A, c, e, hs⟩ := h
 exact ⟨A, c, e, hs.res2 hr x y⟩
/-- Digits of a natural number. -/
def IsU (B : Nat) (k : IntKind) (w : World) (v : Value) (n : Nat) : Prop :=
 ∃ A c, v = .slice A (digs B n).length c ∧ SlI w k A c (digs B n)
theorem IsU.below {B : Nat} {k : IntKind} {w w' : World} {v : Value} {n : Nat} (h : IsU B k w v n) (hb : Below w.heap.size w w') : IsU B k w' v n := by
 obtain ⟨A, c, e, hs⟩ := h
 exact ⟨A, c, e, hs.below hb⟩
theorem dg_V {B : Nat} (hB : 2 ≤ B) (z : Int) : V B (dg B z) = z.natAbs := digs_V hB _
theorem dg_dg {B : Nat} (hB : 2 ≤ B) (z : Int) : Dg B (dg B z) := digs_dg hB _
theorem dg_nm {B : Nat} (hB : 2 ≤ B) (z : Int) : Nm (dg B z) := digs_nm hB _
def sgnd (neg : Bool) (m : Int) : Int := if neg then -m else m
theorem sgnd_abs (neg : Bool) (m : Int) : (sgnd neg m).natAbs = m.natAbs := by unfold sgnd; split <;> omega
theorem sgnd_lt (neg : Bool) (m : Int) (h : 0 ≤ m) : decide (sgnd neg m < 0) = (neg && decide (0 < m)) := by
 unfold sgnd
 cases neg
 ·simp; omega
 ·simp

/-- A row of whole numbers of the call's own, from block base on. -/
def OwI (w : World) (base : Nat) (e : TypeId) (k : IntKind) (v : Value) (l : List Int) : Prop := w.ownsRow base e 1 v l.length (ints k l)
theorem OwI.nil (w : World) (base : Nat) (e : TypeId) (k : IntKind) : OwI w base e k (.slice none 0 0) [] := World.ownsRow_nil _ _ _ _
theorem ownsRow_base {w : World} {base : Nat} {e : TypeId} {size n : Nat} {v : Value} {xs : List Value} (h : w.ownsRow base e size v n xs) (k : Nat) (hk : v.ownBlock = some k) : base ≤ k := by
 rcases h.2 with ⟨rfl, _⟩ | ⟨g, cap, cur, rfl, hb, _⟩
 ·simp [Value.ownBlock] at hk
 ·have : g = k := by simpa [Value.ownBlock] using hk
  omega
theorem OwI.form {w : World} {base : Nat} {e : TypeId} {k : IntKind} {v : Value} {l : List Int} (h : OwI w base e k v l) : ∃ A c, v = .slice A l.length c ∧ SlI w k A c l := by
 unfold OwI at h
 have hh := h
 rcases h.2 with ⟨rfl, h0⟩ | ⟨g, cap, cur, rfl, hb, hh2, hnc, hm, _⟩
 ·have : l = [] := by simpa [ints] using h0
  subst this
  exact ⟨none, 0, rfl, ⟨by simp [ints], fun h => absurd h (by simp)⟩, Nat.le_refl _, by omega⟩
 ·refine ⟨some ⟨g, 0, none⟩, cap, rfl, Rd.of_own hh, hnc, ?_⟩
  simp only [maxLen] at hm
  omega
theorem OwI.below {w w' : World} {base : Nat} {e : TypeId} {k : IntKind} {v : Value} {l : List Int} (h : OwI w base e k v l) (hb : Below w.heap.size w w') : OwI w' base e k v l := by
 refine World.ownsRow.kept (row := none) h ⟨hb.os, hb.tape, hb.output, hb.size, fun i hi _ => hb.block i hi⟩ ?_
 cases v.ownBlock <;> simp

section
variable {P : Program} {ops : Array Oper} {rest : List Oper} {o : Oper} {a : Act} {Q : Exit → Act → World → Prop}
/-- One number more at the end of a row of the call's own. -/
theorem app_I {w0 W : World} (base : Nat) (hgd : o.guard = none) (s x : Operand) (t e : TypeId) (k : IntKind) (bytes : Nat)
  (ho : o.op = .call { callee := .builtin .append, args := #[s, x], argTypes := #[t, t] })
  (ht : P.underlying t = some (.slice e)) (hinfo : (P.info? e).map (fun i => (i.zero, i.size, i.bytes)) = some (some (.int k 0), 1, bytes)) (hb0 : 0 < bytes)
  (v : Value) (l : List Int) (y : Int) (HO : OwI W base e k v l) (hs : a.eval s = v) (hx : a.eval x = .slice (some ⟨W.heap.size, 0, none⟩) 1 1) (HB : Below base w0 W) (hbase : base ≤ W.heap.size) (hl : (l.length + 1) * bytes ≤ 140737488355328)
  (h : ∀ v1 w1, OwI w1 base e k v1 (l ++ [y]) → Below base w0 w1 → base ≤ w1.heap.size → wpList P ops Q rest (a.put o.dst v1) w1) :
  wpList P ops Q (o :: rest) a (W.alloc (.cells #[.int k y] e)) := by
 obtain ⟨i0, hi, hzz⟩ := Option.map_eq_some_iff.1 hinfo
 simp only [Prod.mk.injEq] at hzz
 obtain ⟨hz0, hz1, hz2⟩ := hzz
 have hlen : l.length + 1 ≤ 140737488355328 := Nat.le_trans (Nat.le_mul_of_pos_right _ hb0) hl
 refine wpList_append_own (w := W.alloc (.cells #[.int k y] e)) hgd s x t ho base e i0 (.int k 0) 1 bytes ht hi hz0 hz1 hz2 rfl (by omega) v l.length (ints k l) hs (HO.alloc _) ⟨W.heap.size, 0, none⟩ 1 1 [.int k y] hx rfl
  (cell_one_new _ _ _) (by simp [Value.oneCell']) (by simp only [maxLen]; omega) hl (by simp; omega) ?_
 intro v1 w1 hown hg _
 refine h v1 w1 ?_ ((HB.alloc hbase _).grown hg (by simp; omega) (ownsRow_base HO)) (by have := hg.size; simp at this; omega)
 unfold OwI
 rw [ints_append, List.length_append]
 exact hown
end
section
variable {P : Program} {ops : Array Oper} {Q : Exit → Act → World → Prop} {md : Region.Mode} {S : World → Prop}
/-- wpAnyH_take, its closed facts in one. -/
theorem wpH_t {i : Nat} {oi : Oper} {v : Value} {fuel : Nat} {listed : Array Bool} {a : Act} {w : World} (hi : ops[i]? = some oi)
  (hc : (Region.noSelect ops && Region.free md ops listed i && (Region.ready md ops listed).contains i) = true)
  (hQ : ∀ c a w, Q (.panic c) (a.put oi.dst v) w → Q (.panic c) a w) (hy : YieldsIf P ops S oi v a) (hS : S w)
  (h : wpAnyH P md ops Q S fuel (listed.setIfInBounds i true) (a.put oi.dst v) w) : wpAnyH P md ops Q S (fuel + 1) listed a w := by
 rw [Bool.and_eq_true, Bool.and_eq_true] at hc
 exact wpAnyH_take hi hc.1.1 hc.1.2 hc.2 hQ hy hS h
theorem tH (i : Nat) (oi : Oper) {v : Value} {fuel : Nat} {listed : Array Bool} {a : Act} {w : World} (hS : S w)
  (h : wpAnyH P md ops Q S fuel (listed.setIfInBounds i true) (a.put oi.dst v) w) (hi : ops[i]? = some oi := by rfl)
  (hc : (Region.noSelect ops && Region.free md ops listed i && (Region.ready md ops listed).contains i) = true := by kernel_rfl)
  (hQ : ∀ c a w, Q (.panic c) (a.put oi.dst v) w → Q (.panic c) a w := by exact fun _ _ _ h => h) (hg : Region.wanted oi (yielded ops a.tmps) = true := by rfl)
  (hr : ∀ w, S w → (execOp a.eval oi).run P w = .ok (.value v) w := by intro _ h; (try dsimp only at h); go_simp; (try with_reducible rfl)) : wpAnyH P md ops Q S (fuel + 1) listed a w := wpH_t hi hc hQ (.inl ⟨hg, hr⟩) hS h
end
end Go.Proofs.YtibdipfhfaeooaaGreatDoor


set_option linter.unusedVariables false
set_option linter.unusedSimpArgs false
namespace Go.Proofs.YtibdipfhfaeooaaGreatDoor
open Go.RowKit

theorem trimmed_take (l : List Int) : trimmed l = l.take (trimmed l).length := by
 induction l with
 | nil => rfl
 | cons d l ih =>
  unfold trimmed
  cases h : trimmed l with
  | nil => by_cases hd : d = 0 <;> simp [hd]
  | cons e m => rw [h] at ih; simp only [List.length_cons, List.take_succ_cons]; rw [← List.length_cons (a := e), ← ih]
theorem trimmed_len (l : List Int) : (trimmed l).length ≤ l.length := by
 conv => lhs; rw [trimmed_take]
 simp; omega
theorem trimmed_step {l : List Int} {k : Nat} (h : k < l.length) (h0 : gd l k = 0) (ht : trimmed (l.take (k + 1)) = trimmed l) : trimmed (l.take k) = trimmed l := by
 rw [← ht, List.take_succ_eq_append_getElem h]
 have : l[k] = 0 := by rw [← gd_lt h]; exact h0
 rw [this, trimmed_snoc_zero]
theorem trimmed_stop {l : List Int} {k : Nat} (h : k < l.length) (h0 : ¬ gd l k = 0) : trimmed (l.take (k + 1)) = l.take (k + 1) := by
 apply trimmed_of_nm
 rw [List.take_succ_eq_append_getElem h]
 have : l[k] ≠ 0 := by rw [← gd_lt h]; exact h0
 unfold Nm
 rw [List.getLast?_append]
 simpa using this

set_option maxHeartbeats 400000 in
theorem trim_c (neg : Bool) (A : Option Addr) (c : Nat) (l : List Int) (w : World) (h : SlI w .i64 A c l) :
  Calls Tryz.prog 50 #[.bool neg, .slice A l.length c] w fun e w' =>
   e = .returned (.agg #[.bool (neg && !(trimmed l).isEmpty), .slice A (trimmed l).length c]) ∧ Below w.heap.size w w' := by
 have hc1 := h.2.1
 have hc2 := h.2.2
 have hB : Below w.heap.size w w := Below.refl _ _
 cases neg
 all_goals
 go_enter Tryz.func50, Tryz.ntmps50
 go_wp2
 go_loop [5] (fun i => ∃ k : Nat, k ≤ l.length ∧ i = .int .i64 k ∧ trimmed (l.take k) = trimmed l) (fun i => (intOf i).toNat)
 case atStart => exact ⟨l.length, Nat.le_refl _, rfl, by rw [List.take_of_length_le (Nat.le_refl _)]⟩
 case round =>
  obtain ⟨k, hk, rfl, ht⟩ := hrel
  rcases Nat.eq_zero_or_pos k with rfl | hk0
  ·have HT : Hid (trimmed l = []) := by rw [← ht]; rfl
   clear ht
   go_wp2
   refine bodyPost_ret (v := .agg #[.bool false, .slice A 0 c]) (by simp [results, Tryz.results50, go_sem]) rfl ⟨?_, hB.alloc (Nat.le_refl _) _⟩
   rw [HT.out]; rfl
  ·obtain ⟨k, rfl⟩ : ∃ m, k = m + 1 := ⟨k - 1, by omega⟩
   obtain ⟨b, off, rfl, hl, hcell⟩ := h.cell (j := k) (by omega)
   have HT := Lib.hid ht
   clear ht
   by_cases hz : gd l k = 0
   ·have hz' : (gd l k == 0) = true := by simpa using hz
    have HZ := Lib.hid hz
    clear hz
    go_wp2
    go_round
    case rel => exact ⟨k, by omega, rfl, trimmed_step (by omega) HZ.out HT.out⟩
    case measure => simp [intOf]
   ·have hz' : (gd l k == 0) = false := by simpa using hz
    have HZ : Hid (trimmed l = l.take (k + 1)) := by rw [← HT.out, trimmed_stop (by omega) hz]; rfl
    clear hz
    go_wp2
    refine bodyPost_ret (v := _) (by simp [results, Tryz.results50, go_sem]; rfl) rfl ⟨?_, hB.alloc (Nat.le_refl _) _⟩
    have e1 : (l.take (k + 1)).isEmpty = false := by cases l <;> simp at hk ⊢
    have e2 : (l.take (k + 1)).length = k + 1 := by rw [List.length_take, Nat.min_eq_left (by omega)]
    first | (rw [HZ.out, e1, e2]; done) | (rw [HZ.out, e1, e2]; rfl) | rw [HZ.out, e2]

/-- The base of the first reference's parts. -/
def B9 : Nat := 1000000000
theorem B9c : ((B9 : Nat) : Int) = 1000000000 := rfl
theorem B9two : 2 ≤ B9 := by decide
abbrev IsN (w : World) (v : Value) (z : Int) : Prop := IsZ B9 .i64 w v z

theorem isEmpty_digs {B : Nat} (hB : 2 ≤ B) (n : Nat) : (!(digs B n).isEmpty) = decide (0 < n) := by
 rcases Nat.eq_zero_or_pos n with rfl | h
 ·simp [digs_zero]
 ·rw [digs_pos hB h]; simp [h]
theorem isZ_trim {B : Nat} (hB : 2 ≤ B) {k : IntKind} {w : World} {A : Option Addr} {c : Nat} {l : List Int} (neg : Bool) (hd : Dg B l) (h : SlI w k A c l) :
  IsZ B k w (.agg #[.bool (neg && !(trimmed l).isEmpty), .slice A (trimmed l).length c]) (sgnd neg (V B l)) := by
 have hv := V_nonneg hd
 have e : trimmed l = dg B (sgnd neg (V B l)) := by
  rw [trimmed_digs hB hd, dg, sgnd_abs]
  congr 1; omega
 refine ⟨A, c, ?_, ?_⟩
 ·rw [sgnd_lt _ _ hv, e, dg, isEmpty_digs hB, sgnd_abs]
  have : decide (0 < (V B l).natAbs) = decide (0 < V B l) := decide_eq_decide.2 (by omega)
  rw [this]
 ·rw [← e, trimmed_take]
  exact h.take (trimmed_len l)
theorem trim_n (neg : Bool) (A : Option Addr) (c : Nat) (l : List Int) (w : World) (h : SlI w .i64 A c l) (hd : Dg B9 l) :
  Calls Tryz.prog 50 #[.bool neg, .slice A l.length c] w fun e w' => ∃ v, e = .returned v ∧ IsN w' v (sgnd neg (V B9 l)) ∧ Below w.heap.size w w' :=
 (trim_c neg A c l w h).mono fun _ _ ⟨he, hb⟩ => ⟨_, he, isZ_trim B9two neg hd (h.below hb), hb⟩
end Go.Proofs.YtibdipfhfaeooaaGreatDoor


set_option linter.unusedVariables false
set_option linter.unusedSimpArgs false
namespace Go.Proofs.YtibdipfhfaeooaaGreatDoor
open Go.RowKit

theorem info_i64 : (Tryz.prog.info? 3).map (fun i => (i.zero, i.size, i.bytes)) = some (some (.int .i64 0), 1, 8) := by kernel_rfl

theorem part_c (A : Option Addr) (c : Nat) (l : List Int) (i : Nat) (w : World) (h : SlI w .i64 A c l) :
  Calls Tryz.prog 136 #[.slice A l.length c, .int .i64 (i : Int)] w fun e w' => e = .returned (.int .i64 (gd l i)) ∧ w = w' := by
 have hc1 := h.2.1
 have hc2 := h.2.2
 by_cases hi : i < l.length
 ·obtain ⟨b, off, rfl, hl, hcell⟩ := h.cell hi
  go_enter Tryz.func136, Tryz.ntmps136
  go_wp2
  go_ret
  exact ⟨rfl, rfl⟩
 ·rw [gd_ge (Nat.le_of_not_lt hi)]
  go_enter Tryz.func136, Tryz.ntmps136
  go_wp2
  go_ret
  exact ⟨rfl, rfl⟩

def MoreInv (a b l : List Int) (k : Nat) (cy : Int) : Prop :=
 l.length = k ∧ Dg B9 l ∧ 0 ≤ cy ∧ cy ≤ 1 ∧ V B9 l + (B9 : Int) ^ k * cy = V B9 (a.take k) + V B9 (b.take k) ∧ k ≤ max a.length b.length + 1 ∧ (max a.length b.length < k → cy = 0)
theorem carry_ring {x p u v cy a b m q B : Int} (h : x + p * cy = u + v) (e : m + B * q = a + b + cy) : x + p * m + p * B * q = u + p * a + (v + p * b) := by grind
theorem more_step {a b l : List Int} {k : Nat} {cy : Int} (ha : Dg B9 a) (hb : Dg B9 b) (h : MoreInv a b l k cy) (hk : k ≤ max a.length b.length) :
  MoreInv a b (l ++ [(gd a k + gd b k + cy) % 1000000000]) (k + 1) ((gd a k + gd b k + cy) / 1000000000) := by
 obtain ⟨h1, h2, h3, h4, h5, h6, h7⟩ := h
 have a1 := ha.getD (by decide) k
 have b1 := hb.getD (by decide) k
 have ea := V_getD B9 a k
 have eb := V_getD B9 b k
 change 0 ≤ gd a k ∧ gd a k < _ at a1
 change 0 ≤ gd b k ∧ gd b k < _ at b1
 change _ = _ + _ * gd a k at ea
 change _ = _ + _ * gd b k at eb
 rw [B9c] at *
 refine ⟨by simp [h1], Dg.append h2 (Dg.cons (by omega) (by rw [B9c]; omega) (Dg.nil _)), by omega, by omega, ?_, by omega, fun hlt => ?_⟩
 ·rw [V_snoc, h1, ea, eb, Int.pow_succ, B9c]
  exact carry_ring h5 (by omega)
 ·have e1 : gd a k = 0 := gd_ge (by omega)
  have e2 : gd b k = 0 := gd_ge (by omega)
  omega
theorem more_end {a b l : List Int} {k : Nat} (h : MoreInv a b l k 0) (hk : max a.length b.length ≤ k) : V B9 l = V B9 a + V B9 b := by
 obtain ⟨h1, h2, h3, h4, h5, h6, h7⟩ := h
 rw [List.take_of_length_le (by omega), List.take_of_length_le (by omega)] at h5
 simpa using h5

set_option maxRecDepth 100000 in
set_option maxHeartbeats 1000000 in
theorem more_c (A A' : Option Addr) (c c' : Nat) (a b : List Int) (w : World) (h : SlI w .i64 A c a) (h' : SlI w .i64 A' c' b) (ha : Dg B9 a) (hb : Dg B9 b)
  (sa : a.length ≤ 1000000000000) (sb : b.length ≤ 1000000000000) :
  Calls Tryz.prog 116 #[.slice A a.length c, .slice A' b.length c'] w fun e w' =>
   ∃ A1 c1 l, e = .returned (.slice A1 l.length c1) ∧ SlI w' .i64 A1 c1 l ∧ Dg B9 l ∧ V B9 l = V B9 a + V B9 b ∧ l.length ≤ max a.length b.length + 1 ∧ Below w.heap.size w w' := by
 have HH := Lib.hid ha
 have HH' := Lib.hid hb
 clear ha hb
 go_enter Tryz.func116, Tryz.ntmps116
 go_wp2
 go_loopw [5, 6, 7] (fun out cr i wr => ∃ (k : Nat) (cy : Int) (l : List Int), i = .int .i64 k ∧ cr = .int .i64 cy ∧ OwI wr w.heap.size 3 .i64 out l ∧ Below w.heap.size w wr ∧ Hid (MoreInv a b l k cy))
  (fun _ _ i _ => (max a.length b.length + 1) - (intOf i).toNat)
 case atStart => exact ⟨0, 0, [], rfl, rfl, OwI.nil _ _ _ _, Below.refl _ _, ⟨rfl, Dg.nil _, by simp, by simp, by simp [V], by omega, fun _ => rfl⟩⟩
 case round =>
  obtain ⟨k, cy, l, rfl, rfl, HO, HB, HI⟩ := hrel
  obtain ⟨i1, i2, i3, i4, i5, i6, i7⟩ := HI.out
  have H0 := Lib.hid (h.below HB)
  have H1 := Lib.hid (h'.below HB)
  have hB := HB.size
  have x1 := (HH.out.getD (by decide) k)
  have x2 := (HH'.out.getD (by decide) k)
  change 0 ≤ gd a k ∧ gd a k < _ at x1
  change 0 ≤ gd b k ∧ gd b k < _ at x2
  rw [B9c] at x1 x2
  obtain ⟨x1, x1'⟩ := x1
  obtain ⟨x2, x2'⟩ := x2
  have I5 := Lib.hid i5
  have I1 := Lib.hid i1
  have I2 := Lib.hid i2
  clear i5 i1 i2 h h'
  have hL : (l.length + 1) * 8 ≤ 140737488355328 := by have := I1.out; omega
  have HL := Lib.hid hL
  clear hL
  have HM : Hid (max a.length b.length < k → cy = 0) := i7
  clear i7
  by_cases q : k < a.length ∨ k < b.length ∨ 0 < cy
  ·have hk : Hid (k ≤ max a.length b.length) := by
    show _
    rcases Nat.lt_or_ge (max a.length b.length) k with hlt | hge
    ·have := HM.out hlt; omega
    ·exact hge
   have HS := Lib.hid (more_step HH.out HH'.out HI.out hk.out)
   have hkk : k ≤ 1000000000001 := by omega
   clear HI
   have q' : k < a.length ∨ (¬ k < a.length ∧ k < b.length) ∨ (¬ k < a.length ∧ ¬ k < b.length ∧ 0 < cy) := by omega
   clear q
   rcases q' with q1 | ⟨q1, q2⟩ | ⟨q1, q2, q3⟩
   all_goals
    go_wp2_with (first
     | (go_at_call 136; (with_reducible refine (part_c A c a _ _ H0.out).mono ?_); rintro e w' ⟨rfl, rfl⟩)
     | (go_at_call 136; (with_reducible refine (part_c A' c' b _ _ H1.out).mono ?_); rintro e w' ⟨rfl, rfl⟩)
     | (at_builtin; (refine app_I w.heap.size rfl _ _ 22 3 .i64 8 rfl Tryz.underlying22 info_i64 (by decide) _ l _ HO rfl rfl HB hB HL.out ?_); intro v1 w1 HO1 HB1 hB1))
    go_roundw
    case rel => exact ⟨k + 1, _, _, by go_num, rfl, HO1, HB1, HS.out⟩
    case measure => have h_ := hk.out; unfold Hid at h_; simp [intOf]; omega
  ·have q1 : ¬ k < a.length := fun h => q (.inl h)
   have q2 : ¬ k < b.length := fun h => q (.inr (.inl h))
   have q3 : ¬ 0 < cy := fun h => q (.inr (.inr h))
   clear q
   obtain rfl : cy = 0 := by omega
   have HE := Lib.hid (more_end HI.out (by omega))
   clear HI
   obtain ⟨A1, c1, rfl, hs⟩ := HO.form
   go_wp2
   go_ret
   exact ⟨A1, c1, l, rfl, hs, I2.out, HE.out, by have := I1.out; omega, HB⟩
end Go.Proofs.YtibdipfhfaeooaaGreatDoor


set_option linter.unusedVariables false
set_option linter.unusedSimpArgs false
namespace Go.Proofs.YtibdipfhfaeooaaGreatDoor
open Go.RowKit

theorem Minus_c (x : Int) (v : Value) (w : World) (h : IsN w v x) :
  Calls Tryz.prog 86 #[v] w fun e w' => ∃ v', e = .returned v' ∧ IsN w' v' (-x) ∧ Below w.heap.size w w' := by
 obtain ⟨A, c, rfl, hs⟩ := h
 have hB : Below w.heap.size w w := Below.refl _ _
 have hc1 := hs.2.1
 have hc2 := hs.2.2
 have ed : dg B9 (-x) = dg B9 x := by unfold dg; rw [Int.natAbs_neg]
 have el : decide (0 < (dg B9 x).length) = !(dg B9 x).isEmpty := by cases dg B9 x <;> simp
 have en : (!decide (x < 0) && decide (0 < (dg B9 x).length)) = decide (-x < 0) := by
  rw [el, dg, isEmpty_digs B9two]
  rw [Bool.eq_iff_iff]
  simp
  omega
 have HD := Lib.hid ed
 have HN := Lib.hid en
 clear ed el en
 generalize dg B9 x = l at *
 obtain ⟨neg, hneg⟩ : ∃ neg, decide (x < 0) = neg := ⟨_, rfl⟩
 rw [hneg]
 have HG := Lib.hid hneg
 clear hneg
 cases neg
 all_goals
  go_enter Tryz.func86, Tryz.ntmps86
  go_wp2
 all_goals
  refine bodyPost_ret (v := _) (by simp [results, Tryz.results86, go_sem]; rfl) rfl ⟨_, rfl, ⟨A, c, ?_, ?_⟩, ?_⟩
 all_goals rw [HD.out] at *
 all_goals first
  | exact below_alloc (below_alloc hB _) _
  | exact hs.below (below_alloc (below_alloc hB _) _)
  | (rw [← HN.out, HG.out]; simp; done)
  | (rw [← HN.out, HG.out]; rfl)

theorem Sign_c (x : Int) (v : Value) (w : World) (h : IsN w v x) :
  Calls Tryz.prog 16 #[v] w fun e w' => e = .returned (.int .i64 (if x = 0 then 0 else if x < 0 then -1 else 1)) ∧ Below w.heap.size w w' := by
 obtain ⟨A, c, rfl, hs⟩ := h
 have hB : Below w.heap.size w w := Below.refl _ _
 have hc1 := hs.2.1
 have hc2 := hs.2.2
 have el : ((dg B9 x).length : Int) = 0 ↔ x = 0 := by
  unfold dg
  rcases Nat.eq_zero_or_pos x.natAbs with h0 | h0
  ·rw [h0, digs_zero]; simp; omega
  ·rw [digs_pos B9two h0]; simp only [List.length_cons]; omega
 by_cases h0 : x = 0
 ·have hl : (((dg B9 x).length : Int) == 0) = true := by simpa using el.2 h0
  rw [if_pos h0]
  have hd : decide (x < 0) = false := by simp; omega
  rw [hd]
  generalize dg B9 x = l at *
  clear el h0 hd
  go_enter Tryz.func16, Tryz.ntmps16
  go_wp2
  go_ret
  exact ⟨rfl, below_alloc hB _⟩
 ·have hl : (((dg B9 x).length : Int) == 0) = false := by simpa using fun h => h0 (el.1 h)
  rw [if_neg h0]
  by_cases hx : x < 0
  ·have hd : decide (x < 0) = true := by simpa using hx
   rw [if_pos hx, hd]
   generalize dg B9 x = l at *
   clear el h0 hd hx
   go_enter Tryz.func16, Tryz.ntmps16
   go_wp2
   go_ret
   exact ⟨rfl, below_alloc hB _⟩
  ·have hd : decide (x < 0) = false := by simpa using hx
   rw [if_neg hx, hd]
   generalize dg B9 x = l at *
   clear el h0 hd hx
   go_enter Tryz.func16, Tryz.ntmps16
   go_wp2
   go_ret
   exact ⟨rfl, below_alloc hB _⟩

/-- -1, 0 or 1. -/
def icmp (x y : Int) : Int := if x < y then -1 else if y < x then 1 else 0

theorem V_top {B : Nat} (hB : 2 ≤ B) {a b : List Int} {k : Nat} (ha : Dg B a) (hb : Dg B b) (hlen : a.length = b.length) (hk : k < a.length) (he : V B (a.drop (k + 1)) = V B (b.drop (k + 1)))
  (h : gd a k < gd b k) : V B a < V B b := by
 have ea := V_split B a k (by omega)
 have eb := V_split B b k (by omega)
 rw [V_drop] at ea eb
 have la := V_lt (ha.take k)
 have lb := V_nonneg (hb.take k)
 rw [List.length_take, Nat.min_eq_left (by omega)] at la
 change V B a = _ + _ * (gd a k + _) at ea
 change V B b = _ + _ * (gd b k + _) at eb
 have hp : (0 : Int) ≤ (B : Int) ^ k := Int.pow_nonneg (by omega)
 have h1 := Int.mul_le_mul_of_nonneg_left (show gd a k + 1 ≤ gd b k by omega) hp
 rw [he] at ea
 rw [Int.mul_add] at ea eb h1
 omega
theorem V_long {B : Nat} (hB : 2 ≤ B) {a b : List Int} (ha : Dg B a) (hb : Dg B b) (nb : Nm b) (h : a.length < b.length) : V B a < V B b := by
 have h1 := V_lt ha
 have h2 := V_pos (by omega) hb nb (by intro e; rw [e] at h; simp at h)
 have h3 : (B : Int) ^ a.length ≤ (B : Int) ^ (b.length - 1) := by
  have : B ^ a.length ≤ B ^ (b.length - 1) := Nat.pow_le_pow_right (by omega) (by omega)
  have h4 : ((B ^ a.length : Nat) : Int) ≤ ((B ^ (b.length - 1) : Nat) : Int) := by omega
  rwa [Int.natCast_pow, Int.natCast_pow] at h4
 omega

set_option maxRecDepth 100000 in
set_option maxHeartbeats 1000000 in
theorem size_c (A A' : Option Addr) (c c' : Nat) (a b : List Int) (w : World) (h : SlI w .i64 A c a) (h' : SlI w .i64 A' c' b) (ha : Dg B9 a) (hb : Dg B9 b) (na : Nm a) (nb : Nm b) :
  Calls Tryz.prog 87 #[.slice A a.length c, .slice A' b.length c'] w fun e w' => e = .returned (.int .i64 (icmp (V B9 a) (V B9 b))) ∧ ∃ n, w' = w.drewN n := by
 have hc1 := h.2.1
 have hc2 := h.2.2
 have hc3 := h'.2.1
 have hc4 := h'.2.2
 by_cases hl : a.length = b.length
 ·have hne : ((a.length : Int) != (b.length : Int)) = false := by simp; omega
  have HL := Lib.hid hl
  have hll : a.length ≤ b.length := by omega
  have H1 := Lib.hid h
  have H2 := Lib.hid h'
  clear hl na nb h h'
  have HA := Lib.hid ha
  have HB := Lib.hid hb
  clear ha hb
  go_enter Tryz.func87, Tryz.ntmps87
  go_wp2
  go_loopw [5] (fun i wr => ∃ k : Nat, k ≤ a.length ∧ i = .int .i64 ((k : Int) - 1) ∧ Hid (V B9 (a.drop k) = V B9 (b.drop k)) ∧ ∃ n, wr = w.drewN n) (fun i _ => (intOf i + 1).toNat)
  case atStart => exact ⟨a.length, Nat.le_refl _, rfl, by show _ = _; rw [List.drop_of_length_le (Nat.le_refl _), List.drop_of_length_le (by have := HL.out; omega)], 0, rfl⟩
  case round =>
   obtain ⟨k, hk, rfl, HE, n, rfl⟩ := hrel
   rcases Nat.eq_zero_or_pos k with rfl | hk0
   ·go_wp2
    go_ret
    refine ⟨?_, n, rfl⟩
    have e := HE.out
    simp only [List.drop_zero] at e
    rw [e]; unfold icmp; rw [if_neg (by omega), if_neg (by omega)]; rfl
   ·obtain ⟨m, rfl⟩ : ∃ m, k = m + 1 := ⟨k - 1, by omega⟩
    obtain ⟨b1, o1, rfl, hl1, hcell1⟩ := (Hid.out H1).cell (j := m) (by omega)
    obtain ⟨b2, o2, rfl, hl2, hcell2⟩ := (Hid.out H2).cell (j := m) (by omega)
    have hi0 : (0 : Int) ≤ (m : Int) := by omega
    have hi1 : (m : Int) < (a.length : Int) := by omega
    have hi2 : (m : Int) < (b.length : Int) := by omega
    by_cases q1 : gd a m < gd b m
    ·have HR : Hid (icmp (V B9 a) (V B9 b) = -1) := by
      have := V_top B9two HA.out HB.out HL.out (by omega) HE.out q1
      show _ = _; unfold icmp; rw [if_pos this]
     go_wp2
     go_quiet (fail)
     go_wp2
     go_ret
     exact ⟨by rw [HR.out]; rfl, by first | exact ⟨_, rfl⟩ | (simp only [World.drewN_drewN]; exact ⟨_, rfl⟩)⟩
    ·by_cases q2 : gd b m < gd a m
     ·have HR : Hid (icmp (V B9 a) (V B9 b) = 1) := by
       have := V_top B9two HB.out HA.out HL.out.symm (by have := HL.out; omega) HE.out.symm q2
       show _ = _; unfold icmp; rw [if_neg (by omega), if_pos this]
      go_wp2
      go_quiet (fail)
      go_wp2
      go_quiet (fail)
      go_wp2
      go_ret
      exact ⟨by rw [HR.out]; rfl, by first | exact ⟨_, rfl⟩ | (simp only [World.drewN_drewN]; exact ⟨_, rfl⟩)⟩
     ·have HR : Hid (V B9 (a.drop m) = V B9 (b.drop m)) := by
       show _ = _
       rw [V_drop B9 a m, V_drop B9 b m, HE.out]
       have : gd a m = gd b m := by omega
       unfold gd at this
       rw [this]
      go_wp2
      go_quiet (fail)
      go_wp2
      go_quiet (fail)
      go_wp2
      go_roundw
      case rel => exact ⟨m, by omega, by go_num, HR, by first | exact ⟨_, rfl⟩ | (simp only [World.drewN_drewN]; exact ⟨_, rfl⟩)⟩
      case measure => simp [intOf]
 ·by_cases hlt : a.length < b.length
  ·have e : icmp (V B9 a) (V B9 b) = -1 := by have := V_long B9two ha hb nb hlt; unfold icmp; rw [if_pos this]
   rw [e]
   have hne : ((a.length : Int) != (b.length : Int)) = true := by simp; omega
   clear e ha hb na nb hl
   go_enter Tryz.func87, Tryz.ntmps87
   go_wp2
   go_ret
   exact ⟨rfl, 0, rfl⟩
  ·have e : icmp (V B9 a) (V B9 b) = 1 := by have := V_long B9two hb ha na (by omega); unfold icmp; rw [if_neg (by omega), if_pos this]
   rw [e]
   have hne : ((a.length : Int) != (b.length : Int)) = true := by simp; omega
   clear e ha hb na nb hl
   go_enter Tryz.func87, Tryz.ntmps87
   go_wp2
   go_ret
   exact ⟨rfl, 0, rfl⟩
theorem size_b (A A' : Option Addr) (c c' : Nat) (a b : List Int) (w : World) (h : SlI w .i64 A c a) (h' : SlI w .i64 A' c' b) (ha : Dg B9 a) (hb : Dg B9 b) (na : Nm a) (nb : Nm b) :
  Calls Tryz.prog 87 #[.slice A a.length c, .slice A' b.length c'] w fun e w' => e = .returned (.int .i64 (icmp (V B9 a) (V B9 b))) ∧ Below w.heap.size w w' :=
 (size_c A A' c c' a b w h h' ha hb na nb).mono fun _ _ ⟨he, n, hw⟩ => ⟨he, by rw [hw]; exact below_drewN (Below.refl _ _) n⟩
end Go.Proofs.YtibdipfhfaeooaaGreatDoor


set_option linter.unusedVariables false
set_option linter.unusedSimpArgs false
namespace Go.Proofs.YtibdipfhfaeooaaGreatDoor
open Go.RowKit

def LessInv (a b l : List Int) (k : Nat) (cy : Int) : Prop :=
 l.length = k ∧ Dg B9 l ∧ 0 ≤ cy ∧ cy ≤ 1 ∧ V B9 l = V B9 (a.take k) - V B9 (b.take k) + (B9 : Int) ^ k * cy ∧ k ≤ a.length
theorem borrow_ring {x p u v cy a b m q B : Int} (h : x = u - v + p * cy) (e : m = a - b - cy + B * q) : x + p * m = u + p * a - (v + p * b) + p * B * q := by grind
theorem less_step {a b l : List Int} {k : Nat} {cy q : Int} (h : LessInv a b l k cy) (hk : k < a.length) (hq : q = 0 ∨ q = 1)
  (h0 : 0 ≤ gd a k - gd b k - cy + 1000000000 * q) (h1 : gd a k - gd b k - cy + 1000000000 * q < 1000000000) :
  LessInv a b (l ++ [gd a k - gd b k - cy + 1000000000 * q]) (k + 1) q := by
 obtain ⟨h1, h2, h3, h4, h5, h6⟩ := h
 have ea := V_getD B9 a k
 have eb := V_getD B9 b k
 change _ = _ + _ * gd a k at ea
 change _ = _ + _ * gd b k at eb
 refine ⟨by simp [h1], Dg.append h2 (Dg.cons (by omega) (by rw [B9c]; omega) (Dg.nil _)), by omega, by omega, ?_, by omega⟩
 rw [V_snoc, h1, ea, eb, Int.pow_succ, B9c]
 rw [B9c] at h5
 exact borrow_ring h5 rfl
theorem less_end {a b l : List Int} {k : Nat} {cy : Int} (h : LessInv a b l k cy) (hk : a.length ≤ k) (hlen : b.length ≤ a.length) (ha : Dg B9 a) (hb : Dg B9 b) (hle : V B9 b ≤ V B9 a) : V B9 l = V B9 a - V B9 b := by
 obtain ⟨h1, h2, h3, h4, h5, h6⟩ := h
 rw [List.take_of_length_le (by omega), List.take_of_length_le (by omega)] at h5
 have hlt := V_lt h2
 rw [h1] at hlt
 rcases (show cy = 0 ∨ cy = 1 by omega) with rfl | rfl
 ·simpa using h5
 ·rw [Int.mul_one] at h5; omega

set_option maxRecDepth 100000 in
set_option maxHeartbeats 1000000 in
theorem less_c (A A' : Option Addr) (c c' : Nat) (a b : List Int) (w : World) (h : SlI w .i64 A c a) (h' : SlI w .i64 A' c' b) (ha : Dg B9 a) (hb : Dg B9 b)
  (sa : a.length ≤ 1000000000000) (hlen : b.length ≤ a.length) (hle : V B9 b ≤ V B9 a) :
  Calls Tryz.prog 117 #[.slice A a.length c, .slice A' b.length c'] w fun e w' =>
   ∃ A1 c1 l, e = .returned (.slice A1 l.length c1) ∧ SlI w' .i64 A1 c1 l ∧ Dg B9 l ∧ V B9 l = V B9 a - V B9 b ∧ l.length ≤ a.length ∧ Below w.heap.size w w' := by
 have HH := Lib.hid ha
 have HH' := Lib.hid hb
 have HLE := Lib.hid hle
 have HLN := Lib.hid hlen
 clear ha hb hle hlen
 go_enter Tryz.func117, Tryz.ntmps117
 go_wp2
 go_loopw [5, 6, 7] (fun out cr i wr => ∃ (k : Nat) (cy : Int) (l : List Int), i = .int .i64 k ∧ cr = .int .i64 cy ∧ OwI wr w.heap.size 3 .i64 out l ∧ Below w.heap.size w wr ∧ Hid (LessInv a b l k cy))
  (fun _ _ i _ => a.length - (intOf i).toNat)
 case atStart => exact ⟨0, 0, [], rfl, rfl, OwI.nil _ _ _ _, Below.refl _ _, ⟨rfl, Dg.nil _, by simp, by simp, by simp [V], by omega⟩⟩
 case round =>
  obtain ⟨k, cy, l, rfl, rfl, HO, HB, HI⟩ := hrel
  obtain ⟨i1, i2, i3, i4, i5, i6⟩ := HI.out
  have hB := HB.size
  have x1 := (HH.out.getD (by decide) k)
  have x2 := (HH'.out.getD (by decide) k)
  change 0 ≤ gd a k ∧ gd a k < _ at x1
  change 0 ≤ gd b k ∧ gd b k < _ at x2
  rw [B9c] at x1 x2
  obtain ⟨x1, x1'⟩ := x1
  obtain ⟨x2, x2'⟩ := x2
  have I1 := Lib.hid i1
  have I2 := Lib.hid i2
  clear i5 i1 i2
  by_cases q : k < a.length
  ·have H1 := Lib.hid (h'.below HB)
   obtain ⟨b1, o1, rfl, hl1, hcell1⟩ := (h.below HB).cell (j := k) q
   clear h h'
   have hL : (l.length + 1) * 8 ≤ 140737488355328 := by have := I1.out; omega
   have HL := Lib.hid hL
   clear hL
   have hi0 : (0 : Int) ≤ (k : Int) := by omega
   have hi1 : (k : Int) < (a.length : Int) := by omega
   by_cases hq : gd a k - gd b k - cy < 0
   ·have HS := Lib.hid (less_step (q := 1) HI.out q (.inr rfl) (by omega) (by omega))
    rw [Int.mul_one] at HS
    clear HI
    go_wp2
    go_region_held3 (fun w' => w'.cell? ⟨b1, o1 + k, none⟩ = some (.int .i64 (gd a k))) (exact hcell1) (first
     | (go_at_call 136; (with_reducible refine (part_c A' c' b k _ (by exact H1.out.below (by repeat (with_reducible first | assumption | exact Below.refl _ _ | apply below_drew | apply below_drewN | apply below_alloc | refine below_step ?_ (by assumption))))).mono ?_); rintro e w' ⟨rfl, rfl⟩))
    have HO2 := HO.below (w' := wr.drew) (by repeat (with_reducible first | assumption | exact Below.refl _ _ | apply below_drew | apply below_drewN | apply below_alloc | refine below_step ?_ (by assumption)))
    have HB2 := below_drew HB
    have hB2 : w.heap.size ≤ wr.drew.heap.size := hB
    generalize wr.drew = w2 at HO2 HB2 hB2 ⊢
    clear HO HB hB hcell1 H1 hl1
    go_wp2_with (at_builtin; refine app_I w.heap.size rfl _ _ 22 3 .i64 8 rfl Tryz.underlying22 info_i64 (by decide) _ l _ HO2 rfl rfl HB2 hB2 HL.out ?_; intro v1 w1 HO1 HB1 hB1)
    go_roundw
    case rel => exact ⟨k + 1, _, _, by go_num, rfl, HO1, HB1, HS.out⟩
    case measure => simp [intOf]; omega
   ·have HS := Lib.hid (less_step (q := 0) HI.out q (.inl rfl) (by omega) (by omega))
    rw [Int.mul_zero, Int.add_zero] at HS
    clear HI
    go_wp2
    go_region_held3 (fun w' => w'.cell? ⟨b1, o1 + k, none⟩ = some (.int .i64 (gd a k))) (exact hcell1) (first
     | (go_at_call 136; (with_reducible refine (part_c A' c' b k _ (by exact H1.out.below (by repeat (with_reducible first | assumption | exact Below.refl _ _ | apply below_drew | apply below_drewN | apply below_alloc | refine below_step ?_ (by assumption))))).mono ?_); rintro e w' ⟨rfl, rfl⟩))
    have HO2 := HO.below (w' := wr.drew) (by repeat (with_reducible first | assumption | exact Below.refl _ _ | apply below_drew | apply below_drewN | apply below_alloc | refine below_step ?_ (by assumption)))
    have HB2 := below_drew HB
    have hB2 : w.heap.size ≤ wr.drew.heap.size := hB
    generalize wr.drew = w2 at HO2 HB2 hB2 ⊢
    clear HO HB hB hcell1 H1 hl1
    go_wp2_with (at_builtin; refine app_I w.heap.size rfl _ _ 22 3 .i64 8 rfl Tryz.underlying22 info_i64 (by decide) _ l _ HO2 rfl rfl HB2 hB2 HL.out ?_; intro v1 w1 HO1 HB1 hB1)
    go_roundw
    case rel => exact ⟨k + 1, _, _, by go_num, rfl, HO1, HB1, HS.out⟩
    case measure => simp [intOf]; omega
  ·have HE := Lib.hid (less_end HI.out (by omega) HLN.out HH.out HH'.out HLE.out)
   clear HI
   obtain ⟨A1, c1, rfl, hs⟩ := HO.form
   go_wp2
   go_ret
   exact ⟨A1, c1, l, rfl, hs, I2.out, HE.out, by have := I1.out; omega, HB⟩
end Go.Proofs.YtibdipfhfaeooaaGreatDoor


set_option linter.unusedVariables false
set_option linter.unusedSimpArgs false
namespace Go.Proofs.YtibdipfhfaeooaaGreatDoor
open Go.RowKit

/-- What a function with two numbers as parameters holds in memory. -/
theorem keep2 {n : Nat} {W w1 : World} {na nb : Bool} {sa sb : Value} (hb : Below W.heap.size W w1) (h : W.cell? ⟨n, 0, none⟩ = some (.bool na) ∧ W.cell? ⟨n, 1, none⟩ = some sa ∧ W.cell? ⟨n + 1, 0, none⟩ = some (.bool nb) ∧ W.cell? ⟨n + 1, 1, none⟩ = some sb ∧ n + 1 + 1 < W.heap.size) :
  w1.cell? ⟨n, 0, none⟩ = some (.bool na) ∧ w1.cell? ⟨n, 1, none⟩ = some sa ∧ w1.cell? ⟨n + 1, 0, none⟩ = some (.bool nb) ∧ w1.cell? ⟨n + 1, 1, none⟩ = some sb ∧ n + 1 + 1 < w1.heap.size := by
 obtain ⟨h1, h2, h3, h4, h9⟩ := h
 have hz := hb.size
 exact ⟨kcell hb (by omega) h1, kcell hb (by omega) h2, kcell hb (by omega) h3, kcell hb (by omega) h4, by omega⟩
theorem keep2s {n o : Nat} {W : World} {na nb : Bool} {sa sb u : Value} (h : W.cell? ⟨n, 0, none⟩ = some (.bool na) ∧ W.cell? ⟨n, 1, none⟩ = some sa ∧ W.cell? ⟨n + 1, 0, none⟩ = some (.bool nb) ∧ W.cell? ⟨n + 1, 1, none⟩ = some sb ∧ n + 1 + 1 < W.heap.size) :
  (W.setCell ⟨n + 1 + 1, o, none⟩ u).cell? ⟨n, 0, none⟩ = some (.bool na) ∧ (W.setCell ⟨n + 1 + 1, o, none⟩ u).cell? ⟨n, 1, none⟩ = some sa ∧ (W.setCell ⟨n + 1 + 1, o, none⟩ u).cell? ⟨n + 1, 0, none⟩ = some (.bool nb) ∧ (W.setCell ⟨n + 1 + 1, o, none⟩ u).cell? ⟨n + 1, 1, none⟩ = some sb ∧ n + 1 + 1 < (W.setCell ⟨n + 1 + 1, o, none⟩ u).heap.size := by
 obtain ⟨h1, h2, h3, h4, h9⟩ := h
 have hz : (W.setCell ⟨n + 1 + 1, o, none⟩ u).heap.size = W.heap.size := by simp [World.setCell]
 refine ⟨?_, ?_, ?_, ?_, by omega⟩ <;> rw [World.cell?_setCell_other _ _ _ _ (by simp)] <;> assumption
theorem start2 (w : World) (na nb : Bool) (sa sb : Value) (t : TypeId) (W : World)
  (hW : ((w.alloc (.cells #[.bool na, sa] t)).alloc (.cells #[.bool nb, sb] t)).alloc (.cells #[.bool false, .slice none 0 0] t) = W) :
  (W.cell? ⟨w.heap.size, 0, none⟩ = some (.bool na) ∧ W.cell? ⟨w.heap.size, 1, none⟩ = some sa ∧ W.cell? ⟨w.heap.size + 1, 0, none⟩ = some (.bool nb) ∧ W.cell? ⟨w.heap.size + 1, 1, none⟩ = some sb ∧ w.heap.size + 1 + 1 < W.heap.size) ∧ Res2 W (w.heap.size + 1 + 1) ∧ Below w.heap.size w W := by
 subst hW
 refine ⟨⟨?_, ?_, ?_, ?_, ?_⟩, ⟨⟨false, ?_⟩, ⟨none, 0, 0, ?_⟩, ?_, ?_, ?_⟩, below_alloc (below_alloc (below_alloc (Below.refl _ _) _) _) _⟩ <;> simp [go_sem]

set_option maxRecDepth 100000 in
set_option maxHeartbeats 1000000 in
theorem Add_c (x y : Int) (v1 v2 : Value) (w : World) (h1 : IsN w v1 x) (h2 : IsN w v2 y) (sx : (dg B9 x).length ≤ 1000000000000) (sy : (dg B9 y).length ≤ 1000000000000) :
  Calls Tryz.prog 73 #[v1, v2] w fun e w' => ∃ v, e = .returned v ∧ IsN w' v (x + y) ∧ Below w.heap.size w w' := by
 obtain ⟨A1, c1, rfl, hs1⟩ := h1
 obtain ⟨A2, c2, rfl, hs2⟩ := h2
 have D1 := Lib.hid (dg_dg B9two x)
 have D2 := Lib.hid (dg_dg B9two y)
 have V1 := Lib.hid (dg_V B9two x)
 have V2 := Lib.hid (dg_V B9two y)
 have N1 := Lib.hid (dg_nm B9two x)
 have N2 := Lib.hid (dg_nm B9two y)
 generalize dg B9 x = a at *
 generalize dg B9 y = b at *
 obtain ⟨na, hna⟩ : ∃ na, decide (x < 0) = na := ⟨_, rfl⟩
 obtain ⟨nb, hnb⟩ : ∃ nb, decide (y < 0) = nb := ⟨_, rfl⟩
 rw [hna, hnb]
 have HNA := Lib.hid hna
 have HNB := Lib.hid hnb
 clear hna hnb
 by_cases hsame : na = nb
 ·subst hsame
  have HR : Hid (sgnd na (V B9 a + V B9 b) = x + y) := by
   show _ = _
   have e1 := HNA.out; have e2 := HNB.out
   rw [V1.out, V2.out]; unfold sgnd
   cases na <;> simp at e1 e2 <;> simp <;> omega
  cases na
  ·go_enter Tryz.func73, Tryz.ntmps73
   go_wp2
   generalize hW : ((w.alloc (Obj.cells #[Value.bool _, Value.slice A1 a.length c1] 35)).alloc _).alloc _ = W
   obtain ⟨hS, HR2, HBW⟩ := start2 w _ _ _ _ _ W hW
   clear hW
   have hs1' := Lib.hid (hs1.below HBW)
   have hs2' := Lib.hid (hs2.below HBW)
   go_region_held3 (fun w' => w'.cell? ⟨w.heap.size, 0, none⟩ = some (.bool false) ∧ w'.cell? ⟨w.heap.size, 1, none⟩ = some (.slice A1 a.length c1) ∧ w'.cell? ⟨w.heap.size + 1, 0, none⟩ = some (.bool false) ∧ w'.cell? ⟨w.heap.size + 1, 1, none⟩ = some (.slice A2 b.length c2) ∧ w.heap.size + 1 + 1 < w'.heap.size)
    (first | exact hS | exact keep2 hb1 hS | exact keep2 hb2 (keep2 hb1 hS) | exact keep2s (keep2s (keep2 hb2 (keep2 hb1 hS))))
    (first
     | (go_at_call 116; (with_reducible refine (more_c A1 A2 c1 c2 a b _ (by exact hs1'.out.below (by repeat (with_reducible first | assumption | exact Below.refl _ _ | apply below_drew | apply below_drewN | apply below_alloc | refine below_step ?_ (by assumption)))) (by exact hs2'.out.below (by repeat (with_reducible first | assumption | exact Below.refl _ _ | apply below_drew | apply below_drewN | apply below_alloc | refine below_step ?_ (by assumption)))) D1.out D2.out sx sy).mono ?_); rintro e w1 ⟨A3, c3, l, rfl, hs3, hd3, hv3, hl3, hb1⟩; have HV3 := Lib.hid hv3; have HS3 := Lib.hid hs3; clear hv3 hs3)
     | (go_at_call 50; (with_reducible refine (trim_n _ A3 c3 l _ (by exact HS3.out.below (by repeat (with_reducible first | assumption | exact Below.refl _ _ | apply below_drew | apply below_drewN | apply below_alloc | refine below_step ?_ (by assumption)))) hd3).mono ?_); rintro e w2 ⟨v, rfl, hv, hb2⟩; obtain ⟨nv, A4, n4, c4, rfl, HV⟩ := hv.form; clear hv; have HR4 := Lib.hid ((HR2.drew.keep hb1).keep hb2); obtain ⟨⟨u1, r1⟩, ⟨u2, u3, u4, r2⟩, r3, r4, r5⟩ := HR4.out))
   go_wp2
   refine bodyPost_ret (v := .agg #[.bool nv, .slice A4 n4 c4]) (by simp [results, Tryz.results73, go_sem, r1, r2, r5]) rfl ⟨_, rfl, ?_, ?_⟩
   ·have := HV.out
    rw [HV3.out, HR.out] at this
    exact this.res2 HR4.out _ _
   ·exact below_set (below_set (below_step (below_step (below_drew HBW) hb1) hb2) (by omega) _) (by omega) _
  ·go_enter Tryz.func73, Tryz.ntmps73
   go_wp2
   generalize hW : ((w.alloc (Obj.cells #[Value.bool _, Value.slice A1 a.length c1] 35)).alloc _).alloc _ = W
   obtain ⟨hS, HR2, HBW⟩ := start2 w _ _ _ _ _ W hW
   clear hW
   have hs1' := Lib.hid (hs1.below HBW)
   have hs2' := Lib.hid (hs2.below HBW)
   go_region_held3 (fun w' => w'.cell? ⟨w.heap.size, 0, none⟩ = some (.bool true) ∧ w'.cell? ⟨w.heap.size, 1, none⟩ = some (.slice A1 a.length c1) ∧ w'.cell? ⟨w.heap.size + 1, 0, none⟩ = some (.bool true) ∧ w'.cell? ⟨w.heap.size + 1, 1, none⟩ = some (.slice A2 b.length c2) ∧ w.heap.size + 1 + 1 < w'.heap.size)
    (first | exact hS | exact keep2 hb1 hS | exact keep2 hb2 (keep2 hb1 hS) | exact keep2s (keep2s (keep2 hb2 (keep2 hb1 hS))))
    (first
     | (go_at_call 116; (with_reducible refine (more_c A1 A2 c1 c2 a b _ (by exact hs1'.out.below (by repeat (with_reducible first | assumption | exact Below.refl _ _ | apply below_drew | apply below_drewN | apply below_alloc | refine below_step ?_ (by assumption)))) (by exact hs2'.out.below (by repeat (with_reducible first | assumption | exact Below.refl _ _ | apply below_drew | apply below_drewN | apply below_alloc | refine below_step ?_ (by assumption)))) D1.out D2.out sx sy).mono ?_); rintro e w1 ⟨A3, c3, l, rfl, hs3, hd3, hv3, hl3, hb1⟩; have HV3 := Lib.hid hv3; have HS3 := Lib.hid hs3; clear hv3 hs3)
     | (go_at_call 50; (with_reducible refine (trim_n _ A3 c3 l _ (by exact HS3.out.below (by repeat (with_reducible first | assumption | exact Below.refl _ _ | apply below_drew | apply below_drewN | apply below_alloc | refine below_step ?_ (by assumption)))) hd3).mono ?_); rintro e w2 ⟨v, rfl, hv, hb2⟩; obtain ⟨nv, A4, n4, c4, rfl, HV⟩ := hv.form; clear hv; have HR4 := Lib.hid ((HR2.drew.keep hb1).keep hb2); obtain ⟨⟨u1, r1⟩, ⟨u2, u3, u4, r2⟩, r3, r4, r5⟩ := HR4.out))
   go_wp2
   refine bodyPost_ret (v := .agg #[.bool nv, .slice A4 n4 c4]) (by simp [results, Tryz.results73, go_sem, r1, r2, r5]) rfl ⟨_, rfl, ?_, ?_⟩
   ·have := HV.out
    rw [HV3.out, HR.out] at this
    exact this.res2 HR4.out _ _
   ·exact below_set (below_set (below_step (below_step (below_drew HBW) hb1) hb2) (by omega) _) (by omega) _
 ·have hdiff : ((na : Bool) == nb) = false := by simpa using hsame
  by_cases hge : V B9 b ≤ V B9 a
  ·have hq : 0 ≤ icmp (V B9 a) (V B9 b) := by unfold icmp; split <;> (try split) <;> omega
   have HLE := Lib.hid hge
   have hlen : b.length ≤ a.length := by
    rcases Nat.lt_or_ge a.length b.length with h | h
    ·have := V_long B9two D1.out D2.out N2.out h; omega
    ·exact h
   have HR : Hid (sgnd na (V B9 a - V B9 b) = x + y) := by
    show _ = _
    have e1 := HNA.out; have e2 := HNB.out
    rw [V1.out, V2.out]; unfold sgnd
    cases na <;> cases nb <;> simp at e1 e2 hdiff <;> simp <;> omega
   clear hge
   have hnb : nb = !na := by cases na <;> cases nb <;> simp at hdiff ⊢
   subst hnb
   cases na
   ·go_enter Tryz.func73, Tryz.ntmps73
    go_wp2_with fail
    generalize hW : ((w.alloc (Obj.cells #[Value.bool _, Value.slice A1 a.length c1] 35)).alloc _).alloc _ = W
    obtain ⟨hS, HR2, HBW⟩ := start2 w _ _ _ _ _ W hW
    clear hW
    have hs1' := Lib.hid (hs1.below HBW)
    have hs2' := Lib.hid (hs2.below HBW)
    (with_reducible refine (size_b A1 A2 c1 c2 a b _ (by exact hs1'.out.below (by repeat (with_reducible first | assumption | exact Below.refl _ _ | apply below_drew | apply below_drewN | apply below_alloc | refine below_step ?_ (by assumption)))) (by exact hs2'.out.below (by repeat (with_reducible first | assumption | exact Below.refl _ _ | apply below_drew | apply below_drewN | apply below_alloc | refine below_step ?_ (by assumption)))) D1.out D2.out N1.out N2.out).mono ?_)
    rintro e w0 ⟨rfl, hb0⟩
    replace hS := keep2 hb0 hS
    replace HR2 := HR2.keep hb0
    replace HBW := below_step HBW hb0
    replace hs1' := Lib.hid (hs1'.out.below hb0)
    replace hs2' := Lib.hid (hs2'.out.below hb0)
    clear hb0
    go_wp2
    go_region_held3 (fun w' => w'.cell? ⟨w.heap.size, 0, none⟩ = some (.bool false) ∧ w'.cell? ⟨w.heap.size, 1, none⟩ = some (.slice A1 a.length c1) ∧ w'.cell? ⟨w.heap.size + 1, 0, none⟩ = some (.bool true) ∧ w'.cell? ⟨w.heap.size + 1, 1, none⟩ = some (.slice A2 b.length c2) ∧ w.heap.size + 1 + 1 < w'.heap.size)
     (first | exact hS | exact keep2 hb1 hS | exact keep2 hb2 (keep2 hb1 hS) | exact keep2s (keep2s (keep2 hb2 (keep2 hb1 hS))))
     (first
      | (go_at_call 117; (with_reducible refine (less_c A1 A2 c1 c2 a b _ (by exact hs1'.out.below (by repeat (with_reducible first | assumption | exact Below.refl _ _ | apply below_drew | apply below_drewN | apply below_alloc | refine below_step ?_ (by assumption)))) (by exact hs2'.out.below (by repeat (with_reducible first | assumption | exact Below.refl _ _ | apply below_drew | apply below_drewN | apply below_alloc | refine below_step ?_ (by assumption)))) D1.out D2.out sx hlen HLE.out).mono ?_); rintro e w1 ⟨A3, c3, l, rfl, hs3, hd3, hv3, hl3, hb1⟩; have HV3 := Lib.hid hv3; have HS3 := Lib.hid hs3; clear hv3 hs3)
      | (go_at_call 50; (with_reducible refine (trim_n _ A3 c3 l _ (by exact HS3.out.below (by repeat (with_reducible first | assumption | exact Below.refl _ _ | apply below_drew | apply below_drewN | apply below_alloc | refine below_step ?_ (by assumption)))) hd3).mono ?_); rintro e w2 ⟨v, rfl, hv, hb2⟩; obtain ⟨nv, A4, n4, c4, rfl, HV⟩ := hv.form; clear hv; have HR4 := Lib.hid ((HR2.drew.keep hb1).keep hb2); obtain ⟨⟨u1, r1⟩, ⟨u2, u3, u4, r2⟩, r3, r4, r5⟩ := HR4.out))
    go_wp2
    refine bodyPost_ret (v := .agg #[.bool nv, .slice A4 n4 c4]) (by simp [results, Tryz.results73, go_sem, r1, r2, r5]) rfl ⟨_, rfl, ?_, ?_⟩
    ·have := HV.out
     rw [HV3.out, HR.out] at this
     exact this.res2 HR4.out _ _
    ·exact below_set (below_set (below_step (below_step (below_drew HBW) hb1) hb2) (by omega) _) (by omega) _
   ·go_enter Tryz.func73, Tryz.ntmps73
    go_wp2_with fail
    generalize hW : ((w.alloc (Obj.cells #[Value.bool _, Value.slice A1 a.length c1] 35)).alloc _).alloc _ = W
    obtain ⟨hS, HR2, HBW⟩ := start2 w _ _ _ _ _ W hW
    clear hW
    have hs1' := Lib.hid (hs1.below HBW)
    have hs2' := Lib.hid (hs2.below HBW)
    (with_reducible refine (size_b A1 A2 c1 c2 a b _ (by exact hs1'.out.below (by repeat (with_reducible first | assumption | exact Below.refl _ _ | apply below_drew | apply below_drewN | apply below_alloc | refine below_step ?_ (by assumption)))) (by exact hs2'.out.below (by repeat (with_reducible first | assumption | exact Below.refl _ _ | apply below_drew | apply below_drewN | apply below_alloc | refine below_step ?_ (by assumption)))) D1.out D2.out N1.out N2.out).mono ?_)
    rintro e w0 ⟨rfl, hb0⟩
    replace hS := keep2 hb0 hS
    replace HR2 := HR2.keep hb0
    replace HBW := below_step HBW hb0
    replace hs1' := Lib.hid (hs1'.out.below hb0)
    replace hs2' := Lib.hid (hs2'.out.below hb0)
    clear hb0
    go_wp2
    go_region_held3 (fun w' => w'.cell? ⟨w.heap.size, 0, none⟩ = some (.bool true) ∧ w'.cell? ⟨w.heap.size, 1, none⟩ = some (.slice A1 a.length c1) ∧ w'.cell? ⟨w.heap.size + 1, 0, none⟩ = some (.bool false) ∧ w'.cell? ⟨w.heap.size + 1, 1, none⟩ = some (.slice A2 b.length c2) ∧ w.heap.size + 1 + 1 < w'.heap.size)
     (first | exact hS | exact keep2 hb1 hS | exact keep2 hb2 (keep2 hb1 hS) | exact keep2s (keep2s (keep2 hb2 (keep2 hb1 hS))))
     (first
      | (go_at_call 117; (with_reducible refine (less_c A1 A2 c1 c2 a b _ (by exact hs1'.out.below (by repeat (with_reducible first | assumption | exact Below.refl _ _ | apply below_drew | apply below_drewN | apply below_alloc | refine below_step ?_ (by assumption)))) (by exact hs2'.out.below (by repeat (with_reducible first | assumption | exact Below.refl _ _ | apply below_drew | apply below_drewN | apply below_alloc | refine below_step ?_ (by assumption)))) D1.out D2.out sx hlen HLE.out).mono ?_); rintro e w1 ⟨A3, c3, l, rfl, hs3, hd3, hv3, hl3, hb1⟩; have HV3 := Lib.hid hv3; have HS3 := Lib.hid hs3; clear hv3 hs3)
      | (go_at_call 50; (with_reducible refine (trim_n _ A3 c3 l _ (by exact HS3.out.below (by repeat (with_reducible first | assumption | exact Below.refl _ _ | apply below_drew | apply below_drewN | apply below_alloc | refine below_step ?_ (by assumption)))) hd3).mono ?_); rintro e w2 ⟨v, rfl, hv, hb2⟩; obtain ⟨nv, A4, n4, c4, rfl, HV⟩ := hv.form; clear hv; have HR4 := Lib.hid ((HR2.drew.keep hb1).keep hb2); obtain ⟨⟨u1, r1⟩, ⟨u2, u3, u4, r2⟩, r3, r4, r5⟩ := HR4.out))
    go_wp2
    refine bodyPost_ret (v := .agg #[.bool nv, .slice A4 n4 c4]) (by simp [results, Tryz.results73, go_sem, r1, r2, r5]) rfl ⟨_, rfl, ?_, ?_⟩
    ·have := HV.out
     rw [HV3.out, HR.out] at this
     exact this.res2 HR4.out _ _
    ·exact below_set (below_set (below_step (below_step (below_drew HBW) hb1) hb2) (by omega) _) (by omega) _
  ·have hq : icmp (V B9 a) (V B9 b) < 0 := by unfold icmp; split <;> (try split) <;> omega
   have HLE : Hid (V B9 a ≤ V B9 b) := by show _ ≤ _; omega
   have hlen : a.length ≤ b.length := by
    rcases Nat.lt_or_ge b.length a.length with h | h
    ·have := V_long B9two D2.out D1.out N1.out h; omega
    ·exact h
   have HR : Hid (sgnd nb (V B9 b - V B9 a) = x + y) := by
    show _ = _
    have e1 := HNA.out; have e2 := HNB.out
    rw [V1.out, V2.out]; unfold sgnd
    cases na <;> cases nb <;> simp at e1 e2 hdiff <;> simp <;> omega
   clear hge
   have hnb : nb = !na := by cases na <;> cases nb <;> simp at hdiff ⊢
   subst hnb
   cases na
   ·go_enter Tryz.func73, Tryz.ntmps73
    go_wp2_with fail
    generalize hW : ((w.alloc (Obj.cells #[Value.bool _, Value.slice A1 a.length c1] 35)).alloc _).alloc _ = W
    obtain ⟨hS, HR2, HBW⟩ := start2 w _ _ _ _ _ W hW
    clear hW
    have hs1' := Lib.hid (hs1.below HBW)
    have hs2' := Lib.hid (hs2.below HBW)
    (with_reducible refine (size_b A1 A2 c1 c2 a b _ (by exact hs1'.out.below (by repeat (with_reducible first | assumption | exact Below.refl _ _ | apply below_drew | apply below_drewN | apply below_alloc | refine below_step ?_ (by assumption)))) (by exact hs2'.out.below (by repeat (with_reducible first | assumption | exact Below.refl _ _ | apply below_drew | apply below_drewN | apply below_alloc | refine below_step ?_ (by assumption)))) D1.out D2.out N1.out N2.out).mono ?_)
    rintro e w0 ⟨rfl, hb0⟩
    replace hS := keep2 hb0 hS
    replace HR2 := HR2.keep hb0
    replace HBW := below_step HBW hb0
    replace hs1' := Lib.hid (hs1'.out.below hb0)
    replace hs2' := Lib.hid (hs2'.out.below hb0)
    clear hb0
    go_wp2
    go_region_held3 (fun w' => w'.cell? ⟨w.heap.size, 0, none⟩ = some (.bool false) ∧ w'.cell? ⟨w.heap.size, 1, none⟩ = some (.slice A1 a.length c1) ∧ w'.cell? ⟨w.heap.size + 1, 0, none⟩ = some (.bool true) ∧ w'.cell? ⟨w.heap.size + 1, 1, none⟩ = some (.slice A2 b.length c2) ∧ w.heap.size + 1 + 1 < w'.heap.size)
     (first | exact hS | exact keep2 hb1 hS | exact keep2 hb2 (keep2 hb1 hS) | exact keep2s (keep2s (keep2 hb2 (keep2 hb1 hS))))
     (first
      | (go_at_call 117; (with_reducible refine (less_c A2 A1 c2 c1 b a _ (by exact hs2'.out.below (by repeat (with_reducible first | assumption | exact Below.refl _ _ | apply below_drew | apply below_drewN | apply below_alloc | refine below_step ?_ (by assumption)))) (by exact hs1'.out.below (by repeat (with_reducible first | assumption | exact Below.refl _ _ | apply below_drew | apply below_drewN | apply below_alloc | refine below_step ?_ (by assumption)))) D2.out D1.out sy hlen HLE.out).mono ?_); rintro e w1 ⟨A3, c3, l, rfl, hs3, hd3, hv3, hl3, hb1⟩; have HV3 := Lib.hid hv3; have HS3 := Lib.hid hs3; clear hv3 hs3)
      | (go_at_call 50; (with_reducible refine (trim_n _ A3 c3 l _ (by exact HS3.out.below (by repeat (with_reducible first | assumption | exact Below.refl _ _ | apply below_drew | apply below_drewN | apply below_alloc | refine below_step ?_ (by assumption)))) hd3).mono ?_); rintro e w2 ⟨v, rfl, hv, hb2⟩; obtain ⟨nv, A4, n4, c4, rfl, HV⟩ := hv.form; clear hv; have HR4 := Lib.hid ((HR2.drew.keep hb1).keep hb2); obtain ⟨⟨u1, r1⟩, ⟨u2, u3, u4, r2⟩, r3, r4, r5⟩ := HR4.out))
    go_wp2
    refine bodyPost_ret (v := .agg #[.bool nv, .slice A4 n4 c4]) (by simp [results, Tryz.results73, go_sem, r1, r2, r5]) rfl ⟨_, rfl, ?_, ?_⟩
    ·have := HV.out
     have e : sgnd true (V B9 b - V B9 a) = x + y := HR.out
     rw [HV3.out, e] at this
     exact this.res2 HR4.out _ _
    ·exact below_set (below_set (below_step (below_step (below_drew HBW) hb1) hb2) (by omega) _) (by omega) _
   ·go_enter Tryz.func73, Tryz.ntmps73
    go_wp2_with fail
    generalize hW : ((w.alloc (Obj.cells #[Value.bool _, Value.slice A1 a.length c1] 35)).alloc _).alloc _ = W
    obtain ⟨hS, HR2, HBW⟩ := start2 w _ _ _ _ _ W hW
    clear hW
    have hs1' := Lib.hid (hs1.below HBW)
    have hs2' := Lib.hid (hs2.below HBW)
    (with_reducible refine (size_b A1 A2 c1 c2 a b _ (by exact hs1'.out.below (by repeat (with_reducible first | assumption | exact Below.refl _ _ | apply below_drew | apply below_drewN | apply below_alloc | refine below_step ?_ (by assumption)))) (by exact hs2'.out.below (by repeat (with_reducible first | assumption | exact Below.refl _ _ | apply below_drew | apply below_drewN | apply below_alloc | refine below_step ?_ (by assumption)))) D1.out D2.out N1.out N2.out).mono ?_)
    rintro e w0 ⟨rfl, hb0⟩
    replace hS := keep2 hb0 hS
    replace HR2 := HR2.keep hb0
    replace HBW := below_step HBW hb0
    replace hs1' := Lib.hid (hs1'.out.below hb0)
    replace hs2' := Lib.hid (hs2'.out.below hb0)
    clear hb0
    go_wp2
    go_region_held3 (fun w' => w'.cell? ⟨w.heap.size, 0, none⟩ = some (.bool true) ∧ w'.cell? ⟨w.heap.size, 1, none⟩ = some (.slice A1 a.length c1) ∧ w'.cell? ⟨w.heap.size + 1, 0, none⟩ = some (.bool false) ∧ w'.cell? ⟨w.heap.size + 1, 1, none⟩ = some (.slice A2 b.length c2) ∧ w.heap.size + 1 + 1 < w'.heap.size)
     (first | exact hS | exact keep2 hb1 hS | exact keep2 hb2 (keep2 hb1 hS) | exact keep2s (keep2s (keep2 hb2 (keep2 hb1 hS))))
     (first
      | (go_at_call 117; (with_reducible refine (less_c A2 A1 c2 c1 b a _ (by exact hs2'.out.below (by repeat (with_reducible first | assumption | exact Below.refl _ _ | apply below_drew | apply below_drewN | apply below_alloc | refine below_step ?_ (by assumption)))) (by exact hs1'.out.below (by repeat (with_reducible first | assumption | exact Below.refl _ _ | apply below_drew | apply below_drewN | apply below_alloc | refine below_step ?_ (by assumption)))) D2.out D1.out sy hlen HLE.out).mono ?_); rintro e w1 ⟨A3, c3, l, rfl, hs3, hd3, hv3, hl3, hb1⟩; have HV3 := Lib.hid hv3; have HS3 := Lib.hid hs3; clear hv3 hs3)
      | (go_at_call 50; (with_reducible refine (trim_n _ A3 c3 l _ (by exact HS3.out.below (by repeat (with_reducible first | assumption | exact Below.refl _ _ | apply below_drew | apply below_drewN | apply below_alloc | refine below_step ?_ (by assumption)))) hd3).mono ?_); rintro e w2 ⟨v, rfl, hv, hb2⟩; obtain ⟨nv, A4, n4, c4, rfl, HV⟩ := hv.form; clear hv; have HR4 := Lib.hid ((HR2.drew.keep hb1).keep hb2); obtain ⟨⟨u1, r1⟩, ⟨u2, u3, u4, r2⟩, r3, r4, r5⟩ := HR4.out))
    go_wp2
    refine bodyPost_ret (v := .agg #[.bool nv, .slice A4 n4 c4]) (by simp [results, Tryz.results73, go_sem, r1, r2, r5]) rfl ⟨_, rfl, ?_, ?_⟩
    ·have := HV.out
     have e : sgnd false (V B9 b - V B9 a) = x + y := HR.out
     rw [HV3.out, e] at this
     exact this.res2 HR4.out _ _
    ·exact below_set (below_set (below_step (below_step (below_drew HBW) hb1) hb2) (by omega) _) (by omega) _
end Go.Proofs.YtibdipfhfaeooaaGreatDoor


set_option linter.unusedVariables false
set_option linter.unusedSimpArgs false
namespace Go.Proofs.YtibdipfhfaeooaaGreatDoor
open Go.RowKit

theorem dg_neg (B : Nat) (z : Int) : dg B (-z) = dg B z := by unfold dg; rw [Int.natAbs_neg]

set_option maxRecDepth 100000 in
set_option maxHeartbeats 1000000 in
theorem Sub_c (x y : Int) (v1 v2 : Value) (w : World) (h1 : IsN w v1 x) (h2 : IsN w v2 y) (sx : (dg B9 x).length ≤ 1000000000000) (sy : (dg B9 y).length ≤ 1000000000000) :
  Calls Tryz.prog 42 #[v1, v2] w fun e w' => ∃ v, e = .returned v ∧ IsN w' v (x - y) ∧ Below w.heap.size w w' := by
 obtain ⟨na, A1, n1, c1, rfl, H1⟩ := h1.form
 obtain ⟨nb, A2, n2, c2, rfl, H2⟩ := h2.form
 clear h1 h2
 have sy' : (dg B9 (-y)).length ≤ 1000000000000 := by rw [dg_neg]; exact sy
 go_enter Tryz.func42, Tryz.ntmps42
 go_wp2_with fail
 generalize hW : ((w.alloc (Obj.cells #[Value.bool na, Value.slice A1 n1 c1] 35)).alloc _).alloc _ = W
 obtain ⟨hS, HR2, HBW⟩ := start2 w _ _ _ _ _ W hW
 clear hW
 have K1 := Lib.hid (H1.out.below HBW)
 have K2 := Lib.hid (H2.out.below HBW)
 go_region_held3 (fun w' => w'.cell? ⟨w.heap.size, 0, none⟩ = some (.bool na) ∧ w'.cell? ⟨w.heap.size, 1, none⟩ = some (.slice A1 n1 c1) ∧ w'.cell? ⟨w.heap.size + 1, 0, none⟩ = some (.bool nb) ∧ w'.cell? ⟨w.heap.size + 1, 1, none⟩ = some (.slice A2 n2 c2) ∧ w.heap.size + 1 + 1 < w'.heap.size)
  (first | exact hS | exact keep2 hb1 hS | exact keep2 hb2 (keep2 hb1 hS) | exact keep2s (keep2s (keep2 hb2 (keep2 hb1 hS))))
  (first
   | (go_at_call 86; (with_reducible refine (Minus_c y _ _ (by exact K2.out.below (by repeat (with_reducible first | assumption | exact Below.refl _ _ | apply below_drew | apply below_drewN | apply below_alloc | refine below_step ?_ (by assumption))))).mono ?_); rintro e w1 ⟨v, rfl, hv, hb1⟩; obtain ⟨nm, Am, nn, cm, rfl, HM⟩ := hv.form; clear hv)
   | (go_at_call 73; (with_reducible refine (Add_c x (-y) _ _ _ (by exact K1.out.below (by repeat (with_reducible first | assumption | exact Below.refl _ _ | apply below_drew | apply below_drewN | apply below_alloc | refine below_step ?_ (by assumption)))) HM.out sx sy').mono ?_); rintro e w2 ⟨v, rfl, hv, hb2⟩; obtain ⟨nv, A4, n4, c4, rfl, HV⟩ := hv.form; clear hv; have HR4 := Lib.hid ((HR2.drew.keep hb1).keep hb2); obtain ⟨⟨u1, r1⟩, ⟨u2, u3, u4, r2⟩, r3, r4, r5⟩ := HR4.out))
 go_wp2
 refine bodyPost_ret (v := .agg #[.bool nv, .slice A4 n4 c4]) (by simp [results, Tryz.results42, go_sem, r1, r2, r5]) rfl ⟨_, rfl, ?_, ?_⟩
 ·rw [Int.sub_eq_add_neg]; exact HV.out.res2 HR4.out _ _
 ·exact below_set (below_set (below_step (below_step (below_drew HBW) hb1) hb2) (by omega) _) (by omega) _

/-- The sign. -/
def sgn (x : Int) : Int := if x = 0 then 0 else if x < 0 then -1 else 1
theorem Sign_s (x : Int) (v : Value) (w : World) (h : IsN w v x) :
  Calls Tryz.prog 16 #[v] w fun e w' => e = .returned (.int .i64 (sgn x)) ∧ Below w.heap.size w w' := Sign_c x v w h

theorem keepC {n : Nat} {W w1 : World} {na nb : Bool} {sa sb : Value} (hb : Below W.heap.size W w1) (h : W.cell? ⟨n, 0, none⟩ = some (.bool na) ∧ W.cell? ⟨n, 1, none⟩ = some sa ∧ W.cell? ⟨n + 1, 0, none⟩ = some (.bool nb) ∧ W.cell? ⟨n + 1, 1, none⟩ = some sb ∧ n + 1 < W.heap.size) : w1.cell? ⟨n, 0, none⟩ = some (.bool na) ∧ w1.cell? ⟨n, 1, none⟩ = some sa ∧ w1.cell? ⟨n + 1, 0, none⟩ = some (.bool nb) ∧ w1.cell? ⟨n + 1, 1, none⟩ = some sb ∧ n + 1 < w1.heap.size := by
 obtain ⟨h1, h2, h3, h4, h9⟩ := h
 have hz := hb.size
 exact ⟨kcell hb (by omega) h1, kcell hb (by omega) h2, kcell hb (by omega) h3, kcell hb (by omega) h4, by omega⟩
theorem startC (w : World) (na nb : Bool) (sa sb : Value) (t : TypeId) (W : World) (hW : (w.alloc (.cells #[.bool na, sa] t)).alloc (.cells #[.bool nb, sb] t) = W) :
  (W.cell? ⟨w.heap.size, 0, none⟩ = some (.bool na) ∧ W.cell? ⟨w.heap.size, 1, none⟩ = some sa ∧ W.cell? ⟨w.heap.size + 1, 0, none⟩ = some (.bool nb) ∧ W.cell? ⟨w.heap.size + 1, 1, none⟩ = some sb ∧ w.heap.size + 1 < W.heap.size) ∧ Below w.heap.size w W := by
 subst hW
 refine ⟨⟨?_, ?_, ?_, ?_, ?_⟩, below_alloc (below_alloc (Below.refl _ _) _) _⟩ <;> simp [go_sem]

theorem icmp_neg (x y : Int) : icmp (-x) (-y) = icmp y x := by
 unfold icmp
 by_cases a : -x < -y
 ·rw [if_pos a, if_pos (by omega)]
 ·rw [if_neg a, if_neg (show ¬ y < x by omega)]
  by_cases b : x < y
  ·rw [if_pos (by omega), if_pos b]
  ·rw [if_neg (by omega), if_neg b]
set_option maxRecDepth 100000 in
set_option maxHeartbeats 1000000 in
theorem Cmp_c (x y : Int) (v1 v2 : Value) (w : World) (h1 : IsN w v1 x) (h2 : IsN w v2 y) :
  Calls Tryz.prog 44 #[v1, v2] w fun e w' => e = .returned (.int .i64 (icmp x y)) ∧ Below w.heap.size w w' := by
 obtain ⟨A1, c1, rfl, hs1⟩ := h1
 obtain ⟨A2, c2, rfl, hs2⟩ := h2
 have H1 : Hid (IsN w (.agg #[.bool (decide (x < 0)), .slice A1 (dg B9 x).length c1]) x) := ⟨A1, c1, rfl, hs1⟩
 have H2 : Hid (IsN w (.agg #[.bool (decide (y < 0)), .slice A2 (dg B9 y).length c2]) y) := ⟨A2, c2, rfl, hs2⟩
 have D1 := Lib.hid (dg_dg B9two x)
 have D2 := Lib.hid (dg_dg B9two y)
 have N1 := Lib.hid (dg_nm B9two x)
 have N2 := Lib.hid (dg_nm B9two y)
 have V1 := Lib.hid (dg_V B9two x)
 have V2 := Lib.hid (dg_V B9two y)
 have L1 := Lib.hid hs1
 have L2 := Lib.hid hs2
 clear hs1 hs2
 generalize dg B9 x = a at *
 generalize dg B9 y = b at *
 obtain ⟨na, hna⟩ : ∃ na, decide (x < 0) = na := ⟨_, rfl⟩
 obtain ⟨nb, hnb⟩ : ∃ nb, decide (y < 0) = nb := ⟨_, rfl⟩
 rw [hna] at H1 ⊢
 rw [hnb] at H2 ⊢
 by_cases hne : sgn x = sgn y
 ·have hq : (sgn x != sgn y) = false := by simpa using hne
  by_cases hneg : x < 0
  ·have hn : na = true := by rw [← hna]; simpa using hneg
   have hy : y < 0 := by unfold sgn at hne; rw [if_neg (by omega), if_pos hneg] at hne; split at hne <;> (try split at hne) <;> omega
   have HR : Hid (icmp (V B9 b) (V B9 a) = icmp x y) := by
    show _ = _
    rw [V1.out, V2.out, ← icmp_neg, show -((y.natAbs : Nat) : Int) = y by omega, show -((x.natAbs : Nat) : Int) = x by omega]
   subst hn
   clear hne hna hnb hneg hy
   go_enter Tryz.func44, Tryz.ntmps44
   go_wp2_with fail
   generalize hW : (w.alloc (Obj.cells #[Value.bool _, Value.slice A1 a.length c1] 35)).alloc _ = W
   obtain ⟨hS, HB⟩ := startC w _ _ _ _ _ W hW
   clear hW
   replace L1 := Lib.hid (L1.out.below HB)
   replace L2 := Lib.hid (L2.out.below HB)
   replace H1 := Lib.hid (H1.out.below HB)
   replace H2 := Lib.hid (H2.out.below HB)
   go_region_held3 (fun w' => w'.cell? ⟨w.heap.size, 0, none⟩ = some (.bool true) ∧ w'.cell? ⟨w.heap.size, 1, none⟩ = some (.slice A1 a.length c1) ∧ w'.cell? ⟨w.heap.size + 1, 0, none⟩ = some (.bool nb) ∧ w'.cell? ⟨w.heap.size + 1, 1, none⟩ = some (.slice A2 b.length c2) ∧ w.heap.size + 1 < w'.heap.size)
    (first | exact hS | exact keepC hba1 hS | exact keepC hbb1 (keepC hba1 hS))
    (first
     | (go_at_call 16; (with_reducible refine (Sign_s x (.agg #[.bool true, .slice A1 a.length c1]) _ (by exact H1.out.below (by repeat (with_reducible first | assumption | exact Below.refl _ _ | apply below_drew | apply below_drewN | apply below_alloc | refine below_step ?_ (by assumption))))).mono ?_); rintro e wa1 ⟨rfl, hba1⟩)
     | (go_at_call 16; (with_reducible refine (Sign_s y (.agg #[.bool nb, .slice A2 b.length c2]) _ (by exact H2.out.below (by repeat (with_reducible first | assumption | exact Below.refl _ _ | apply below_drew | apply below_drewN | apply below_alloc | refine below_step ?_ (by assumption))))).mono ?_); rintro e wb1 ⟨rfl, hbb1⟩))
   replace hS := keepC hbb1 (keepC hba1 hS)
   replace HB := below_step (below_step (below_drew HB) hba1) hbb1
   replace L1 := Lib.hid (L1.out.below (below_step (below_step (below_drew (Below.refl _ _)) hba1) hbb1))
   replace L2 := Lib.hid (L2.out.below (below_step (below_step (below_drew (Below.refl _ _)) hba1) hbb1))
   replace H1 := Lib.hid (H1.out.below (below_step (below_step (below_drew (Below.refl _ _)) hba1) hbb1))
   replace H2 := Lib.hid (H2.out.below (below_step (below_step (below_drew (Below.refl _ _)) hba1) hbb1))
   clear hba1 hbb1
   go_wp2_with (go_at_call 87; (with_reducible refine (size_b A2 A1 c2 c1 b a _ L2.out L1.out D2.out D1.out N2.out N1.out).mono ?_); rintro e w3 ⟨rfl, hb3⟩)
   go_ret
   exact ⟨by rw [← HR.out]; rfl, below_step HB hb3⟩
  ·have hn : na = false := by rw [← hna]; simpa using hneg
   have hy : ¬ y < 0 := by unfold sgn at hne; split at hne <;> (try split at hne) <;> (try split at hne) <;> omega
   have HR : Hid (icmp (V B9 a) (V B9 b) = icmp x y) := by
    show _ = _
    rw [V1.out, V2.out, show ((y.natAbs : Nat) : Int) = y by omega, show ((x.natAbs : Nat) : Int) = x by omega]
   subst hn
   clear hne hna hnb hneg hy
   go_enter Tryz.func44, Tryz.ntmps44
   go_wp2_with fail
   generalize hW : (w.alloc (Obj.cells #[Value.bool _, Value.slice A1 a.length c1] 35)).alloc _ = W
   obtain ⟨hS, HB⟩ := startC w _ _ _ _ _ W hW
   clear hW
   replace L1 := Lib.hid (L1.out.below HB)
   replace L2 := Lib.hid (L2.out.below HB)
   replace H1 := Lib.hid (H1.out.below HB)
   replace H2 := Lib.hid (H2.out.below HB)
   go_region_held3 (fun w' => w'.cell? ⟨w.heap.size, 0, none⟩ = some (.bool false) ∧ w'.cell? ⟨w.heap.size, 1, none⟩ = some (.slice A1 a.length c1) ∧ w'.cell? ⟨w.heap.size + 1, 0, none⟩ = some (.bool nb) ∧ w'.cell? ⟨w.heap.size + 1, 1, none⟩ = some (.slice A2 b.length c2) ∧ w.heap.size + 1 < w'.heap.size)
    (first | exact hS | exact keepC hba1 hS | exact keepC hbb1 (keepC hba1 hS))
    (first
     | (go_at_call 16; (with_reducible refine (Sign_s x (.agg #[.bool false, .slice A1 a.length c1]) _ (by exact H1.out.below (by repeat (with_reducible first | assumption | exact Below.refl _ _ | apply below_drew | apply below_drewN | apply below_alloc | refine below_step ?_ (by assumption))))).mono ?_); rintro e wa1 ⟨rfl, hba1⟩)
     | (go_at_call 16; (with_reducible refine (Sign_s y (.agg #[.bool nb, .slice A2 b.length c2]) _ (by exact H2.out.below (by repeat (with_reducible first | assumption | exact Below.refl _ _ | apply below_drew | apply below_drewN | apply below_alloc | refine below_step ?_ (by assumption))))).mono ?_); rintro e wb1 ⟨rfl, hbb1⟩))
   replace hS := keepC hbb1 (keepC hba1 hS)
   replace HB := below_step (below_step (below_drew HB) hba1) hbb1
   replace L1 := Lib.hid (L1.out.below (below_step (below_step (below_drew (Below.refl _ _)) hba1) hbb1))
   replace L2 := Lib.hid (L2.out.below (below_step (below_step (below_drew (Below.refl _ _)) hba1) hbb1))
   replace H1 := Lib.hid (H1.out.below (below_step (below_step (below_drew (Below.refl _ _)) hba1) hbb1))
   replace H2 := Lib.hid (H2.out.below (below_step (below_step (below_drew (Below.refl _ _)) hba1) hbb1))
   clear hba1 hbb1
   go_wp2_with (go_at_call 87; (with_reducible refine (size_b A1 A2 c1 c2 a b _ L1.out L2.out D1.out D2.out N1.out N2.out).mono ?_); rintro e w3 ⟨rfl, hb3⟩)
   go_ret
   exact ⟨by rw [← HR.out]; rfl, below_step HB hb3⟩
 ·have hq : (sgn x != sgn y) = true := by simpa using hne
  by_cases hlt : sgn x < sgn y
  ·have HR : Hid (icmp x y = -1) := by
    show _ = _; unfold icmp; rw [if_pos]; unfold sgn at hlt; split at hlt <;> split at hlt <;> (try split at hlt) <;> (try split at hlt) <;> omega
   clear hne hna hnb
   go_enter Tryz.func44, Tryz.ntmps44
   go_wp2_with fail
   generalize hW : (w.alloc (Obj.cells #[Value.bool _, Value.slice A1 a.length c1] 35)).alloc _ = W
   obtain ⟨hS, HB⟩ := startC w _ _ _ _ _ W hW
   clear hW
   replace L1 := Lib.hid (L1.out.below HB)
   replace L2 := Lib.hid (L2.out.below HB)
   replace H1 := Lib.hid (H1.out.below HB)
   replace H2 := Lib.hid (H2.out.below HB)
   go_region_held3 (fun w' => w'.cell? ⟨w.heap.size, 0, none⟩ = some (.bool na) ∧ w'.cell? ⟨w.heap.size, 1, none⟩ = some (.slice A1 a.length c1) ∧ w'.cell? ⟨w.heap.size + 1, 0, none⟩ = some (.bool nb) ∧ w'.cell? ⟨w.heap.size + 1, 1, none⟩ = some (.slice A2 b.length c2) ∧ w.heap.size + 1 < w'.heap.size)
    (first | exact hS | exact keepC hba1 hS | exact keepC hbb1 (keepC hba1 hS))
    (first
     | (go_at_call 16; (with_reducible refine (Sign_s x (.agg #[.bool na, .slice A1 a.length c1]) _ (by exact H1.out.below (by repeat (with_reducible first | assumption | exact Below.refl _ _ | apply below_drew | apply below_drewN | apply below_alloc | refine below_step ?_ (by assumption))))).mono ?_); rintro e wa1 ⟨rfl, hba1⟩)
     | (go_at_call 16; (with_reducible refine (Sign_s y (.agg #[.bool nb, .slice A2 b.length c2]) _ (by exact H2.out.below (by repeat (with_reducible first | assumption | exact Below.refl _ _ | apply below_drew | apply below_drewN | apply below_alloc | refine below_step ?_ (by assumption))))).mono ?_); rintro e wb1 ⟨rfl, hbb1⟩))
   replace hS := keepC hbb1 (keepC hba1 hS)
   replace HB := below_step (below_step (below_drew HB) hba1) hbb1
   replace L1 := Lib.hid (L1.out.below (below_step (below_step (below_drew (Below.refl _ _)) hba1) hbb1))
   replace L2 := Lib.hid (L2.out.below (below_step (below_step (below_drew (Below.refl _ _)) hba1) hbb1))
   replace H1 := Lib.hid (H1.out.below (below_step (below_step (below_drew (Below.refl _ _)) hba1) hbb1))
   replace H2 := Lib.hid (H2.out.below (below_step (below_step (below_drew (Below.refl _ _)) hba1) hbb1))
   clear hba1 hbb1
   go_wp2
   go_region_held3 (fun w' => w'.cell? ⟨w.heap.size, 0, none⟩ = some (.bool na) ∧ w'.cell? ⟨w.heap.size, 1, none⟩ = some (.slice A1 a.length c1) ∧ w'.cell? ⟨w.heap.size + 1, 0, none⟩ = some (.bool nb) ∧ w'.cell? ⟨w.heap.size + 1, 1, none⟩ = some (.slice A2 b.length c2) ∧ w.heap.size + 1 < w'.heap.size)
    (first | exact hS | exact keepC hba2 hS | exact keepC hbb2 (keepC hba2 hS))
    (first
     | (go_at_call 16; (with_reducible refine (Sign_s x (.agg #[.bool na, .slice A1 a.length c1]) _ (by exact H1.out.below (by repeat (with_reducible first | assumption | exact Below.refl _ _ | apply below_drew | apply below_drewN | apply below_alloc | refine below_step ?_ (by assumption))))).mono ?_); rintro e wa2 ⟨rfl, hba2⟩)
     | (go_at_call 16; (with_reducible refine (Sign_s y (.agg #[.bool nb, .slice A2 b.length c2]) _ (by exact H2.out.below (by repeat (with_reducible first | assumption | exact Below.refl _ _ | apply below_drew | apply below_drewN | apply below_alloc | refine below_step ?_ (by assumption))))).mono ?_); rintro e wb2 ⟨rfl, hbb2⟩))
   replace hS := keepC hbb2 (keepC hba2 hS)
   replace HB := below_step (below_step (below_drew HB) hba2) hbb2
   replace L1 := Lib.hid (L1.out.below (below_step (below_step (below_drew (Below.refl _ _)) hba2) hbb2))
   replace L2 := Lib.hid (L2.out.below (below_step (below_step (below_drew (Below.refl _ _)) hba2) hbb2))
   replace H1 := Lib.hid (H1.out.below (below_step (below_step (below_drew (Below.refl _ _)) hba2) hbb2))
   replace H2 := Lib.hid (H2.out.below (below_step (below_step (below_drew (Below.refl _ _)) hba2) hbb2))
   clear hba2 hbb2
   go_wp2
   go_ret
   exact ⟨by rw [HR.out]; rfl, HB⟩
  ·have HR : Hid (icmp x y = 1) := by
    show _ = _; unfold icmp; rw [if_neg, if_pos] <;> (unfold sgn at hlt hne; split at hlt <;> split at hlt <;> (try split at hlt) <;> (try split at hlt) <;> omega)
   clear hne hna hnb
   go_enter Tryz.func44, Tryz.ntmps44
   go_wp2_with fail
   generalize hW : (w.alloc (Obj.cells #[Value.bool _, Value.slice A1 a.length c1] 35)).alloc _ = W
   obtain ⟨hS, HB⟩ := startC w _ _ _ _ _ W hW
   clear hW
   replace L1 := Lib.hid (L1.out.below HB)
   replace L2 := Lib.hid (L2.out.below HB)
   replace H1 := Lib.hid (H1.out.below HB)
   replace H2 := Lib.hid (H2.out.below HB)
   go_region_held3 (fun w' => w'.cell? ⟨w.heap.size, 0, none⟩ = some (.bool na) ∧ w'.cell? ⟨w.heap.size, 1, none⟩ = some (.slice A1 a.length c1) ∧ w'.cell? ⟨w.heap.size + 1, 0, none⟩ = some (.bool nb) ∧ w'.cell? ⟨w.heap.size + 1, 1, none⟩ = some (.slice A2 b.length c2) ∧ w.heap.size + 1 < w'.heap.size)
    (first | exact hS | exact keepC hba1 hS | exact keepC hbb1 (keepC hba1 hS))
    (first
     | (go_at_call 16; (with_reducible refine (Sign_s x (.agg #[.bool na, .slice A1 a.length c1]) _ (by exact H1.out.below (by repeat (with_reducible first | assumption | exact Below.refl _ _ | apply below_drew | apply below_drewN | apply below_alloc | refine below_step ?_ (by assumption))))).mono ?_); rintro e wa1 ⟨rfl, hba1⟩)
     | (go_at_call 16; (with_reducible refine (Sign_s y (.agg #[.bool nb, .slice A2 b.length c2]) _ (by exact H2.out.below (by repeat (with_reducible first | assumption | exact Below.refl _ _ | apply below_drew | apply below_drewN | apply below_alloc | refine below_step ?_ (by assumption))))).mono ?_); rintro e wb1 ⟨rfl, hbb1⟩))
   replace hS := keepC hbb1 (keepC hba1 hS)
   replace HB := below_step (below_step (below_drew HB) hba1) hbb1
   replace L1 := Lib.hid (L1.out.below (below_step (below_step (below_drew (Below.refl _ _)) hba1) hbb1))
   replace L2 := Lib.hid (L2.out.below (below_step (below_step (below_drew (Below.refl _ _)) hba1) hbb1))
   replace H1 := Lib.hid (H1.out.below (below_step (below_step (below_drew (Below.refl _ _)) hba1) hbb1))
   replace H2 := Lib.hid (H2.out.below (below_step (below_step (below_drew (Below.refl _ _)) hba1) hbb1))
   clear hba1 hbb1
   go_wp2
   go_region_held3 (fun w' => w'.cell? ⟨w.heap.size, 0, none⟩ = some (.bool na) ∧ w'.cell? ⟨w.heap.size, 1, none⟩ = some (.slice A1 a.length c1) ∧ w'.cell? ⟨w.heap.size + 1, 0, none⟩ = some (.bool nb) ∧ w'.cell? ⟨w.heap.size + 1, 1, none⟩ = some (.slice A2 b.length c2) ∧ w.heap.size + 1 < w'.heap.size)
    (first | exact hS | exact keepC hba2 hS | exact keepC hbb2 (keepC hba2 hS))
    (first
     | (go_at_call 16; (with_reducible refine (Sign_s x (.agg #[.bool na, .slice A1 a.length c1]) _ (by exact H1.out.below (by repeat (with_reducible first | assumption | exact Below.refl _ _ | apply below_drew | apply below_drewN | apply below_alloc | refine below_step ?_ (by assumption))))).mono ?_); rintro e wa2 ⟨rfl, hba2⟩)
     | (go_at_call 16; (with_reducible refine (Sign_s y (.agg #[.bool nb, .slice A2 b.length c2]) _ (by exact H2.out.below (by repeat (with_reducible first | assumption | exact Below.refl _ _ | apply below_drew | apply below_drewN | apply below_alloc | refine below_step ?_ (by assumption))))).mono ?_); rintro e wb2 ⟨rfl, hbb2⟩))
   replace hS := keepC hbb2 (keepC hba2 hS)
   replace HB := below_step (below_step (below_drew HB) hba2) hbb2
   replace L1 := Lib.hid (L1.out.below (below_step (below_step (below_drew (Below.refl _ _)) hba2) hbb2))
   replace L2 := Lib.hid (L2.out.below (below_step (below_step (below_drew (Below.refl _ _)) hba2) hbb2))
   replace H1 := Lib.hid (H1.out.below (below_step (below_step (below_drew (Below.refl _ _)) hba2) hbb2))
   replace H2 := Lib.hid (H2.out.below (below_step (below_step (below_drew (Below.refl _ _)) hba2) hbb2))
   clear hba2 hbb2
   go_wp2
   go_ret
   exact ⟨by rw [HR.out]; rfl, HB⟩
end Go.Proofs.YtibdipfhfaeooaaGreatDoor

