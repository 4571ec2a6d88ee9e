/- Plain facts about numbers written as lists of digits to a base, the lowest first. No condition. -/
import Derived.Below
import Derived.Deep.Draws
import Derived.Deep.AppendLies
import Derived.Maps.AppendAt
import Derived.OwnWalk
import Derived.Laws.OwnMore
import Derived.Laws.MakeOwn
import Derived.Laws.Slices
import Derived.WalkKit
import Derived.KernelRfl
import Derived.RowKit3
import Derived.Lib.Hide
import Derived.Outline
import Derived.Deep.RegionHeld3
import Derived.Deep.QuietTactic
import Derived.BigQuiet
import Derived.StillTailTactics
import Derived.WalkSpells
import Derived.Test.YtiaeeclmlchpoaaGreatDoorProg
import Derived.Deep.OwnRows
import Derived.IntWalk
set_option linter.unusedVariables false
namespace Go.Proofs.YtiaeeclmlchpoaaGreatDoor

/-- The number that a list of digits stands for, the lowest digit first. -/
def V (B : Nat) : List Int → Int
  | [] => 0
  | d :: l => d + B * V B l

/-- All digits lie below the base. -/
def Dg (B : Nat) (l : List Int) : Prop := ∀ d ∈ l, 0 ≤ d ∧ d < (B : Int)

/-- No zero at the end. -/
def Nm (l : List Int) : Prop := l.getLast? ≠ some 0

theorem Dg.nil (B : Nat) : Dg B [] := by intro d h; simp at h
theorem Dg.cons {B : Nat} {d : Int} {l : List Int} (h0 : 0 ≤ d) (h1 : d < (B : Int)) (h : Dg B l) : Dg B (d :: l) := by
  intro x hx; simp at hx; rcases hx with rfl | hx
  · exact ⟨h0, h1⟩
  · exact h x hx
theorem Dg.head {B : Nat} {d : Int} {l : List Int} (h : Dg B (d :: l)) : 0 ≤ d ∧ d < (B : Int) := h d (by simp)
theorem Dg.tail {B : Nat} {d : Int} {l : List Int} (h : Dg B (d :: l)) : Dg B l := fun x hx => h x (by simp [hx])
theorem Dg.append {B : Nat} {l m : List Int} (h : Dg B l) (k : Dg B m) : Dg B (l ++ m) := by
  intro x hx; simp at hx; rcases hx with hx | hx
  · exact h x hx
  · exact k x hx
theorem Dg.left {B : Nat} {l m : List Int} (h : Dg B (l ++ m)) : Dg B l := fun x hx => h x (by simp [hx])
theorem Dg.right {B : Nat} {l m : List Int} (h : Dg B (l ++ m)) : Dg B m := fun x hx => h x (by simp [hx])
theorem Dg.take {B : Nat} {l : List Int} (h : Dg B l) (n : Nat) : Dg B (l.take n) := fun x hx => h x (List.mem_of_mem_take hx)
theorem Dg.drop {B : Nat} {l : List Int} (h : Dg B l) (n : Nat) : Dg B (l.drop n) := fun x hx => h x (List.mem_of_mem_drop hx)
theorem Dg.getD {B : Nat} {l : List Int} (h : Dg B l) (hB : 0 < B) (i : Nat) : 0 ≤ l.getD i 0 ∧ l.getD i 0 < (B : Int) := by
  rw [List.getD_eq_getElem?_getD]
  cases hi : l[i]? with
  | none => simp; omega
  | some v => simp; exact h v (List.mem_of_getElem? hi)
theorem Dg.set {B : Nat} {l : List Int} (h : Dg B l) (i : Nat) {d : Int} (h0 : 0 ≤ d) (h1 : d < (B : Int)) : Dg B (l.set i d) := by
  intro x hx
  rcases List.mem_or_eq_of_mem_set hx with hx | rfl
  · exact h x hx
  · exact ⟨h0, h1⟩
theorem Dg.zeros {B : Nat} (hB : 0 < B) (n : Nat) : Dg B (List.replicate n 0) := by
  intro x hx; simp at hx; omega

theorem V_nil (B : Nat) : V B [] = 0 := rfl
theorem V_cons (B : Nat) (d : Int) (l : List Int) : V B (d :: l) = d + B * V B l := rfl
theorem V_append (B : Nat) (l m : List Int) : V B (l ++ m) = V B l + (B : Int) ^ l.length * V B m := by
  induction l with
  | nil => simp [V]
  | cons d l ih => simp only [List.cons_append, V, ih, List.length_cons, Int.pow_succ]; grind
theorem V_snoc (B : Nat) (l : List Int) (d : Int) : V B (l ++ [d]) = V B l + (B : Int) ^ l.length * d := by
  rw [V_append]; simp [V]
theorem V_zeros (B n : Nat) : V B (List.replicate n 0) = 0 := by
  induction n with
  | zero => rfl
  | succ n ih => rw [List.replicate_succ, V, ih]; simp
theorem V_nonneg {B : Nat} {l : List Int} (h : Dg B l) : 0 ≤ V B l := by
  induction l with
  | nil => simp [V]
  | cons d l ih =>
    have h1 := h.head; have h2 := ih h.tail
    have h3 : 0 ≤ (B : Int) * V B l := Int.mul_nonneg (by omega) h2
    simp only [V]; omega
theorem V_lt {B : Nat} {l : List Int} (h : Dg B l) : V B l < (B : Int) ^ l.length := by
  induction l with
  | nil => simp [V]
  | cons d l ih =>
    have h1 := h.head; have h2 := ih h.tail
    have h3 : (B : Int) * (V B l + 1) ≤ (B : Int) * (B : Int) ^ l.length := Int.mul_le_mul_of_nonneg_left (by omega) (by omega)
    simp only [V, List.length_cons, Int.pow_succ]
    rw [Int.mul_add] at h3
    rw [Int.mul_comm ((B : Int) ^ l.length)]
    omega
theorem V_pos {B : Nat} {l : List Int} (hB : 0 < B) (h : Dg B l) (hn : Nm l) (hl : l ≠ []) : (B : Int) ^ (l.length - 1) ≤ V B l := by
  obtain ⟨m, d, rfl⟩ : ∃ m d, l = m ++ [d] := ⟨l.dropLast, l.getLast hl, (List.dropLast_concat_getLast hl).symm⟩
  rw [V_snoc]
  have h1 := V_nonneg h.left
  have h2 : 0 ≤ d ∧ d < (B : Int) := h d (by simp)
  have h3 : d ≠ 0 := by intro e; subst e; simp [Nm] at hn
  have h4 : (B : Int) ^ m.length * 1 ≤ (B : Int) ^ m.length * d := Int.mul_le_mul_of_nonneg_left (by omega) (Int.pow_nonneg (by omega))
  simp only [List.length_append, List.length_cons, List.length_nil]
  have e : m.length + (0 + 1) - 1 = m.length := by omega
  rw [e]; omega
theorem V_getD (B : Nat) (l : List Int) (i : Nat) : V B (l.take (i + 1)) = V B (l.take i) + (B : Int) ^ i * l.getD i 0 := by
  by_cases h : i < l.length
  · rw [List.take_succ_eq_append_getElem h, V_snoc]
    rw [List.length_take, Nat.min_eq_left (by omega), List.getD_eq_getElem?_getD, List.getElem?_eq_getElem h]; rfl
  · rw [List.take_of_length_le (by omega), List.take_of_length_le (by omega), List.getD_eq_getElem?_getD, List.getElem?_eq_none (by omega)]
    simp
theorem V_split (B : Nat) (l : List Int) (i : Nat) (h : i ≤ l.length) : V B l = V B (l.take i) + (B : Int) ^ i * V B (l.drop i) := by
  conv => lhs; rw [← List.take_append_drop i l]
  rw [V_append, List.length_take, Nat.min_eq_left h]
theorem V_drop (B : Nat) (l : List Int) (i : Nat) : V B (l.drop i) = l.getD i 0 + B * V B (l.drop (i + 1)) := by
  by_cases h : i < l.length
  · rw [List.drop_eq_getElem_cons h, V, List.getD_eq_getElem?_getD, List.getElem?_eq_getElem h]; rfl
  · rw [List.drop_of_length_le (by omega), List.drop_of_length_le (by omega), List.getD_eq_getElem?_getD, List.getElem?_eq_none (by omega)]
    simp [V]
theorem V_set (B : Nat) (l : List Int) (i : Nat) (d : Int) (h : i < l.length) : V B (l.set i d) = V B l + (B : Int) ^ i * (d - l.getD i 0) := by
  have e1 := V_split B (l.set i d) i (by simp; omega)
  have e2 := V_split B l i (by omega)
  rw [V_drop, List.take_set_of_le (Nat.le_refl _), List.drop_set_of_lt (by omega)] at e1
  rw [V_drop] at e2
  have e3 : (l.set i d).getD i 0 = d := by simp [h]
  rw [e3] at e1
  grind

/-- The digits of a number that is not negative. -/
def digs (B : Nat) (n : Nat) : List Int :=
  if _h : n = 0 ∨ B < 2 then [] else ((n % B : Nat) : Int) :: digs B (n / B)
termination_by n
decreasing_by exact Nat.div_lt_self (by omega) (by omega)

theorem digs_zero (B : Nat) : digs B 0 = [] := by unfold digs; simp
theorem digs_pos {B n : Nat} (hB : 2 ≤ B) (hn : 0 < n) : digs B n = ((n % B : Nat) : Int) :: digs B (n / B) := by
  rw [digs, dif_neg (by omega)]
theorem digs_dg {B : Nat} (hB : 2 ≤ B) (n : Nat) : Dg B (digs B n) := by
  induction n using Nat.strongRecOn with
  | ind n ih =>
    rcases Nat.eq_zero_or_pos n with rfl | hn
    · rw [digs_zero]; exact Dg.nil B
    · rw [digs_pos hB hn]
      have := Nat.mod_lt n (show 0 < B by omega)
      exact Dg.cons (by omega) (by omega) (ih _ (Nat.div_lt_self hn (by omega)))
theorem digs_V {B : Nat} (hB : 2 ≤ B) (n : Nat) : V B (digs B n) = n := by
  induction n using Nat.strongRecOn with
  | ind n ih =>
    rcases Nat.eq_zero_or_pos n with rfl | hn
    · rw [digs_zero]; rfl
    · rw [digs_pos hB hn, V, ih _ (Nat.div_lt_self hn (by omega))]
      have := Nat.mod_add_div n B
      rw [← Int.natCast_mul, ← Int.natCast_add, this]
theorem digs_nm {B : Nat} (hB : 2 ≤ B) (n : Nat) : Nm (digs B n) := by
  induction n using Nat.strongRecOn with
  | ind n ih =>
    rcases Nat.eq_zero_or_pos n with rfl | hn
    · rw [digs_zero]; simp [Nm]
    · rw [digs_pos hB hn]
      have h1 := ih _ (Nat.div_lt_self hn (show 1 < B by omega))
      rcases Nat.eq_zero_or_pos (n / B) with h0 | h0
      · rw [h0, digs_zero]
        have : n % B = n := Nat.mod_eq_of_lt ((Nat.div_eq_zero_iff_lt (by omega)).1 h0)
        rw [this]; simp [Nm]; omega
      · rw [digs_pos hB h0] at h1 ⊢
        simpa [Nm] using h1
theorem digs_nil {B n : Nat} (hB : 2 ≤ B) (h : digs B n = []) : n = 0 := by
  have := digs_V hB n; rw [h] at this; simp [V] at this; omega
theorem Nm.tail {d e : Int} {l : List Int} (h : Nm (d :: e :: l)) : Nm (e :: l) := by simpa [Nm] using h
/-- A list of digits without a zero at the end is the one of its number. -/
theorem digs_unique {B : Nat} (hB : 2 ≤ B) (l : List Int) (h : Dg B l) (hn : Nm l) : l = digs B (V B l).toNat := by
  induction l with
  | nil => simp [V, digs_zero]
  | cons d l ih =>
    have h1 := h.head
    have h2 := V_nonneg h.tail
    have hm : 0 ≤ (B : Int) * V B l := Int.mul_nonneg (by omega) h2
    have ih := ih h.tail (by cases l with | nil => simp [Nm] | cons e l => exact hn.tail)
    have hpos : 0 < V B (d :: l) := by
      have := V_pos (by omega) h hn (by simp)
      have : (0 : Int) < (B : Int) ^ ((d :: l).length - 1) := Int.pow_pos (by omega)
      omega
    have e : (V B (d :: l)).toNat = d.toNat + B * (V B l).toNat := by
      apply Int.ofNat.inj
      show ((V B (d :: l)).toNat : Int) = ((d.toNat + B * (V B l).toNat : Nat) : Int)
      rw [Int.natCast_add, Int.natCast_mul, Int.toNat_of_nonneg (by omega), Int.toNat_of_nonneg h1.1, Int.toNat_of_nonneg h2]; rfl
    rw [digs_pos hB (by omega), e]
    have hd : d.toNat < B := by omega
    rw [Nat.add_mul_mod_self_left, Nat.mod_eq_of_lt hd, Nat.add_mul_div_left _ _ (by omega), Nat.div_eq_of_lt hd, Nat.zero_add, ← ih]
    rw [Int.toNat_of_nonneg h1.1]
theorem digs_eq {B : Nat} (hB : 2 ≤ B) {l : List Int} {n : Nat} (h : Dg B l) (hn : Nm l) (e : V B l = n) : l = digs B n := by
  have := digs_unique hB l h hn
  rw [e] at this; simpa using this
theorem digs_len_le {B : Nat} (hB : 2 ≤ B) {n k : Nat} (h : n < B ^ k) : (digs B n).length ≤ k := by
  rcases Nat.eq_zero_or_pos n with rfl | hn
  · rw [digs_zero]; simp
  · have hne : digs B n ≠ [] := fun e => by have := digs_nil hB e; omega
    have h1 := V_pos (by omega) (digs_dg hB n) (digs_nm hB n) hne
    rw [digs_V hB] at h1
    have h2 : B ^ ((digs B n).length - 1) ≤ n := by
      have : ((B ^ ((digs B n).length - 1) : Nat) : Int) ≤ (n : Int) := by rw [Int.natCast_pow]; exact h1
      omega
    have h3 : (digs B n).length - 1 < k := (Nat.pow_lt_pow_iff_right (by omega)).1 (Nat.lt_of_le_of_lt h2 h)
    omega
theorem digs_len_lt {B : Nat} (hB : 2 ≤ B) (n : Nat) : n < B ^ (digs B n).length := by
  have := V_lt (digs_dg hB n)
  rw [digs_V hB] at this
  rw [← Int.natCast_pow] at this
  omega
theorem digs_len_mono {B : Nat} (hB : 2 ≤ B) {m n : Nat} (h : m ≤ n) : (digs B m).length ≤ (digs B n).length :=
  digs_len_le hB (Nat.lt_of_le_of_lt h (digs_len_lt hB n))

/-- What trimming leaves. -/
def trimmed : List Int → List Int
  | [] => []
  | d :: l => match trimmed l with
    | [] => if d = 0 then [] else [d]
    | e :: m => d :: e :: m
theorem trimmed_V (B : Nat) (l : List Int) : V B (trimmed l) = V B l := by
  induction l with
  | nil => rfl
  | cons d l ih =>
    unfold trimmed; rw [V, ← ih]
    cases h : trimmed l with
    | nil => by_cases hd : d = 0 <;> simp [V, hd]
    | cons e m => simp [V]
theorem trimmed_nm (l : List Int) : Nm (trimmed l) := by
  induction l with
  | nil => simp [trimmed, Nm]
  | cons d l ih =>
    unfold trimmed
    cases h : trimmed l with
    | nil => by_cases hd : d = 0 <;> simp [Nm, hd]
    | cons e m => rw [h] at ih; simpa [Nm] using ih
theorem trimmed_dg {B : Nat} {l : List Int} (h : Dg B l) : Dg B (trimmed l) := by
  induction l with
  | nil => exact h
  | cons d l ih =>
    have ih := ih h.tail
    unfold trimmed
    cases e : trimmed l with
    | nil => by_cases hd : d = 0 <;> simp [hd]
             · exact Dg.nil B
             · exact Dg.cons h.head.1 h.head.2 (Dg.nil B)
    | cons e m => simp only []; rw [← e]; exact Dg.cons h.head.1 h.head.2 ih
theorem trimmed_snoc_zero (l : List Int) : trimmed (l ++ [0]) = trimmed l := by
  induction l with
  | nil => simp [trimmed]
  | cons d l ih => simp only [List.cons_append]; rw [trimmed, trimmed, ih]
theorem trimmed_of_nm (l : List Int) (h : Nm l) : trimmed l = l := by
  induction l with
  | nil => rfl
  | cons d l ih =>
    unfold trimmed
    cases l with
    | nil => simp [Nm] at h; simp [trimmed, h]
    | cons e l => rw [ih h.tail]
theorem trimmed_digs {B : Nat} (hB : 2 ≤ B) {l : List Int} (h : Dg B l) : trimmed l = digs B (V B l).toNat := by
  have := digs_unique hB (trimmed l) (trimmed_dg h) (trimmed_nm l)
  rw [trimmed_V] at this; exact this
end Go.Proofs.YtiaeeclmlchpoaaGreatDoor

set_option linter.unusedVariables false
set_option linter.unusedSimpArgs false
namespace Go.Proofs.YtiaeeclmlchpoaaGreatDoor
open Go.RowKit

theorem block_of_add (a : Addr) (n : Nat) : (a.add n).block = a.block := by unfold Addr.add; split <;> rfl
theorem add_of_add (a : Addr) (i j : Nat) : (a.add i).add j = a.add (i + j) := by
  unfold Addr.add
  by_cases hi : i = 0 <;> by_cases hj : j = 0 <;> simp [hi, hj, Nat.add_assoc]

/-- The cells xs lie at A, n elements of sz cells each. -/
def Rd (w : World) (sz : Nat) (A : Option Addr) (n : Nat) (xs : List Value) : Prop :=
  xs.length = n * sz ∧ (0 < n → ∃ b off, A = some ⟨b, off, none⟩ ∧ b < w.heap.size ∧ ∀ j u, xs[j]? = some u → w.cell? ⟨b, off + j, none⟩ = some u)

section
variable {w w' : World} {sz n : Nat} {A : Option Addr} {xs : List Value}
theorem Rd.nil : Rd w sz A 0 [] := ⟨by simp, fun h => absurd h (by omega)⟩
theorem Rd.below (h : Rd w sz A n xs) (hb : Below w.heap.size w w') : Rd w' sz A n xs :=
  ⟨h.1, fun hn => by
    obtain ⟨b, off, e, hl, hc⟩ := h.2 hn
    exact ⟨b, off, e, Nat.lt_of_lt_of_le hl hb.size, fun j u hu => (hb.cell (p := ⟨b, off + j, none⟩) hl).trans (hc j u hu)⟩⟩
theorem Rd.take {k : Nat} (h : Rd w sz A n xs) (hk : k ≤ n) : Rd w sz A k (xs.take (k * sz)) :=
  ⟨by rw [List.length_take, h.1, Nat.min_eq_left (Nat.mul_le_mul_right _ hk)], fun hn => by
    obtain ⟨b, off, e, hl, hc⟩ := h.2 (by omega)
    refine ⟨b, off, e, hl, fun j u hu => hc j u ?_⟩
    rw [List.getElem?_take] at hu
    split at hu
    · exact hu
    · cases hu⟩
theorem plain_add (b off i : Nat) : (⟨b, off, none⟩ : Addr).add i = ⟨b, off + i, none⟩ := by
  unfold Addr.add
  by_cases h : i = 0 <;> simp [h]
theorem Rd.drop {k c : Nat} (h : Rd w sz A n xs) (hk : k ≤ n) (hc : n ≤ c) : Rd w sz (if c = k then A else A.map (·.add (k * sz))) (n - k) (xs.drop (k * sz)) := by
  refine ⟨by rw [List.length_drop, h.1, Nat.sub_mul], fun hn => ?_⟩
  obtain ⟨b, off, rfl, hl, hcell⟩ := h.2 (by omega)
  rw [if_neg (by omega)]
  refine ⟨b, off + k * sz, by simp [plain_add], hl, fun j u hu => ?_⟩
  rw [Nat.add_assoc]
  exact hcell _ u (by rw [← hu, List.getElem?_drop])
theorem Rd.at_ {k : Nat} (h : Rd w 1 A n xs) (hk : k < n) : ∃ b off, A = some ⟨b, off, none⟩ ∧ b < w.heap.size ∧ ∃ u, xs[k]? = some u ∧ w.cell? ⟨b, off + k, none⟩ = some u := by
  obtain ⟨b, off, e, hl, hc⟩ := h.2 (by omega)
  have hl' : k < xs.length := by have := h.1; omega
  exact ⟨b, off, e, hl, xs[k], List.getElem?_eq_getElem hl', hc k _ (List.getElem?_eq_getElem hl')⟩
theorem Rd.of_own {base c : Nat} {e : TypeId} (h : w.ownsRow base e sz (.slice A n c) n xs) : Rd w sz A n xs := by
  refine ⟨h.1, fun hn => ?_⟩
  obtain ⟨g, cap, hv, _, hlt⟩ := h.form hn
  have hA : A = some ⟨g, 0, none⟩ := by injection hv
  subst hA
  refine ⟨g, 0, rfl, hlt, fun j u hu => ?_⟩
  have := h.cells (g := g) rfl j u hu
  rwa [plain_add] at this
end

theorem below_alloc {w W : World} (h : Below w.heap.size w W) (o : Obj) : Below w.heap.size w (W.alloc o) := h.alloc h.size o
theorem below_drew {B : Nat} {w W : World} (h : Below B w W) : Below B w W.drew := h.drew
theorem below_drewN {B : Nat} {w W : World} (h : Below B w W) (n : Nat) : Below B w (W.drewN n) := ⟨h.os, h.tape, h.output, h.size, h.block⟩
theorem below_step {w W W' : World} (h : Below w.heap.size w W) (h' : Below W.heap.size W W') : Below w.heap.size w W' := h.trans (h'.mono h.size)
theorem below_set {w W : World} (h : Below w.heap.size w W) {b off : Nat} (hb : w.heap.size ≤ b) (u : Value) : Below w.heap.size w (W.setCell ⟨b, off, none⟩ u) := h.setCell (p := ⟨b, off, none⟩) hb u

/-- The number at a place of a list, 0 behind its end (under a name, so that a walk leaves it as it is). -/
def gd (l : List Int) (i : Nat) : Int := l.getD i 0
theorem gd_lt {l : List Int} {i : Nat} (h : i < l.length) : gd l i = l[i] := by simp [gd, h]
theorem gd_ge {l : List Int} {i : Nat} (h : l.length ≤ i) : gd l i = 0 := by simp [gd, List.getElem?_eq_none h]

/-- A store into a cell that holds nothing of the row leaves the row. -/
theorem Rd.set {w : World} {sz n : Nat} {A : Option Addr} {xs : List Value} (h : Rd w sz A n xs) {b o : Nat} {u x : Value} (hp : w.cell? ⟨b, o, none⟩ = some u) (hu : u ∉ xs) : Rd (w.setCell ⟨b, o, none⟩ x) sz A n xs := by
  refine ⟨h.1, fun hn => ?_⟩
  obtain ⟨b1, off, e, hl, hc⟩ := h.2 hn
  refine ⟨b1, off, e, by simpa [World.setCell] using hl, fun j v hv => ?_⟩
  rw [World.cell?_setCell_other]
  · exact hc j v hv
  · intro he
    rw [he] at hp
    have := hc j v hv
    rw [hp] at this
    injection this with this
    exact hu (this ▸ List.mem_of_getElem? hv)

/-- A row of whole numbers. -/
def ints (k : IntKind) (l : List Int) : List Value := l.map (Value.int k)
theorem ints_length (k : IntKind) (l : List Int) : (ints k l).length = l.length := by simp [ints]
theorem ints_take (k : IntKind) (l : List Int) (n : Nat) : (ints k l).take n = ints k (l.take n) := by simp [ints]
theorem ints_drop (k : IntKind) (l : List Int) (n : Nat) : (ints k l).drop n = ints k (l.drop n) := by simp [ints]
theorem ints_append (k : IntKind) (l m : List Int) : ints k (l ++ m) = ints k l ++ ints k m := by simp [ints]

/-- A slice of whole numbers that reads as l; its length is that of l, its capacity c at least as great, and small enough to be counted. -/
def SlI (w : World) (k : IntKind) (A : Option Addr) (c : Nat) (l : List Int) : Prop :=
  Rd w 1 A l.length (ints k l) ∧ l.length ≤ c ∧ c ≤ 9223372036854775807

section
variable {w w' : World} {k : IntKind} {A : Option Addr} {c : Nat} {l : List Int}
theorem SlI.below (h : SlI w k A c l) (hb : Below w.heap.size w w') : SlI w' k A c l := ⟨h.1.below hb, h.2⟩
theorem SlI.cell (h : SlI w k A c l) {j : Nat} (hj : j < l.length) : ∃ b off, A = some ⟨b, off, none⟩ ∧ b < w.heap.size ∧ w.cell? ⟨b, off + j, none⟩ = some (.int k (gd l j)) := by
  obtain ⟨b, off, e, hl, u, hu, hc⟩ := h.1.at_ hj
  refine ⟨b, off, e, hl, hc.trans ?_⟩
  rw [← hu, gd_lt hj]
  simp [ints, hj]
theorem SlI.take (h : SlI w k A c l) {m : Nat} (hm : m ≤ l.length) : SlI w k A c (l.take m) := by
  have hl : (l.take m).length = m := by rw [List.length_take, Nat.min_eq_left hm]
  refine ⟨?_, by have := h.2.1; omega, h.2.2⟩
  rw [hl, ← ints_take]
  have := h.1.take hm
  rwa [Nat.mul_one] at this
end

theorem not_ints {k : IntKind} {l : List Int} {u : Value} (h : ∀ n, u ≠ .int k n) : u ∉ ints k l := by
  unfold ints
  intro hm
  obtain ⟨n, _, rfl⟩ := List.mem_map.1 hm
  exact h n rfl
theorem SlI.set {w : World} {k : IntKind} {A : Option Addr} {c : Nat} {l : List Int} (h : SlI w k A c l) {b o : Nat} {u x : Value} (hp : w.cell? ⟨b, o, none⟩ = some u) (hu : ∀ n, u ≠ .int k n) : SlI (w.setCell ⟨b, o, none⟩ x) k A c l :=
  ⟨h.1.set hp (not_ints hu), h.2⟩
/-- A block that is just a row of whole numbers. -/
def BlkI (w : World) (g : Nat) (e : TypeId) (k : IntKind) (l : List Int) : Prop := w.heap[g]? = some (.cells (ints k l).toArray e (0, 0))
section
variable {w w' : World} {g : Nat} {e : TypeId} {k : IntKind} {l : List Int}
theorem BlkI.lt (h : BlkI w g e k l) : g < w.heap.size := by
  rcases Nat.lt_or_ge g w.heap.size with hlt | hge
  · exact hlt
  · unfold BlkI at h; rw [Array.getElem?_eq_none hge] at h; cases h
theorem BlkI.cell (h : BlkI w g e k l) {j : Nat} (hj : j < l.length) : w.cell? ⟨g, j, none⟩ = some (.int k (gd l j)) := by
  unfold BlkI at h
  rw [World.cell?, h]
  simp [ints, hj, gd_lt hj]
theorem BlkI.frozen (h : BlkI w g e k l) (j : Nat) : w.frozen? ⟨g, j, none⟩ = false := by
  unfold BlkI at h
  simp [World.frozen?, h]
theorem BlkI.new (w : World) (e : TypeId) (k : IntKind) (m : Nat) : BlkI (w.alloc (.cells (madeCells #[.int k 0] m) e)) w.heap.size e k (List.replicate m 0) := by
  unfold BlkI
  rw [heap_alloc_new]
  congr 2
  apply Array.ext'
  rw [toList_madeCells_one]
  simp [ints]
theorem BlkI.drew (h : BlkI w g e k l) : BlkI w.drew g e k l := h
theorem BlkI.drewN (h : BlkI w g e k l) (n : Nat) : BlkI (w.drewN n) g e k l := h
theorem BlkI.below (h : BlkI w g e k l) (hb : Below w.heap.size w w') : BlkI w' g e k l := (hb.block g h.lt).trans h
theorem BlkI.set (h : BlkI w g e k l) (j : Nat) (x : Int) : BlkI (w.setCell ⟨g, j, none⟩ (.int k x)) g e k (l.set j x) := by
  unfold BlkI at h ⊢
  simp [World.setCell, Array.getElem?_modify, h, ints, List.map_set]
theorem BlkI.slI (h : BlkI w g e k l) (hl : l.length ≤ 9223372036854775807) : SlI w k (some ⟨g, 0, none⟩) l.length l := by
  refine ⟨⟨by simp [ints], fun hn => ⟨g, 0, rfl, h.lt, fun j u hu => ?_⟩⟩, Nat.le_refl _, hl⟩
  have hj : j < l.length := by
    rcases Nat.lt_or_ge j l.length with h1 | h1
    · exact h1
    · rw [List.getElem?_eq_none (by simpa [ints] using h1)] at hu; cases hu
  rw [Nat.zero_add, h.cell hj, gd_lt hj, ← hu]
  simp [ints, hj]
end
/-- Below B the world is as it was: what lies there reads as it did. -/
theorem kcellB {B : Nat} {W w1 : World} (hb : Below B W w1) {b o : Nat} {v : Value} (hl : b < B) (h : W.cell? ⟨b, o, none⟩ = some v) : w1.cell? ⟨b, o, none⟩ = some v := (hb.cell (p := ⟨b, o, none⟩) hl).trans h
theorem kfrozB {B : Nat} {W w1 : World} (hb : Below B W w1) {b o : Nat} (hl : b < B) (h : W.frozen? ⟨b, o, none⟩ = false) : w1.frozen? ⟨b, o, none⟩ = false := (hb.frozen (p := ⟨b, o, none⟩) hl).trans h

/-- A sign and digits to a base, as two cells, that stand for a whole number. -/
def dg (B : Nat) (z : Int) : List Int := digs B z.natAbs
def IsZ (B : Nat) (k : IntKind) (w : World) (v : Value) (z : Int) : Prop :=
  ∃ A c, v = .agg #[.bool (decide (z < 0)), .slice A (dg B z).length c] ∧ SlI w k A c (dg B z)
theorem IsZ.below {B : Nat} {k : IntKind} {w w' : World} {v : Value} {z : Int} (h : IsZ B k w v z) (hb : Below w.heap.size w w') : IsZ B k w' v z := by
  obtain ⟨A, c, e, hs⟩ := h
  exact ⟨A, c, e, hs.below hb⟩
theorem IsZ.form {B : Nat} {k : IntKind} {w : World} {v : Value} {z : Int} (h : IsZ B k w v z) : ∃ nv A n c, v = .agg #[.bool nv, .slice A n c] ∧ Hid (IsZ B k w (.agg #[.bool nv, .slice A n c]) z) := by
  obtain ⟨A, c, rfl, hs⟩ := h
  exact ⟨_, A, _, c, rfl, A, c, rfl, hs⟩
/-- Two cells for a result: a sign and digits. -/
def Res2 (W : World) (b : Nat) : Prop := (∃ u, W.cell? ⟨b, 0, none⟩ = some (.bool u)) ∧ (∃ A n c, W.cell? ⟨b, 1, none⟩ = some (.slice A n c)) ∧ W.frozen? ⟨b, 0, none⟩ = false ∧ W.frozen? ⟨b, 1, none⟩ = false ∧ b < W.heap.size
theorem kcell {W w1 : World} (hb : Below W.heap.size W w1) {b o : Nat} {v : Value} (hl : b < W.heap.size) (h : W.cell? ⟨b, o, none⟩ = some v) : w1.cell? ⟨b, o, none⟩ = some v := (hb.cell (p := ⟨b, o, none⟩) hl).trans h
theorem kfroz {W w1 : World} (hb : Below W.heap.size W w1) {b o : Nat} (hl : b < W.heap.size) (h : W.frozen? ⟨b, o, none⟩ = false) : w1.frozen? ⟨b, o, none⟩ = false := (hb.frozen (p := ⟨b, o, none⟩) hl).trans h
theorem Res2.keep {W w1 : World} {b : Nat} (h : Res2 W b) (hb : Below W.heap.size W w1) : Res2 w1 b := by
  obtain ⟨⟨u, h1⟩, ⟨A, n, c, h2⟩, h3, h4, h5⟩ := h
  have hz := hb.size
  exact ⟨⟨u, kcell hb h5 h1⟩, ⟨A, n, c, kcell hb h5 h2⟩, kfroz hb h5 h3, kfroz hb h5 h4, by omega⟩
theorem Res2.keepB {W w1 : World} {b B : Nat} (h : Res2 W b) (hb : Below B W w1) (hl : b < B) : Res2 w1 b := by
  obtain ⟨⟨u, h1⟩, ⟨A, n, c, h2⟩, h3, h4, h5⟩ := h
  have hz := hb.size
  exact ⟨⟨u, kcellB hb hl h1⟩, ⟨A, n, c, kcellB hb hl h2⟩, kfrozB hb hl h3, kfrozB hb hl h4, by omega⟩
theorem Res2.drew {W : World} {b : Nat} (h : Res2 W b) : Res2 W.drew b := h
theorem SlI.res2 {w : World} {k : IntKind} {A : Option Addr} {c : Nat} {l : List Int} (h : SlI w k A c l) {b : Nat} (hr : Res2 w b) (x y : Value) : SlI ((w.setCell ⟨b, 0, none⟩ x).setCell ⟨b, 1, none⟩ y) k A c l := by
  obtain ⟨⟨u, h1⟩, ⟨A', n', c', h2⟩, h3, h4, h5⟩ := hr
  refine (h.set (x := x) h1 (by simp)).set (u := .slice A' n' c') ?_ (by simp)
  rw [World.cell?_setCell_other _ _ _ _ (by simp)]
  exact h2
theorem IsZ.res2 {B : Nat} {k : IntKind} {w : World} {v : Value} {z : Int} (h : IsZ B k w v z) {b : Nat} (hr : Res2 w b) (x y : Value) : IsZ B k ((w.setCell ⟨b, 0, none⟩ x).setCell ⟨b, 1, none⟩ y) v z := by
  obtain ⟨A, c, e, hs⟩ := h
  exact ⟨A, c, e, hs.res2 hr x y⟩
/-- Digits of a natural number. -/
def IsU (B : Nat) (k : IntKind) (w : World) (v : Value) (n : Nat) : Prop :=
  ∃ A c, v = .slice A (digs B n).length c ∧ SlI w k A c (digs B n)
theorem IsU.below {B : Nat} {k : IntKind} {w w' : World} {v : Value} {n : Nat} (h : IsU B k w v n) (hb : Below w.heap.size w w') : IsU B k w' v n := by
  obtain ⟨A, c, e, hs⟩ := h
  exact ⟨A, c, e, hs.below hb⟩
theorem dg_V {B : Nat} (hB : 2 ≤ B) (z : Int) : V B (dg B z) = z.natAbs := digs_V hB _
theorem dg_dg {B : Nat} (hB : 2 ≤ B) (z : Int) : Dg B (dg B z) := digs_dg hB _
theorem dg_nm {B : Nat} (hB : 2 ≤ B) (z : Int) : Nm (dg B z) := digs_nm hB _
def sgnd (neg : Bool) (m : Int) : Int := if neg then -m else m
theorem sgnd_abs (neg : Bool) (m : Int) : (sgnd neg m).natAbs = m.natAbs := by unfold sgnd; split <;> omega
theorem sgnd_lt (neg : Bool) (m : Int) (h : 0 ≤ m) : decide (sgnd neg m < 0) = (neg && decide (0 < m)) := by
  unfold sgnd
  cases neg
  · simp; omega
  · simp

/-- A row of whole numbers of the call's own, from block base on. -/
def OwI (w : World) (base : Nat) (e : TypeId) (k : IntKind) (v : Value) (l : List Int) : Prop := w.ownsRow base e 1 v l.length (ints k l)
theorem OwI.nil (w : World) (base : Nat) (e : TypeId) (k : IntKind) : OwI w base e k (.slice none 0 0) [] := World.ownsRow_nil _ _ _ _
theorem ownsRow_base {w : World} {base : Nat} {e : TypeId} {size n : Nat} {v : Value} {xs : List Value} (h : w.ownsRow base e size v n xs) (k : Nat) (hk : v.ownBlock = some k) : base ≤ k := by
  rcases h.2 with ⟨rfl, _⟩ | ⟨g, cap, cur, rfl, hb, _⟩
  · simp [Value.ownBlock] at hk
  · have : g = k := by simpa [Value.ownBlock] using hk
    omega
theorem OwI.form {w : World} {base : Nat} {e : TypeId} {k : IntKind} {v : Value} {l : List Int} (h : OwI w base e k v l) : ∃ A c, v = .slice A l.length c ∧ SlI w k A c l := by
  unfold OwI at h
  have hh := h
  rcases h.2 with ⟨rfl, h0⟩ | ⟨g, cap, cur, rfl, hb, hh2, hnc, hm, _⟩
  · have : l = [] := by simpa [ints] using h0
    subst this
    exact ⟨none, 0, rfl, ⟨by simp [ints], fun h => absurd h (by simp)⟩, Nat.le_refl _, by omega⟩
  · refine ⟨some ⟨g, 0, none⟩, cap, rfl, Rd.of_own hh, hnc, ?_⟩
    simp only [maxLen] at hm
    omega
theorem OwI.below {w w' : World} {base : Nat} {e : TypeId} {k : IntKind} {v : Value} {l : List Int} (h : OwI w base e k v l) (hb : Below w.heap.size w w') : OwI w' base e k v l := by
  refine World.ownsRow.kept (row := none) h ⟨hb.os, hb.tape, hb.output, hb.size, fun i hi _ => hb.block i hi⟩ ?_
  cases v.ownBlock <;> simp

section
variable {P : Program} {ops : Array Oper} {rest : List Oper} {o : Oper} {a : Act} {Q : Exit → Act → World → Prop}
/-- One number more at the end of a row of the call's own. -/
theorem app_I {w0 W : World} (base : Nat) (hgd : o.guard = none) (s x : Operand) (t e : TypeId) (k : IntKind) (bytes : Nat)
    (ho : o.op = .call { callee := .builtin .append, args := #[s, x], argTypes := #[t, t] })
    (ht : P.underlying t = some (.slice e)) (hinfo : (P.info? e).map (fun i => (i.zero, i.size, i.bytes)) = some (some (.int k 0), 1, bytes)) (hb0 : 0 < bytes)
    (v : Value) (l : List Int) (y : Int) (HO : OwI W base e k v l) (hs : a.eval s = v) (hx : a.eval x = .slice (some ⟨W.heap.size, 0, none⟩) 1 1) (HB : Below base w0 W) (hbase : base ≤ W.heap.size) (hl : (l.length + 1) * bytes ≤ 140737488355328)
    (h : ∀ v1 w1, OwI w1 base e k v1 (l ++ [y]) → Below base w0 w1 → base ≤ w1.heap.size → wpList P ops Q rest (a.put o.dst v1) w1) :
    wpList P ops Q (o :: rest) a (W.alloc (.cells #[.int k y] e)) := by
  obtain ⟨i0, hi, hzz⟩ := Option.map_eq_some_iff.1 hinfo
  simp only [Prod.mk.injEq] at hzz
  obtain ⟨hz0, hz1, hz2⟩ := hzz
  have hlen : l.length + 1 ≤ 140737488355328 := Nat.le_trans (Nat.le_mul_of_pos_right _ hb0) hl
  refine wpList_append_own (w := W.alloc (.cells #[.int k y] e)) hgd s x t ho base e i0 (.int k 0) 1 bytes ht hi hz0 hz1 hz2 rfl (by omega) v l.length (ints k l) hs (HO.alloc _) ⟨W.heap.size, 0, none⟩ 1 1 [.int k y] hx rfl
    (cell_one_new _ _ _) (by simp [Value.oneCell']) (by simp only [maxLen]; omega) hl (by simp; omega) ?_
  intro v1 w1 hown hg _
  refine h v1 w1 ?_ ((HB.alloc hbase _).grown hg (by simp; omega) (ownsRow_base HO)) (by have := hg.size; simp at this; omega)
  unfold OwI
  rw [ints_append, List.length_append]
  exact hown
end
section
variable {P : Program} {ops : Array Oper} {Q : Exit → Act → World → Prop} {md : Region.Mode} {S : World → Prop}
/-- wpAnyH_take, its closed facts in one. -/
theorem wpH_t {i : Nat} {oi : Oper} {v : Value} {fuel : Nat} {listed : Array Bool} {a : Act} {w : World} (hi : ops[i]? = some oi)
    (hc : (Region.noSelect ops && Region.free md ops listed i && (Region.ready md ops listed).contains i) = true)
    (hQ : ∀ c a w, Q (.panic c) (a.put oi.dst v) w → Q (.panic c) a w) (hy : YieldsIf P ops S oi v a) (hS : S w)
    (h : wpAnyH P md ops Q S fuel (listed.setIfInBounds i true) (a.put oi.dst v) w) : wpAnyH P md ops Q S (fuel + 1) listed a w := by
  rw [Bool.and_eq_true, Bool.and_eq_true] at hc
  exact wpAnyH_take hi hc.1.1 hc.1.2 hc.2 hQ hy hS h
end
end Go.Proofs.YtiaeeclmlchpoaaGreatDoor

set_option linter.unusedVariables false
set_option linter.unusedSimpArgs false
namespace Go.Proofs.YtiaeeclmlchpoaaGreatDoor
open Go.RowKit

theorem trimmed_take (l : List Int) : trimmed l = l.take (trimmed l).length := by
  induction l with
  | nil => rfl
  | cons d l ih =>
    unfold trimmed
    cases h : trimmed l with
    | nil => by_cases hd : d = 0 <;> simp [hd]
    | cons e m => rw [h] at ih; simp only [List.length_cons, List.take_succ_cons]; rw [← List.length_cons (a := e), ← ih]
theorem trimmed_len (l : List Int) : (trimmed l).length ≤ l.length := by
  conv => lhs; rw [trimmed_take]
  simp; omega
theorem trimmed_step {l : List Int} {k : Nat} (h : k < l.length) (h0 : gd l k = 0) (ht : trimmed (l.take (k + 1)) = trimmed l) : trimmed (l.take k) = trimmed l := by
  rw [← ht, List.take_succ_eq_append_getElem h]
  have : l[k] = 0 := by rw [← gd_lt h]; exact h0
  rw [this, trimmed_snoc_zero]
theorem trimmed_stop {l : List Int} {k : Nat} (h : k < l.length) (h0 : ¬ gd l k = 0) : trimmed (l.take (k + 1)) = l.take (k + 1) := by
  apply trimmed_of_nm
  rw [List.take_succ_eq_append_getElem h]
  have : l[k] ≠ 0 := by rw [← gd_lt h]; exact h0
  unfold Nm
  rw [List.getLast?_append]
  simpa using this

set_option maxHeartbeats 400000 in
theorem trim_c (neg : Bool) (A : Option Addr) (c : Nat) (l : List Int) (w : World) (h : SlI w .i64 A c l) :
    Calls Tryz.prog 34 #[.bool neg, .slice A l.length c] w fun e w' =>
      e = .returned (.agg #[.bool (neg && !(trimmed l).isEmpty), .slice A (trimmed l).length c]) ∧ Below w.heap.size w w' := by
  have hc1 := h.2.1
  have hc2 := h.2.2
  have hB : Below w.heap.size w w := Below.refl _ _
  cases neg
  all_goals
  go_enter Tryz.func34, Tryz.ntmps34
  go_wp2
  go_loop [5] (fun i => ∃ k : Nat, k ≤ l.length ∧ i = .int .i64 k ∧ trimmed (l.take k) = trimmed l) (fun i => (intOf i).toNat)
  case atStart => exact ⟨l.length, Nat.le_refl _, rfl, by rw [List.take_of_length_le (Nat.le_refl _)]⟩
  case round =>
    obtain ⟨k, hk, rfl, ht⟩ := hrel
    rcases Nat.eq_zero_or_pos k with rfl | hk0
    · have HT : Hid (trimmed l = []) := by rw [← ht]; rfl
      clear ht
      go_wp2
      refine bodyPost_ret (v := .agg #[.bool false, .slice A 0 c]) (by simp [results, Tryz.results34, go_sem]) rfl ⟨?_, hB.alloc (Nat.le_refl _) _⟩
      rw [HT.out]; rfl
    · obtain ⟨k, rfl⟩ : ∃ m, k = m + 1 := ⟨k - 1, by omega⟩
      obtain ⟨b, off, rfl, hl, hcell⟩ := h.cell (j := k) (by omega)
      have HT := Lib.hid ht
      clear ht
      by_cases hz : gd l k = 0
      · have hz' : (gd l k == 0) = true := by simpa using hz
        have HZ := Lib.hid hz
        clear hz
        go_wp2
        go_round
        case rel => exact ⟨k, by omega, rfl, trimmed_step (by omega) HZ.out HT.out⟩
        case measure => simp [intOf]
      · have hz' : (gd l k == 0) = false := by simpa using hz
        have HZ : Hid (trimmed l = l.take (k + 1)) := by rw [← HT.out, trimmed_stop (by omega) hz]; rfl
        clear hz
        go_wp2
        refine bodyPost_ret (v := _) (by simp [results, Tryz.results34, go_sem]; rfl) rfl ⟨?_, hB.alloc (Nat.le_refl _) _⟩
        have e1 : (l.take (k + 1)).isEmpty = false := by cases l <;> simp at hk ⊢
        have e2 : (l.take (k + 1)).length = k + 1 := by rw [List.length_take, Nat.min_eq_left (by omega)]
        first | (rw [HZ.out, e1, e2]; done) | (rw [HZ.out, e1, e2]; rfl) | rw [HZ.out, e2]

/-- The base of the first reference's parts. -/
def B9 : Nat := 1000000000
theorem B9c : ((B9 : Nat) : Int) = 1000000000 := rfl
theorem B9two : 2 ≤ B9 := by decide
abbrev IsN (w : World) (v : Value) (z : Int) : Prop := IsZ B9 .i64 w v z

theorem isEmpty_digs {B : Nat} (hB : 2 ≤ B) (n : Nat) : (!(digs B n).isEmpty) = decide (0 < n) := by
  rcases Nat.eq_zero_or_pos n with rfl | h
  · simp [digs_zero]
  · rw [digs_pos hB h]; simp [h]
theorem isZ_trim {B : Nat} (hB : 2 ≤ B) {k : IntKind} {w : World} {A : Option Addr} {c : Nat} {l : List Int} (neg : Bool) (hd : Dg B l) (h : SlI w k A c l) :
    IsZ B k w (.agg #[.bool (neg && !(trimmed l).isEmpty), .slice A (trimmed l).length c]) (sgnd neg (V B l)) := by
  have hv := V_nonneg hd
  have e : trimmed l = dg B (sgnd neg (V B l)) := by
    rw [trimmed_digs hB hd, dg, sgnd_abs]
    congr 1; omega
  refine ⟨A, c, ?_, ?_⟩
  · rw [sgnd_lt _ _ hv, e, dg, isEmpty_digs hB, sgnd_abs]
    have : decide (0 < (V B l).natAbs) = decide (0 < V B l) := decide_eq_decide.2 (by omega)
    rw [this]
  · rw [← e, trimmed_take]
    exact h.take (trimmed_len l)
theorem trim_n (neg : Bool) (A : Option Addr) (c : Nat) (l : List Int) (w : World) (h : SlI w .i64 A c l) (hd : Dg B9 l) :
    Calls Tryz.prog 34 #[.bool neg, .slice A l.length c] w fun e w' => ∃ v, e = .returned v ∧ IsN w' v (sgnd neg (V B9 l)) ∧ Below w.heap.size w w' :=
  (trim_c neg A c l w h).mono fun _ _ ⟨he, hb⟩ => ⟨_, he, isZ_trim B9two neg hd (h.below hb), hb⟩
end Go.Proofs.YtiaeeclmlchpoaaGreatDoor

set_option linter.unusedVariables false
set_option linter.unusedSimpArgs false
namespace Go.Proofs.YtiaeeclmlchpoaaGreatDoor
open Go.RowKit

theorem info_i64 : (Tryz.prog.info? 3).map (fun i => (i.zero, i.size, i.bytes)) = some (some (.int .i64 0), 1, 8) := by kernel_rfl

theorem part_c (A : Option Addr) (c : Nat) (l : List Int) (i : Nat) (w : World) (h : SlI w .i64 A c l) :
    Calls Tryz.prog 53 #[.slice A l.length c, .int .i64 (i : Int)] w fun e w' => e = .returned (.int .i64 (gd l i)) ∧ w = w' := by
  have hc1 := h.2.1
  have hc2 := h.2.2
  by_cases hi : i < l.length
  · obtain ⟨b, off, rfl, hl, hcell⟩ := h.cell hi
    go_enter Tryz.func53, Tryz.ntmps53
    go_wp2
    go_ret
    exact ⟨rfl, rfl⟩
  · rw [gd_ge (Nat.le_of_not_lt hi)]
    go_enter Tryz.func53, Tryz.ntmps53
    go_wp2
    go_ret
    exact ⟨rfl, rfl⟩

def MoreInv (a b l : List Int) (k : Nat) (cy : Int) : Prop :=
  l.length = k ∧ Dg B9 l ∧ 0 ≤ cy ∧ cy ≤ 1 ∧ V B9 l + (B9 : Int) ^ k * cy = V B9 (a.take k) + V B9 (b.take k) ∧ k ≤ max a.length b.length + 1 ∧ (max a.length b.length < k → cy = 0)
theorem carry_ring {x p u v cy a b m q B : Int} (h : x + p * cy = u + v) (e : m + B * q = a + b + cy) : x + p * m + p * B * q = u + p * a + (v + p * b) := by grind
theorem more_step {a b l : List Int} {k : Nat} {cy : Int} (ha : Dg B9 a) (hb : Dg B9 b) (h : MoreInv a b l k cy) (hk : k ≤ max a.length b.length) :
    MoreInv a b (l ++ [(gd a k + gd b k + cy) % 1000000000]) (k + 1) ((gd a k + gd b k + cy) / 1000000000) := by
  obtain ⟨h1, h2, h3, h4, h5, h6, h7⟩ := h
  have a1 := ha.getD (by decide) k
  have b1 := hb.getD (by decide) k
  have ea := V_getD B9 a k
  have eb := V_getD B9 b k
  change 0 ≤ gd a k ∧ gd a k < _ at a1
  change 0 ≤ gd b k ∧ gd b k < _ at b1
  change _ = _ + _ * gd a k at ea
  change _ = _ + _ * gd b k at eb
  rw [B9c] at *
  refine ⟨by simp [h1], Dg.append h2 (Dg.cons (by omega) (by rw [B9c]; omega) (Dg.nil _)), by omega, by omega, ?_, by omega, fun hlt => ?_⟩
  · rw [V_snoc, h1, ea, eb, Int.pow_succ, B9c]
    exact carry_ring h5 (by omega)
  · have e1 : gd a k = 0 := gd_ge (by omega)
    have e2 : gd b k = 0 := gd_ge (by omega)
    omega
theorem more_end {a b l : List Int} {k : Nat} (h : MoreInv a b l k 0) (hk : max a.length b.length ≤ k) : V B9 l = V B9 a + V B9 b := by
  obtain ⟨h1, h2, h3, h4, h5, h6, h7⟩ := h
  rw [List.take_of_length_le (by omega), List.take_of_length_le (by omega)] at h5
  simpa using h5

set_option maxRecDepth 100000 in
set_option maxHeartbeats 1000000 in
theorem more_c (A A' : Option Addr) (c c' : Nat) (a b : List Int) (w : World) (h : SlI w .i64 A c a) (h' : SlI w .i64 A' c' b) (ha : Dg B9 a) (hb : Dg B9 b)
    (sa : a.length ≤ 1000000000000) (sb : b.length ≤ 1000000000000) :
    Calls Tryz.prog 36 #[.slice A a.length c, .slice A' b.length c'] w fun e w' =>
      ∃ A1 c1 l, e = .returned (.slice A1 l.length c1) ∧ SlI w' .i64 A1 c1 l ∧ Dg B9 l ∧ V B9 l = V B9 a + V B9 b ∧ l.length ≤ max a.length b.length + 1 ∧ Below w.heap.size w w' := by
  have HH := Lib.hid ha
  have HH' := Lib.hid hb
  clear ha hb
  go_enter Tryz.func36, Tryz.ntmps36
  go_wp2
  go_loopw [5, 6, 7] (fun out cr i wr => ∃ (k : Nat) (cy : Int) (l : List Int), i = .int .i64 k ∧ cr = .int .i64 cy ∧ OwI wr w.heap.size 3 .i64 out l ∧ Below w.heap.size w wr ∧ Hid (MoreInv a b l k cy))
    (fun _ _ i _ => (max a.length b.length + 1) - (intOf i).toNat)
  case atStart => exact ⟨0, 0, [], rfl, rfl, OwI.nil _ _ _ _, Below.refl _ _, ⟨rfl, Dg.nil _, by simp, by simp, by simp [V], by omega, fun _ => rfl⟩⟩
  case round =>
    obtain ⟨k, cy, l, rfl, rfl, HO, HB, HI⟩ := hrel
    obtain ⟨i1, i2, i3, i4, i5, i6, i7⟩ := HI.out
    have H0 := Lib.hid (h.below HB)
    have H1 := Lib.hid (h'.below HB)
    have hB := HB.size
    have x1 := (HH.out.getD (by decide) k)
    have x2 := (HH'.out.getD (by decide) k)
    change 0 ≤ gd a k ∧ gd a k < _ at x1
    change 0 ≤ gd b k ∧ gd b k < _ at x2
    rw [B9c] at x1 x2
    obtain ⟨x1, x1'⟩ := x1
    obtain ⟨x2, x2'⟩ := x2
    have I5 := Lib.hid i5
    have I1 := Lib.hid i1
    have I2 := Lib.hid i2
    clear i5 i1 i2 h h'
    have hL : (l.length + 1) * 8 ≤ 140737488355328 := by have := I1.out; omega
    have HL := Lib.hid hL
    clear hL
    have HM : Hid (max a.length b.length < k → cy = 0) := i7
    clear i7
    by_cases q : k < a.length ∨ k < b.length ∨ 0 < cy
    · have hk : Hid (k ≤ max a.length b.length) := by
        show _
        rcases Nat.lt_or_ge (max a.length b.length) k with hlt | hge
        · have := HM.out hlt; omega
        · exact hge
      have HS := Lib.hid (more_step HH.out HH'.out HI.out hk.out)
      have hkk : k ≤ 1000000000001 := by omega
      clear HI
      have q' : k < a.length ∨ (¬ k < a.length ∧ k < b.length) ∨ (¬ k < a.length ∧ ¬ k < b.length ∧ 0 < cy) := by omega
      clear q
      rcases q' with q1 | ⟨q1, q2⟩ | ⟨q1, q2, q3⟩
      all_goals
        go_wp2_with (first
          | (go_at_call 53; (with_reducible refine (part_c A c a _ _ H0.out).mono ?_); rintro e w' ⟨rfl, rfl⟩)
          | (go_at_call 53; (with_reducible refine (part_c A' c' b _ _ H1.out).mono ?_); rintro e w' ⟨rfl, rfl⟩)
          | (at_builtin; (refine app_I w.heap.size rfl _ _ 22 3 .i64 8 rfl Tryz.underlying22 info_i64 (by decide) _ l _ HO rfl rfl HB hB HL.out ?_); intro v1 w1 HO1 HB1 hB1))
        go_roundw
        case rel => exact ⟨k + 1, _, _, by go_num, rfl, HO1, HB1, HS.out⟩
        case measure => have h_ := hk.out; unfold Hid at h_; simp [intOf]; omega
    · have q1 : ¬ k < a.length := fun h => q (.inl h)
      have q2 : ¬ k < b.length := fun h => q (.inr (.inl h))
      have q3 : ¬ 0 < cy := fun h => q (.inr (.inr h))
      clear q
      obtain rfl : cy = 0 := by omega
      have HE := Lib.hid (more_end HI.out (by omega))
      clear HI
      obtain ⟨A1, c1, rfl, hs⟩ := HO.form
      go_wp2
      go_ret
      exact ⟨A1, c1, l, rfl, hs, I2.out, HE.out, by have := I1.out; omega, HB⟩
end Go.Proofs.YtiaeeclmlchpoaaGreatDoor

set_option linter.unusedVariables false
set_option linter.unusedSimpArgs false
namespace Go.Proofs.YtiaeeclmlchpoaaGreatDoor
open Go.RowKit

theorem Minus_c (x : Int) (v : Value) (w : World) (h : IsN w v x) :
    Calls Tryz.prog 98 #[v] w fun e w' => ∃ v', e = .returned v' ∧ IsN w' v' (-x) ∧ Below w.heap.size w w' := by
  obtain ⟨A, c, rfl, hs⟩ := h
  have hB : Below w.heap.size w w := Below.refl _ _
  have hc1 := hs.2.1
  have hc2 := hs.2.2
  have ed : dg B9 (-x) = dg B9 x := by unfold dg; rw [Int.natAbs_neg]
  have el : decide (0 < (dg B9 x).length) = !(dg B9 x).isEmpty := by cases dg B9 x <;> simp
  have en : (!decide (x < 0) && decide (0 < (dg B9 x).length)) = decide (-x < 0) := by
    rw [el, dg, isEmpty_digs B9two]
    rw [Bool.eq_iff_iff]
    simp
    omega
  have HD := Lib.hid ed
  have HN := Lib.hid en
  clear ed el en
  generalize dg B9 x = l at *
  obtain ⟨neg, hneg⟩ : ∃ neg, decide (x < 0) = neg := ⟨_, rfl⟩
  rw [hneg]
  have HG := Lib.hid hneg
  clear hneg
  cases neg
  all_goals
    go_enter Tryz.func98, Tryz.ntmps98
    go_wp2
  all_goals
    refine bodyPost_ret (v := _) (by simp [results, Tryz.results98, go_sem]; rfl) rfl ⟨_, rfl, ⟨A, c, ?_, ?_⟩, ?_⟩
  all_goals rw [HD.out] at *
  all_goals first
    | exact below_alloc (below_alloc hB _) _
    | exact hs.below (below_alloc (below_alloc hB _) _)
    | (rw [← HN.out, HG.out]; simp; done)
    | (rw [← HN.out, HG.out]; rfl)

theorem Sign_c (x : Int) (v : Value) (w : World) (h : IsN w v x) :
    Calls Tryz.prog 55 #[v] w fun e w' => e = .returned (.int .i64 (if x = 0 then 0 else if x < 0 then -1 else 1)) ∧ Below w.heap.size w w' := by
  obtain ⟨A, c, rfl, hs⟩ := h
  have hB : Below w.heap.size w w := Below.refl _ _
  have hc1 := hs.2.1
  have hc2 := hs.2.2
  have el : ((dg B9 x).length : Int) = 0 ↔ x = 0 := by
    unfold dg
    rcases Nat.eq_zero_or_pos x.natAbs with h0 | h0
    · rw [h0, digs_zero]; simp; omega
    · rw [digs_pos B9two h0]; simp only [List.length_cons]; omega
  by_cases h0 : x = 0
  · have hl : (((dg B9 x).length : Int) == 0) = true := by simpa using el.2 h0
    rw [if_pos h0]
    have hd : decide (x < 0) = false := by simp; omega
    rw [hd]
    generalize dg B9 x = l at *
    clear el h0 hd
    go_enter Tryz.func55, Tryz.ntmps55
    go_wp2
    go_ret
    exact ⟨rfl, below_alloc hB _⟩
  · have hl : (((dg B9 x).length : Int) == 0) = false := by simpa using fun h => h0 (el.1 h)
    rw [if_neg h0]
    by_cases hx : x < 0
    · have hd : decide (x < 0) = true := by simpa using hx
      rw [if_pos hx, hd]
      generalize dg B9 x = l at *
      clear el h0 hd hx
      go_enter Tryz.func55, Tryz.ntmps55
      go_wp2
      go_ret
      exact ⟨rfl, below_alloc hB _⟩
    · have hd : decide (x < 0) = false := by simpa using hx
      rw [if_neg hx, hd]
      generalize dg B9 x = l at *
      clear el h0 hd hx
      go_enter Tryz.func55, Tryz.ntmps55
      go_wp2
      go_ret
      exact ⟨rfl, below_alloc hB _⟩

/-- -1, 0 or 1. -/
def icmp (x y : Int) : Int := if x < y then -1 else if y < x then 1 else 0

theorem V_top {B : Nat} (hB : 2 ≤ B) {a b : List Int} {k : Nat} (ha : Dg B a) (hb : Dg B b) (hlen : a.length = b.length) (hk : k < a.length) (he : V B (a.drop (k + 1)) = V B (b.drop (k + 1)))
    (h : gd a k < gd b k) : V B a < V B b := by
  have ea := V_split B a k (by omega)
  have eb := V_split B b k (by omega)
  rw [V_drop] at ea eb
  have la := V_lt (ha.take k)
  have lb := V_nonneg (hb.take k)
  rw [List.length_take, Nat.min_eq_left (by omega)] at la
  change V B a = _ + _ * (gd a k + _) at ea
  change V B b = _ + _ * (gd b k + _) at eb
  have hp : (0 : Int) ≤ (B : Int) ^ k := Int.pow_nonneg (by omega)
  have h1 := Int.mul_le_mul_of_nonneg_left (show gd a k + 1 ≤ gd b k by omega) hp
  rw [he] at ea
  rw [Int.mul_add] at ea eb h1
  omega
theorem V_long {B : Nat} (hB : 2 ≤ B) {a b : List Int} (ha : Dg B a) (hb : Dg B b) (nb : Nm b) (h : a.length < b.length) : V B a < V B b := by
  have h1 := V_lt ha
  have h2 := V_pos (by omega) hb nb (by intro e; rw [e] at h; simp at h)
  have h3 : (B : Int) ^ a.length ≤ (B : Int) ^ (b.length - 1) := by
    have : B ^ a.length ≤ B ^ (b.length - 1) := Nat.pow_le_pow_right (by omega) (by omega)
    have h4 : ((B ^ a.length : Nat) : Int) ≤ ((B ^ (b.length - 1) : Nat) : Int) := by omega
    rwa [Int.natCast_pow, Int.natCast_pow] at h4
  omega

set_option maxRecDepth 100000 in
set_option maxHeartbeats 1000000 in
theorem size_c (A A' : Option Addr) (c c' : Nat) (a b : List Int) (w : World) (h : SlI w .i64 A c a) (h' : SlI w .i64 A' c' b) (ha : Dg B9 a) (hb : Dg B9 b) (na : Nm a) (nb : Nm b) :
    Calls Tryz.prog 37 #[.slice A a.length c, .slice A' b.length c'] w fun e w' => e = .returned (.int .i64 (icmp (V B9 a) (V B9 b))) ∧ ∃ n, w' = w.drewN n := by
  have hc1 := h.2.1
  have hc2 := h.2.2
  have hc3 := h'.2.1
  have hc4 := h'.2.2
  by_cases hl : a.length = b.length
  · have hne : ((a.length : Int) != (b.length : Int)) = false := by simp; omega
    have HL := Lib.hid hl
    have hll : a.length ≤ b.length := by omega
    have H1 := Lib.hid h
    have H2 := Lib.hid h'
    clear hl na nb h h'
    have HA := Lib.hid ha
    have HB := Lib.hid hb
    clear ha hb
    go_enter Tryz.func37, Tryz.ntmps37
    go_wp2
    go_loopw [5] (fun i wr => ∃ k : Nat, k ≤ a.length ∧ i = .int .i64 ((k : Int) - 1) ∧ Hid (V B9 (a.drop k) = V B9 (b.drop k)) ∧ ∃ n, wr = w.drewN n) (fun i _ => (intOf i + 1).toNat)
    case atStart => exact ⟨a.length, Nat.le_refl _, rfl, by show _ = _; rw [List.drop_of_length_le (Nat.le_refl _), List.drop_of_length_le (by have := HL.out; omega)], 0, rfl⟩
    case round =>
      obtain ⟨k, hk, rfl, HE, n, rfl⟩ := hrel
      rcases Nat.eq_zero_or_pos k with rfl | hk0
      · go_wp2
        go_ret
        refine ⟨?_, n, rfl⟩
        have e := HE.out
        simp only [List.drop_zero] at e
        rw [e]; unfold icmp; rw [if_neg (by omega), if_neg (by omega)]; rfl
      · obtain ⟨m, rfl⟩ : ∃ m, k = m + 1 := ⟨k - 1, by omega⟩
        obtain ⟨b1, o1, rfl, hl1, hcell1⟩ := (Hid.out H1).cell (j := m) (by omega)
        obtain ⟨b2, o2, rfl, hl2, hcell2⟩ := (Hid.out H2).cell (j := m) (by omega)
        have hi0 : (0 : Int) ≤ (m : Int) := by omega
        have hi1 : (m : Int) < (a.length : Int) := by omega
        have hi2 : (m : Int) < (b.length : Int) := by omega
        by_cases q1 : gd a m < gd b m
        · have HR : Hid (icmp (V B9 a) (V B9 b) = -1) := by
            have := V_top B9two HA.out HB.out HL.out (by omega) HE.out q1
            show _ = _; unfold icmp; rw [if_pos this]
          go_wp2
          go_quiet (fail)
          go_wp2
          go_ret
          exact ⟨by rw [HR.out]; rfl, by first | exact ⟨_, rfl⟩ | (simp only [World.drewN_drewN]; exact ⟨_, rfl⟩)⟩
        · by_cases q2 : gd b m < gd a m
          · have HR : Hid (icmp (V B9 a) (V B9 b) = 1) := by
              have := V_top B9two HB.out HA.out HL.out.symm (by have := HL.out; omega) HE.out.symm q2
              show _ = _; unfold icmp; rw [if_neg (by omega), if_pos this]
            go_wp2
            go_quiet (fail)
            go_wp2
            go_quiet (fail)
            go_wp2
            go_ret
            exact ⟨by rw [HR.out]; rfl, by first | exact ⟨_, rfl⟩ | (simp only [World.drewN_drewN]; exact ⟨_, rfl⟩)⟩
          · have HR : Hid (V B9 (a.drop m) = V B9 (b.drop m)) := by
              show _ = _
              rw [V_drop B9 a m, V_drop B9 b m, HE.out]
              have : gd a m = gd b m := by omega
              unfold gd at this
              rw [this]
            go_wp2
            go_quiet (fail)
            go_wp2
            go_quiet (fail)
            go_wp2
            go_roundw
            case rel => exact ⟨m, by omega, by go_num, HR, by first | exact ⟨_, rfl⟩ | (simp only [World.drewN_drewN]; exact ⟨_, rfl⟩)⟩
            case measure => simp [intOf]
  · by_cases hlt : a.length < b.length
    · have e : icmp (V B9 a) (V B9 b) = -1 := by have := V_long B9two ha hb nb hlt; unfold icmp; rw [if_pos this]
      rw [e]
      have hne : ((a.length : Int) != (b.length : Int)) = true := by simp; omega
      clear e ha hb na nb hl
      go_enter Tryz.func37, Tryz.ntmps37
      go_wp2
      go_ret
      exact ⟨rfl, 0, rfl⟩
    · have e : icmp (V B9 a) (V B9 b) = 1 := by have := V_long B9two hb ha na (by omega); unfold icmp; rw [if_neg (by omega), if_pos this]
      rw [e]
      have hne : ((a.length : Int) != (b.length : Int)) = true := by simp; omega
      clear e ha hb na nb hl
      go_enter Tryz.func37, Tryz.ntmps37
      go_wp2
      go_ret
      exact ⟨rfl, 0, rfl⟩
theorem size_b (A A' : Option Addr) (c c' : Nat) (a b : List Int) (w : World) (h : SlI w .i64 A c a) (h' : SlI w .i64 A' c' b) (ha : Dg B9 a) (hb : Dg B9 b) (na : Nm a) (nb : Nm b) :
    Calls Tryz.prog 37 #[.slice A a.length c, .slice A' b.length c'] w fun e w' => e = .returned (.int .i64 (icmp (V B9 a) (V B9 b))) ∧ Below w.heap.size w w' :=
  (size_c A A' c c' a b w h h' ha hb na nb).mono fun _ _ ⟨he, n, hw⟩ => ⟨he, by rw [hw]; exact below_drewN (Below.refl _ _) n⟩
end Go.Proofs.YtiaeeclmlchpoaaGreatDoor

set_option linter.unusedVariables false
set_option linter.unusedSimpArgs false
namespace Go.Proofs.YtiaeeclmlchpoaaGreatDoor
open Go.RowKit

def LessInv (a b l : List Int) (k : Nat) (cy : Int) : Prop :=
  l.length = k ∧ Dg B9 l ∧ 0 ≤ cy ∧ cy ≤ 1 ∧ V B9 l = V B9 (a.take k) - V B9 (b.take k) + (B9 : Int) ^ k * cy ∧ k ≤ a.length
theorem borrow_ring {x p u v cy a b m q B : Int} (h : x = u - v + p * cy) (e : m = a - b - cy + B * q) : x + p * m = u + p * a - (v + p * b) + p * B * q := by grind
theorem less_step {a b l : List Int} {k : Nat} {cy q : Int} (h : LessInv a b l k cy) (hk : k < a.length) (hq : q = 0 ∨ q = 1)
    (h0 : 0 ≤ gd a k - gd b k - cy + 1000000000 * q) (h1 : gd a k - gd b k - cy + 1000000000 * q < 1000000000) :
    LessInv a b (l ++ [gd a k - gd b k - cy + 1000000000 * q]) (k + 1) q := by
  obtain ⟨h1, h2, h3, h4, h5, h6⟩ := h
  have ea := V_getD B9 a k
  have eb := V_getD B9 b k
  change _ = _ + _ * gd a k at ea
  change _ = _ + _ * gd b k at eb
  refine ⟨by simp [h1], Dg.append h2 (Dg.cons (by omega) (by rw [B9c]; omega) (Dg.nil _)), by omega, by omega, ?_, by omega⟩
  rw [V_snoc, h1, ea, eb, Int.pow_succ, B9c]
  rw [B9c] at h5
  exact borrow_ring h5 rfl
theorem less_end {a b l : List Int} {k : Nat} {cy : Int} (h : LessInv a b l k cy) (hk : a.length ≤ k) (hlen : b.length ≤ a.length) (ha : Dg B9 a) (hb : Dg B9 b) (hle : V B9 b ≤ V B9 a) : V B9 l = V B9 a - V B9 b := by
  obtain ⟨h1, h2, h3, h4, h5, h6⟩ := h
  rw [List.take_of_length_le (by omega), List.take_of_length_le (by omega)] at h5
  have hlt := V_lt h2
  rw [h1] at hlt
  rcases (show cy = 0 ∨ cy = 1 by omega) with rfl | rfl
  · simpa using h5
  · rw [Int.mul_one] at h5; omega

set_option maxRecDepth 100000 in
set_option maxHeartbeats 1000000 in
theorem less_c (A A' : Option Addr) (c c' : Nat) (a b : List Int) (w : World) (h : SlI w .i64 A c a) (h' : SlI w .i64 A' c' b) (ha : Dg B9 a) (hb : Dg B9 b)
    (sa : a.length ≤ 1000000000000) (hlen : b.length ≤ a.length) (hle : V B9 b ≤ V B9 a) :
    Calls Tryz.prog 38 #[.slice A a.length c, .slice A' b.length c'] w fun e w' =>
      ∃ A1 c1 l, e = .returned (.slice A1 l.length c1) ∧ SlI w' .i64 A1 c1 l ∧ Dg B9 l ∧ V B9 l = V B9 a - V B9 b ∧ l.length ≤ a.length ∧ Below w.heap.size w w' := by
  have HH := Lib.hid ha
  have HH' := Lib.hid hb
  have HLE := Lib.hid hle
  have HLN := Lib.hid hlen
  clear ha hb hle hlen
  go_enter Tryz.func38, Tryz.ntmps38
  go_wp2
  go_loopw [5, 6, 7] (fun out cr i wr => ∃ (k : Nat) (cy : Int) (l : List Int), i = .int .i64 k ∧ cr = .int .i64 cy ∧ OwI wr w.heap.size 3 .i64 out l ∧ Below w.heap.size w wr ∧ Hid (LessInv a b l k cy))
    (fun _ _ i _ => a.length - (intOf i).toNat)
  case atStart => exact ⟨0, 0, [], rfl, rfl, OwI.nil _ _ _ _, Below.refl _ _, ⟨rfl, Dg.nil _, by simp, by simp, by simp [V], by omega⟩⟩
  case round =>
    obtain ⟨k, cy, l, rfl, rfl, HO, HB, HI⟩ := hrel
    obtain ⟨i1, i2, i3, i4, i5, i6⟩ := HI.out
    have hB := HB.size
    have x1 := (HH.out.getD (by decide) k)
    have x2 := (HH'.out.getD (by decide) k)
    change 0 ≤ gd a k ∧ gd a k < _ at x1
    change 0 ≤ gd b k ∧ gd b k < _ at x2
    rw [B9c] at x1 x2
    obtain ⟨x1, x1'⟩ := x1
    obtain ⟨x2, x2'⟩ := x2
    have I1 := Lib.hid i1
    have I2 := Lib.hid i2
    clear i5 i1 i2
    by_cases q : k < a.length
    · have H1 := Lib.hid (h'.below HB)
      obtain ⟨b1, o1, rfl, hl1, hcell1⟩ := (h.below HB).cell (j := k) q
      clear h h'
      have hL : (l.length + 1) * 8 ≤ 140737488355328 := by have := I1.out; omega
      have HL := Lib.hid hL
      clear hL
      have hi0 : (0 : Int) ≤ (k : Int) := by omega
      have hi1 : (k : Int) < (a.length : Int) := by omega
      by_cases hq : gd a k - gd b k - cy < 0
      · have HS := Lib.hid (less_step (q := 1) HI.out q (.inr rfl) (by omega) (by omega))
        rw [Int.mul_one] at HS
        clear HI
        go_wp2
        go_region_held3 (fun w' => w'.cell? ⟨b1, o1 + k, none⟩ = some (.int .i64 (gd a k))) (exact hcell1) (first
          | (go_at_call 53; (with_reducible refine (part_c A' c' b k _ (by exact H1.out.below (by repeat (with_reducible first | assumption | exact Below.refl _ _ | apply below_drew | apply below_drewN | apply below_alloc | refine below_step ?_ (by assumption))))).mono ?_); rintro e w' ⟨rfl, rfl⟩))
        have HO2 := HO.below (w' := wr.drew) (by repeat (with_reducible first | assumption | exact Below.refl _ _ | apply below_drew | apply below_drewN | apply below_alloc | refine below_step ?_ (by assumption)))
        have HB2 := below_drew HB
        have hB2 : w.heap.size ≤ wr.drew.heap.size := hB
        generalize wr.drew = w2 at HO2 HB2 hB2 ⊢
        clear HO HB hB hcell1 H1 hl1
        go_wp2_with (at_builtin; refine app_I w.heap.size rfl _ _ 22 3 .i64 8 rfl Tryz.underlying22 info_i64 (by decide) _ l _ HO2 rfl rfl HB2 hB2 HL.out ?_; intro v1 w1 HO1 HB1 hB1)
        go_roundw
        case rel => exact ⟨k + 1, _, _, by go_num, rfl, HO1, HB1, HS.out⟩
        case measure => simp [intOf]; omega
      · have HS := Lib.hid (less_step (q := 0) HI.out q (.inl rfl) (by omega) (by omega))
        rw [Int.mul_zero, Int.add_zero] at HS
        clear HI
        go_wp2
        go_region_held3 (fun w' => w'.cell? ⟨b1, o1 + k, none⟩ = some (.int .i64 (gd a k))) (exact hcell1) (first
          | (go_at_call 53; (with_reducible refine (part_c A' c' b k _ (by exact H1.out.below (by repeat (with_reducible first | assumption | exact Below.refl _ _ | apply below_drew | apply below_drewN | apply below_alloc | refine below_step ?_ (by assumption))))).mono ?_); rintro e w' ⟨rfl, rfl⟩))
        have HO2 := HO.below (w' := wr.drew) (by repeat (with_reducible first | assumption | exact Below.refl _ _ | apply below_drew | apply below_drewN | apply below_alloc | refine below_step ?_ (by assumption)))
        have HB2 := below_drew HB
        have hB2 : w.heap.size ≤ wr.drew.heap.size := hB
        generalize wr.drew = w2 at HO2 HB2 hB2 ⊢
        clear HO HB hB hcell1 H1 hl1
        go_wp2_with (at_builtin; refine app_I w.heap.size rfl _ _ 22 3 .i64 8 rfl Tryz.underlying22 info_i64 (by decide) _ l _ HO2 rfl rfl HB2 hB2 HL.out ?_; intro v1 w1 HO1 HB1 hB1)
        go_roundw
        case rel => exact ⟨k + 1, _, _, by go_num, rfl, HO1, HB1, HS.out⟩
        case measure => simp [intOf]; omega
    · have HE := Lib.hid (less_end HI.out (by omega) HLN.out HH.out HH'.out HLE.out)
      clear HI
      obtain ⟨A1, c1, rfl, hs⟩ := HO.form
      go_wp2
      go_ret
      exact ⟨A1, c1, l, rfl, hs, I2.out, HE.out, by have := I1.out; omega, HB⟩
end Go.Proofs.YtiaeeclmlchpoaaGreatDoor

set_option linter.unusedVariables false
set_option linter.unusedSimpArgs false
namespace Go.Proofs.YtiaeeclmlchpoaaGreatDoor
open Go.RowKit

/-- What a function with two numbers as parameters holds in memory. -/
theorem keep2 {n : Nat} {W w1 : World} {na nb : Bool} {sa sb : Value} (hb : Below W.heap.size W w1) (h : W.cell? ⟨n, 0, none⟩ = some (.bool na) ∧ W.cell? ⟨n, 1, none⟩ = some sa ∧ W.cell? ⟨n + 1, 0, none⟩ = some (.bool nb) ∧ W.cell? ⟨n + 1, 1, none⟩ = some sb ∧ n + 1 + 1 < W.heap.size) :
    w1.cell? ⟨n, 0, none⟩ = some (.bool na) ∧ w1.cell? ⟨n, 1, none⟩ = some sa ∧ w1.cell? ⟨n + 1, 0, none⟩ = some (.bool nb) ∧ w1.cell? ⟨n + 1, 1, none⟩ = some sb ∧ n + 1 + 1 < w1.heap.size := by
  obtain ⟨h1, h2, h3, h4, h9⟩ := h
  have hz := hb.size
  exact ⟨kcell hb (by omega) h1, kcell hb (by omega) h2, kcell hb (by omega) h3, kcell hb (by omega) h4, by omega⟩
theorem keep2s {n o : Nat} {W : World} {na nb : Bool} {sa sb u : Value} (h : W.cell? ⟨n, 0, none⟩ = some (.bool na) ∧ W.cell? ⟨n, 1, none⟩ = some sa ∧ W.cell? ⟨n + 1, 0, none⟩ = some (.bool nb) ∧ W.cell? ⟨n + 1, 1, none⟩ = some sb ∧ n + 1 + 1 < W.heap.size) :
    (W.setCell ⟨n + 1 + 1, o, none⟩ u).cell? ⟨n, 0, none⟩ = some (.bool na) ∧ (W.setCell ⟨n + 1 + 1, o, none⟩ u).cell? ⟨n, 1, none⟩ = some sa ∧ (W.setCell ⟨n + 1 + 1, o, none⟩ u).cell? ⟨n + 1, 0, none⟩ = some (.bool nb) ∧ (W.setCell ⟨n + 1 + 1, o, none⟩ u).cell? ⟨n + 1, 1, none⟩ = some sb ∧ n + 1 + 1 < (W.setCell ⟨n + 1 + 1, o, none⟩ u).heap.size := by
  obtain ⟨h1, h2, h3, h4, h9⟩ := h
  have hz : (W.setCell ⟨n + 1 + 1, o, none⟩ u).heap.size = W.heap.size := by simp [World.setCell]
  refine ⟨?_, ?_, ?_, ?_, by omega⟩ <;> rw [World.cell?_setCell_other _ _ _ _ (by simp)] <;> assumption
theorem start2 (w : World) (na nb : Bool) (sa sb : Value) (t : TypeId) (W : World)
    (hW : ((w.alloc (.cells #[.bool na, sa] t)).alloc (.cells #[.bool nb, sb] t)).alloc (.cells #[.bool false, .slice none 0 0] t) = W) :
    (W.cell? ⟨w.heap.size, 0, none⟩ = some (.bool na) ∧ W.cell? ⟨w.heap.size, 1, none⟩ = some sa ∧ W.cell? ⟨w.heap.size + 1, 0, none⟩ = some (.bool nb) ∧ W.cell? ⟨w.heap.size + 1, 1, none⟩ = some sb ∧ w.heap.size + 1 + 1 < W.heap.size) ∧ Res2 W (w.heap.size + 1 + 1) ∧ Below w.heap.size w W := by
  subst hW
  refine ⟨⟨?_, ?_, ?_, ?_, ?_⟩, ⟨⟨false, ?_⟩, ⟨none, 0, 0, ?_⟩, ?_, ?_, ?_⟩, below_alloc (below_alloc (below_alloc (Below.refl _ _) _) _) _⟩ <;> simp [go_sem]

set_option maxRecDepth 100000 in
set_option maxHeartbeats 1000000 in
theorem Add_c (x y : Int) (v1 v2 : Value) (w : World) (h1 : IsN w v1 x) (h2 : IsN w v2 y) (sx : (dg B9 x).length ≤ 1000000000000) (sy : (dg B9 y).length ≤ 1000000000000) :
    Calls Tryz.prog 14 #[v1, v2] w fun e w' => ∃ v, e = .returned v ∧ IsN w' v (x + y) ∧ Below w.heap.size w w' := by
  obtain ⟨A1, c1, rfl, hs1⟩ := h1
  obtain ⟨A2, c2, rfl, hs2⟩ := h2
  have D1 := Lib.hid (dg_dg B9two x)
  have D2 := Lib.hid (dg_dg B9two y)
  have V1 := Lib.hid (dg_V B9two x)
  have V2 := Lib.hid (dg_V B9two y)
  have N1 := Lib.hid (dg_nm B9two x)
  have N2 := Lib.hid (dg_nm B9two y)
  generalize dg B9 x = a at *
  generalize dg B9 y = b at *
  obtain ⟨na, hna⟩ : ∃ na, decide (x < 0) = na := ⟨_, rfl⟩
  obtain ⟨nb, hnb⟩ : ∃ nb, decide (y < 0) = nb := ⟨_, rfl⟩
  rw [hna, hnb]
  have HNA := Lib.hid hna
  have HNB := Lib.hid hnb
  clear hna hnb
  by_cases hsame : na = nb
  · subst hsame
    have HR : Hid (sgnd na (V B9 a + V B9 b) = x + y) := by
      show _ = _
      have e1 := HNA.out; have e2 := HNB.out
      rw [V1.out, V2.out]; unfold sgnd
      cases na <;> simp at e1 e2 <;> simp <;> omega
    cases na
    · go_enter Tryz.func14, Tryz.ntmps14
      go_wp2
      generalize hW : ((w.alloc (Obj.cells #[Value.bool _, Value.slice A1 a.length c1] 37)).alloc _).alloc _ = W
      obtain ⟨hS, HR2, HBW⟩ := start2 w _ _ _ _ _ W hW
      clear hW
      have hs1' := Lib.hid (hs1.below HBW)
      have hs2' := Lib.hid (hs2.below HBW)
      go_region_held3 (fun w' => w'.cell? ⟨w.heap.size, 0, none⟩ = some (.bool false) ∧ w'.cell? ⟨w.heap.size, 1, none⟩ = some (.slice A1 a.length c1) ∧ w'.cell? ⟨w.heap.size + 1, 0, none⟩ = some (.bool false) ∧ w'.cell? ⟨w.heap.size + 1, 1, none⟩ = some (.slice A2 b.length c2) ∧ w.heap.size + 1 + 1 < w'.heap.size)
        (first | exact hS | exact keep2 hb1 hS | exact keep2 hb2 (keep2 hb1 hS) | exact keep2s (keep2s (keep2 hb2 (keep2 hb1 hS))))
        (first
          | (go_at_call 36; (with_reducible refine (more_c A1 A2 c1 c2 a b _ (by exact hs1'.out.below (by repeat (with_reducible first | assumption | exact Below.refl _ _ | apply below_drew | apply below_drewN | apply below_alloc | refine below_step ?_ (by assumption)))) (by exact hs2'.out.below (by repeat (with_reducible first | assumption | exact Below.refl _ _ | apply below_drew | apply below_drewN | apply below_alloc | refine below_step ?_ (by assumption)))) D1.out D2.out sx sy).mono ?_); rintro e w1 ⟨A3, c3, l, rfl, hs3, hd3, hv3, hl3, hb1⟩; have HV3 := Lib.hid hv3; have HS3 := Lib.hid hs3; clear hv3 hs3)
          | (go_at_call 34; (with_reducible refine (trim_n _ A3 c3 l _ (by exact HS3.out.below (by repeat (with_reducible first | assumption | exact Below.refl _ _ | apply below_drew | apply below_drewN | apply below_alloc | refine below_step ?_ (by assumption)))) hd3).mono ?_); rintro e w2 ⟨v, rfl, hv, hb2⟩; obtain ⟨nv, A4, n4, c4, rfl, HV⟩ := hv.form; clear hv; have HR4 := Lib.hid ((HR2.drew.keep hb1).keep hb2); obtain ⟨⟨u1, r1⟩, ⟨u2, u3, u4, r2⟩, r3, r4, r5⟩ := HR4.out))
      go_wp2
      refine bodyPost_ret (v := .agg #[.bool nv, .slice A4 n4 c4]) (by simp [results, Tryz.results14, go_sem, r1, r2, r5]) rfl ⟨_, rfl, ?_, ?_⟩
      · have := HV.out
        rw [HV3.out, HR.out] at this
        exact this.res2 HR4.out _ _
      · exact below_set (below_set (below_step (below_step (below_drew HBW) hb1) hb2) (by omega) _) (by omega) _
    · go_enter Tryz.func14, Tryz.ntmps14
      go_wp2
      generalize hW : ((w.alloc (Obj.cells #[Value.bool _, Value.slice A1 a.length c1] 37)).alloc _).alloc _ = W
      obtain ⟨hS, HR2, HBW⟩ := start2 w _ _ _ _ _ W hW
      clear hW
      have hs1' := Lib.hid (hs1.below HBW)
      have hs2' := Lib.hid (hs2.below HBW)
      go_region_held3 (fun w' => w'.cell? ⟨w.heap.size, 0, none⟩ = some (.bool true) ∧ w'.cell? ⟨w.heap.size, 1, none⟩ = some (.slice A1 a.length c1) ∧ w'.cell? ⟨w.heap.size + 1, 0, none⟩ = some (.bool true) ∧ w'.cell? ⟨w.heap.size + 1, 1, none⟩ = some (.slice A2 b.length c2) ∧ w.heap.size + 1 + 1 < w'.heap.size)
        (first | exact hS | exact keep2 hb1 hS | exact keep2 hb2 (keep2 hb1 hS) | exact keep2s (keep2s (keep2 hb2 (keep2 hb1 hS))))
        (first
          | (go_at_call 36; (with_reducible refine (more_c A1 A2 c1 c2 a b _ (by exact hs1'.out.below (by repeat (with_reducible first | assumption | exact Below.refl _ _ | apply below_drew | apply below_drewN | apply below_alloc | refine below_step ?_ (by assumption)))) (by exact hs2'.out.below (by repeat (with_reducible first | assumption | exact Below.refl _ _ | apply below_drew | apply below_drewN | apply below_alloc | refine below_step ?_ (by assumption)))) D1.out D2.out sx sy).mono ?_); rintro e w1 ⟨A3, c3, l, rfl, hs3, hd3, hv3, hl3, hb1⟩; have HV3 := Lib.hid hv3; have HS3 := Lib.hid hs3; clear hv3 hs3)
          | (go_at_call 34; (with_reducible refine (trim_n _ A3 c3 l _ (by exact HS3.out.below (by repeat (with_reducible first | assumption | exact Below.refl _ _ | apply below_drew | apply below_drewN | apply below_alloc | refine below_step ?_ (by assumption)))) hd3).mono ?_); rintro e w2 ⟨v, rfl, hv, hb2⟩; obtain ⟨nv, A4, n4, c4, rfl, HV⟩ := hv.form; clear hv; have HR4 := Lib.hid ((HR2.drew.keep hb1).keep hb2); obtain ⟨⟨u1, r1⟩, ⟨u2, u3, u4, r2⟩, r3, r4, r5⟩ := HR4.out))
      go_wp2
      refine bodyPost_ret (v := .agg #[.bool nv, .slice A4 n4 c4]) (by simp [results, Tryz.results14, go_sem, r1, r2, r5]) rfl ⟨_, rfl, ?_, ?_⟩
      · have := HV.out
        rw [HV3.out, HR.out] at this
        exact this.res2 HR4.out _ _
      · exact below_set (below_set (below_step (below_step (below_drew HBW) hb1) hb2) (by omega) _) (by omega) _
  · have hdiff : ((na : Bool) == nb) = false := by simpa using hsame
    by_cases hge : V B9 b ≤ V B9 a
    · have hq : 0 ≤ icmp (V B9 a) (V B9 b) := by unfold icmp; split <;> (try split) <;> omega
      have HLE := Lib.hid hge
      have hlen : b.length ≤ a.length := by
        rcases Nat.lt_or_ge a.length b.length with h | h
        · have := V_long B9two D1.out D2.out N2.out h; omega
        · exact h
      have HR : Hid (sgnd na (V B9 a - V B9 b) = x + y) := by
        show _ = _
        have e1 := HNA.out; have e2 := HNB.out
        rw [V1.out, V2.out]; unfold sgnd
        cases na <;> cases nb <;> simp at e1 e2 hdiff <;> simp <;> omega
      clear hge
      have hnb : nb = !na := by cases na <;> cases nb <;> simp at hdiff ⊢
      subst hnb
      cases na
      · go_enter Tryz.func14, Tryz.ntmps14
        go_wp2_with fail
        generalize hW : ((w.alloc (Obj.cells #[Value.bool _, Value.slice A1 a.length c1] 37)).alloc _).alloc _ = W
        obtain ⟨hS, HR2, HBW⟩ := start2 w _ _ _ _ _ W hW
        clear hW
        have hs1' := Lib.hid (hs1.below HBW)
        have hs2' := Lib.hid (hs2.below HBW)
        (with_reducible refine (size_b A1 A2 c1 c2 a b _ (by exact hs1'.out.below (by repeat (with_reducible first | assumption | exact Below.refl _ _ | apply below_drew | apply below_drewN | apply below_alloc | refine below_step ?_ (by assumption)))) (by exact hs2'.out.below (by repeat (with_reducible first | assumption | exact Below.refl _ _ | apply below_drew | apply below_drewN | apply below_alloc | refine below_step ?_ (by assumption)))) D1.out D2.out N1.out N2.out).mono ?_)
        rintro e w0 ⟨rfl, hb0⟩
        replace hS := keep2 hb0 hS
        replace HR2 := HR2.keep hb0
        replace HBW := below_step HBW hb0
        replace hs1' := Lib.hid (hs1'.out.below hb0)
        replace hs2' := Lib.hid (hs2'.out.below hb0)
        clear hb0
        go_wp2
        go_region_held3 (fun w' => w'.cell? ⟨w.heap.size, 0, none⟩ = some (.bool false) ∧ w'.cell? ⟨w.heap.size, 1, none⟩ = some (.slice A1 a.length c1) ∧ w'.cell? ⟨w.heap.size + 1, 0, none⟩ = some (.bool true) ∧ w'.cell? ⟨w.heap.size + 1, 1, none⟩ = some (.slice A2 b.length c2) ∧ w.heap.size + 1 + 1 < w'.heap.size)
          (first | exact hS | exact keep2 hb1 hS | exact keep2 hb2 (keep2 hb1 hS) | exact keep2s (keep2s (keep2 hb2 (keep2 hb1 hS))))
          (first
            | (go_at_call 38; (with_reducible refine (less_c A1 A2 c1 c2 a b _ (by exact hs1'.out.below (by repeat (with_reducible first | assumption | exact Below.refl _ _ | apply below_drew | apply below_drewN | apply below_alloc | refine below_step ?_ (by assumption)))) (by exact hs2'.out.below (by repeat (with_reducible first | assumption | exact Below.refl _ _ | apply below_drew | apply below_drewN | apply below_alloc | refine below_step ?_ (by assumption)))) D1.out D2.out sx hlen HLE.out).mono ?_); rintro e w1 ⟨A3, c3, l, rfl, hs3, hd3, hv3, hl3, hb1⟩; have HV3 := Lib.hid hv3; have HS3 := Lib.hid hs3; clear hv3 hs3)
            | (go_at_call 34; (with_reducible refine (trim_n _ A3 c3 l _ (by exact HS3.out.below (by repeat (with_reducible first | assumption | exact Below.refl _ _ | apply below_drew | apply below_drewN | apply below_alloc | refine below_step ?_ (by assumption)))) hd3).mono ?_); rintro e w2 ⟨v, rfl, hv, hb2⟩; obtain ⟨nv, A4, n4, c4, rfl, HV⟩ := hv.form; clear hv; have HR4 := Lib.hid ((HR2.drew.keep hb1).keep hb2); obtain ⟨⟨u1, r1⟩, ⟨u2, u3, u4, r2⟩, r3, r4, r5⟩ := HR4.out))
        go_wp2
        refine bodyPost_ret (v := .agg #[.bool nv, .slice A4 n4 c4]) (by simp [results, Tryz.results14, go_sem, r1, r2, r5]) rfl ⟨_, rfl, ?_, ?_⟩
        · have := HV.out
          rw [HV3.out, HR.out] at this
          exact this.res2 HR4.out _ _
        · exact below_set (below_set (below_step (below_step (below_drew HBW) hb1) hb2) (by omega) _) (by omega) _
      · go_enter Tryz.func14, Tryz.ntmps14
        go_wp2_with fail
        generalize hW : ((w.alloc (Obj.cells #[Value.bool _, Value.slice A1 a.length c1] 37)).alloc _).alloc _ = W
        obtain ⟨hS, HR2, HBW⟩ := start2 w _ _ _ _ _ W hW
        clear hW
        have hs1' := Lib.hid (hs1.below HBW)
        have hs2' := Lib.hid (hs2.below HBW)
        (with_reducible refine (size_b A1 A2 c1 c2 a b _ (by exact hs1'.out.below (by repeat (with_reducible first | assumption | exact Below.refl _ _ | apply below_drew | apply below_drewN | apply below_alloc | refine below_step ?_ (by assumption)))) (by exact hs2'.out.below (by repeat (with_reducible first | assumption | exact Below.refl _ _ | apply below_drew | apply below_drewN | apply below_alloc | refine below_step ?_ (by assumption)))) D1.out D2.out N1.out N2.out).mono ?_)
        rintro e w0 ⟨rfl, hb0⟩
        replace hS := keep2 hb0 hS
        replace HR2 := HR2.keep hb0
        replace HBW := below_step HBW hb0
        replace hs1' := Lib.hid (hs1'.out.below hb0)
        replace hs2' := Lib.hid (hs2'.out.below hb0)
        clear hb0
        go_wp2
        go_region_held3 (fun w' => w'.cell? ⟨w.heap.size, 0, none⟩ = some (.bool true) ∧ w'.cell? ⟨w.heap.size, 1, none⟩ = some (.slice A1 a.length c1) ∧ w'.cell? ⟨w.heap.size + 1, 0, none⟩ = some (.bool false) ∧ w'.cell? ⟨w.heap.size + 1, 1, none⟩ = some (.slice A2 b.length c2) ∧ w.heap.size + 1 + 1 < w'.heap.size)
          (first | exact hS | exact keep2 hb1 hS | exact keep2 hb2 (keep2 hb1 hS) | exact keep2s (keep2s (keep2 hb2 (keep2 hb1 hS))))
          (first
            | (go_at_call 38; (with_reducible refine (less_c A1 A2 c1 c2 a b _ (by exact hs1'.out.below (by repeat (with_reducible first | assumption | exact Below.refl _ _ | apply below_drew | apply below_drewN | apply below_alloc | refine below_step ?_ (by assumption)))) (by exact hs2'.out.below (by repeat (with_reducible first | assumption | exact Below.refl _ _ | apply below_drew | apply below_drewN | apply below_alloc | refine below_step ?_ (by assumption)))) D1.out D2.out sx hlen HLE.out).mono ?_); rintro e w1 ⟨A3, c3, l, rfl, hs3, hd3, hv3, hl3, hb1⟩; have HV3 := Lib.hid hv3; have HS3 := Lib.hid hs3; clear hv3 hs3)
            | (go_at_call 34; (with_reducible refine (trim_n _ A3 c3 l _ (by exact HS3.out.below (by repeat (with_reducible first | assumption | exact Below.refl _ _ | apply below_drew | apply below_drewN | apply below_alloc | refine below_step ?_ (by assumption)))) hd3).mono ?_); rintro e w2 ⟨v, rfl, hv, hb2⟩; obtain ⟨nv, A4, n4, c4, rfl, HV⟩ := hv.form; clear hv; have HR4 := Lib.hid ((HR2.drew.keep hb1).keep hb2); obtain ⟨⟨u1, r1⟩, ⟨u2, u3, u4, r2⟩, r3, r4, r5⟩ := HR4.out))
        go_wp2
        refine bodyPost_ret (v := .agg #[.bool nv, .slice A4 n4 c4]) (by simp [results, Tryz.results14, go_sem, r1, r2, r5]) rfl ⟨_, rfl, ?_, ?_⟩
        · have := HV.out
          rw [HV3.out, HR.out] at this
          exact this.res2 HR4.out _ _
        · exact below_set (below_set (below_step (below_step (below_drew HBW) hb1) hb2) (by omega) _) (by omega) _
    · have hq : icmp (V B9 a) (V B9 b) < 0 := by unfold icmp; split <;> (try split) <;> omega
      have HLE : Hid (V B9 a ≤ V B9 b) := by show _ ≤ _; omega
      have hlen : a.length ≤ b.length := by
        rcases Nat.lt_or_ge b.length a.length with h | h
        · have := V_long B9two D2.out D1.out N1.out h; omega
        · exact h
      have HR : Hid (sgnd nb (V B9 b - V B9 a) = x + y) := by
        show _ = _
        have e1 := HNA.out; have e2 := HNB.out
        rw [V1.out, V2.out]; unfold sgnd
        cases na <;> cases nb <;> simp at e1 e2 hdiff <;> simp <;> omega
      clear hge
      have hnb : nb = !na := by cases na <;> cases nb <;> simp at hdiff ⊢
      subst hnb
      cases na
      · go_enter Tryz.func14, Tryz.ntmps14
        go_wp2_with fail
        generalize hW : ((w.alloc (Obj.cells #[Value.bool _, Value.slice A1 a.length c1] 37)).alloc _).alloc _ = W
        obtain ⟨hS, HR2, HBW⟩ := start2 w _ _ _ _ _ W hW
        clear hW
        have hs1' := Lib.hid (hs1.below HBW)
        have hs2' := Lib.hid (hs2.below HBW)
        (with_reducible refine (size_b A1 A2 c1 c2 a b _ (by exact hs1'.out.below (by repeat (with_reducible first | assumption | exact Below.refl _ _ | apply below_drew | apply below_drewN | apply below_alloc | refine below_step ?_ (by assumption)))) (by exact hs2'.out.below (by repeat (with_reducible first | assumption | exact Below.refl _ _ | apply below_drew | apply below_drewN | apply below_alloc | refine below_step ?_ (by assumption)))) D1.out D2.out N1.out N2.out).mono ?_)
        rintro e w0 ⟨rfl, hb0⟩
        replace hS := keep2 hb0 hS
        replace HR2 := HR2.keep hb0
        replace HBW := below_step HBW hb0
        replace hs1' := Lib.hid (hs1'.out.below hb0)
        replace hs2' := Lib.hid (hs2'.out.below hb0)
        clear hb0
        go_wp2
        go_region_held3 (fun w' => w'.cell? ⟨w.heap.size, 0, none⟩ = some (.bool false) ∧ w'.cell? ⟨w.heap.size, 1, none⟩ = some (.slice A1 a.length c1) ∧ w'.cell? ⟨w.heap.size + 1, 0, none⟩ = some (.bool true) ∧ w'.cell? ⟨w.heap.size + 1, 1, none⟩ = some (.slice A2 b.length c2) ∧ w.heap.size + 1 + 1 < w'.heap.size)
          (first | exact hS | exact keep2 hb1 hS | exact keep2 hb2 (keep2 hb1 hS) | exact keep2s (keep2s (keep2 hb2 (keep2 hb1 hS))))
          (first
            | (go_at_call 38; (with_reducible refine (less_c A2 A1 c2 c1 b a _ (by exact hs2'.out.below (by repeat (with_reducible first | assumption | exact Below.refl _ _ | apply below_drew | apply below_drewN | apply below_alloc | refine below_step ?_ (by assumption)))) (by exact hs1'.out.below (by repeat (with_reducible first | assumption | exact Below.refl _ _ | apply below_drew | apply below_drewN | apply below_alloc | refine below_step ?_ (by assumption)))) D2.out D1.out sy hlen HLE.out).mono ?_); rintro e w1 ⟨A3, c3, l, rfl, hs3, hd3, hv3, hl3, hb1⟩; have HV3 := Lib.hid hv3; have HS3 := Lib.hid hs3; clear hv3 hs3)
            | (go_at_call 34; (with_reducible refine (trim_n _ A3 c3 l _ (by exact HS3.out.below (by repeat (with_reducible first | assumption | exact Below.refl _ _ | apply below_drew | apply below_drewN | apply below_alloc | refine below_step ?_ (by assumption)))) hd3).mono ?_); rintro e w2 ⟨v, rfl, hv, hb2⟩; obtain ⟨nv, A4, n4, c4, rfl, HV⟩ := hv.form; clear hv; have HR4 := Lib.hid ((HR2.drew.keep hb1).keep hb2); obtain ⟨⟨u1, r1⟩, ⟨u2, u3, u4, r2⟩, r3, r4, r5⟩ := HR4.out))
        go_wp2
        refine bodyPost_ret (v := .agg #[.bool nv, .slice A4 n4 c4]) (by simp [results, Tryz.results14, go_sem, r1, r2, r5]) rfl ⟨_, rfl, ?_, ?_⟩
        · have := HV.out
          have e : sgnd true (V B9 b - V B9 a) = x + y := HR.out
          rw [HV3.out, e] at this
          exact this.res2 HR4.out _ _
        · exact below_set (below_set (below_step (below_step (below_drew HBW) hb1) hb2) (by omega) _) (by omega) _
      · go_enter Tryz.func14, Tryz.ntmps14
        go_wp2_with fail
        generalize hW : ((w.alloc (Obj.cells #[Value.bool _, Value.slice A1 a.length c1] 37)).alloc _).alloc _ = W
        obtain ⟨hS, HR2, HBW⟩ := start2 w _ _ _ _ _ W hW
        clear hW
        have hs1' := Lib.hid (hs1.below HBW)
        have hs2' := Lib.hid (hs2.below HBW)
        (with_reducible refine (size_b A1 A2 c1 c2 a b _ (by exact hs1'.out.below (by repeat (with_reducible first | assumption | exact Below.refl _ _ | apply below_drew | apply below_drewN | apply below_alloc | refine below_step ?_ (by assumption)))) (by exact hs2'.out.below (by repeat (with_reducible first | assumption | exact Below.refl _ _ | apply below_drew | apply below_drewN | apply below_alloc | refine below_step ?_ (by assumption)))) D1.out D2.out N1.out N2.out).mono ?_)
        rintro e w0 ⟨rfl, hb0⟩
        replace hS := keep2 hb0 hS
        replace HR2 := HR2.keep hb0
        replace HBW := below_step HBW hb0
        replace hs1' := Lib.hid (hs1'.out.below hb0)
        replace hs2' := Lib.hid (hs2'.out.below hb0)
        clear hb0
        go_wp2
        go_region_held3 (fun w' => w'.cell? ⟨w.heap.size, 0, none⟩ = some (.bool true) ∧ w'.cell? ⟨w.heap.size, 1, none⟩ = some (.slice A1 a.length c1) ∧ w'.cell? ⟨w.heap.size + 1, 0, none⟩ = some (.bool false) ∧ w'.cell? ⟨w.heap.size + 1, 1, none⟩ = some (.slice A2 b.length c2) ∧ w.heap.size + 1 + 1 < w'.heap.size)
          (first | exact hS | exact keep2 hb1 hS | exact keep2 hb2 (keep2 hb1 hS) | exact keep2s (keep2s (keep2 hb2 (keep2 hb1 hS))))
          (first
            | (go_at_call 38; (with_reducible refine (less_c A2 A1 c2 c1 b a _ (by exact hs2'.out.below (by repeat (with_reducible first | assumption | exact Below.refl _ _ | apply below_drew | apply below_drewN | apply below_alloc | refine below_step ?_ (by assumption)))) (by exact hs1'.out.below (by repeat (with_reducible first | assumption | exact Below.refl _ _ | apply below_drew | apply below_drewN | apply below_alloc | refine below_step ?_ (by assumption)))) D2.out D1.out sy hlen HLE.out).mono ?_); rintro e w1 ⟨A3, c3, l, rfl, hs3, hd3, hv3, hl3, hb1⟩; have HV3 := Lib.hid hv3; have HS3 := Lib.hid hs3; clear hv3 hs3)
            | (go_at_call 34; (with_reducible refine (trim_n _ A3 c3 l _ (by exact HS3.out.below (by repeat (with_reducible first | assumption | exact Below.refl _ _ | apply below_drew | apply below_drewN | apply below_alloc | refine below_step ?_ (by assumption)))) hd3).mono ?_); rintro e w2 ⟨v, rfl, hv, hb2⟩; obtain ⟨nv, A4, n4, c4, rfl, HV⟩ := hv.form; clear hv; have HR4 := Lib.hid ((HR2.drew.keep hb1).keep hb2); obtain ⟨⟨u1, r1⟩, ⟨u2, u3, u4, r2⟩, r3, r4, r5⟩ := HR4.out))
        go_wp2
        refine bodyPost_ret (v := .agg #[.bool nv, .slice A4 n4 c4]) (by simp [results, Tryz.results14, go_sem, r1, r2, r5]) rfl ⟨_, rfl, ?_, ?_⟩
        · have := HV.out
          have e : sgnd false (V B9 b - V B9 a) = x + y := HR.out
          rw [HV3.out, e] at this
          exact this.res2 HR4.out _ _
        · exact below_set (below_set (below_step (below_step (below_drew HBW) hb1) hb2) (by omega) _) (by omega) _
end Go.Proofs.YtiaeeclmlchpoaaGreatDoor

set_option linter.unusedVariables false
set_option linter.unusedSimpArgs false
namespace Go.Proofs.YtiaeeclmlchpoaaGreatDoor
open Go.RowKit

theorem dg_neg (B : Nat) (z : Int) : dg B (-z) = dg B z := by unfold dg; rw [Int.natAbs_neg]


/-- The sign. -/
def sgn (x : Int) : Int := if x = 0 then 0 else if x < 0 then -1 else 1
theorem Sign_s (x : Int) (v : Value) (w : World) (h : IsN w v x) :
    Calls Tryz.prog 55 #[v] w fun e w' => e = .returned (.int .i64 (sgn x)) ∧ Below w.heap.size w w' := Sign_c x v w h

theorem keepC {n : Nat} {W w1 : World} {na nb : Bool} {sa sb : Value} (hb : Below W.heap.size W w1) (h : W.cell? ⟨n, 0, none⟩ = some (.bool na) ∧ W.cell? ⟨n, 1, none⟩ = some sa ∧ W.cell? ⟨n + 1, 0, none⟩ = some (.bool nb) ∧ W.cell? ⟨n + 1, 1, none⟩ = some sb ∧ n + 1 < W.heap.size) : w1.cell? ⟨n, 0, none⟩ = some (.bool na) ∧ w1.cell? ⟨n, 1, none⟩ = some sa ∧ w1.cell? ⟨n + 1, 0, none⟩ = some (.bool nb) ∧ w1.cell? ⟨n + 1, 1, none⟩ = some sb ∧ n + 1 < w1.heap.size := by
  obtain ⟨h1, h2, h3, h4, h9⟩ := h
  have hz := hb.size
  exact ⟨kcell hb (by omega) h1, kcell hb (by omega) h2, kcell hb (by omega) h3, kcell hb (by omega) h4, by omega⟩
theorem startC (w : World) (na nb : Bool) (sa sb : Value) (t : TypeId) (W : World) (hW : (w.alloc (.cells #[.bool na, sa] t)).alloc (.cells #[.bool nb, sb] t) = W) :
    (W.cell? ⟨w.heap.size, 0, none⟩ = some (.bool na) ∧ W.cell? ⟨w.heap.size, 1, none⟩ = some sa ∧ W.cell? ⟨w.heap.size + 1, 0, none⟩ = some (.bool nb) ∧ W.cell? ⟨w.heap.size + 1, 1, none⟩ = some sb ∧ w.heap.size + 1 < W.heap.size) ∧ Below w.heap.size w W := by
  subst hW
  refine ⟨⟨?_, ?_, ?_, ?_, ?_⟩, below_alloc (below_alloc (Below.refl _ _) _) _⟩ <;> simp [go_sem]

theorem icmp_neg (x y : Int) : icmp (-x) (-y) = icmp y x := by
  unfold icmp
  by_cases a : -x < -y
  · rw [if_pos a, if_pos (by omega)]
  · rw [if_neg a, if_neg (show ¬ y < x by omega)]
    by_cases b : x < y
    · rw [if_pos (by omega), if_pos b]
    · rw [if_neg (by omega), if_neg b]
set_option maxRecDepth 100000 in
set_option maxHeartbeats 1000000 in
theorem Cmp_c (x y : Int) (v1 v2 : Value) (w : World) (h1 : IsN w v1 x) (h2 : IsN w v2 y) :
    Calls Tryz.prog 40 #[v1, v2] w fun e w' => e = .returned (.int .i64 (icmp x y)) ∧ Below w.heap.size w w' := by
  obtain ⟨A1, c1, rfl, hs1⟩ := h1
  obtain ⟨A2, c2, rfl, hs2⟩ := h2
  have H1 : Hid (IsN w (.agg #[.bool (decide (x < 0)), .slice A1 (dg B9 x).length c1]) x) := ⟨A1, c1, rfl, hs1⟩
  have H2 : Hid (IsN w (.agg #[.bool (decide (y < 0)), .slice A2 (dg B9 y).length c2]) y) := ⟨A2, c2, rfl, hs2⟩
  have D1 := Lib.hid (dg_dg B9two x)
  have D2 := Lib.hid (dg_dg B9two y)
  have N1 := Lib.hid (dg_nm B9two x)
  have N2 := Lib.hid (dg_nm B9two y)
  have V1 := Lib.hid (dg_V B9two x)
  have V2 := Lib.hid (dg_V B9two y)
  have L1 := Lib.hid hs1
  have L2 := Lib.hid hs2
  clear hs1 hs2
  generalize dg B9 x = a at *
  generalize dg B9 y = b at *
  obtain ⟨na, hna⟩ : ∃ na, decide (x < 0) = na := ⟨_, rfl⟩
  obtain ⟨nb, hnb⟩ : ∃ nb, decide (y < 0) = nb := ⟨_, rfl⟩
  rw [hna] at H1 ⊢
  rw [hnb] at H2 ⊢
  by_cases hne : sgn x = sgn y
  · have hq : (sgn x != sgn y) = false := by simpa using hne
    by_cases hneg : x < 0
    · have hn : na = true := by rw [← hna]; simpa using hneg
      have hy : y < 0 := by unfold sgn at hne; rw [if_neg (by omega), if_pos hneg] at hne; split at hne <;> (try split at hne) <;> omega
      have HR : Hid (icmp (V B9 b) (V B9 a) = icmp x y) := by
        show _ = _
        rw [V1.out, V2.out, ← icmp_neg, show -((y.natAbs : Nat) : Int) = y by omega, show -((x.natAbs : Nat) : Int) = x by omega]
      subst hn
      clear hne hna hnb hneg hy
      go_enter Tryz.func40, Tryz.ntmps40
      go_wp2_with fail
      generalize hW : (w.alloc (Obj.cells #[Value.bool _, Value.slice A1 a.length c1] 37)).alloc _ = W
      obtain ⟨hS, HB⟩ := startC w _ _ _ _ _ W hW
      clear hW
      replace L1 := Lib.hid (L1.out.below HB)
      replace L2 := Lib.hid (L2.out.below HB)
      replace H1 := Lib.hid (H1.out.below HB)
      replace H2 := Lib.hid (H2.out.below HB)
      go_region_held3 (fun w' => w'.cell? ⟨w.heap.size, 0, none⟩ = some (.bool true) ∧ w'.cell? ⟨w.heap.size, 1, none⟩ = some (.slice A1 a.length c1) ∧ w'.cell? ⟨w.heap.size + 1, 0, none⟩ = some (.bool nb) ∧ w'.cell? ⟨w.heap.size + 1, 1, none⟩ = some (.slice A2 b.length c2) ∧ w.heap.size + 1 < w'.heap.size)
        (first | exact hS | exact keepC hba1 hS | exact keepC hbb1 (keepC hba1 hS))
        (first
          | (go_at_call 55; (with_reducible refine (Sign_s x (.agg #[.bool true, .slice A1 a.length c1]) _ (by exact H1.out.below (by repeat (with_reducible first | assumption | exact Below.refl _ _ | apply below_drew | apply below_drewN | apply below_alloc | refine below_step ?_ (by assumption))))).mono ?_); rintro e wa1 ⟨rfl, hba1⟩)
          | (go_at_call 55; (with_reducible refine (Sign_s y (.agg #[.bool nb, .slice A2 b.length c2]) _ (by exact H2.out.below (by repeat (with_reducible first | assumption | exact Below.refl _ _ | apply below_drew | apply below_drewN | apply below_alloc | refine below_step ?_ (by assumption))))).mono ?_); rintro e wb1 ⟨rfl, hbb1⟩))
      replace hS := keepC hbb1 (keepC hba1 hS)
      replace HB := below_step (below_step (below_drew HB) hba1) hbb1
      replace L1 := Lib.hid (L1.out.below (below_step (below_step (below_drew (Below.refl _ _)) hba1) hbb1))
      replace L2 := Lib.hid (L2.out.below (below_step (below_step (below_drew (Below.refl _ _)) hba1) hbb1))
      replace H1 := Lib.hid (H1.out.below (below_step (below_step (below_drew (Below.refl _ _)) hba1) hbb1))
      replace H2 := Lib.hid (H2.out.below (below_step (below_step (below_drew (Below.refl _ _)) hba1) hbb1))
      clear hba1 hbb1
      go_wp2_with (go_at_call 37; (with_reducible refine (size_b A2 A1 c2 c1 b a _ L2.out L1.out D2.out D1.out N2.out N1.out).mono ?_); rintro e w3 ⟨rfl, hb3⟩)
      go_ret
      exact ⟨by rw [← HR.out]; rfl, below_step HB hb3⟩
    · have hn : na = false := by rw [← hna]; simpa using hneg
      have hy : ¬ y < 0 := by unfold sgn at hne; split at hne <;> (try split at hne) <;> (try split at hne) <;> omega
      have HR : Hid (icmp (V B9 a) (V B9 b) = icmp x y) := by
        show _ = _
        rw [V1.out, V2.out, show ((y.natAbs : Nat) : Int) = y by omega, show ((x.natAbs : Nat) : Int) = x by omega]
      subst hn
      clear hne hna hnb hneg hy
      go_enter Tryz.func40, Tryz.ntmps40
      go_wp2_with fail
      generalize hW : (w.alloc (Obj.cells #[Value.bool _, Value.slice A1 a.length c1] 37)).alloc _ = W
      obtain ⟨hS, HB⟩ := startC w _ _ _ _ _ W hW
      clear hW
      replace L1 := Lib.hid (L1.out.below HB)
      replace L2 := Lib.hid (L2.out.below HB)
      replace H1 := Lib.hid (H1.out.below HB)
      replace H2 := Lib.hid (H2.out.below HB)
      go_region_held3 (fun w' => w'.cell? ⟨w.heap.size, 0, none⟩ = some (.bool false) ∧ w'.cell? ⟨w.heap.size, 1, none⟩ = some (.slice A1 a.length c1) ∧ w'.cell? ⟨w.heap.size + 1, 0, none⟩ = some (.bool nb) ∧ w'.cell? ⟨w.heap.size + 1, 1, none⟩ = some (.slice A2 b.length c2) ∧ w.heap.size + 1 < w'.heap.size)
        (first | exact hS | exact keepC hba1 hS | exact keepC hbb1 (keepC hba1 hS))
        (first
          | (go_at_call 55; (with_reducible refine (Sign_s x (.agg #[.bool false, .slice A1 a.length c1]) _ (by exact H1.out.below (by repeat (with_reducible first | assumption | exact Below.refl _ _ | apply below_drew | apply below_drewN | apply below_alloc | refine below_step ?_ (by assumption))))).mono ?_); rintro e wa1 ⟨rfl, hba1⟩)
          | (go_at_call 55; (with_reducible refine (Sign_s y (.agg #[.bool nb, .slice A2 b.length c2]) _ (by exact H2.out.below (by repeat (with_reducible first | assumption | exact Below.refl _ _ | apply below_drew | apply below_drewN | apply below_alloc | refine below_step ?_ (by assumption))))).mono ?_); rintro e wb1 ⟨rfl, hbb1⟩))
      replace hS := keepC hbb1 (keepC hba1 hS)
      replace HB := below_step (below_step (below_drew HB) hba1) hbb1
      replace L1 := Lib.hid (L1.out.below (below_step (below_step (below_drew (Below.refl _ _)) hba1) hbb1))
      replace L2 := Lib.hid (L2.out.below (below_step (below_step (below_drew (Below.refl _ _)) hba1) hbb1))
      replace H1 := Lib.hid (H1.out.below (below_step (below_step (below_drew (Below.refl _ _)) hba1) hbb1))
      replace H2 := Lib.hid (H2.out.below (below_step (below_step (below_drew (Below.refl _ _)) hba1) hbb1))
      clear hba1 hbb1
      go_wp2_with (go_at_call 37; (with_reducible refine (size_b A1 A2 c1 c2 a b _ L1.out L2.out D1.out D2.out N1.out N2.out).mono ?_); rintro e w3 ⟨rfl, hb3⟩)
      go_ret
      exact ⟨by rw [← HR.out]; rfl, below_step HB hb3⟩
  · have hq : (sgn x != sgn y) = true := by simpa using hne
    by_cases hlt : sgn x < sgn y
    · have HR : Hid (icmp x y = -1) := by
        show _ = _; unfold icmp; rw [if_pos]; unfold sgn at hlt; split at hlt <;> split at hlt <;> (try split at hlt) <;> (try split at hlt) <;> omega
      clear hne hna hnb
      go_enter Tryz.func40, Tryz.ntmps40
      go_wp2_with fail
      generalize hW : (w.alloc (Obj.cells #[Value.bool _, Value.slice A1 a.length c1] 37)).alloc _ = W
      obtain ⟨hS, HB⟩ := startC w _ _ _ _ _ W hW
      clear hW
      replace L1 := Lib.hid (L1.out.below HB)
      replace L2 := Lib.hid (L2.out.below HB)
      replace H1 := Lib.hid (H1.out.below HB)
      replace H2 := Lib.hid (H2.out.below HB)
      go_region_held3 (fun w' => w'.cell? ⟨w.heap.size, 0, none⟩ = some (.bool na) ∧ w'.cell? ⟨w.heap.size, 1, none⟩ = some (.slice A1 a.length c1) ∧ w'.cell? ⟨w.heap.size + 1, 0, none⟩ = some (.bool nb) ∧ w'.cell? ⟨w.heap.size + 1, 1, none⟩ = some (.slice A2 b.length c2) ∧ w.heap.size + 1 < w'.heap.size)
        (first | exact hS | exact keepC hba1 hS | exact keepC hbb1 (keepC hba1 hS))
        (first
          | (go_at_call 55; (with_reducible refine (Sign_s x (.agg #[.bool na, .slice A1 a.length c1]) _ (by exact H1.out.below (by repeat (with_reducible first | assumption | exact Below.refl _ _ | apply below_drew | apply below_drewN | apply below_alloc | refine below_step ?_ (by assumption))))).mono ?_); rintro e wa1 ⟨rfl, hba1⟩)
          | (go_at_call 55; (with_reducible refine (Sign_s y (.agg #[.bool nb, .slice A2 b.length c2]) _ (by exact H2.out.below (by repeat (with_reducible first | assumption | exact Below.refl _ _ | apply below_drew | apply below_drewN | apply below_alloc | refine below_step ?_ (by assumption))))).mono ?_); rintro e wb1 ⟨rfl, hbb1⟩))
      replace hS := keepC hbb1 (keepC hba1 hS)
      replace HB := below_step (below_step (below_drew HB) hba1) hbb1
      replace L1 := Lib.hid (L1.out.below (below_step (below_step (below_drew (Below.refl _ _)) hba1) hbb1))
      replace L2 := Lib.hid (L2.out.below (below_step (below_step (below_drew (Below.refl _ _)) hba1) hbb1))
      replace H1 := Lib.hid (H1.out.below (below_step (below_step (below_drew (Below.refl _ _)) hba1) hbb1))
      replace H2 := Lib.hid (H2.out.below (below_step (below_step (below_drew (Below.refl _ _)) hba1) hbb1))
      clear hba1 hbb1
      go_wp2
      go_region_held3 (fun w' => w'.cell? ⟨w.heap.size, 0, none⟩ = some (.bool na) ∧ w'.cell? ⟨w.heap.size, 1, none⟩ = some (.slice A1 a.length c1) ∧ w'.cell? ⟨w.heap.size + 1, 0, none⟩ = some (.bool nb) ∧ w'.cell? ⟨w.heap.size + 1, 1, none⟩ = some (.slice A2 b.length c2) ∧ w.heap.size + 1 < w'.heap.size)
        (first | exact hS | exact keepC hba2 hS | exact keepC hbb2 (keepC hba2 hS))
        (first
          | (go_at_call 55; (with_reducible refine (Sign_s x (.agg #[.bool na, .slice A1 a.length c1]) _ (by exact H1.out.below (by repeat (with_reducible first | assumption | exact Below.refl _ _ | apply below_drew | apply below_drewN | apply below_alloc | refine below_step ?_ (by assumption))))).mono ?_); rintro e wa2 ⟨rfl, hba2⟩)
          | (go_at_call 55; (with_reducible refine (Sign_s y (.agg #[.bool nb, .slice A2 b.length c2]) _ (by exact H2.out.below (by repeat (with_reducible first | assumption | exact Below.refl _ _ | apply below_drew | apply below_drewN | apply below_alloc | refine below_step ?_ (by assumption))))).mono ?_); rintro e wb2 ⟨rfl, hbb2⟩))
      replace hS := keepC hbb2 (keepC hba2 hS)
      replace HB := below_step (below_step (below_drew HB) hba2) hbb2
      replace L1 := Lib.hid (L1.out.below (below_step (below_step (below_drew (Below.refl _ _)) hba2) hbb2))
      replace L2 := Lib.hid (L2.out.below (below_step (below_step (below_drew (Below.refl _ _)) hba2) hbb2))
      replace H1 := Lib.hid (H1.out.below (below_step (below_step (below_drew (Below.refl _ _)) hba2) hbb2))
      replace H2 := Lib.hid (H2.out.below (below_step (below_step (below_drew (Below.refl _ _)) hba2) hbb2))
      clear hba2 hbb2
      go_wp2
      go_ret
      exact ⟨by rw [HR.out]; rfl, HB⟩
    · have HR : Hid (icmp x y = 1) := by
        show _ = _; unfold icmp; rw [if_neg, if_pos] <;> (unfold sgn at hlt hne; split at hlt <;> split at hlt <;> (try split at hlt) <;> (try split at hlt) <;> omega)
      clear hne hna hnb
      go_enter Tryz.func40, Tryz.ntmps40
      go_wp2_with fail
      generalize hW : (w.alloc (Obj.cells #[Value.bool _, Value.slice A1 a.length c1] 37)).alloc _ = W
      obtain ⟨hS, HB⟩ := startC w _ _ _ _ _ W hW
      clear hW
      replace L1 := Lib.hid (L1.out.below HB)
      replace L2 := Lib.hid (L2.out.below HB)
      replace H1 := Lib.hid (H1.out.below HB)
      replace H2 := Lib.hid (H2.out.below HB)
      go_region_held3 (fun w' => w'.cell? ⟨w.heap.size, 0, none⟩ = some (.bool na) ∧ w'.cell? ⟨w.heap.size, 1, none⟩ = some (.slice A1 a.length c1) ∧ w'.cell? ⟨w.heap.size + 1, 0, none⟩ = some (.bool nb) ∧ w'.cell? ⟨w.heap.size + 1, 1, none⟩ = some (.slice A2 b.length c2) ∧ w.heap.size + 1 < w'.heap.size)
        (first | exact hS | exact keepC hba1 hS | exact keepC hbb1 (keepC hba1 hS))
        (first
          | (go_at_call 55; (with_reducible refine (Sign_s x (.agg #[.bool na, .slice A1 a.length c1]) _ (by exact H1.out.below (by repeat (with_reducible first | assumption | exact Below.refl _ _ | apply below_drew | apply below_drewN | apply below_alloc | refine below_step ?_ (by assumption))))).mono ?_); rintro e wa1 ⟨rfl, hba1⟩)
          | (go_at_call 55; (with_reducible refine (Sign_s y (.agg #[.bool nb, .slice A2 b.length c2]) _ (by exact H2.out.below (by repeat (with_reducible first | assumption | exact Below.refl _ _ | apply below_drew | apply below_drewN | apply below_alloc | refine below_step ?_ (by assumption))))).mono ?_); rintro e wb1 ⟨rfl, hbb1⟩))
      replace hS := keepC hbb1 (keepC hba1 hS)
      replace HB := below_step (below_step (below_drew HB) hba1) hbb1
      replace L1 := Lib.hid (L1.out.below (below_step (below_step (below_drew (Below.refl _ _)) hba1) hbb1))
      replace L2 := Lib.hid (L2.out.below (below_step (below_step (below_drew (Below.refl _ _)) hba1) hbb1))
      replace H1 := Lib.hid (H1.out.below (below_step (below_step (below_drew (Below.refl _ _)) hba1) hbb1))
      replace H2 := Lib.hid (H2.out.below (below_step (below_step (below_drew (Below.refl _ _)) hba1) hbb1))
      clear hba1 hbb1
      go_wp2
      go_region_held3 (fun w' => w'.cell? ⟨w.heap.size, 0, none⟩ = some (.bool na) ∧ w'.cell? ⟨w.heap.size, 1, none⟩ = some (.slice A1 a.length c1) ∧ w'.cell? ⟨w.heap.size + 1, 0, none⟩ = some (.bool nb) ∧ w'.cell? ⟨w.heap.size + 1, 1, none⟩ = some (.slice A2 b.length c2) ∧ w.heap.size + 1 < w'.heap.size)
        (first | exact hS | exact keepC hba2 hS | exact keepC hbb2 (keepC hba2 hS))
        (first
          | (go_at_call 55; (with_reducible refine (Sign_s x (.agg #[.bool na, .slice A1 a.length c1]) _ (by exact H1.out.below (by repeat (with_reducible first | assumption | exact Below.refl _ _ | apply below_drew | apply below_drewN | apply below_alloc | refine below_step ?_ (by assumption))))).mono ?_); rintro e wa2 ⟨rfl, hba2⟩)
          | (go_at_call 55; (with_reducible refine (Sign_s y (.agg #[.bool nb, .slice A2 b.length c2]) _ (by exact H2.out.below (by repeat (with_reducible first | assumption | exact Below.refl _ _ | apply below_drew | apply below_drewN | apply below_alloc | refine below_step ?_ (by assumption))))).mono ?_); rintro e wb2 ⟨rfl, hbb2⟩))
      replace hS := keepC hbb2 (keepC hba2 hS)
      replace HB := below_step (below_step (below_drew HB) hba2) hbb2
      replace L1 := Lib.hid (L1.out.below (below_step (below_step (below_drew (Below.refl _ _)) hba2) hbb2))
      replace L2 := Lib.hid (L2.out.below (below_step (below_step (below_drew (Below.refl _ _)) hba2) hbb2))
      replace H1 := Lib.hid (H1.out.below (below_step (below_step (below_drew (Below.refl _ _)) hba2) hbb2))
      replace H2 := Lib.hid (H2.out.below (below_step (below_step (below_drew (Below.refl _ _)) hba2) hbb2))
      clear hba2 hbb2
      go_wp2
      go_ret
      exact ⟨by rw [HR.out]; rfl, HB⟩
end Go.Proofs.YtiaeeclmlchpoaaGreatDoor

set_option linter.unusedVariables false
set_option linter.unusedSimpArgs false
namespace Go.Proofs.YtiaeeclmlchpoaaGreatDoor
open Go.RowKit

set_option maxRecDepth 100000 in
set_option maxHeartbeats 1000000 in
theorem Of_c (i : Int) (w : World) (h0 : -9223372036854775807 ≤ i) (h1 : i ≤ 9223372036854775807) :
    Calls Tryz.prog 15 #[.int .i64 i] w fun e w' => ∃ v, e = .returned v ∧ IsN w' v i ∧ Below w.heap.size w w' := by
  have HL : Hid ((digs B9 i.natAbs).length ≤ 8) := digs_len_le B9two (by rw [show (B9 ^ 8 : Nat) = 1000000000000000000000000000000000000000000000000000000000000000000000000 from rfl]; omega)
  by_cases hi : i < 0
  · have HD : Hid (decide (i < 0) = true) := by show _ = _; simpa using hi
    obtain ⟨n, hn⟩ : ∃ n : Nat, i = -(n : Int) := ⟨i.natAbs, by omega⟩
    subst hn
    have e1 : (-(n : Int)).natAbs = n := by omega
    have hn1 : (n : Int) ≤ 9223372036854775807 := by omega
    have HE := Lib.hid e1
    have hn1b : decide (0 < (n : Int)) = true := by simp; omega
    have hn2b : decide (0 < n) = true := by simp; omega
    have hn0 : 0 < (n : Int) := by omega
    have HH0 : Hid (dg B9 (-(n : Int)) = digs B9 n) := by show _ = _; unfold dg; rw [e1]
    rw [e1] at HL
    clear e1 h0 h1
    go_enter Tryz.func15, Tryz.ntmps15
    go_wp2
    generalize hW : w.alloc (Obj.cells #[Value.bool false, Value.slice none 0 0] 37) = W
    have HB0 : Below w.heap.size w W := by subst hW; exact below_alloc (Below.refl _ _) _
    have HR2 : Res2 W w.heap.size := by subst hW; refine ⟨⟨false, ?_⟩, ⟨none, 0, 0, ?_⟩, ?_, ?_, ?_⟩ <;> simp [go_sem]
    have hbase : w.heap.size + 1 ≤ W.heap.size := by subst hW; simp
    clear hW
    go_loopw [0, 4] (fun r out wr => ∃ (m : Nat) (l : List Int), r = .int .i64 m ∧ m ≤ n ∧ OwI wr (w.heap.size + 1) 3 .i64 out l ∧ Below (w.heap.size + 1) W wr ∧ Hid (digs B9 n = l ++ digs B9 m)) (fun r _ _ => (intOf r).toNat)
    case atStart => exact ⟨n, [], by simp, Nat.le_refl _, OwI.nil _ _ _ _, Below.refl _ _, rfl⟩
    case round =>
      obtain ⟨m, l, rfl, hm, HO, HB, HI⟩ := hrel
      have hB : w.heap.size + 1 ≤ wr.heap.size := Nat.le_trans hbase HB.size
      rcases Nat.eq_zero_or_pos m with rfl | hm0
      · have HE2 : Hid (l = digs B9 n) := by have := HI.out; rw [digs_zero, List.append_nil] at this; exact this.symm
        obtain ⟨A1, c1, rfl, hs⟩ := HO.form
        have HR4 : Hid (Res2 wr w.heap.size) := by
          obtain ⟨⟨u1, r1⟩, ⟨u2, u3, u4, r2⟩, r3, r4, r5⟩ := HR2
          exact ⟨⟨u1, (HB.cell (p := ⟨_, 0, none⟩) (Nat.lt_succ_self _)).trans r1⟩, ⟨u2, u3, u4, (HB.cell (p := ⟨_, 1, none⟩) (Nat.lt_succ_self _)).trans r2⟩, (HB.frozen (p := ⟨_, 0, none⟩) (Nat.lt_succ_self _)).trans r3, (HB.frozen (p := ⟨_, 1, none⟩) (Nat.lt_succ_self _)).trans r4, by omega⟩
        obtain ⟨⟨u1, r1⟩, ⟨u2, u3, u4, r2⟩, r3, r4, r5⟩ := HR4.out
        go_wp2
        refine bodyPost_ret (v := .agg #[.bool true, .slice A1 l.length c1]) (by simp [results, Tryz.results15, go_sem, r1, r2, r5]) rfl ⟨_, rfl, ⟨A1, c1, ?_, ?_⟩, ?_⟩
        · rw [HD.out, HH0.out, ← HE2.out]
        · rw [HH0.out, ← HE2.out]; exact hs.res2 HR4.out _ _
        · exact below_set (below_set (HB0.trans (HB.mono (by omega))) (Nat.le_refl _) _) (Nat.le_refl _) _
      · have HS : Hid (digs B9 n = (l ++ [(m : Int) % 1000000000]) ++ digs B9 (m / 1000000000)) := by
          show _ = _
          rw [HI.out, digs_pos B9two hm0, List.append_assoc]; rfl
        have HL2 : Hid ((l.length + 1) * 8 ≤ 140737488355328) := by
          have := HL.out
          rw [HI.out, List.length_append] at this
          show _ ≤ _; omega
        go_wp2_with (at_builtin; refine app_I (w.heap.size + 1) rfl _ _ 22 3 .i64 8 rfl Tryz.underlying22 info_i64 (by decide) _ l _ HO rfl rfl HB hB HL2.out ?_; intro v1 w1 HO1 HB1 hB1)
        go_roundw
        case rel => first | exact ⟨m / 1000000000, _, by simp, by omega, HO1, HB1, HS⟩ | ((repeat apply Exists.intro); exact ⟨⟨m / 1000000000, _, by simp, by omega, HO1, HB1, HS⟩, rfl⟩)
        case measure => simp [intOf]; omega
  
  · have HD : Hid (decide (i < 0) = false) := by show _ = _; simpa using hi
    obtain ⟨n, hn⟩ : ∃ n : Nat, i = (n : Int) := ⟨i.natAbs, by omega⟩
    subst hn
    have e1 : ((n : Int)).natAbs = n := by omega
    have hn1 : (n : Int) ≤ 9223372036854775807 := by omega
    have HE := Lib.hid e1
    
    
    
    have HH0 : Hid (dg B9 ((n : Int)) = digs B9 n) := by show _ = _; unfold dg; rw [e1]
    rw [e1] at HL
    clear e1 h0 h1
    go_enter Tryz.func15, Tryz.ntmps15
    go_wp2
    generalize hW : w.alloc (Obj.cells #[Value.bool false, Value.slice none 0 0] 37) = W
    have HB0 : Below w.heap.size w W := by subst hW; exact below_alloc (Below.refl _ _) _
    have HR2 : Res2 W w.heap.size := by subst hW; refine ⟨⟨false, ?_⟩, ⟨none, 0, 0, ?_⟩, ?_, ?_, ?_⟩ <;> simp [go_sem]
    have hbase : w.heap.size + 1 ≤ W.heap.size := by subst hW; simp
    clear hW
    go_loopw [0, 4] (fun r out wr => ∃ (m : Nat) (l : List Int), r = .int .i64 m ∧ m ≤ n ∧ OwI wr (w.heap.size + 1) 3 .i64 out l ∧ Below (w.heap.size + 1) W wr ∧ Hid (digs B9 n = l ++ digs B9 m)) (fun r _ _ => (intOf r).toNat)
    case atStart => exact ⟨n, [], rfl, Nat.le_refl _, OwI.nil _ _ _ _, Below.refl _ _, rfl⟩
    case round =>
      obtain ⟨m, l, rfl, hm, HO, HB, HI⟩ := hrel
      have hB : w.heap.size + 1 ≤ wr.heap.size := Nat.le_trans hbase HB.size
      rcases Nat.eq_zero_or_pos m with rfl | hm0
      · have HE2 : Hid (l = digs B9 n) := by have := HI.out; rw [digs_zero, List.append_nil] at this; exact this.symm
        obtain ⟨A1, c1, rfl, hs⟩ := HO.form
        have HR4 : Hid (Res2 wr w.heap.size) := by
          obtain ⟨⟨u1, r1⟩, ⟨u2, u3, u4, r2⟩, r3, r4, r5⟩ := HR2
          exact ⟨⟨u1, (HB.cell (p := ⟨_, 0, none⟩) (Nat.lt_succ_self _)).trans r1⟩, ⟨u2, u3, u4, (HB.cell (p := ⟨_, 1, none⟩) (Nat.lt_succ_self _)).trans r2⟩, (HB.frozen (p := ⟨_, 0, none⟩) (Nat.lt_succ_self _)).trans r3, (HB.frozen (p := ⟨_, 1, none⟩) (Nat.lt_succ_self _)).trans r4, by omega⟩
        obtain ⟨⟨u1, r1⟩, ⟨u2, u3, u4, r2⟩, r3, r4, r5⟩ := HR4.out
        go_wp2
        refine bodyPost_ret (v := .agg #[.bool false, .slice A1 l.length c1]) (by simp [results, Tryz.results15, go_sem, r1, r2, r5]) rfl ⟨_, rfl, ⟨A1, c1, ?_, ?_⟩, ?_⟩
        · rw [HD.out, HH0.out, ← HE2.out]
        · rw [HH0.out, ← HE2.out]; exact hs.res2 HR4.out _ _
        · exact below_set (below_set (HB0.trans (HB.mono (by omega))) (Nat.le_refl _) _) (Nat.le_refl _) _
      · have HS : Hid (digs B9 n = (l ++ [(m : Int) % 1000000000]) ++ digs B9 (m / 1000000000)) := by
          show _ = _
          rw [HI.out, digs_pos B9two hm0, List.append_assoc]; rfl
        have HL2 : Hid ((l.length + 1) * 8 ≤ 140737488355328) := by
          have := HL.out
          rw [HI.out, List.length_append] at this
          show _ ≤ _; omega
        go_wp2_with (at_builtin; refine app_I (w.heap.size + 1) rfl _ _ 22 3 .i64 8 rfl Tryz.underlying22 info_i64 (by decide) _ l _ HO rfl rfl HB hB HL2.out ?_; intro v1 w1 HO1 HB1 hB1)
        go_roundw
        case rel => first | exact ⟨m / 1000000000, _, by simp, by omega, HO1, HB1, HS⟩ | ((repeat apply Exists.intro); exact ⟨⟨m / 1000000000, _, by simp, by omega, HO1, HB1, HS⟩, rfl⟩)
        case measure => simp [intOf]; omega

/-- How many decimal digits a number has. -/
def dl (z : Int) : Nat := if z = 0 then 1 else (digs 10 z.natAbs).length
theorem digs_len_eq {B : Nat} (hB : 2 ≤ B) {n k : Nat} (h1 : B ^ k ≤ n) (h2 : n < B ^ (k + 1)) : (digs B n).length = k + 1 := by
  have a := digs_len_le hB h2
  have b := digs_len_lt hB n
  have c : k < (digs B n).length := (Nat.pow_lt_pow_iff_right (by omega)).1 (Nat.lt_of_le_of_lt h1 b)
  omega
theorem digs_len_ge {B : Nat} (hB : 2 ≤ B) {n : Nat} (hn : 0 < n) : B ^ ((digs B n).length - 1) ≤ n := by
  have hne : digs B n ≠ [] := fun e => by have := digs_nil hB e; omega
  have h1 := V_pos (by omega) (digs_dg hB n) (digs_nm hB n) hne
  rw [digs_V hB] at h1
  have : ((B ^ ((digs B n).length - 1) : Nat) : Int) ≤ (n : Int) := by rw [Int.natCast_pow]; exact h1
  omega
/-- The decimal digits of a number, counted by its parts of nine. -/
theorem dl_parts {n : Nat} (hn : 0 < n) : ∃ t : Nat, gd (digs B9 n) ((digs B9 n).length - 1) = t ∧ 0 < t ∧ t < 1000000000 ∧ (digs 10 n).length = 9 * ((digs B9 n).length - 1) + (digs 10 t).length := by
  have hne : digs B9 n ≠ [] := fun e => by have := digs_nil B9two e; omega
  obtain ⟨m, d, hmd⟩ : ∃ m d, digs B9 n = m ++ [d] := ⟨(digs B9 n).dropLast, (digs B9 n).getLast hne, (List.dropLast_concat_getLast hne).symm⟩
  have hd := digs_dg B9two n
  have hnm := digs_nm B9two n
  have hv := digs_V B9two n
  rw [hmd] at hd hnm hv ⊢
  have h1 : 0 ≤ d ∧ d < (B9 : Int) := hd d (by simp)
  rw [B9c] at h1
  have h2 : d ≠ 0 := by intro e; subst e; simp [Nm] at hnm
  obtain ⟨t, rfl⟩ : ∃ t : Nat, d = t := ⟨d.toNat, by omega⟩
  refine ⟨t, by simp [gd], by omega, by omega, ?_⟩
  rw [V_snoc] at hv
  have h3 := V_nonneg hd.left
  have h4 := V_lt hd.left
  have ht := digs_len_ge (B := 10) (by omega) (show 0 < t by omega)
  have ht2 := digs_len_lt (B := 10) (by omega) t
  have e1 : (B9 : Nat) ^ m.length = 10 ^ (9 * m.length) := by rw [Nat.pow_mul]; rfl
  have hlen : (m ++ [(t : Int)]).length - 1 = m.length := by simp
  rw [hlen]
  obtain ⟨k, hk⟩ : ∃ k, (digs 10 t).length = k + 1 := ⟨(digs 10 t).length - 1, by
    have : digs 10 t ≠ [] := fun e => by have := digs_nil (B := 10) (by omega) e; omega
    have := List.length_pos_iff.2 this
    omega⟩
  rw [hk] at ht ht2 ⊢
  obtain ⟨q, hq⟩ : ∃ q : Nat, V B9 m = q := ⟨(V B9 m).toNat, by omega⟩
  rw [hq] at hv h4
  rw [← Int.natCast_pow] at hv h4
  have hv' : q + B9 ^ m.length * t = n := by
    have : ((q + B9 ^ m.length * t : Nat) : Int) = n := by rw [Int.natCast_add, Int.natCast_mul]; exact hv
    omega
  have h4' : q < B9 ^ m.length := by omega
  rw [e1] at hv' h4'
  refine (digs_len_eq (B := 10) (k := 9 * m.length + k) (by omega) ?_ ?_).trans (by omega)
  · rw [Nat.pow_add, ← hv']
    have := Nat.mul_le_mul_left (10 ^ (9 * m.length)) ht
    simp only [Nat.add_sub_cancel] at this
    omega
  · rw [← hv', show 9 * m.length + k + 1 = 9 * m.length + (k + 1) by omega, Nat.pow_add 10 (9 * m.length) (k + 1)]
    have := Nat.mul_le_mul_left (10 ^ (9 * m.length)) (show t + 1 ≤ 10 ^ (k + 1) by omega)
    rw [Nat.mul_add] at this
    omega
end Go.Proofs.YtiaeeclmlchpoaaGreatDoor

set_option linter.unusedVariables false
set_option linter.unusedSimpArgs false
namespace Go.Proofs.YtiaeeclmlchpoaaGreatDoor
open Go.RowKit

theorem digs10_step {m : Nat} (h : 0 < m) : (digs 10 m).length = (digs 10 (m / 10)).length + 1 := by
  rw [digs_pos (by omega) h]; simp
set_option maxRecDepth 100000 in
set_option maxHeartbeats 1000000 in
theorem Digits_c (z : Int) (v : Value) (w : World) (h : IsN w v z) (sz : (dg B9 z).length ≤ 1000000000000) :
    Calls Tryz.prog 35 #[v] w fun e w' => e = .returned (.int .i64 (dl z)) ∧ Below w.heap.size w w' := by
  obtain ⟨A, c, rfl, hs⟩ := h
  have hB : Below w.heap.size w w := Below.refl _ _
  have hc1 := hs.2.1
  have hc2 := hs.2.2
  by_cases hz : z = 0
  · have e1 : dl z = 1 := by unfold dl; rw [if_pos hz]
    have e2 : dg B9 z = [] := by rw [hz]; exact digs_zero _
    rw [e1]
    rw [e2] at hs hc1 ⊢
    clear e1 e2 hz sz
    generalize decide (z < 0) = na
    go_enter Tryz.func35, Tryz.ntmps35
    go_wp2
    go_ret
    exact ⟨rfl, below_alloc hB _⟩
  · obtain ⟨t, ht1, ht2, ht3, ht4⟩ := dl_parts (n := z.natAbs) (by omega)
    have HD : Hid (dl z = 9 * ((dg B9 z).length - 1) + (digs 10 t).length) := by show _ = _; unfold dl; rw [if_neg hz]; exact ht4
    have hne : 0 < (dg B9 z).length := by
      rcases Nat.eq_zero_or_pos (dg B9 z).length with h0 | h0
      · have := digs_nil B9two (List.eq_nil_of_length_eq_zero h0); omega
      · exact h0
    change gd (dg B9 z) ((dg B9 z).length - 1) = t at ht1
    have hT : (digs 10 t).length ≤ 9 := digs_len_le (by omega) (by omega)
    have HT := Lib.hid hT
    obtain ⟨b, off, rfl, hl, hcell⟩ := hs.cell (j := (dg B9 z).length - 1) (by omega)
    rw [ht1] at hcell
    clear ht1 ht4 hz hT
    generalize dg B9 z = l at *
    generalize decide (z < 0) = na
    go_enter Tryz.func35, Tryz.ntmps35
    go_wp2
    go_loop [3, 4] (fun d p => ∃ (m k : Nat), p = .int .i64 m ∧ d = .int .i64 k ∧ m ≤ t ∧ k ≤ 9000000000100 ∧ Hid (k + (digs 10 m).length = 9 * (l.length - 1) + (digs 10 t).length)) (fun _ p => (intOf p).toNat)
    case atStart => exact ⟨t, 9 * (l.length - 1), rfl, by go_num, Nat.le_refl _, by omega, rfl⟩
    case round =>
      obtain ⟨m, k, rfl, rfl, hm, hk, HI⟩ := hrel
      rcases Nat.eq_zero_or_pos m with rfl | hm0
      · have HE : Hid (dl z = k) := by have := HI.out; rw [digs_zero] at this; show _ = _; rw [HD.out, ← this]; rfl
        go_wp2
        go_ret
        exact ⟨by rw [HE.out]; rfl, below_alloc hB _⟩
      · have HS : Hid (k + 1 + (digs 10 (m / 10)).length = 9 * (l.length - 1) + (digs 10 t).length) := by
          have := HI.out; rw [digs10_step hm0] at this; show _ = _; omega
        have hk2 : k ≤ 9000000000009 := by have := HI.out; rw [digs10_step hm0] at this; have := HT.out; omega
        clear HI
        go_wp2
        go_round
        case rel => exact ⟨m / 10, k + 1, by simp, by go_num, by omega, by omega, HS⟩
        case measure => simp [intOf]; omega

theorem Fits_c (z : Int) (v : Value) (w : World) (h : IsN w v z) (sz : (dg B9 z).length ≤ 1000000000000) :
    Calls Tryz.prog 13 #[v] w fun e w' => e = .returned (.bool (decide (dl z ≤ 2000))) ∧ Below w.heap.size w w' := by
  obtain ⟨na, A, n, c, rfl, H⟩ := h.form
  clear h
  have hd : decide ((dl z : Int) ≤ 2000) = decide (dl z ≤ 2000) := by rw [decide_eq_decide]; omega
  have HD := Lib.hid hd
  clear hd
  go_enter Tryz.func13, Tryz.ntmps13
  go_wp2_with (go_at_call 35; (with_reducible refine (Digits_c z _ _ (by exact H.out.below (by repeat (with_reducible first | assumption | exact Below.refl _ _ | apply below_drew | apply below_drewN | apply below_alloc | refine below_step ?_ (by assumption)))) sz).mono ?_); rintro e w1 ⟨rfl, hb1⟩)
  go_ret
  exact ⟨by rw [← HD.out]; rfl, below_step (below_alloc (Below.refl _ _) _) hb1⟩
end Go.Proofs.YtiaeeclmlchpoaaGreatDoor

set_option linter.unusedVariables false
set_option linter.unusedSimpArgs false
namespace Go.Proofs.YtiaeeclmlchpoaaGreatDoor
open Go.RowKit

/-- The rows of the product so far: i whole rows. -/
def MulO (a b l : List Int) (i : Nat) : Prop :=
  l.length = a.length + b.length + 1 ∧ Dg B9 l ∧ V B9 l = V B9 (a.take i) * V B9 b ∧ i ≤ a.length
/-- k places of the row i. -/
def MulI (a b l : List Int) (i k : Nat) (cy : Int) : Prop :=
  l.length = a.length + b.length + 1 ∧ Dg B9 l ∧ 0 ≤ cy ∧ cy < 1000000000 ∧ V B9 l + (B9 : Int) ^ (i + k) * cy = V B9 (a.take i) * V B9 b + (B9 : Int) ^ i * gd a i * V B9 (b.take k) ∧ i < a.length ∧ k ≤ b.length + 1
theorem gdg {B : Nat} {l : List Int} (h : Dg B l) (hB : 0 < B) (i : Nat) : 0 ≤ gd l i ∧ gd l i < (B : Int) := h.getD hB i
theorem gd9 {l : List Int} (h : Dg B9 l) (i : Nat) : 0 ≤ gd l i ∧ gd l i < 1000000000 := gdg h (by decide) i
theorem Vtake {B : Nat} (l : List Int) (i : Nat) : V B (l.take (i + 1)) = V B (l.take i) + (B : Int) ^ i * gd l i := V_getD B l i
theorem Vset {B : Nat} (l : List Int) (i : Nat) (d : Int) (h : i < l.length) : V B (l.set i d) = V B l + (B : Int) ^ i * (d - gd l i) := V_set B l i d h
theorem MulI.first {a b l : List Int} {i : Nat} (h : MulO a b l i) (hi : i < a.length) : MulI a b l i 0 0 := by
  obtain ⟨h1, h2, h3, h4⟩ := h
  exact ⟨h1, h2, by omega, by omega, by simp [h3, V], hi, by omega⟩
theorem MulI.place {a b l : List Int} {i k : Nat} {cy : Int} (ha : Dg B9 a) (hb : Dg B9 b) (h : MulI a b l i k cy) (hk : k < b.length ∨ 0 < cy) : k ≤ b.length := by
  obtain ⟨h1, h2, h3, h4, h5, h6, h7⟩ := h
  rcases hk with hk | hk
  · omega
  · by_cases hkl : k ≤ b.length
    · exact hkl
    · have e : k = b.length + 1 := by omega
      subst e
      rw [List.take_of_length_le (l := b) (by omega), ← Int.add_mul, ← Vtake] at h5
      have l0 := V_nonneg h2
      have lb := V_lt hb
      have la := V_lt (ha.take (i + 1))
      rw [List.length_take, Nat.min_eq_left (by omega)] at la
      have a0 := V_nonneg (ha.take (i + 1))
      have b0 := V_nonneg hb
      have p1 : V B9 (a.take (i + 1)) * V B9 b ≤ (B9 : Int) ^ (i + 1) * (B9 : Int) ^ b.length := Int.mul_le_mul (by omega) (by omega) b0 (Int.pow_nonneg (by rw [B9c]; omega))
      rw [← Int.pow_add] at p1
      have p2 : (B9 : Int) ^ (i + (b.length + 1)) * 1 ≤ (B9 : Int) ^ (i + (b.length + 1)) * cy := Int.mul_le_mul_of_nonneg_left (by omega) (Int.pow_nonneg (by rw [B9c]; omega))
      rw [show i + 1 + b.length = i + (b.length + 1) by omega] at p1
      have p3 : (0 : Int) < (B9 : Int) ^ (i + (b.length + 1)) := Int.pow_pos (by rw [B9c]; omega)
      rcases Nat.eq_zero_or_pos b.length with hb0 | hb0
      · have : b = [] := List.eq_nil_of_length_eq_zero hb0
        subst this
        simp only [V, Int.mul_zero] at h5
        omega
      · have p4 : V B9 (a.take (i + 1)) * V B9 b < (B9 : Int) ^ (i + 1) * (B9 : Int) ^ b.length := by
          rcases Int.lt_or_eq_of_le a0 with hp | hp
          · calc V B9 (a.take (i + 1)) * V B9 b ≤ V B9 (a.take (i + 1)) * (B9 : Int) ^ b.length := Int.mul_le_mul_of_nonneg_left (by omega) a0
              _ < (B9 : Int) ^ (i + 1) * (B9 : Int) ^ b.length := Int.mul_lt_mul_of_pos_right la (Int.pow_pos (by rw [B9c]; omega))
          · rw [← hp, Int.zero_mul]; exact Int.mul_pos (Int.pow_pos (by rw [B9c]; omega)) (Int.pow_pos (by rw [B9c]; omega))
        rw [← Int.pow_add, show i + 1 + b.length = i + (b.length + 1) by omega] at p4
        omega
theorem mul_ring {v p cy o x m q t bk ai : Int} {B : Int} (h : v + p * cy = t) (e : m + B * q = o + ai * bk + cy) : v + p * (m - o) + p * B * q = t + p * ai * bk := by grind
theorem mul_ring2 {u p r ai vb q bk : Int} : u + p * ai * (vb + r * bk) = u + p * ai * vb + p * r * ai * bk := by grind
theorem MulI.step {a b l : List Int} {i k : Nat} {cy : Int} (ha : Dg B9 a) (hb : Dg B9 b) (h : MulI a b l i k cy) (hk : k ≤ b.length) :
    MulI a b (l.set (i + k) ((gd l (i + k) + gd a i * gd b k + cy) % 1000000000)) i (k + 1) ((gd l (i + k) + gd a i * gd b k + cy) / 1000000000) := by
  obtain ⟨h1, h2, h3, h4, h5, h6, h7⟩ := h
  have a1 := gd9 ha i
  have b1 := gd9 hb k
  have o1 := gd9 h2 (i + k)
  have p1 : 0 ≤ gd a i * gd b k := Int.mul_nonneg a1.1 b1.1
  have p2 : gd a i * gd b k ≤ 999999999 * 999999999 := Int.mul_le_mul (by omega) (by omega) b1.1 (by omega)
  refine ⟨by simp [h1], h2.set _ (by omega) (by rw [B9c]; omega), by omega, by omega, ?_, h6, by omega⟩
  rw [Vset _ _ _ (by omega), Vtake, ← Nat.add_assoc, Int.pow_succ, mul_ring2 (q := 0), ← Int.pow_add, B9c]
  rw [B9c] at h5
  exact mul_ring (x := 0) h5 (by omega)
theorem MulI.last {a b l : List Int} {i k : Nat} (h : MulI a b l i k 0) (hk : b.length ≤ k) : MulO a b l (i + 1) := by
  obtain ⟨h1, h2, h3, h4, h5, h6, h7⟩ := h
  refine ⟨h1, h2, ?_, by omega⟩
  rw [List.take_of_length_le hk] at h5
  rw [Vtake, Int.add_mul]
  simpa using h5
theorem MulO.first (a b : List Int) : MulO a b (List.replicate (a.length + b.length + 1) 0) 0 := ⟨by simp, Dg.zeros (by decide) _, by simp [V_zeros, V], by omega⟩
theorem MulO.last {a b l : List Int} {i : Nat} (h : MulO a b l i) (hi : a.length ≤ i) : V B9 l = V B9 a * V B9 b := by
  obtain ⟨h1, h2, h3, h4⟩ := h
  rwa [List.take_of_length_le hi] at h3
theorem SlI.belowB {w w' : World} {k : IntKind} {A : Option Addr} {c : Nat} {l : List Int} {n : Nat} (h : SlI w k A c l) (hb : Below n w w') (hn : w.heap.size ≤ n) : SlI w' k A c l := h.below (hb.mono hn)
theorem keep2B {n B : Nat} {W w1 : World} {na nb : Bool} {sa sb : Value} (hb : Below B W w1) (hl : n + 1 + 1 < B) (h : W.cell? ⟨n, 0, none⟩ = some (.bool na) ∧ W.cell? ⟨n, 1, none⟩ = some sa ∧ W.cell? ⟨n + 1, 0, none⟩ = some (.bool nb) ∧ W.cell? ⟨n + 1, 1, none⟩ = some sb ∧ n + 1 + 1 < W.heap.size) : w1.cell? ⟨n, 0, none⟩ = some (.bool na) ∧ w1.cell? ⟨n, 1, none⟩ = some sa ∧ w1.cell? ⟨n + 1, 0, none⟩ = some (.bool nb) ∧ w1.cell? ⟨n + 1, 1, none⟩ = some sb ∧ n + 1 + 1 < w1.heap.size := by
  obtain ⟨h1, h2, h3, h4, h9⟩ := h
  have hz := hb.size
  exact ⟨kcellB hb (by omega) h1, kcellB hb (by omega) h2, kcellB hb (by omega) h3, kcellB hb (by omega) h4, by omega⟩
set_option maxRecDepth 100000 in
set_option maxHeartbeats 2000000 in
theorem Mul_c (x y : Int) (v1 v2 : Value) (w : World) (h1 : IsN w v1 x) (h2 : IsN w v2 y) (sx : (dg B9 x).length ≤ 1000000000) (sy : (dg B9 y).length ≤ 1000000000) :
    Calls Tryz.prog 89 #[v1, v2] w fun e w' => ∃ v, e = .returned v ∧ IsN w' v (x * y) ∧ Below w.heap.size w w' := by
  obtain ⟨A1, c1, rfl, hs1⟩ := h1
  obtain ⟨A2, c2, rfl, hs2⟩ := h2
  have D1 := Lib.hid (dg_dg B9two x)
  have D2 := Lib.hid (dg_dg B9two y)
  have V1 := Lib.hid (dg_V B9two x)
  have V2 := Lib.hid (dg_V B9two y)
  generalize dg B9 x = a at *
  generalize dg B9 y = b at *
  obtain ⟨na, hna⟩ : ∃ na, decide (x < 0) = na := ⟨_, rfl⟩
  obtain ⟨nb, hnb⟩ : ∃ nb, decide (y < 0) = nb := ⟨_, rfl⟩
  rw [hna, hnb]
  have HR : Hid (sgnd (na != nb) (V B9 a * V B9 b) = x * y) := by
    show _ = _
    rw [V1.out, V2.out, ← Int.natCast_mul, ← Int.natAbs_mul]; unfold sgnd
    rcases Int.lt_trichotomy x 0 with hx | hx | hx <;> rcases Int.lt_trichotomy y 0 with hy | hy | hy
    · have := Int.mul_pos_of_neg_of_neg hx hy
      have e1 : na = true := by rw [← hna]; simpa using hx
      have e2 : nb = true := by rw [← hnb]; simpa using hy
      subst e1 e2; simp; omega
    · subst hy; simp
    · have := Int.mul_neg_of_neg_of_pos hx hy
      have e1 : na = true := by rw [← hna]; simpa using hx
      have e2 : nb = false := by rw [← hnb]; simp; omega
      subst e1 e2; simp; omega
    · subst hx; simp
    · subst hx; simp
    · subst hx; simp
    · have := Int.mul_neg_of_pos_of_neg hx hy
      have e1 : na = false := by rw [← hna]; simp; omega
      have e2 : nb = true := by rw [← hnb]; simpa using hy
      subst e1 e2; simp; omega
    · subst hy; simp
    · have := Int.mul_pos hx hy
      have e1 : na = false := by rw [← hna]; simp; omega
      have e2 : nb = false := by rw [← hnb]; simp; omega
      subst e1 e2; simp; omega
  clear hna hnb
  have L1 := Lib.hid hs1
  have L2 := Lib.hid hs2
  clear hs1 hs2
  have hmk := fun W => run_make_row' (P := Tryz.prog) 22 3 (.int .i64 0) 8 Tryz.underlying22 info_i64 rfl .i64 .i64 (a.length + b.length + 1) (by omega) (by omega) W
  rw [show ((a.length + b.length + 1 : Nat) : Int) = (a.length : Int) + (b.length : Int) + 1 by omega] at hmk
  go_enter Tryz.func89, Tryz.ntmps89
  go_wp2
  generalize hW : ((w.alloc (Obj.cells #[Value.bool na, Value.slice A1 a.length c1] 37)).alloc _).alloc _ = W
  obtain ⟨hS, HR2, HBW⟩ := start2 w _ _ _ _ _ W hW
  have hWs : w.heap.size + 1 + 1 + 1 = W.heap.size := by subst hW; simp
  clear hW hmk
  rw [hWs]
  have hn2 : w.heap.size + 1 + 1 < W.heap.size := by omega
  clear hWs
  replace L1 := Lib.hid (L1.out.below HBW)
  replace L2 := Lib.hid (L2.out.below HBW)
  have HG0 := Lib.hid (BlkI.new W 3 .i64 (a.length + b.length + 1))
  have HB0 := Lib.hid (below_alloc (Below.refl W.heap.size W) (Obj.cells (madeCells #[Value.int IntKind.i64 0] (a.length + b.length + 1)) 3))
  go_loopw [6] (fun iv wr => ∃ (i : Nat) (l : List Int), iv = .int .i64 i ∧ Hid (BlkI wr W.heap.size 3 .i64 l) ∧ Below W.heap.size W wr ∧ Hid (MulO a b l i)) (fun iv _ => a.length - (intOf iv).toNat)
  case atStart => exact ⟨0, _, rfl, HG0, HB0.out, MulO.first a b⟩
  case round =>
    obtain ⟨i, l, rfl, HG, HB, HI⟩ := hrel
    clear HG0 HB0
    obtain ⟨i1, i2, i3, i4⟩ := HI.out
    have hS' := keep2 HB hS
    obtain ⟨s1, s2, s3, s4, s5⟩ := hS'
    clear i3
    by_cases hi : i < a.length
    · clear i1 i2
      go_wp2
      obtain ⟨wo, rfl⟩ : ∃ wo : World, wo = wr := ⟨_, rfl⟩
      go_loopw [7, 8] (fun cv kv wq => ∃ (k : Nat) (cy : Int) (l : List Int), kv = .int .i64 k ∧ cv = .int .i64 cy ∧ Hid (BlkI wq W.heap.size 3 .i64 l) ∧ Below W.heap.size W wq ∧ Hid (MulI a b l i k cy)) (fun _ kv _ => (b.length + 1) - (intOf kv).toNat)
      case atStart => exact ⟨0, 0, l, rfl, rfl, HG, HB, MulI.first HI.out hi⟩
      case round =>
        clear HG HB HI s1 s2 s3 s4 s5
        obtain ⟨k, cy, l, rfl, rfl, HG, HB, HI⟩ := hrel
        obtain ⟨j1, j2, j3, j4, j5, j6, j7⟩ := HI.out
        obtain ⟨s1, s2, s3, s4, s5⟩ := keep2 HB hS
        have J1 := Lib.hid j1
        clear j5
        by_cases hk : k < b.length ∨ 0 < cy
        · have hkl : k ≤ b.length := HI.out.place D1.out D2.out hk
          have HST := Lib.hid (HI.out.step D1.out D2.out hkl)
          have a1 := gd9 D1.out i
          have b1 := gd9 D2.out k
          have o1 := gd9 j2 (i + k)
          have p1 : 0 ≤ gd a i * gd b k := Int.mul_nonneg a1.1 b1.1
          have p2 : gd a i * gd b k ≤ 999999998000000001 := by
            have p2 : gd a i * gd b k ≤ 999999999 * 999999999 := Int.mul_le_mul (by omega) (by omega) b1.1 (by omega)
            omega
          obtain ⟨a1, a2⟩ := a1
          obtain ⟨b1, b2⟩ := b1
          obtain ⟨o1, o2⟩ := o1
          have q1 := HG.out.cell (j := i + k) (by omega)
          have q2 := HG.out.frozen (i + k)
          obtain ⟨ba, oa, rfl, hla, hca⟩ := (L1.out.below HB).cell (j := i) hi
          have K2 := Lib.hid (L2.out.below HB)
          have hi0 : (0 : Int) ≤ (i : Int) := by omega
          have hi1 : (i : Int) < (a.length : Int) := by omega
          have hk0 : (0 : Int) ≤ (i : Int) + (k : Int) := by omega
          have hk1 : (i : Int) + (k : Int) < (a.length : Int) + (b.length : Int) + 1 := by omega
          have hkn : i + k < a.length + b.length + 1 := by omega
          have hk' : k < b.length ∨ (¬ k < b.length ∧ 0 < cy) := by omega
          clear j1 j2 HI hk
          rcases hk' with hk | ⟨hk, hcy⟩
          all_goals
            go_wp2
            have e0 : ((i : Int) + (k : Int)).toNat = i + k := by omega
            have e1 := IntWalk.i64_in ((i : Int) + (k : Int)) (by omega)
            have e2 := IntWalk.i64_in (gd a i * gd b k) (by omega)
            have e3 := IntWalk.i64_in (gd l (i + k) + gd a i * gd b k) (by omega)
            have e4 := IntWalk.i64_in (gd l (i + k) + gd a i * gd b k + cy) (by omega)
            go_region_held3 (fun w' => w'.cell? ⟨W.heap.size, i + k, none⟩ = some (.int .i64 (gd l (i + k))) ∧ w'.cell? ⟨w.heap.size, 1, none⟩ = some (.slice (some ⟨ba, oa, none⟩) a.length c1) ∧ w'.cell? ⟨ba, oa + i, none⟩ = some (.int .i64 (gd a i)) ∧ w'.cell? ⟨w.heap.size + 1, 1, none⟩ = some (.slice A2 b.length c2)) (exact ⟨q1, s2, hca, s4⟩) (first
              | (go_at_call 53; (with_reducible refine (part_c A2 c2 b k _ (by exact K2.out.below (by repeat (with_reducible first | assumption | exact Below.refl _ _ | apply below_drew | apply below_drewN | apply below_alloc | refine below_step ?_ (by assumption))))).mono ?_); rintro e w' ⟨rfl, rfl⟩))
            clear e0 e1 e2 e3 e4
            have HG2 := Lib.hid (HG.out.drew)
            have HB2 := below_drew HB
            have q1' : wr.drew.cell? ⟨W.heap.size, i + k, none⟩ = some (.int .i64 (gd l (i + k))) := q1
            have q2' : wr.drew.frozen? ⟨W.heap.size, i + k, none⟩ = false := q2
            generalize wr.drew = w2 at HG2 HB2 q1' q2' ⊢
            clear HG HB q1 q2 hca s1 s2 s3 s4 s5 K2 hla
            go_wp2
            go_roundw
            case rel => exact ⟨k + 1, _, _, by go_num, rfl, HG2.out.set _ _, HB2.setCell (p := ⟨_, _, none⟩) (Nat.le_refl _) _, HST.out⟩
            case measure => simp [intOf]; omega
        · have hk1 : ¬ k < b.length := fun h => hk (.inl h)
          have hk2 : ¬ 0 < cy := fun h => hk (.inr h)
          clear hk
          obtain rfl : cy = 0 := by omega
          have HST := Lib.hid (HI.out.last (by omega))
          clear HI j1 j2
          go_wp2
          go_roundw
          case rel => exact ⟨i + 1, l, by go_num, HG, HB, HST.out⟩
          case measure => simp [intOf]; omega
    · have HE := Lib.hid (HI.out.last (by omega))
      have HL := Lib.hid (HG.out.slI (by omega))
      have hll : a.length + b.length + 1 = l.length := i1.symm
      have HR4 := HR2.keep HB
      have D3 := Lib.hid i2
      clear HI i1 i2
      rw [hll]
      cases na <;> cases nb
      all_goals
        go_wp2_with (go_at_call 34; (with_reducible refine (trim_n _ _ _ l _ HL.out D3.out).mono ?_); rintro e w2 ⟨v, rfl, hv, hb2⟩; obtain ⟨nv, A4, n4, c4, rfl, HV⟩ := hv.form; clear hv; have HR5 := Lib.hid (HR4.keep hb2); obtain ⟨⟨u1, r1⟩, ⟨u2, u3, u4, r2⟩, r3, r4, r5⟩ := HR5.out)
        refine bodyPost_ret (v := .agg #[.bool nv, .slice A4 n4 c4]) (by simp [results, Tryz.results89, go_sem, r1, r2, r5]) rfl ⟨_, rfl, ?_, ?_⟩
        · refine IsZ.res2 (z := x * y) ?_ HR5.out _ _
          rw [← HR.out, ← HE.out]
          exact HV.out
        · exact below_set (below_set (below_step (below_step HBW HB) hb2) (by omega) _) (by omega) _
end Go.Proofs.YtiaeeclmlchpoaaGreatDoor

set_option linter.unusedVariables false
set_option linter.unusedSimpArgs false
namespace Go.Proofs.YtiaeeclmlchpoaaGreatDoor
open Go.RowKit

def PartI (a l : List Int) (d : Int) (k : Nat) (r : Int) : Prop :=
  l.length = a.length ∧ Dg B9 l ∧ 0 ≤ r ∧ r < d ∧ V B9 (a.drop k) = d * V B9 (l.drop k) + r ∧ k ≤ a.length
theorem Vdrop {B : Nat} (l : List Int) (i : Nat) : V B (l.drop i) = gd l i + B * V B (l.drop (i + 1)) := V_drop B l i
theorem Vset_drop {B : Nat} {l : List Int} {i : Nat} (d : Int) (h : i < l.length) : V B ((l.set i d).drop i) = d + B * V B (l.drop (i + 1)) := by
  rw [Vdrop, List.drop_set_of_lt (by omega)]
  have : gd (l.set i d) i = d := by unfold gd; simp [h]
  rw [this]
theorem part_ring {u d q r B ai x y : Int} (h : u = d * q + r) (e : d * x + y = r * B + ai) : ai + B * u = d * (x + B * q) + y := by grind
theorem PartI.step {a l : List Int} {d : Int} {k : Nat} {r : Int} (ha : Dg B9 a) (h : PartI a l d (k + 1) r) :
    PartI a (l.set k ((r * 1000000000 + gd a k) / d)) d k ((r * 1000000000 + gd a k) % d) := by
  obtain ⟨h1, h2, h3, h4, h5, h6⟩ := h
  have a1 := gd9 ha k
  have hx : 0 ≤ r * 1000000000 + gd a k := by omega
  have hq0 : 0 ≤ (r * 1000000000 + gd a k) / d := Int.ediv_nonneg hx (by omega)
  have hq1 : (r * 1000000000 + gd a k) / d < 1000000000 := Int.ediv_lt_of_lt_mul (by omega) (by
    have : r + 1 ≤ d := by omega
    have := Int.mul_le_mul_of_nonneg_right this (show (0 : Int) ≤ 1000000000 by omega)
    rw [Int.mul_comm d] at this
    rw [Int.mul_comm (1000000000 : Int) d] at this
    rw [Int.mul_comm (1000000000 : Int) d]
    omega)
  refine ⟨by simp [h1], h2.set _ hq0 (by rw [B9c]; exact hq1), Int.emod_nonneg _ (by omega), Int.emod_lt_of_pos _ (by omega), ?_, by omega⟩
  rw [Vdrop a k, Vset_drop _ (by omega), B9c]
  exact part_ring h5 (Int.mul_ediv_add_emod _ _)
theorem PartI.first (a : List Int) (d : Int) (hd : 1 ≤ d) : PartI a (List.replicate a.length 0) d a.length 0 :=
  ⟨by simp, Dg.zeros (by decide) _, by omega, by omega, by rw [List.drop_of_length_le (Nat.le_refl _), List.drop_of_length_le (by simp)]; simp [V], Nat.le_refl _⟩
theorem PartI.last {a l : List Int} {d : Int} {r : Int} (h : PartI a l d 0 r) : V B9 l = V B9 a / d ∧ r = V B9 a % d := by
  obtain ⟨h1, h2, h3, h4, h5, h6⟩ := h
  simp only [List.drop_zero] at h5
  have := (Int.ediv_emod_unique (a := V B9 a) (b := d) (r := r) (q := V B9 l) (by omega)).2 ⟨by rw [h5]; omega, h3, h4⟩
  exact ⟨this.1.symm, this.2.symm⟩
theorem len_one : (dg B9 1).length ≤ 1000000000000 := Nat.le_trans (digs_len_le (k := 1) B9two (by decide)) (by omega)
theorem neg_div0 {n d q r : Int} (hd : 1 ≤ d) (hq : q = n / d) (hr : r = n % d) (h0 : r = 0) : (-n) / d = -q ∧ (-n) % d = 0 := by
  have e := Int.mul_ediv_add_emod n d
  rw [← hq, ← hr, h0] at e
  exact (Int.ediv_emod_unique (by omega)).2 ⟨by rw [Int.mul_neg]; omega, by omega, by omega⟩
theorem neg_div1 {n d q r : Int} (hd : 1 ≤ d) (hq : q = n / d) (hr : r = n % d) (h0 : r ≠ 0) : (-n) / d = -(q + 1) ∧ (-n) % d = d - r := by
  have e := Int.mul_ediv_add_emod n d
  have e1 := Int.emod_nonneg n (show d ≠ 0 by omega)
  have e2 := Int.emod_lt_of_pos n (show 0 < d by omega)
  rw [← hq, ← hr] at e
  exact (Int.ediv_emod_unique (by omega)).2 ⟨by rw [Int.mul_neg, Int.mul_add]; omega, by omega, by omega⟩
def S1 (W : World) (n : Nat) (na : Bool) (sa : Value) : Prop := W.cell? ⟨n, 0, none⟩ = some (.bool na) ∧ W.cell? ⟨n, 1, none⟩ = some sa
theorem S1.keepB {B n : Nat} {W w1 : World} {na : Bool} {sa : Value} (h : S1 W n na sa) (hb : Below B W w1) (hl : n < B) : S1 w1 n na sa := ⟨kcellB hb hl h.1, kcellB hb hl h.2⟩
theorem S1.keep {n : Nat} {W w1 : World} {na : Bool} {sa : Value} (h : S1 W n na sa) (hb : Below W.heap.size W w1) (hl : n < W.heap.size) : S1 w1 n na sa := h.keepB hb hl
theorem S1.set {n b o : Nat} {W : World} {na : Bool} {sa u : Value} (h : S1 W n na sa) (hne : b ≠ n) : S1 (W.setCell ⟨b, o, none⟩ u) n na sa :=
  ⟨(World.cell?_setCell_other _ _ _ _ (by simp [hne])).trans h.1, (World.cell?_setCell_other _ _ _ _ (by simp [hne])).trans h.2⟩
theorem S1.drew {n : Nat} {W : World} {na : Bool} {sa : Value} (h : S1 W n na sa) : S1 W.drew n na sa := h
theorem startP (w : World) (na : Bool) (sa : Value) (t : TypeId) (W : World) (hW : (w.alloc (.cells #[.bool na, sa] t)).alloc (.cells #[.bool false, .slice none 0 0] t) = W) :
    S1 W w.heap.size na sa ∧ Res2 W (w.heap.size + 1) ∧ W.heap.size = w.heap.size + 2 ∧ Below w.heap.size w W := by
  subst hW
  refine ⟨⟨?_, ?_⟩, ⟨⟨false, ?_⟩, ⟨none, 0, 0, ?_⟩, ?_, ?_, ?_⟩, ?_, below_alloc (below_alloc (Below.refl _ _) _) _⟩ <;> simp [go_sem]

set_option maxRecDepth 100000 in
set_option maxHeartbeats 2000000 in
theorem Part_c (z d : Int) (v : Value) (w : World) (h : IsN w v z) (hd1 : 1 ≤ d) (hd2 : d ≤ 2147483647) (sz : (dg B9 z).length ≤ 1000000000) :
    Calls Tryz.prog 88 #[v, .int .i64 d] w fun e w' => ∃ v', e = .returned (.tuple #[v', .int .i64 (z % d)]) ∧ IsN w' v' (z / d) ∧ Below w.heap.size w w' := by
  obtain ⟨A, c, rfl, hs⟩ := h
  have hc1 := hs.2.1
  have hc2 := hs.2.2
  have D1 := Lib.hid (dg_dg B9two z)
  have V1 := Lib.hid (dg_V B9two z)
  generalize dg B9 z = a at *
  obtain ⟨na, hna⟩ : ∃ na, decide (z < 0) = na := ⟨_, rfl⟩
  rw [hna]
  have HNA := Lib.hid hna
  clear hna
  have L1 := Lib.hid hs
  clear hs
  have hmk := fun W => run_make_row' (P := Tryz.prog) 22 3 (.int .i64 0) 8 Tryz.underlying22 info_i64 rfl .i64 .i64 a.length (by omega) (by omega) W
  go_enter Tryz.func88, Tryz.ntmps88
  go_wp2
  generalize hW : (w.alloc (Obj.cells #[Value.bool na, Value.slice A a.length c] 37)).alloc _ = W
  obtain ⟨hS, HR2, hWs, HBW⟩ := startP w _ _ _ W hW
  clear hW hmk
  have HS := Lib.hid hS
  clear hS
  have hWs' : w.heap.size + 1 + 1 = W.heap.size := by omega
  rw [hWs']
  have hn2 : w.heap.size + 1 < W.heap.size := by omega
  clear hWs' hWs
  replace L1 := Lib.hid (L1.out.below HBW)
  have HG0 := Lib.hid (BlkI.new W 3 .i64 a.length)
  have HB0 := Lib.hid (below_alloc (Below.refl W.heap.size W) (Obj.cells (madeCells #[Value.int IntKind.i64 0] a.length) 3))
  go_loopw [7, 8] (fun rv iv wr => ∃ (k : Nat) (r : Int) (l : List Int), iv = .int .i64 ((k : Int) - 1) ∧ rv = .int .i64 r ∧ Hid (BlkI wr W.heap.size 3 .i64 l) ∧ Below W.heap.size W wr ∧ Hid (PartI a l d k r)) (fun _ iv _ => (intOf iv + 1).toNat)
  case atStart => exact ⟨a.length, 0, _, rfl, rfl, HG0, HB0.out, PartI.first a d hd1⟩
  case round =>
    obtain ⟨k, r, l, rfl, rfl, HG, HB, HI⟩ := hrel
    clear HG0 HB0
    obtain ⟨i1, i2, i3, i4, i5, i6⟩ := HI.out
    have I1 := Lib.hid i1
    have I2 := Lib.hid i2
    clear i5 i1 i2
    obtain ⟨s1, s2⟩ := HS.out.keepB HB (by omega)
    rcases Nat.eq_zero_or_pos k with rfl | hk0
    · obtain ⟨E1, E2⟩ := HI.out.last
      have hll : a.length = l.length := I1.out.symm
      have HL := Lib.hid (HG.out.slI (by have := I1.out; omega))
      have E1' := Lib.hid E1
      have E2' := Lib.hid E2
      have HR3 := HR2.keep HB
      have HS3 : Hid (S1 wr w.heap.size na (.slice A a.length c)) := ⟨s1, s2⟩
      clear E1 E2 HI i6 s1 s2
      rw [hll]
      go_wp2_with fail
      (with_reducible refine (trim_n false _ _ l _ HL.out I2.out).mono ?_)
      rintro e w2 ⟨v, rfl, hv, hb2⟩
      obtain ⟨nq, Aq, nn, cq, rfl, HV⟩ := hv.form
      clear hv
      have HR5 := Lib.hid (HR3.keep hb2)
      obtain ⟨⟨u1, r1⟩, ⟨u2, u3, u4, r2⟩, r3, r4, r5⟩ := HR5.out
      obtain ⟨t1, t2⟩ := HS3.out.keep hb2 (by have := HB.size; omega)
      have hz2 : w.heap.size < w2.heap.size := by omega
      have HQ := Lib.hid (HV.out.below (below_alloc (Below.refl _ _) (Obj.cells #[Value.bool nq, Value.slice Aq nn cq] 37)))
      have HR6 := Lib.hid (HR5.out.keep (below_alloc (Below.refl _ _) (Obj.cells #[Value.bool nq, Value.slice Aq nn cq] 37)))
      have HB6 : Below w.heap.size w (w2.alloc (Obj.cells #[Value.bool nq, Value.slice Aq nn cq] 37)) := below_alloc (below_step (below_step HBW HB) hb2) _
      cases na
      · have hz : 0 ≤ z := by have := HNA.out; simpa using this
        have HF : Hid (sgnd false (V B9 l) = z / d ∧ r = z % d) := by
          have e : ((z.natAbs : Nat) : Int) = z := by omega
          show _ ∧ _
          rw [E1'.out, E2'.out, V1.out, e]
          exact ⟨rfl, rfl⟩
        clear hz
        go_wp2
        refine bodyPost_ret (v := .tuple #[.agg #[.bool nq, .slice Aq nn cq], .int .i64 r]) (by simp [results, Tryz.results88, go_sem, r1, r2, r5]) rfl ⟨_, by rw [← HF.out.2], ?_, ?_⟩
        · rw [← HF.out.1]
          exact (HV.out.res2 HR5.out _ _).below (below_alloc (Below.refl _ _) _)
        · exact below_alloc (below_set (below_set (below_step (below_step HBW HB) hb2) (by omega) _) (by omega) _) _
      · have hz : z < 0 := by have := HNA.out; simpa using this
        have hzn : Hid (z = -(V B9 a)) := by show _ = _; rw [V1.out]; omega
        clear hz
        by_cases hr : r = 0
        · have hrb : (r == 0) = true := by simpa using hr
          have HF : Hid (-(V B9 l) = z / d ∧ 0 = z % d) := by
            obtain ⟨f1, f2⟩ := neg_div0 hd1 E1'.out E2'.out hr
            show _ ∧ _
            rw [hzn.out]; exact ⟨f1.symm, f2.symm⟩
          clear hr
          go_wp2_with (go_at_call 98; (with_reducible refine (Minus_c _ _ _ HQ.out).mono ?_); rintro e w3 ⟨v, rfl, hv, hb3⟩; obtain ⟨nq2, Aq2, nn2, cq2, rfl, HV2⟩ := hv.form; clear hv; have HR7 := Lib.hid (HR6.out.keep hb3); obtain ⟨⟨x1, y1⟩, ⟨x2, x3, x4, y2⟩, y3, y4, y5⟩ := HR7.out)
          refine bodyPost_ret (v := .tuple #[.agg #[.bool nq2, .slice Aq2 nn2 cq2], .int .i64 0]) (by simp [results, Tryz.results88, go_sem, y1, y2, y5]) rfl ⟨_, by rw [← HF.out.2], ?_, ?_⟩
          · rw [← HF.out.1]
            exact HV2.out.res2 HR7.out _ _
          · exact below_set (below_set (below_step HB6 hb3) (by omega) _) (by omega) _
        · have hrb : (r == 0) = false := by simpa using hr
          have HF : Hid (-(V B9 l + 1) = z / d ∧ d - r = z % d) := by
            obtain ⟨f1, f2⟩ := neg_div1 hd1 E1'.out E2'.out hr
            show _ ∧ _
            rw [hzn.out]; exact ⟨f1.symm, f2.symm⟩
          have hr1 : 0 ≤ r := i3
          have hr2 : r < d := i4
          clear hr
          have SQ : Hid ((dg B9 (sgnd false (V B9 l))).length ≤ 1000000000000) := by
            show _ ≤ _
            obtain ⟨A9, c9, e9, h9⟩ := HV.out
            injection e9 with e9
            have := h9.2.1
            unfold dg
            rw [sgnd_abs]
            have h1 := V_lt I2.out
            have h0 := V_nonneg I2.out
            have : (V B9 l).natAbs < B9 ^ l.length := by
              have : ((B9 ^ l.length : Nat) : Int) = (B9 : Int) ^ l.length := by rw [Int.natCast_pow]
              omega
            have := digs_len_le B9two this
            have := I1.out
            omega
          go_wp2
          generalize hW3 : w2.alloc (Obj.cells #[Value.bool nq, Value.slice Aq nn cq] 37) = W3 at HQ HR6 HB6 ⊢
          have c0 : W3.cell? ⟨w2.heap.size, 0, none⟩ = some (.bool nq) := by subst hW3; simp [go_sem]
          have c1 : W3.cell? ⟨w2.heap.size, 1, none⟩ = some (.slice Aq nn cq) := by subst hW3; simp [go_sem]
          have c2 : w2.heap.size < W3.heap.size := by subst hW3; simp
          clear hW3
          have HSq : S1 W3 w2.heap.size nq (.slice Aq nn cq) := ⟨c0, c1⟩
          have hz3 : w.heap.size + 1 < w2.heap.size := r5
          have e9 := IntWalk.i64_in (d - r) (by omega)
          go_region_held3 (fun w' => w'.cell? ⟨w2.heap.size, 0, none⟩ = some (.bool nq) ∧ w'.cell? ⟨w2.heap.size, 1, none⟩ = some (.slice Aq nn cq))
            (first | exact HSq | exact HSq.drew.keep hb4 c2 | exact (HSq.drew.keep hb4 c2).keep hb5 (Nat.lt_of_lt_of_le c2 hb4.size) | exact ((HSq.drew.keep hb4 c2).keep hb5 (Nat.lt_of_lt_of_le c2 hb4.size)).keep hb6 (Nat.lt_of_lt_of_le (Nat.lt_of_lt_of_le c2 hb4.size) hb5.size) | exact ((((HSq.drew.keep hb4 c2).keep hb5 (Nat.lt_of_lt_of_le c2 hb4.size)).keep hb6 (Nat.lt_of_lt_of_le (Nat.lt_of_lt_of_le c2 hb4.size) hb5.size)).set (Nat.ne_of_lt hz3)).set (Nat.ne_of_lt hz3))
            (first
              | (go_at_call 15; (with_reducible refine (Of_c 1 _ (by omega) (by omega)).mono ?_); rintro e w4 ⟨v, rfl, hv, hb4⟩; obtain ⟨n4, A4, m4, k4, rfl, HV4⟩ := hv.form; clear hv)
              | (go_at_call 14; (with_reducible refine (Add_c _ 1 _ _ _ (by exact HQ.out.below (by repeat (with_reducible first | assumption | exact Below.refl _ _ | apply below_drew | apply below_drewN | apply below_alloc | refine below_step ?_ (by assumption)))) HV4.out SQ.out len_one).mono ?_); rintro e w5 ⟨v, rfl, hv, hb5⟩; obtain ⟨n5, A5, m5, k5, rfl, HV5⟩ := hv.form; clear hv)
              | (go_at_call 98; (with_reducible refine (Minus_c _ _ _ HV5.out).mono ?_); rintro e w6 ⟨v, rfl, hv, hb6⟩; obtain ⟨n6, A6, m6, k6, rfl, HV6⟩ := hv.form; clear hv; have HR7 := Lib.hid (((HR6.out.drew.keep hb4).keep hb5).keep hb6); obtain ⟨⟨x1, y1⟩, ⟨x2, x3, x4, y2⟩, y3, y4, y5⟩ := HR7.out))
          clear e9
          go_wp2
          refine bodyPost_ret (v := .tuple #[.agg #[.bool n6, .slice A6 m6 k6], .int .i64 (d - r)]) (by simp [results, Tryz.results88, go_sem, y1, y2, y5]) rfl ⟨_, by rw [← HF.out.2], ?_, ?_⟩
          · rw [← HF.out.1]
            exact HV6.out.res2 HR7.out _ _
          · exact below_set (below_set (below_step (below_step (below_step (below_drew HB6) hb4) hb5) hb6) (by omega) _) (by omega) _
    · obtain ⟨m, rfl⟩ : ∃ m, k = m + 1 := ⟨k - 1, by omega⟩
      have HST := Lib.hid (HI.out.step D1.out)
      have a1 := gd9 D1.out m
      obtain ⟨a1, a2⟩ := a1
      have hm : m < l.length := by have := I1.out; omega
      have hm2 : m < a.length := by omega
      have q1 := HG.out.cell (j := m) hm
      have q2 := HG.out.frozen m
      obtain ⟨ba, oa, rfl, hla, hca⟩ := (L1.out.below HB).cell (j := m) hm2
      clear HI hm
      go_wp2
      go_roundw
      case rel => exact ⟨m, _, _, by go_num, rfl, HG.out.set _ _, HB.setCell (p := ⟨_, _, none⟩) (Nat.le_refl _) _, HST.out⟩
      case measure => simp [intOf]
end Go.Proofs.YtiaeeclmlchpoaaGreatDoor

set_option linter.unusedVariables false
set_option linter.unusedSimpArgs false
namespace Go.Proofs.YtiaeeclmlchpoaaGreatDoor

/-- The codes of a string's bytes. -/
def codes (s : ByteArray) : List Int := s.data.toList.map fun c => (c.toNat : Int)
def mkS (l : List Int) : ByteArray := ⟨(l.map fun n => UInt8.ofNat n.toNat).toArray⟩
theorem codes_length (s : ByteArray) : (codes s).length = s.size := by unfold codes; rw [List.length_map, Array.length_toList]; rfl
theorem codes_inj {s t : ByteArray} (h : codes s = codes t) : s = t := by
  have : s.data.toList = t.data.toList := by
    unfold codes at h
    refine (List.map_inj_right ?_).1 h
    intro a b hab
    exact UInt8.toNat_inj.1 (by omega)
  cases s; cases t
  congr
  exact Array.toList_inj.1 this
theorem codes_gd {s : ByteArray} {i : Nat} (h : i < s.size) : ((s[i]'h).toNat : Int) = gd (codes s) i := by
  rw [gd_lt (by rw [codes_length]; exact h)]
  unfold codes
  rw [List.getElem_map]
  rfl
theorem codes_range (s : ByteArray) : ∀ n ∈ codes s, 0 ≤ n ∧ n < 256 := by
  intro n hn
  unfold codes at hn
  obtain ⟨c, _, rfl⟩ := List.mem_map.1 hn
  have := c.toNat_lt
  omega
theorem codes_mk {l : List Int} (h : ∀ n ∈ l, 0 ≤ n ∧ n < 256) : codes (mkS l) = l := by
  unfold codes mkS
  simp only [List.map_map]
  conv => rhs; rw [← List.map_id l]
  apply List.map_congr_left
  intro n hn
  have := h n hn
  simp
  omega
theorem mkS_size (l : List Int) : (mkS l).size = l.length := by unfold mkS; simp [ByteArray.size]

/-- The decimal digits of a natural number, as codes, the highest first. -/
def txN (n : Nat) : List Int := if n = 0 then [48] else ((digs 10 n).map (· + 48)).reverse
/-- A number as codes. -/
def tx (z : Int) : List Int := (if z < 0 then [45] else []) ++ txN z.natAbs
def tS (z : Int) : ByteArray := mkS (tx z)
theorem txN_range (n : Nat) : ∀ c ∈ txN n, 48 ≤ c ∧ c ≤ 57 := by
  unfold txN
  split
  · simp
  · intro c hc
    simp only [List.mem_reverse, List.mem_map] at hc
    obtain ⟨d, hd, rfl⟩ := hc
    have : 0 ≤ d ∧ d < ((10 : Nat) : Int) := digs_dg (B := 10) (by omega) n d hd
    omega
theorem tx_range (z : Int) : ∀ c ∈ tx z, 0 ≤ c ∧ c < 256 := by
  intro c hc
  unfold tx at hc
  rw [List.mem_append] at hc
  rcases hc with hc | hc
  · split at hc <;> simp at hc; omega
  · have := txN_range _ c hc; omega
theorem codes_tS (z : Int) : codes (tS z) = tx z := codes_mk (tx_range z)
theorem txN_length {n : Nat} (h : 0 < n) : (txN n).length = (digs 10 n).length := by unfold txN; rw [if_neg (by omega)]; simp
theorem txN_ne (n : Nat) : txN n ≠ [] := by
  unfold txN
  split
  · simp
  · rename_i h
    rw [digs_pos (by omega) (by omega)]
    simp
theorem txN_head {n : Nat} (h : 0 < n) : (txN n).head? ≠ some 48 := by
  unfold txN
  rw [if_neg (by omega), List.head?_reverse]
  intro he
  rw [List.getLast?_map] at he
  obtain ⟨d, hd, hd2⟩ := Option.map_eq_some_iff.1 he
  have : d = 0 := by omega
  subst this
  exact digs_nm (B := 10) (by omega) n hd
/-- The number of digits, 1 for 0. -/
def dlN (n : Nat) : Nat := (txN n).length
theorem dlN_pos (n : Nat) : 0 < dlN n := List.length_pos_iff.2 (txN_ne n)

/-- What is written without the sign. -/
def strip (l : List Int) : List Int := if l.head? = some 45 then l.tail else l
/-- Is it a number of at most 2000 digits? -/
def vldL (l : List Int) : Bool :=
  decide (1 ≤ (strip l).length) && decide ((strip l).length ≤ 2000) && !(decide ((strip l).head? = some 48) && decide (1 < l.length)) && (strip l).all fun c => decide (48 ≤ c ∧ c ≤ 57)
theorem digits_of {r : List Int} (hr : r ≠ []) (h : ∀ c ∈ r, 48 ≤ c ∧ c ≤ 57) (h0 : r.head? ≠ some 48) : ∃ n : Nat, 0 < n ∧ r = txN n := by
  have hd : Dg 10 (r.reverse.map (· - 48)) := by
    intro d hd
    simp only [List.mem_map, List.mem_reverse] at hd
    obtain ⟨c, hc, rfl⟩ := hd
    have := h c hc
    omega
  have hn : Nm (r.reverse.map (· - 48)) := by
    unfold Nm
    rw [List.getLast?_map, List.getLast?_reverse]
    intro he
    obtain ⟨c, hc, hc2⟩ := Option.map_eq_some_iff.1 he
    exact h0 (by rw [hc]; congr 1; omega)
  have hv := V_nonneg hd
  have e := digs_unique (B := 10) (by omega) _ hd hn
  have hpos : 0 < (V 10 (r.reverse.map (· - 48))).toNat := by
    rcases Nat.eq_zero_or_pos (V 10 (r.reverse.map (· - 48))).toNat with h1 | h1
    · rw [h1, digs_zero] at e
      simp at e
      exact absurd e hr
    · exact h1
  refine ⟨(V 10 (r.reverse.map (· - 48))).toNat, hpos, ?_⟩
  unfold txN
  rw [if_neg (by omega), ← e, List.map_map]
  have : (r.reverse.map ((fun x => x + 48) ∘ fun x => x - 48)) = r.reverse := by
    conv => rhs; rw [← List.map_id r.reverse]
    apply List.map_congr_left
    intro c _
    simp
  rw [this, List.reverse_reverse]
theorem strip_tx (z : Int) : strip (tx z) = txN z.natAbs := by
  unfold tx strip
  by_cases h : z < 0
  · simp [h]
  · simp only [h, if_false, List.nil_append]
    rw [if_neg]
    intro he
    have := txN_range z.natAbs 45 (List.mem_of_mem_head? he)
    omega
theorem tx_neg {z : Int} : (tx z).head? = some 45 ↔ z < 0 := by
  unfold tx
  by_cases h : z < 0
  · simp [h]
  · simp only [h, if_false, List.nil_append, iff_false]
    intro he
    have := txN_range z.natAbs 45 (List.mem_of_mem_head? he)
    omega
theorem vld_tx (z : Int) (h : dlN z.natAbs ≤ 2000) : vldL (tx z) = true := by
  unfold vldL
  rw [strip_tx]
  have h1 := dlN_pos z.natAbs
  unfold dlN at h h1
  have h3 : (!(decide ((txN z.natAbs).head? = some 48) && decide (1 < (tx z).length))) = true := by
    rcases Nat.eq_zero_or_pos z.natAbs with h0 | h0
    · have : z = 0 := by omega
      subst this
      rfl
    · have := txN_head h0
      simp [this]
  rw [h3]
  simp only [Bool.and_eq_true, decide_eq_true_eq, List.all_eq_true, and_true]
  exact ⟨⟨h1, h⟩, fun c hc => txN_range _ c hc⟩
theorem vld_num {l : List Int} (h : vldL l = true) : ∃ z, l = tx z ∧ dlN z.natAbs ≤ 2000 := by
  unfold vldL at h
  simp only [Bool.and_eq_true, decide_eq_true_eq, List.all_eq_true] at h
  obtain ⟨⟨⟨h1, h2⟩, h3⟩, h4⟩ := h
  have hr : strip l ≠ [] := List.length_pos_iff.1 h1
  by_cases h0 : (strip l).head? = some 48
  · have hl : ¬ 1 < l.length := by
      intro hl
      simp [h0, hl] at h3
    have hs : strip l = l := by
      unfold strip at hr ⊢
      split
      · rename_i hh
        rw [if_pos hh] at hr
        cases l with
        | nil => simp at hh
        | cons a t =>
          cases t with
          | nil => simp at hr
          | cons b t => simp at hl
      · rfl
    rw [hs] at h0
    cases l with
    | nil => simp at h0
    | cons a t =>
      cases t with
      | nil =>
        simp at h0
        subst h0
        exact ⟨0, rfl, by decide⟩
      | cons b t => simp at hl
  · obtain ⟨n, hn, e⟩ := digits_of hr h4 h0
    by_cases hneg : l.head? = some 45
    · refine ⟨-(n : Int), ?_, ?_⟩
      · have hs : strip l = l.tail := by unfold strip; rw [if_pos hneg]
        unfold tx
        rw [if_pos (by omega), show (-(n : Int)).natAbs = n by omega, ← e, hs]
        cases l with
        | nil => simp at hneg
        | cons a t => simp at hneg; simp [hneg]
      · rw [show (-(n : Int)).natAbs = n by omega, dlN, ← e]; exact h2
    · refine ⟨(n : Int), ?_, ?_⟩
      · have hs : strip l = l := by unfold strip; rw [if_neg hneg]
        unfold tx
        rw [if_neg (by omega), show ((n : Int)).natAbs = n by omega, ← e, hs]
        rfl
      · rw [show ((n : Int)).natAbs = n by omega, dlN, ← e]; exact h2
theorem gd_drop (l : List Int) (a j : Nat) : gd (l.drop a) j = gd l (a + j) := by unfold gd; simp [List.getD_eq_getElem?_getD]
theorem strip_drop {l : List Int} {a : Nat} (h : l ≠ []) (ha : a = if gd l 0 = 45 then 1 else 0) : strip l = l.drop a := by
  cases l with
  | nil => exact absurd rfl h
  | cons x t =>
    have e : gd (x :: t) 0 = x := rfl
    rw [e] at ha
    unfold strip
    by_cases hx : x = 45
    · subst hx; simp at ha; subst ha; simp
    · rw [if_neg hx] at ha; subst ha; simp [hx]
theorem vld_char {l : List Int} {a : Nat} (h : l ≠ []) (ha : a = if gd l 0 = 45 then 1 else 0) :
    vldL l = true ↔ (a < l.length ∧ l.length - a ≤ 2000) ∧ ¬ (gd l a = 48 ∧ 1 < l.length) ∧ ∀ j, a ≤ j → j < l.length → 48 ≤ gd l j ∧ gd l j ≤ 57 := by
  unfold vldL
  rw [strip_drop h ha]
  simp only [Bool.and_eq_true, decide_eq_true_eq, List.all_eq_true, List.length_drop]
  have hall : (∀ c ∈ l.drop a, 48 ≤ c ∧ c ≤ 57) ↔ ∀ j, a ≤ j → j < l.length → 48 ≤ gd l j ∧ gd l j ≤ 57 := by
    constructor
    · intro hc j hj hl
      apply hc
      have e : gd l j = gd (l.drop a) (j - a) := by rw [gd_drop, show a + (j - a) = j by omega]
      rw [e, gd_lt (by rw [List.length_drop]; omega)]
      exact List.getElem_mem _
    · intro hj c hc
      obtain ⟨i, hi, rfl⟩ := List.getElem_of_mem hc
      rw [← gd_lt hi, gd_drop]
      rw [List.length_drop] at hi
      exact hj _ (by omega) (by omega)
  rw [hall]
  have hhead : a < l.length → ((l.drop a).head? = some 48 ↔ gd l a = 48) := by
    intro hl
    rw [List.head?_drop, List.getElem?_eq_getElem hl, gd_lt hl]
    simp
  constructor
  · rintro ⟨⟨⟨h1, h2⟩, h3⟩, h4⟩
    have hl : a < l.length := by omega
    refine ⟨⟨hl, h2⟩, ?_, h4⟩
    rintro ⟨e1, e2⟩
    rw [← hhead hl] at e1
    simp [e1, e2] at h3
  · rintro ⟨⟨h1, h2⟩, h3, h4⟩
    refine ⟨⟨⟨by omega, h2⟩, ?_⟩, h4⟩
    by_cases e : (l.drop a).head? = some 48
    · have := (hhead h1).1 e
      have hl : ¬ 1 < l.length := fun hl => h3 ⟨this, hl⟩
      simp [hl]
    · have : decide ((l.drop a).head? = some 48) = false := decide_eq_false e
      rw [this]; rfl
theorem txN_inj {m n : Nat} (h : txN m = txN n) : m = n := by
  rcases Nat.eq_zero_or_pos m with rfl | hm
  · rcases Nat.eq_zero_or_pos n with rfl | hn
    · rfl
    · exact absurd (by rw [← h]; rfl) (txN_head hn)
  · rcases Nat.eq_zero_or_pos n with rfl | hn
    · exact absurd (by rw [h]; rfl) (txN_head hm)
    · unfold txN at h
      rw [if_neg (by omega), if_neg (by omega)] at h
      have h := List.reverse_inj.1 h
      have h := (List.map_inj_right (by intro a b; omega)).1 h
      have a := digs_V (B := 10) (by omega) m
      have b := digs_V (B := 10) (by omega) n
      rw [h] at a
      omega
theorem tx_inj {a b : Int} (h : tx a = tx b) : a = b := by
  have hs : txN a.natAbs = txN b.natAbs := by rw [← strip_tx, ← strip_tx, h]
  have hn := txN_inj hs
  have : a < 0 ↔ b < 0 := by rw [← tx_neg, ← tx_neg, h]
  omega
theorem tS_inj {a b : Int} (h : tS a = tS b) : a = b := tx_inj (by rw [← codes_tS, ← codes_tS, h])
/-- The value of digits. -/
def dv (l : List Int) : Int := V 10 (l.reverse.map (· - 48))
theorem dv_txN (n : Nat) : dv (txN n) = n := by
  unfold dv txN
  split
  · rename_i h; subst h; rfl
  · rw [List.reverse_reverse, List.map_map]
    have : (digs 10 n).map ((fun x => x - 48) ∘ fun x => x + 48) = digs 10 n := by
      conv => rhs; rw [← List.map_id (digs 10 n)]
      apply List.map_congr_left
      intro c _
      simp
    rw [this]
    exact digs_V (by omega) n
theorem dv_snoc (l : List Int) (c : Int) : dv (l ++ [c]) = 10 * dv l + (c - 48) := by
  unfold dv
  rw [List.reverse_append]
  simp only [List.reverse_cons, List.reverse_nil, List.nil_append, List.cons_append, List.map_cons, V]
  omega
theorem dv_append (l m : List Int) : dv (l ++ m) = (10 : Int) ^ m.length * dv l + dv m := by
  unfold dv
  rw [List.reverse_append, List.map_append, V_append]
  simp
  omega
end Go.Proofs.YtiaeeclmlchpoaaGreatDoor

set_option linter.unusedVariables false
set_option linter.unusedSimpArgs false
namespace Go.Proofs.YtiaeeclmlchpoaaGreatDoor
open Go.RowKit

def Digs (l : List Int) (a k : Nat) : Prop := ∀ j, a ≤ j → j < k → 48 ≤ gd l j ∧ gd l j ≤ 57
theorem Digs.snoc {l : List Int} {a k : Nat} (h : Digs l a k) (h1 : 48 ≤ gd l k) (h2 : gd l k ≤ 57) : Digs l a (k + 1) := by
  intro j hj hk
  rcases Nat.lt_or_ge j k with hlt | hge
  · exact h j hj hlt
  · obtain rfl : j = k := by omega
    exact ⟨h1, h2⟩
theorem codes_nil {s : ByteArray} (h : s.size = 0) : codes s = [] := List.eq_nil_of_length_eq_zero (by rw [codes_length]; exact h)
theorem toList_length (s : ByteArray) : s.toList.length = s.size := by rw [ByteArray.toList_eq, Array.length_toList]; rfl
theorem toList_nil {s : ByteArray} (h : s.size = 0) : s.toList = [] := List.eq_nil_of_length_eq_zero (by rw [toList_length]; exact h)
theorem toList_cons {s : ByteArray} (h : 0 < s.size) : (s.toList == []) = false ∧ (s.toList != []) = true ∧ s.toList.isEmpty = false := by
  have := toList_length s
  cases e : s.toList with
  | nil => rw [e] at this; simp at this; omega
  | cons a t => exact ⟨rfl, rfl, rfl⟩

set_option maxRecDepth 100000 in
set_option maxHeartbeats 2000000 in
theorem Valid_c (s : ByteArray) (w : World) (hs : s.size ≤ 9223372036854775807) :
    Calls Tryz.prog 5 #[.string s] w fun e w' => e = .returned (.bool (vldL (codes s))) ∧ w = w' := by
  rcases Nat.eq_zero_or_pos s.size with h0 | h0
  · have e0 := toList_nil h0
    have hr : vldL (codes s) = false := by rw [codes_nil h0]; rfl
    rw [hr]
    have hz : (s.size : Int) ≤ 0 := by omega
    clear hr h0
    go_enter Tryz.func5, Tryz.ntmps5
    go_wp2
    go_ret
    exact ⟨rfl, rfl⟩
  · obtain ⟨e1, e2, e3⟩ := toList_cons h0
    have HNE : Hid (codes s ≠ []) := fun h => by have := codes_length s; rw [h] at this; simp at this; omega
    have HL := Lib.hid (codes_length s)
    have hx0 : ∀ h : 0 < s.size, ((s[0]'h).toNat : Int) = gd (codes s) 0 := fun h => codes_gd h
    by_cases q : gd (codes s) 0 = 45
    · have HC := Lib.hid (vld_char (a := 1) HNE.out (by rw [if_pos q]))
      have qb : (gd (codes s) 0 == 45) = true := by simpa using q
      clear q
      have hxa : ∀ h : 1 < s.size, ((s[1]'h).toNat : Int) = gd (codes s) 1 := fun h => codes_gd h
      by_cases q1 : 1 < s.size
      · by_cases q2 : (s.size : Int) - 1 ≤ 2000
        · by_cases q3 : gd (codes s) 1 = 48 ∧ 1 < s.size
          · have hr : vldL (codes s) = false := by
              cases hv : vldL (codes s) with
              | false => rfl
              | true => exact absurd ⟨q3.1, by rw [HL.out]; exact q3.2⟩ (HC.out.1 hv).2.1
            rw [hr]
            have qc : (gd (codes s) 1 == 48) = true := by simpa using q3.1
            have qd : (1 : Int) < (s.size : Int) := by have := q3.2; omega
            clear q3 hr
            go_enter Tryz.func5, Tryz.ntmps5
            go_wp2
            go_ret
            exact ⟨rfl, rfl⟩
          · have HQ : Hid (¬ (gd (codes s) 1 = 48 ∧ 1 < (codes s).length)) := by rw [HL.out]; exact q3
            have q3' : (gd (codes s) 1 == 48) = false ∨ ((gd (codes s) 1 == 48) = true ∧ ¬ (1 : Int) < (s.size : Int)) := by
              by_cases h48 : gd (codes s) 1 = 48
              · exact .inr ⟨by simpa using h48, fun h => q3 ⟨h48, by omega⟩⟩
              · exact .inl (by simpa using h48)
            clear q3
            rcases q3' with q3 | ⟨q3, q4⟩
            rotate_left; exact absurd (by omega) q4
            all_goals
              go_enter Tryz.func5, Tryz.ntmps5
              go_wp2
              go_loop [5] (fun i => ∃ k : Nat, 1 ≤ k ∧ k ≤ s.size ∧ i = .int .i64 k ∧ Hid (Digs (codes s) 1 k)) (fun i => s.size - (intOf i).toNat)
              case atStart => exact ⟨1, Nat.le_refl _, by omega, rfl, fun j h1 h2 => by omega⟩
              case round =>
                obtain ⟨k, hk1, hk2, rfl, HI⟩ := hrel
                by_cases hk : k < s.size
                · have hxk : ∀ h : k < s.size, ((s[k]'h).toNat : Int) = gd (codes s) k := fun h => codes_gd h
                  by_cases d1 : gd (codes s) k < 48
                  · have HR : Hid (vldL (codes s) = false) := by
                      show _ = _
                      cases hv : vldL (codes s) with
                      | false => rfl
                      | true => have := (HC.out.1 hv).2.2 k hk1 (by rw [HL.out]; exact hk); omega
                    go_wp2
                    go_ret
                    exact ⟨by rw [HR.out]; rfl, rfl⟩
                  · by_cases d2 : 57 < gd (codes s) k
                    · have HR : Hid (vldL (codes s) = false) := by
                        show _ = _
                        cases hv : vldL (codes s) with
                        | false => rfl
                        | true => have := (HC.out.1 hv).2.2 k hk1 (by rw [HL.out]; exact hk); omega
                      go_wp2
                      go_ret
                      exact ⟨by rw [HR.out]; rfl, rfl⟩
                    · have HS : Hid (Digs (codes s) 1 (k + 1)) := HI.out.snoc (by omega) (by omega)
                      go_wp2
                      go_round
                      case rel => exact ⟨k + 1, by omega, by omega, by go_num, HS⟩
                      case measure => simp [intOf]; omega
                · have HR : Hid (vldL (codes s) = true) := by
                    show _ = _
                    exact HC.out.2 ⟨⟨by rw [HL.out]; exact q1, by rw [HL.out]; omega⟩, HQ.out, fun j h1 h2 => HI.out j h1 (by rw [HL.out] at h2; omega)⟩
                  go_wp2
                  go_ret
                  exact ⟨by rw [HR.out]; rfl, rfl⟩
        · have hr : vldL (codes s) = false := by
            cases hv : vldL (codes s) with
            | false => rfl
            | true => have := (HC.out.1 hv).1.2; rw [HL.out] at this; omega
          rw [hr]
          clear hr
          go_enter Tryz.func5, Tryz.ntmps5
          go_wp2
          go_ret
          exact ⟨rfl, rfl⟩
      · have hr : vldL (codes s) = false := by
          cases hv : vldL (codes s) with
          | false => rfl
          | true => have := (HC.out.1 hv).1.1; rw [HL.out] at this; exact absurd this q1
        rw [hr]
        have hz : (s.size : Int) - 1 < 1 := by omega
        clear hr
        go_enter Tryz.func5, Tryz.ntmps5
        go_wp2
        go_ret
        exact ⟨rfl, rfl⟩
    
    · have HC := Lib.hid (vld_char (a := 0) HNE.out (by rw [if_neg q]))
      have qb : (gd (codes s) 0 == 45) = false := by simpa using q
      clear q
      have hxa : ∀ h : 0 < s.size, ((s[0]'h).toNat : Int) = gd (codes s) 0 := fun h => codes_gd h
      by_cases q1 : 0 < s.size
      · by_cases q2 : (s.size : Int) - 0 ≤ 2000
        · by_cases q3 : gd (codes s) 0 = 48 ∧ 1 < s.size
          · have hr : vldL (codes s) = false := by
              cases hv : vldL (codes s) with
              | false => rfl
              | true => exact absurd ⟨q3.1, by rw [HL.out]; exact q3.2⟩ (HC.out.1 hv).2.1
            rw [hr]
            have qc : (gd (codes s) 0 == 48) = true := by simpa using q3.1
            have qd : (1 : Int) < (s.size : Int) := by have := q3.2; omega
            clear q3 hr
            go_enter Tryz.func5, Tryz.ntmps5
            go_wp2
            go_ret
            exact ⟨rfl, rfl⟩
          · have HQ : Hid (¬ (gd (codes s) 0 = 48 ∧ 1 < (codes s).length)) := by rw [HL.out]; exact q3
            have q3' : (gd (codes s) 0 == 48) = false ∨ ((gd (codes s) 0 == 48) = true ∧ ¬ (1 : Int) < (s.size : Int)) := by
              by_cases h48 : gd (codes s) 0 = 48
              · exact .inr ⟨by simpa using h48, fun h => q3 ⟨h48, by omega⟩⟩
              · exact .inl (by simpa using h48)
            clear q3
            rcases q3' with q3 | ⟨q3, q4⟩
            
            all_goals
              go_enter Tryz.func5, Tryz.ntmps5
              go_wp2
              go_loop [5] (fun i => ∃ k : Nat, 0 ≤ k ∧ k ≤ s.size ∧ i = .int .i64 k ∧ Hid (Digs (codes s) 0 k)) (fun i => s.size - (intOf i).toNat)
              case atStart => exact ⟨0, Nat.le_refl _, by omega, rfl, fun j h1 h2 => by omega⟩
              case round =>
                obtain ⟨k, hk1, hk2, rfl, HI⟩ := hrel
                by_cases hk : k < s.size
                · have hxk : ∀ h : k < s.size, ((s[k]'h).toNat : Int) = gd (codes s) k := fun h => codes_gd h
                  by_cases d1 : gd (codes s) k < 48
                  · have HR : Hid (vldL (codes s) = false) := by
                      show _ = _
                      cases hv : vldL (codes s) with
                      | false => rfl
                      | true => have := (HC.out.1 hv).2.2 k hk1 (by rw [HL.out]; exact hk); omega
                    go_wp2
                    go_ret
                    exact ⟨by rw [HR.out]; rfl, rfl⟩
                  · by_cases d2 : 57 < gd (codes s) k
                    · have HR : Hid (vldL (codes s) = false) := by
                        show _ = _
                        cases hv : vldL (codes s) with
                        | false => rfl
                        | true => have := (HC.out.1 hv).2.2 k hk1 (by rw [HL.out]; exact hk); omega
                      go_wp2
                      go_ret
                      exact ⟨by rw [HR.out]; rfl, rfl⟩
                    · have HS : Hid (Digs (codes s) 0 (k + 1)) := HI.out.snoc (by omega) (by omega)
                      go_wp2
                      go_round
                      case rel => exact ⟨k + 1, by omega, by omega, by go_num, HS⟩
                      case measure => simp [intOf]; omega
                · have HR : Hid (vldL (codes s) = true) := by
                    show _ = _
                    exact HC.out.2 ⟨⟨by rw [HL.out]; exact q1, by rw [HL.out]; omega⟩, HQ.out, fun j h1 h2 => HI.out j h1 (by rw [HL.out] at h2; omega)⟩
                  go_wp2
                  go_ret
                  exact ⟨by rw [HR.out]; rfl, rfl⟩
        · have hr : vldL (codes s) = false := by
            cases hv : vldL (codes s) with
            | false => rfl
            | true => have := (HC.out.1 hv).1.2; rw [HL.out] at this; omega
          rw [hr]
          clear hr
          go_enter Tryz.func5, Tryz.ntmps5
          go_wp2
          go_ret
          exact ⟨rfl, rfl⟩
      · exact absurd h0 q1
end Go.Proofs.YtiaeeclmlchpoaaGreatDoor
