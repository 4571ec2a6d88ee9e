/- Plain facts about numbers written as lists of digits to a base, the lowest first. No condition. -/
import Derived.Below
import Derived.Deep.Draws
import Derived.Deep.AppendLies
import Derived.Maps.AppendAt
import Derived.OwnWalk
import Derived.Laws.OwnMore
import Derived.Laws.MakeOwn
import Derived.Laws.Slices
import Derived.WalkKit
import Derived.KernelRfl
import Derived.RowKit3
import Derived.Lib.Hide
import Derived.Outline
import Derived.Deep.RegionHeld3
import Derived.Deep.QuietTactic
import Derived.BigQuiet
import Derived.StillTailTactics
import Derived.WalkSpells
import Derived.Test.YtiaeeclmlchpoaaProg
set_option linter.unusedVariables false
namespace Go.Proofs.Ytiaeeclmlchpoaa

/-- The number that a list of digits stands for, the lowest digit first. -/
def V (B : Nat) : List Int → Int
  | [] => 0
  | d :: l => d + B * V B l

/-- All digits lie below the base. -/
def Dg (B : Nat) (l : List Int) : Prop := ∀ d ∈ l, 0 ≤ d ∧ d < (B : Int)

/-- No zero at the end. -/
def Nm (l : List Int) : Prop := l.getLast? ≠ some 0

theorem Dg.nil (B : Nat) : Dg B [] := by intro d h; simp at h
theorem Dg.cons {B : Nat} {d : Int} {l : List Int} (h0 : 0 ≤ d) (h1 : d < (B : Int)) (h : Dg B l) : Dg B (d :: l) := by
  intro x hx; simp at hx; rcases hx with rfl | hx
  · exact ⟨h0, h1⟩
  · exact h x hx
theorem Dg.head {B : Nat} {d : Int} {l : List Int} (h : Dg B (d :: l)) : 0 ≤ d ∧ d < (B : Int) := h d (by simp)
theorem Dg.tail {B : Nat} {d : Int} {l : List Int} (h : Dg B (d :: l)) : Dg B l := fun x hx => h x (by simp [hx])
theorem Dg.append {B : Nat} {l m : List Int} (h : Dg B l) (k : Dg B m) : Dg B (l ++ m) := by
  intro x hx; simp at hx; rcases hx with hx | hx
  · exact h x hx
  · exact k x hx
theorem Dg.left {B : Nat} {l m : List Int} (h : Dg B (l ++ m)) : Dg B l := fun x hx => h x (by simp [hx])
theorem Dg.right {B : Nat} {l m : List Int} (h : Dg B (l ++ m)) : Dg B m := fun x hx => h x (by simp [hx])
theorem Dg.take {B : Nat} {l : List Int} (h : Dg B l) (n : Nat) : Dg B (l.take n) := fun x hx => h x (List.mem_of_mem_take hx)
theorem Dg.drop {B : Nat} {l : List Int} (h : Dg B l) (n : Nat) : Dg B (l.drop n) := fun x hx => h x (List.mem_of_mem_drop hx)
theorem Dg.getD {B : Nat} {l : List Int} (h : Dg B l) (hB : 0 < B) (i : Nat) : 0 ≤ l.getD i 0 ∧ l.getD i 0 < (B : Int) := by
  rw [List.getD_eq_getElem?_getD]
  cases hi : l[i]? with
  | none => simp; omega
  | some v => simp; exact h v (List.mem_of_getElem? hi)
theorem Dg.set {B : Nat} {l : List Int} (h : Dg B l) (i : Nat) {d : Int} (h0 : 0 ≤ d) (h1 : d < (B : Int)) : Dg B (l.set i d) := by
  intro x hx
  rcases List.mem_or_eq_of_mem_set hx with hx | rfl
  · exact h x hx
  · exact ⟨h0, h1⟩
theorem Dg.zeros {B : Nat} (hB : 0 < B) (n : Nat) : Dg B (List.replicate n 0) := by
  intro x hx; simp at hx; omega

theorem V_nil (B : Nat) : V B [] = 0 := rfl
theorem V_cons (B : Nat) (d : Int) (l : List Int) : V B (d :: l) = d + B * V B l := rfl
theorem V_append (B : Nat) (l m : List Int) : V B (l ++ m) = V B l + (B : Int) ^ l.length * V B m := by
  induction l with
  | nil => simp [V]
  | cons d l ih => simp only [List.cons_append, V, ih, List.length_cons, Int.pow_succ]; grind
theorem V_snoc (B : Nat) (l : List Int) (d : Int) : V B (l ++ [d]) = V B l + (B : Int) ^ l.length * d := by
  rw [V_append]; simp [V]
theorem V_zeros (B n : Nat) : V B (List.replicate n 0) = 0 := by
  induction n with
  | zero => rfl
  | succ n ih => rw [List.replicate_succ, V, ih]; simp
theorem V_nonneg {B : Nat} {l : List Int} (h : Dg B l) : 0 ≤ V B l := by
  induction l with
  | nil => simp [V]
  | cons d l ih =>
    have h1 := h.head; have h2 := ih h.tail
    have h3 : 0 ≤ (B : Int) * V B l := Int.mul_nonneg (by omega) h2
    simp only [V]; omega
theorem V_lt {B : Nat} {l : List Int} (h : Dg B l) : V B l < (B : Int) ^ l.length := by
  induction l with
  | nil => simp [V]
  | cons d l ih =>
    have h1 := h.head; have h2 := ih h.tail
    have h3 : (B : Int) * (V B l + 1) ≤ (B : Int) * (B : Int) ^ l.length := Int.mul_le_mul_of_nonneg_left (by omega) (by omega)
    simp only [V, List.length_cons, Int.pow_succ]
    rw [Int.mul_add] at h3
    rw [Int.mul_comm ((B : Int) ^ l.length)]
    omega
theorem V_pos {B : Nat} {l : List Int} (hB : 0 < B) (h : Dg B l) (hn : Nm l) (hl : l ≠ []) : (B : Int) ^ (l.length - 1) ≤ V B l := by
  obtain ⟨m, d, rfl⟩ : ∃ m d, l = m ++ [d] := ⟨l.dropLast, l.getLast hl, (List.dropLast_concat_getLast hl).symm⟩
  rw [V_snoc]
  have h1 := V_nonneg h.left
  have h2 : 0 ≤ d ∧ d < (B : Int) := h d (by simp)
  have h3 : d ≠ 0 := by intro e; subst e; simp [Nm] at hn
  have h4 : (B : Int) ^ m.length * 1 ≤ (B : Int) ^ m.length * d := Int.mul_le_mul_of_nonneg_left (by omega) (Int.pow_nonneg (by omega))
  simp only [List.length_append, List.length_cons, List.length_nil]
  have e : m.length + (0 + 1) - 1 = m.length := by omega
  rw [e]; omega
theorem V_getD (B : Nat) (l : List Int) (i : Nat) : V B (l.take (i + 1)) = V B (l.take i) + (B : Int) ^ i * l.getD i 0 := by
  by_cases h : i < l.length
  · rw [List.take_succ_eq_append_getElem h, V_snoc]
    rw [List.length_take, Nat.min_eq_left (by omega), List.getD_eq_getElem?_getD, List.getElem?_eq_getElem h]; rfl
  · rw [List.take_of_length_le (by omega), List.take_of_length_le (by omega), List.getD_eq_getElem?_getD, List.getElem?_eq_none (by omega)]
    simp
theorem V_split (B : Nat) (l : List Int) (i : Nat) (h : i ≤ l.length) : V B l = V B (l.take i) + (B : Int) ^ i * V B (l.drop i) := by
  conv => lhs; rw [← List.take_append_drop i l]
  rw [V_append, List.length_take, Nat.min_eq_left h]
theorem V_drop (B : Nat) (l : List Int) (i : Nat) : V B (l.drop i) = l.getD i 0 + B * V B (l.drop (i + 1)) := by
  by_cases h : i < l.length
  · rw [List.drop_eq_getElem_cons h, V, List.getD_eq_getElem?_getD, List.getElem?_eq_getElem h]; rfl
  · rw [List.drop_of_length_le (by omega), List.drop_of_length_le (by omega), List.getD_eq_getElem?_getD, List.getElem?_eq_none (by omega)]
    simp [V]
theorem V_set (B : Nat) (l : List Int) (i : Nat) (d : Int) (h : i < l.length) : V B (l.set i d) = V B l + (B : Int) ^ i * (d - l.getD i 0) := by
  have e1 := V_split B (l.set i d) i (by simp; omega)
  have e2 := V_split B l i (by omega)
  rw [V_drop, List.take_set_of_le (Nat.le_refl _), List.drop_set_of_lt (by omega)] at e1
  rw [V_drop] at e2
  have e3 : (l.set i d).getD i 0 = d := by simp [h]
  rw [e3] at e1
  grind

/-- The digits of a number that is not negative. -/
def digs (B : Nat) (n : Nat) : List Int :=
  if _h : n = 0 ∨ B < 2 then [] else ((n % B : Nat) : Int) :: digs B (n / B)
termination_by n
decreasing_by exact Nat.div_lt_self (by omega) (by omega)

theorem digs_zero (B : Nat) : digs B 0 = [] := by unfold digs; simp
theorem digs_pos {B n : Nat} (hB : 2 ≤ B) (hn : 0 < n) : digs B n = ((n % B : Nat) : Int) :: digs B (n / B) := by
  rw [digs, dif_neg (by omega)]
theorem digs_dg {B : Nat} (hB : 2 ≤ B) (n : Nat) : Dg B (digs B n) := by
  induction n using Nat.strongRecOn with
  | ind n ih =>
    rcases Nat.eq_zero_or_pos n with rfl | hn
    · rw [digs_zero]; exact Dg.nil B
    · rw [digs_pos hB hn]
      have := Nat.mod_lt n (show 0 < B by omega)
      exact Dg.cons (by omega) (by omega) (ih _ (Nat.div_lt_self hn (by omega)))
theorem digs_V {B : Nat} (hB : 2 ≤ B) (n : Nat) : V B (digs B n) = n := by
  induction n using Nat.strongRecOn with
  | ind n ih =>
    rcases Nat.eq_zero_or_pos n with rfl | hn
    · rw [digs_zero]; rfl
    · rw [digs_pos hB hn, V, ih _ (Nat.div_lt_self hn (by omega))]
      have := Nat.mod_add_div n B
      rw [← Int.natCast_mul, ← Int.natCast_add, this]
theorem digs_nm {B : Nat} (hB : 2 ≤ B) (n : Nat) : Nm (digs B n) := by
  induction n using Nat.strongRecOn with
  | ind n ih =>
    rcases Nat.eq_zero_or_pos n with rfl | hn
    · rw [digs_zero]; simp [Nm]
    · rw [digs_pos hB hn]
      have h1 := ih _ (Nat.div_lt_self hn (show 1 < B by omega))
      rcases Nat.eq_zero_or_pos (n / B) with h0 | h0
      · rw [h0, digs_zero]
        have : n % B = n := Nat.mod_eq_of_lt ((Nat.div_eq_zero_iff_lt (by omega)).1 h0)
        rw [this]; simp [Nm]; omega
      · rw [digs_pos hB h0] at h1 ⊢
        simpa [Nm] using h1
theorem digs_nil {B n : Nat} (hB : 2 ≤ B) (h : digs B n = []) : n = 0 := by
  have := digs_V hB n; rw [h] at this; simp [V] at this; omega
theorem Nm.tail {d e : Int} {l : List Int} (h : Nm (d :: e :: l)) : Nm (e :: l) := by simpa [Nm] using h
/-- A list of digits without a zero at the end is the one of its number. -/
theorem digs_unique {B : Nat} (hB : 2 ≤ B) (l : List Int) (h : Dg B l) (hn : Nm l) : l = digs B (V B l).toNat := by
  induction l with
  | nil => simp [V, digs_zero]
  | cons d l ih =>
    have h1 := h.head
    have h2 := V_nonneg h.tail
    have hm : 0 ≤ (B : Int) * V B l := Int.mul_nonneg (by omega) h2
    have ih := ih h.tail (by cases l with | nil => simp [Nm] | cons e l => exact hn.tail)
    have hpos : 0 < V B (d :: l) := by
      have := V_pos (by omega) h hn (by simp)
      have : (0 : Int) < (B : Int) ^ ((d :: l).length - 1) := Int.pow_pos (by omega)
      omega
    have e : (V B (d :: l)).toNat = d.toNat + B * (V B l).toNat := by
      apply Int.ofNat.inj
      show ((V B (d :: l)).toNat : Int) = ((d.toNat + B * (V B l).toNat : Nat) : Int)
      rw [Int.natCast_add, Int.natCast_mul, Int.toNat_of_nonneg (by omega), Int.toNat_of_nonneg h1.1, Int.toNat_of_nonneg h2]; rfl
    rw [digs_pos hB (by omega), e]
    have hd : d.toNat < B := by omega
    rw [Nat.add_mul_mod_self_left, Nat.mod_eq_of_lt hd, Nat.add_mul_div_left _ _ (by omega), Nat.div_eq_of_lt hd, Nat.zero_add, ← ih]
    rw [Int.toNat_of_nonneg h1.1]
theorem digs_eq {B : Nat} (hB : 2 ≤ B) {l : List Int} {n : Nat} (h : Dg B l) (hn : Nm l) (e : V B l = n) : l = digs B n := by
  have := digs_unique hB l h hn
  rw [e] at this; simpa using this
theorem digs_len_le {B : Nat} (hB : 2 ≤ B) {n k : Nat} (h : n < B ^ k) : (digs B n).length ≤ k := by
  rcases Nat.eq_zero_or_pos n with rfl | hn
  · rw [digs_zero]; simp
  · have hne : digs B n ≠ [] := fun e => by have := digs_nil hB e; omega
    have h1 := V_pos (by omega) (digs_dg hB n) (digs_nm hB n) hne
    rw [digs_V hB] at h1
    have h2 : B ^ ((digs B n).length - 1) ≤ n := by
      have : ((B ^ ((digs B n).length - 1) : Nat) : Int) ≤ (n : Int) := by rw [Int.natCast_pow]; exact h1
      omega
    have h3 : (digs B n).length - 1 < k := (Nat.pow_lt_pow_iff_right (by omega)).1 (Nat.lt_of_le_of_lt h2 h)
    omega
theorem digs_len_lt {B : Nat} (hB : 2 ≤ B) (n : Nat) : n < B ^ (digs B n).length := by
  have := V_lt (digs_dg hB n)
  rw [digs_V hB] at this
  rw [← Int.natCast_pow] at this
  omega
theorem digs_len_mono {B : Nat} (hB : 2 ≤ B) {m n : Nat} (h : m ≤ n) : (digs B m).length ≤ (digs B n).length :=
  digs_len_le hB (Nat.lt_of_le_of_lt h (digs_len_lt hB n))

/-- What trimming leaves. -/
def trimmed : List Int → List Int
  | [] => []
  | d :: l => match trimmed l with
    | [] => if d = 0 then [] else [d]
    | e :: m => d :: e :: m
theorem trimmed_V (B : Nat) (l : List Int) : V B (trimmed l) = V B l := by
  induction l with
  | nil => rfl
  | cons d l ih =>
    unfold trimmed; rw [V, ← ih]
    cases h : trimmed l with
    | nil => by_cases hd : d = 0 <;> simp [V, hd]
    | cons e m => simp [V]
theorem trimmed_nm (l : List Int) : Nm (trimmed l) := by
  induction l with
  | nil => simp [trimmed, Nm]
  | cons d l ih =>
    unfold trimmed
    cases h : trimmed l with
    | nil => by_cases hd : d = 0 <;> simp [Nm, hd]
    | cons e m => rw [h] at ih; simpa [Nm] using ih
theorem trimmed_dg {B : Nat} {l : List Int} (h : Dg B l) : Dg B (trimmed l) := by
  induction l with
  | nil => exact h
  | cons d l ih =>
    have ih := ih h.tail
    unfold trimmed
    cases e : trimmed l with
    | nil => by_cases hd : d = 0 <;> simp [hd]
             · exact Dg.nil B
             · exact Dg.cons h.head.1 h.head.2 (Dg.nil B)
    | cons e m => simp only []; rw [← e]; exact Dg.cons h.head.1 h.head.2 ih
theorem trimmed_snoc_zero (l : List Int) : trimmed (l ++ [0]) = trimmed l := by
  induction l with
  | nil => simp [trimmed]
  | cons d l ih => simp only [List.cons_append]; rw [trimmed, trimmed, ih]
theorem trimmed_of_nm (l : List Int) (h : Nm l) : trimmed l = l := by
  induction l with
  | nil => rfl
  | cons d l ih =>
    unfold trimmed
    cases l with
    | nil => simp [Nm] at h; simp [trimmed, h]
    | cons e l => rw [ih h.tail]
theorem trimmed_digs {B : Nat} (hB : 2 ≤ B) {l : List Int} (h : Dg B l) : trimmed l = digs B (V B l).toNat := by
  have := digs_unique hB (trimmed l) (trimmed_dg h) (trimmed_nm l)
  rw [trimmed_V] at this; exact this
end Go.Proofs.Ytiaeeclmlchpoaa

set_option linter.unusedVariables false
set_option linter.unusedSimpArgs false
namespace Go.Proofs.Ytiaeeclmlchpoaa
open Go.RowKit

theorem block_of_add (a : Addr) (n : Nat) : (a.add n).block = a.block := by unfold Addr.add; split <;> rfl
theorem add_of_add (a : Addr) (i j : Nat) : (a.add i).add j = a.add (i + j) := by
  unfold Addr.add
  by_cases hi : i = 0 <;> by_cases hj : j = 0 <;> simp [hi, hj, Nat.add_assoc]

/-- The cells xs lie at A, n elements of sz cells each. -/
def Rd (w : World) (sz : Nat) (A : Option Addr) (n : Nat) (xs : List Value) : Prop :=
  xs.length = n * sz ∧ (0 < n → ∃ b off, A = some ⟨b, off, none⟩ ∧ b < w.heap.size ∧ ∀ j u, xs[j]? = some u → w.cell? ⟨b, off + j, none⟩ = some u)

section
variable {w w' : World} {sz n : Nat} {A : Option Addr} {xs : List Value}
theorem Rd.nil : Rd w sz A 0 [] := ⟨by simp, fun h => absurd h (by omega)⟩
theorem Rd.below (h : Rd w sz A n xs) (hb : Below w.heap.size w w') : Rd w' sz A n xs :=
  ⟨h.1, fun hn => by
    obtain ⟨b, off, e, hl, hc⟩ := h.2 hn
    exact ⟨b, off, e, Nat.lt_of_lt_of_le hl hb.size, fun j u hu => (hb.cell (p := ⟨b, off + j, none⟩) hl).trans (hc j u hu)⟩⟩
theorem Rd.take {k : Nat} (h : Rd w sz A n xs) (hk : k ≤ n) : Rd w sz A k (xs.take (k * sz)) :=
  ⟨by rw [List.length_take, h.1, Nat.min_eq_left (Nat.mul_le_mul_right _ hk)], fun hn => by
    obtain ⟨b, off, e, hl, hc⟩ := h.2 (by omega)
    refine ⟨b, off, e, hl, fun j u hu => hc j u ?_⟩
    rw [List.getElem?_take] at hu
    split at hu
    · exact hu
    · cases hu⟩
theorem plain_add (b off i : Nat) : (⟨b, off, none⟩ : Addr).add i = ⟨b, off + i, none⟩ := by
  unfold Addr.add
  by_cases h : i = 0 <;> simp [h]
theorem Rd.drop {k c : Nat} (h : Rd w sz A n xs) (hk : k ≤ n) (hc : n ≤ c) : Rd w sz (if c = k then A else A.map (·.add (k * sz))) (n - k) (xs.drop (k * sz)) := by
  refine ⟨by rw [List.length_drop, h.1, Nat.sub_mul], fun hn => ?_⟩
  obtain ⟨b, off, rfl, hl, hcell⟩ := h.2 (by omega)
  rw [if_neg (by omega)]
  refine ⟨b, off + k * sz, by simp [plain_add], hl, fun j u hu => ?_⟩
  rw [Nat.add_assoc]
  exact hcell _ u (by rw [← hu, List.getElem?_drop])
theorem Rd.at_ {k : Nat} (h : Rd w 1 A n xs) (hk : k < n) : ∃ b off, A = some ⟨b, off, none⟩ ∧ b < w.heap.size ∧ ∃ u, xs[k]? = some u ∧ w.cell? ⟨b, off + k, none⟩ = some u := by
  obtain ⟨b, off, e, hl, hc⟩ := h.2 (by omega)
  have hl' : k < xs.length := by have := h.1; omega
  exact ⟨b, off, e, hl, xs[k], List.getElem?_eq_getElem hl', hc k _ (List.getElem?_eq_getElem hl')⟩
theorem Rd.of_own {base c : Nat} {e : TypeId} (h : w.ownsRow base e sz (.slice A n c) n xs) : Rd w sz A n xs := by
  refine ⟨h.1, fun hn => ?_⟩
  obtain ⟨g, cap, hv, _, hlt⟩ := h.form hn
  have hA : A = some ⟨g, 0, none⟩ := by injection hv
  subst hA
  refine ⟨g, 0, rfl, hlt, fun j u hu => ?_⟩
  have := h.cells (g := g) rfl j u hu
  rwa [plain_add] at this
end

theorem below_alloc {w W : World} (h : Below w.heap.size w W) (o : Obj) : Below w.heap.size w (W.alloc o) := h.alloc h.size o
theorem below_drew {B : Nat} {w W : World} (h : Below B w W) : Below B w W.drew := h.drew
theorem below_drewN {B : Nat} {w W : World} (h : Below B w W) (n : Nat) : Below B w (W.drewN n) := ⟨h.os, h.tape, h.output, h.size, h.block⟩
theorem below_step {w W W' : World} (h : Below w.heap.size w W) (h' : Below W.heap.size W W') : Below w.heap.size w W' := h.trans (h'.mono h.size)
theorem below_set {w W : World} (h : Below w.heap.size w W) {b off : Nat} (hb : w.heap.size ≤ b) (u : Value) : Below w.heap.size w (W.setCell ⟨b, off, none⟩ u) := h.setCell (p := ⟨b, off, none⟩) hb u

/-- The number at a place of a list, 0 behind its end (under a name, so that a walk leaves it as it is). -/
def gd (l : List Int) (i : Nat) : Int := l.getD i 0
theorem gd_lt {l : List Int} {i : Nat} (h : i < l.length) : gd l i = l[i] := by simp [gd, h]
theorem gd_ge {l : List Int} {i : Nat} (h : l.length ≤ i) : gd l i = 0 := by simp [gd, List.getElem?_eq_none h]

/-- A store into a cell that holds nothing of the row leaves the row. -/
theorem Rd.set {w : World} {sz n : Nat} {A : Option Addr} {xs : List Value} (h : Rd w sz A n xs) {b o : Nat} {u x : Value} (hp : w.cell? ⟨b, o, none⟩ = some u) (hu : u ∉ xs) : Rd (w.setCell ⟨b, o, none⟩ x) sz A n xs := by
  refine ⟨h.1, fun hn => ?_⟩
  obtain ⟨b1, off, e, hl, hc⟩ := h.2 hn
  refine ⟨b1, off, e, by simpa [World.setCell] using hl, fun j v hv => ?_⟩
  rw [World.cell?_setCell_other]
  · exact hc j v hv
  · intro he
    rw [he] at hp
    have := hc j v hv
    rw [hp] at this
    injection this with this
    exact hu (this ▸ List.mem_of_getElem? hv)

/-- A row of whole numbers. -/
def ints (k : IntKind) (l : List Int) : List Value := l.map (Value.int k)
theorem ints_length (k : IntKind) (l : List Int) : (ints k l).length = l.length := by simp [ints]
theorem ints_take (k : IntKind) (l : List Int) (n : Nat) : (ints k l).take n = ints k (l.take n) := by simp [ints]
theorem ints_drop (k : IntKind) (l : List Int) (n : Nat) : (ints k l).drop n = ints k (l.drop n) := by simp [ints]
theorem ints_append (k : IntKind) (l m : List Int) : ints k (l ++ m) = ints k l ++ ints k m := by simp [ints]

/-- A slice of whole numbers that reads as l; its length is that of l, its capacity c at least as great, and small enough to be counted. -/
def SlI (w : World) (k : IntKind) (A : Option Addr) (c : Nat) (l : List Int) : Prop :=
  Rd w 1 A l.length (ints k l) ∧ l.length ≤ c ∧ c ≤ 9223372036854775807

section
variable {w w' : World} {k : IntKind} {A : Option Addr} {c : Nat} {l : List Int}
theorem SlI.below (h : SlI w k A c l) (hb : Below w.heap.size w w') : SlI w' k A c l := ⟨h.1.below hb, h.2⟩
theorem SlI.cell (h : SlI w k A c l) {j : Nat} (hj : j < l.length) : ∃ b off, A = some ⟨b, off, none⟩ ∧ b < w.heap.size ∧ w.cell? ⟨b, off + j, none⟩ = some (.int k (gd l j)) := by
  obtain ⟨b, off, e, hl, u, hu, hc⟩ := h.1.at_ hj
  refine ⟨b, off, e, hl, hc.trans ?_⟩
  rw [← hu, gd_lt hj]
  simp [ints, hj]
theorem SlI.take (h : SlI w k A c l) {m : Nat} (hm : m ≤ l.length) : SlI w k A c (l.take m) := by
  have hl : (l.take m).length = m := by rw [List.length_take, Nat.min_eq_left hm]
  refine ⟨?_, by have := h.2.1; omega, h.2.2⟩
  rw [hl, ← ints_take]
  have := h.1.take hm
  rwa [Nat.mul_one] at this
end

theorem not_ints {k : IntKind} {l : List Int} {u : Value} (h : ∀ n, u ≠ .int k n) : u ∉ ints k l := by
  unfold ints
  intro hm
  obtain ⟨n, _, rfl⟩ := List.mem_map.1 hm
  exact h n rfl
theorem SlI.set {w : World} {k : IntKind} {A : Option Addr} {c : Nat} {l : List Int} (h : SlI w k A c l) {b o : Nat} {u x : Value} (hp : w.cell? ⟨b, o, none⟩ = some u) (hu : ∀ n, u ≠ .int k n) : SlI (w.setCell ⟨b, o, none⟩ x) k A c l :=
  ⟨h.1.set hp (not_ints hu), h.2⟩
/-- A block that is just a row of whole numbers. -/
def BlkI (w : World) (g : Nat) (e : TypeId) (k : IntKind) (l : List Int) : Prop := w.heap[g]? = some (.cells (ints k l).toArray e (0, 0))
section
variable {w w' : World} {g : Nat} {e : TypeId} {k : IntKind} {l : List Int}
theorem BlkI.lt (h : BlkI w g e k l) : g < w.heap.size := by
  rcases Nat.lt_or_ge g w.heap.size with hlt | hge
  · exact hlt
  · unfold BlkI at h; rw [Array.getElem?_eq_none hge] at h; cases h
theorem BlkI.cell (h : BlkI w g e k l) {j : Nat} (hj : j < l.length) : w.cell? ⟨g, j, none⟩ = some (.int k (gd l j)) := by
  unfold BlkI at h
  rw [World.cell?, h]
  simp [ints, hj, gd_lt hj]
theorem BlkI.frozen (h : BlkI w g e k l) (j : Nat) : w.frozen? ⟨g, j, none⟩ = false := by
  unfold BlkI at h
  simp [World.frozen?, h]
theorem BlkI.new (w : World) (e : TypeId) (k : IntKind) (m : Nat) : BlkI (w.alloc (.cells (madeCells #[.int k 0] m) e)) w.heap.size e k (List.replicate m 0) := by
  unfold BlkI
  rw [heap_alloc_new]
  congr 2
  apply Array.ext'
  rw [toList_madeCells_one]
  simp [ints]
theorem BlkI.drew (h : BlkI w g e k l) : BlkI w.drew g e k l := h
theorem BlkI.drewN (h : BlkI w g e k l) (n : Nat) : BlkI (w.drewN n) g e k l := h
theorem BlkI.below (h : BlkI w g e k l) (hb : Below w.heap.size w w') : BlkI w' g e k l := (hb.block g h.lt).trans h
theorem BlkI.set (h : BlkI w g e k l) (j : Nat) (x : Int) : BlkI (w.setCell ⟨g, j, none⟩ (.int k x)) g e k (l.set j x) := by
  unfold BlkI at h ⊢
  simp [World.setCell, Array.getElem?_modify, h, ints, List.map_set]
theorem BlkI.slI (h : BlkI w g e k l) (hl : l.length ≤ 9223372036854775807) : SlI w k (some ⟨g, 0, none⟩) l.length l := by
  refine ⟨⟨by simp [ints], fun hn => ⟨g, 0, rfl, h.lt, fun j u hu => ?_⟩⟩, Nat.le_refl _, hl⟩
  have hj : j < l.length := by
    rcases Nat.lt_or_ge j l.length with h1 | h1
    · exact h1
    · rw [List.getElem?_eq_none (by simpa [ints] using h1)] at hu; cases hu
  rw [Nat.zero_add, h.cell hj, gd_lt hj, ← hu]
  simp [ints, hj]
end
/-- Below B the world is as it was: what lies there reads as it did. -/
theorem kcellB {B : Nat} {W w1 : World} (hb : Below B W w1) {b o : Nat} {v : Value} (hl : b < B) (h : W.cell? ⟨b, o, none⟩ = some v) : w1.cell? ⟨b, o, none⟩ = some v := (hb.cell (p := ⟨b, o, none⟩) hl).trans h
theorem kfrozB {B : Nat} {W w1 : World} (hb : Below B W w1) {b o : Nat} (hl : b < B) (h : W.frozen? ⟨b, o, none⟩ = false) : w1.frozen? ⟨b, o, none⟩ = false := (hb.frozen (p := ⟨b, o, none⟩) hl).trans h

/-- A sign and digits to a base, as two cells, that stand for a whole number. -/
def dg (B : Nat) (z : Int) : List Int := digs B z.natAbs
def IsZ (B : Nat) (k : IntKind) (w : World) (v : Value) (z : Int) : Prop :=
  ∃ A c, v = .agg #[.bool (decide (z < 0)), .slice A (dg B z).length c] ∧ SlI w k A c (dg B z)
theorem IsZ.below {B : Nat} {k : IntKind} {w w' : World} {v : Value} {z : Int} (h : IsZ B k w v z) (hb : Below w.heap.size w w') : IsZ B k w' v z := by
  obtain ⟨A, c, e, hs⟩ := h
  exact ⟨A, c, e, hs.below hb⟩
theorem IsZ.form {B : Nat} {k : IntKind} {w : World} {v : Value} {z : Int} (h : IsZ B k w v z) : ∃ nv A n c, v = .agg #[.bool nv, .slice A n c] ∧ Hid (IsZ B k w (.agg #[.bool nv, .slice A n c]) z) := by
  obtain ⟨A, c, rfl, hs⟩ := h
  exact ⟨_, A, _, c, rfl, A, c, rfl, hs⟩
/-- Two cells for a result: a sign and digits. -/
def Res2 (W : World) (b : Nat) : Prop := (∃ u, W.cell? ⟨b, 0, none⟩ = some (.bool u)) ∧ (∃ A n c, W.cell? ⟨b, 1, none⟩ = some (.slice A n c)) ∧ W.frozen? ⟨b, 0, none⟩ = false ∧ W.frozen? ⟨b, 1, none⟩ = false ∧ b < W.heap.size
theorem kcell {W w1 : World} (hb : Below W.heap.size W w1) {b o : Nat} {v : Value} (hl : b < W.heap.size) (h : W.cell? ⟨b, o, none⟩ = some v) : w1.cell? ⟨b, o, none⟩ = some v := (hb.cell (p := ⟨b, o, none⟩) hl).trans h
theorem kfroz {W w1 : World} (hb : Below W.heap.size W w1) {b o : Nat} (hl : b < W.heap.size) (h : W.frozen? ⟨b, o, none⟩ = false) : w1.frozen? ⟨b, o, none⟩ = false := (hb.frozen (p := ⟨b, o, none⟩) hl).trans h
theorem Res2.keep {W w1 : World} {b : Nat} (h : Res2 W b) (hb : Below W.heap.size W w1) : Res2 w1 b := by
  obtain ⟨⟨u, h1⟩, ⟨A, n, c, h2⟩, h3, h4, h5⟩ := h
  have hz := hb.size
  exact ⟨⟨u, kcell hb h5 h1⟩, ⟨A, n, c, kcell hb h5 h2⟩, kfroz hb h5 h3, kfroz hb h5 h4, by omega⟩
theorem Res2.keepB {W w1 : World} {b B : Nat} (h : Res2 W b) (hb : Below B W w1) (hl : b < B) : Res2 w1 b := by
  obtain ⟨⟨u, h1⟩, ⟨A, n, c, h2⟩, h3, h4, h5⟩ := h
  have hz := hb.size
  exact ⟨⟨u, kcellB hb hl h1⟩, ⟨A, n, c, kcellB hb hl h2⟩, kfrozB hb hl h3, kfrozB hb hl h4, by omega⟩
theorem Res2.drew {W : World} {b : Nat} (h : Res2 W b) : Res2 W.drew b := h
theorem SlI.res2 {w : World} {k : IntKind} {A : Option Addr} {c : Nat} {l : List Int} (h : SlI w k A c l) {b : Nat} (hr : Res2 w b) (x y : Value) : SlI ((w.setCell ⟨b, 0, none⟩ x).setCell ⟨b, 1, none⟩ y) k A c l := by
  obtain ⟨⟨u, h1⟩, ⟨A', n', c', h2⟩, h3, h4, h5⟩ := hr
  refine (h.set (x := x) h1 (by simp)).set (u := .slice A' n' c') ?_ (by simp)
  rw [World.cell?_setCell_other _ _ _ _ (by simp)]
  exact h2
theorem IsZ.res2 {B : Nat} {k : IntKind} {w : World} {v : Value} {z : Int} (h : IsZ B k w v z) {b : Nat} (hr : Res2 w b) (x y : Value) : IsZ B k ((w.setCell ⟨b, 0, none⟩ x).setCell ⟨b, 1, none⟩ y) v z := by
  obtain ⟨A, c, e, hs⟩ := h
  exact ⟨A, c, e, hs.res2 hr x y⟩
/-- Digits of a natural number. -/
def IsU (B : Nat) (k : IntKind) (w : World) (v : Value) (n : Nat) : Prop :=
  ∃ A c, v = .slice A (digs B n).length c ∧ SlI w k A c (digs B n)
theorem IsU.below {B : Nat} {k : IntKind} {w w' : World} {v : Value} {n : Nat} (h : IsU B k w v n) (hb : Below w.heap.size w w') : IsU B k w' v n := by
  obtain ⟨A, c, e, hs⟩ := h
  exact ⟨A, c, e, hs.below hb⟩
theorem dg_V {B : Nat} (hB : 2 ≤ B) (z : Int) : V B (dg B z) = z.natAbs := digs_V hB _
theorem dg_dg {B : Nat} (hB : 2 ≤ B) (z : Int) : Dg B (dg B z) := digs_dg hB _
theorem dg_nm {B : Nat} (hB : 2 ≤ B) (z : Int) : Nm (dg B z) := digs_nm hB _
def sgnd (neg : Bool) (m : Int) : Int := if neg then -m else m
theorem sgnd_abs (neg : Bool) (m : Int) : (sgnd neg m).natAbs = m.natAbs := by unfold sgnd; split <;> omega
theorem sgnd_lt (neg : Bool) (m : Int) (h : 0 ≤ m) : decide (sgnd neg m < 0) = (neg && decide (0 < m)) := by
  unfold sgnd
  cases neg
  · simp; omega
  · simp

/-- A row of whole numbers of the call's own, from block base on. -/
def OwI (w : World) (base : Nat) (e : TypeId) (k : IntKind) (v : Value) (l : List Int) : Prop := w.ownsRow base e 1 v l.length (ints k l)
theorem OwI.nil (w : World) (base : Nat) (e : TypeId) (k : IntKind) : OwI w base e k (.slice none 0 0) [] := World.ownsRow_nil _ _ _ _
theorem ownsRow_base {w : World} {base : Nat} {e : TypeId} {size n : Nat} {v : Value} {xs : List Value} (h : w.ownsRow base e size v n xs) (k : Nat) (hk : v.ownBlock = some k) : base ≤ k := by
  rcases h.2 with ⟨rfl, _⟩ | ⟨g, cap, cur, rfl, hb, _⟩
  · simp [Value.ownBlock] at hk
  · have : g = k := by simpa [Value.ownBlock] using hk
    omega
theorem OwI.form {w : World} {base : Nat} {e : TypeId} {k : IntKind} {v : Value} {l : List Int} (h : OwI w base e k v l) : ∃ A c, v = .slice A l.length c ∧ SlI w k A c l := by
  unfold OwI at h
  have hh := h
  rcases h.2 with ⟨rfl, h0⟩ | ⟨g, cap, cur, rfl, hb, hh2, hnc, hm, _⟩
  · have : l = [] := by simpa [ints] using h0
    subst this
    exact ⟨none, 0, rfl, ⟨by simp [ints], fun h => absurd h (by simp)⟩, Nat.le_refl _, by omega⟩
  · refine ⟨some ⟨g, 0, none⟩, cap, rfl, Rd.of_own hh, hnc, ?_⟩
    simp only [maxLen] at hm
    omega
theorem OwI.below {w w' : World} {base : Nat} {e : TypeId} {k : IntKind} {v : Value} {l : List Int} (h : OwI w base e k v l) (hb : Below w.heap.size w w') : OwI w' base e k v l := by
  refine World.ownsRow.kept (row := none) h ⟨hb.os, hb.tape, hb.output, hb.size, fun i hi _ => hb.block i hi⟩ ?_
  cases v.ownBlock <;> simp

section
variable {P : Program} {ops : Array Oper} {rest : List Oper} {o : Oper} {a : Act} {Q : Exit → Act → World → Prop}
/-- One number more at the end of a row of the call's own. -/
theorem app_I {w0 W : World} (base : Nat) (hgd : o.guard = none) (s x : Operand) (t e : TypeId) (k : IntKind) (bytes : Nat)
    (ho : o.op = .call { callee := .builtin .append, args := #[s, x], argTypes := #[t, t] })
    (ht : P.underlying t = some (.slice e)) (hinfo : (P.info? e).map (fun i => (i.zero, i.size, i.bytes)) = some (some (.int k 0), 1, bytes)) (hb0 : 0 < bytes)
    (v : Value) (l : List Int) (y : Int) (HO : OwI W base e k v l) (hs : a.eval s = v) (hx : a.eval x = .slice (some ⟨W.heap.size, 0, none⟩) 1 1) (HB : Below base w0 W) (hbase : base ≤ W.heap.size) (hl : (l.length + 1) * bytes ≤ 140737488355328)
    (h : ∀ v1 w1, OwI w1 base e k v1 (l ++ [y]) → Below base w0 w1 → base ≤ w1.heap.size → wpList P ops Q rest (a.put o.dst v1) w1) :
    wpList P ops Q (o :: rest) a (W.alloc (.cells #[.int k y] e)) := by
  obtain ⟨i0, hi, hzz⟩ := Option.map_eq_some_iff.1 hinfo
  simp only [Prod.mk.injEq] at hzz
  obtain ⟨hz0, hz1, hz2⟩ := hzz
  have hlen : l.length + 1 ≤ 140737488355328 := Nat.le_trans (Nat.le_mul_of_pos_right _ hb0) hl
  refine wpList_append_own (w := W.alloc (.cells #[.int k y] e)) hgd s x t ho base e i0 (.int k 0) 1 bytes ht hi hz0 hz1 hz2 rfl (by omega) v l.length (ints k l) hs (HO.alloc _) ⟨W.heap.size, 0, none⟩ 1 1 [.int k y] hx rfl
    (cell_one_new _ _ _) (by simp [Value.oneCell']) (by simp only [maxLen]; omega) hl (by simp; omega) ?_
  intro v1 w1 hown hg _
  refine h v1 w1 ?_ ((HB.alloc hbase _).grown hg (by simp; omega) (ownsRow_base HO)) (by have := hg.size; simp at this; omega)
  unfold OwI
  rw [ints_append, List.length_append]
  exact hown
end
end Go.Proofs.Ytiaeeclmlchpoaa

set_option linter.unusedVariables false
set_option linter.unusedSimpArgs false
namespace Go.Proofs.Ytiaeeclmlchpoaa
open Go.RowKit

theorem trimmed_take (l : List Int) : trimmed l = l.take (trimmed l).length := by
  induction l with
  | nil => rfl
  | cons d l ih =>
    unfold trimmed
    cases h : trimmed l with
    | nil => by_cases hd : d = 0 <;> simp [hd]
    | cons e m => rw [h] at ih; simp only [List.length_cons, List.take_succ_cons]; rw [← List.length_cons (a := e), ← ih]
theorem trimmed_len (l : List Int) : (trimmed l).length ≤ l.length := by
  conv => lhs; rw [trimmed_take]
  simp; omega
theorem trimmed_step {l : List Int} {k : Nat} (h : k < l.length) (h0 : gd l k = 0) (ht : trimmed (l.take (k + 1)) = trimmed l) : trimmed (l.take k) = trimmed l := by
  rw [← ht, List.take_succ_eq_append_getElem h]
  have : l[k] = 0 := by rw [← gd_lt h]; exact h0
  rw [this, trimmed_snoc_zero]
theorem trimmed_stop {l : List Int} {k : Nat} (h : k < l.length) (h0 : ¬ gd l k = 0) : trimmed (l.take (k + 1)) = l.take (k + 1) := by
  apply trimmed_of_nm
  rw [List.take_succ_eq_append_getElem h]
  have : l[k] ≠ 0 := by rw [← gd_lt h]; exact h0
  unfold Nm
  rw [List.getLast?_append]
  simpa using this

set_option maxHeartbeats 400000 in
theorem trim_c (neg : Bool) (A : Option Addr) (c : Nat) (l : List Int) (w : World) (h : SlI w .i64 A c l) :
    Calls Try.prog 36 #[.bool neg, .slice A l.length c] w fun e w' =>
      e = .returned (.agg #[.bool (neg && !(trimmed l).isEmpty), .slice A (trimmed l).length c]) ∧ Below w.heap.size w w' := by
  have hc1 := h.2.1
  have hc2 := h.2.2
  have hB : Below w.heap.size w w := Below.refl _ _
  cases neg
  all_goals
  go_enter Try.func36, Try.ntmps36
  go_wp2
  go_loop [5] (fun i => ∃ k : Nat, k ≤ l.length ∧ i = .int .i64 k ∧ trimmed (l.take k) = trimmed l) (fun i => (intOf i).toNat)
  case atStart => exact ⟨l.length, Nat.le_refl _, rfl, by rw [List.take_of_length_le (Nat.le_refl _)]⟩
  case round =>
    obtain ⟨k, hk, rfl, ht⟩ := hrel
    rcases Nat.eq_zero_or_pos k with rfl | hk0
    · have HT : Hid (trimmed l = []) := by rw [← ht]; rfl
      clear ht
      go_wp2
      refine bodyPost_ret (v := .agg #[.bool false, .slice A 0 c]) (by simp [results, Try.results36, go_sem]) rfl ⟨?_, hB.alloc (Nat.le_refl _) _⟩
      rw [HT.out]; rfl
    · obtain ⟨k, rfl⟩ : ∃ m, k = m + 1 := ⟨k - 1, by omega⟩
      obtain ⟨b, off, rfl, hl, hcell⟩ := h.cell (j := k) (by omega)
      have HT := Lib.hid ht
      clear ht
      by_cases hz : gd l k = 0
      · have hz' : (gd l k == 0) = true := by simpa using hz
        have HZ := Lib.hid hz
        clear hz
        go_wp2
        go_round
        case rel => exact ⟨k, by omega, rfl, trimmed_step (by omega) HZ.out HT.out⟩
        case measure => simp [intOf]
      · have hz' : (gd l k == 0) = false := by simpa using hz
        have HZ : Hid (trimmed l = l.take (k + 1)) := by rw [← HT.out, trimmed_stop (by omega) hz]; rfl
        clear hz
        go_wp2
        refine bodyPost_ret (v := _) (by simp [results, Try.results36, go_sem]; rfl) rfl ⟨?_, hB.alloc (Nat.le_refl _) _⟩
        have e1 : (l.take (k + 1)).isEmpty = false := by cases l <;> simp at hk ⊢
        have e2 : (l.take (k + 1)).length = k + 1 := by rw [List.length_take, Nat.min_eq_left (by omega)]
        first | (rw [HZ.out, e1, e2]; done) | (rw [HZ.out, e1, e2]; rfl) | rw [HZ.out, e2]

/-- The base of the first reference's parts. -/
def B9 : Nat := 1000000000
theorem B9c : ((B9 : Nat) : Int) = 1000000000 := rfl
theorem B9two : 2 ≤ B9 := by decide
abbrev IsN (w : World) (v : Value) (z : Int) : Prop := IsZ B9 .i64 w v z

theorem isEmpty_digs {B : Nat} (hB : 2 ≤ B) (n : Nat) : (!(digs B n).isEmpty) = decide (0 < n) := by
  rcases Nat.eq_zero_or_pos n with rfl | h
  · simp [digs_zero]
  · rw [digs_pos hB h]; simp [h]
theorem isZ_trim {B : Nat} (hB : 2 ≤ B) {k : IntKind} {w : World} {A : Option Addr} {c : Nat} {l : List Int} (neg : Bool) (hd : Dg B l) (h : SlI w k A c l) :
    IsZ B k w (.agg #[.bool (neg && !(trimmed l).isEmpty), .slice A (trimmed l).length c]) (sgnd neg (V B l)) := by
  have hv := V_nonneg hd
  have e : trimmed l = dg B (sgnd neg (V B l)) := by
    rw [trimmed_digs hB hd, dg, sgnd_abs]
    congr 1; omega
  refine ⟨A, c, ?_, ?_⟩
  · rw [sgnd_lt _ _ hv, e, dg, isEmpty_digs hB, sgnd_abs]
    have : decide (0 < (V B l).natAbs) = decide (0 < V B l) := decide_eq_decide.2 (by omega)
    rw [this]
  · rw [← e, trimmed_take]
    exact h.take (trimmed_len l)
theorem trim_n (neg : Bool) (A : Option Addr) (c : Nat) (l : List Int) (w : World) (h : SlI w .i64 A c l) (hd : Dg B9 l) :
    Calls Try.prog 36 #[.bool neg, .slice A l.length c] w fun e w' => ∃ v, e = .returned v ∧ IsN w' v (sgnd neg (V B9 l)) ∧ Below w.heap.size w w' :=
  (trim_c neg A c l w h).mono fun _ _ ⟨he, hb⟩ => ⟨_, he, isZ_trim B9two neg hd (h.below hb), hb⟩
end Go.Proofs.Ytiaeeclmlchpoaa
