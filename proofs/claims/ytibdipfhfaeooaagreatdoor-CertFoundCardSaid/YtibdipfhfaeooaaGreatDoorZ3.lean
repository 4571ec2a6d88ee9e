/- A number in a variable's two cells: reference 1's numbers; how long numbers are. No condition. -/
import Derived.Test.YtibdipfhfaeooaaGreatDoorZ2
import Derived.Test.YtibdipfhfaeooaaGreatDoorZ1
set_option linter.unusedVariables false
set_option linter.unusedSimpArgs false
namespace Go.Proofs.YtibdipfhfaeooaaGreatDoor
open Go.RowKit

theorem len_le {B : Nat} (hB : 2 ≤ B) {z : Int} {k : Nat} (h : z.natAbs < B ^ k) : (dg B z).length ≤ k := digs_len_le hB h
theorem len_lt {B : Nat} (hB : 2 ≤ B) (z : Int) : z.natAbs < B ^ (dg B z).length := digs_len_lt hB _
theorem len_mul {B : Nat} (hB : 2 ≤ B) (x y : Int) : (dg B (x * y)).length ≤ (dg B x).length + (dg B y).length := by
 apply len_le hB
 rw [Int.natAbs_mul, Nat.pow_add]
 exact Nat.mul_lt_mul'' (len_lt hB x) (len_lt hB y)
theorem len_add {B : Nat} (hB : 2 ≤ B) (x y : Int) : (dg B (x + y)).length ≤ max (dg B x).length (dg B y).length + 1 := by
 apply len_le hB
 have h1 := len_lt hB x
 have h2 := len_lt hB y
 have h3 : B ^ (dg B x).length ≤ B ^ max (dg B x).length (dg B y).length := Nat.pow_le_pow_right (by omega) (by omega)
 have h4 : B ^ (dg B y).length ≤ B ^ max (dg B x).length (dg B y).length := Nat.pow_le_pow_right (by omega) (by omega)
 have h5 : B ^ max (dg B x).length (dg B y).length * 2 ≤ B ^ max (dg B x).length (dg B y).length * B := Nat.mul_le_mul_left _ hB
 rw [Nat.pow_succ]
 omega
theorem len_int {z : Int} (h0 : -1000000000000000000 < z) (h1 : z < 1000000000000000000) : (dg B9 z).length ≤ 2 := by
 apply len_le B9two
 show _ < (1000000000000000000 : Nat)
 omega
end Go.Proofs.YtibdipfhfaeooaaGreatDoor


set_option linter.unusedVariables false
set_option linter.unusedSimpArgs false
namespace Go.Proofs.YtibdipfhfaeooaaGreatDoor
open Go.RowKit

/-- Whatever whole numbers lie in a row lie there still. -/
def Kp (w w' : World) : Prop := ∀ k A c l, SlI w k A c l → SlI w' k A c l
theorem Kp.refl (w : World) : Kp w w := fun _ _ _ _ h => h
theorem Kp.of {w w' : World} (h : Below w.heap.size w w') : Kp w w' := fun _ _ _ _ hs => hs.below h
theorem Kp.trans {a b c : World} (h : Kp a b) (k : Kp b c) : Kp a c := fun _ _ _ _ hs => k _ _ _ _ (h _ _ _ _ hs)
theorem Kp.isZ {w w' : World} (h : Kp w w') {B : Nat} {k : IntKind} {v : Value} {z : Int} (hz : IsZ B k w v z) : IsZ B k w' v z := by
 obtain ⟨A, c, e, hs⟩ := hz
 exact ⟨A, c, e, h _ _ _ _ hs⟩
theorem Kp.res2 {w : World} {b : Nat} (hr : Res2 w b) (x y : Value) : Kp w ((w.setCell ⟨b, 0, none⟩ x).setCell ⟨b, 1, none⟩ y) := fun _ _ _ _ hs => hs.res2 hr x y
theorem VX.keepB {B : Nat} {k : IntKind} {W w1 : World} {b base : Nat} {nv : Bool} {A : Option Addr} {n c : Nat} {z : Int} (h : VX B k W b nv A n c z) (hb : Below base W w1) (hlt : b < base) (hk : Kp W w1) : VX B k w1 b nv A n c z :=
 ⟨kcellB hb hlt h.c0, kcellB hb hlt h.c1, kfrozB hb hlt h.f0, kfrozB hb hlt h.f1, Nat.lt_of_lt_of_le h.lt hb.size, hk.isZ h.iz.out⟩

/-- A cell that holds no whole number. -/
def NoInt (u : Value) : Prop := ∀ k x, u ≠ .int k x
theorem zeroCells_mem {z : Array Value} (hz : 0 < z.size) {n : Nat} {u : Value} (h : u ∈ (Builtin.zeroCells z n).toList) : u ∈ z.toList := by
 unfold Builtin.zeroCells at h
 simp only [Array.toList_map, List.mem_map] at h
 obtain ⟨i, _, rfl⟩ := h
 have hm := Nat.mod_lt i hz
 rw [getElem!_pos z (i % z.size) hm]
 exact Array.getElem_mem_toList hm
def noI (w : World) (v : Value) : Prop := ∀ g cur e fz, v.ownBlock = some g → w.heap[g]? = some (.cells cur e fz) → ∀ u ∈ cur.toList, NoInt u
/-- A row of the call's own that holds no whole number. -/
def OwP (w : World) (base : Nat) (e : TypeId) (size : Nat) (v : Value) (n : Nat) (xs : List Value) : Prop := w.ownsRow base e size v n xs ∧ noI w v
theorem noI_alloc {W : World} {b : Nat} {cells : Array Value} {e : TypeId} {n c : Nat} (hb : b = W.heap.size) (h : ∀ u ∈ cells.toList, NoInt u) : noI (W.alloc (.cells cells e)) (.slice (some ⟨b, 0, none⟩) n c) := by
 intro g cur e' fz hg hcur u hu
 subst hb
 simp only [Value.ownBlock, Option.some.injEq] at hg
 subst hg
 rw [heap_alloc_new] at hcur
 injection hcur with hcur
 injection hcur with hcur
 subst hcur
 exact h u hu
section
variable {P : Program} (w : World)
theorem run_append_P (base : Nat) (t ty e : TypeId) (i : TypeInfo) (z : Value) (size bytes : Nat) (ht : P.underlying t = some (.slice e)) (hi : P.info? e = some i) (hz : i.zero = some z)
  (hsize : i.size = size) (hby : i.bytes = bytes) (hzs : z.cells.size = size) (hsz : 0 < size) (hzn : ∀ u ∈ z.cells.toList, NoInt u)
  (v : Value) (n : Nat) (xs : List Value) (hown : OwP w base e size v n xs)
  (a : Addr) (m c : Nat) (news : List Value) (hl : news.length = m * size) (hnews : ∀ j u, news[j]? = some u → w.cell? (a.add j) = some u) (h1 : ∀ u ∈ news, u.oneCell' = true) (hnn : ∀ u ∈ news, NoInt u) (hm : 0 < m)
  (h63 : n + m ≤ maxLen) (hbytes : (n + m) * bytes ≤ 140737488355328) (hbase : base ≤ w.heap.size) :
  ∃ v' w', (Builtin.append_ #[t, t] ty #[v, .slice (some a) m c]).run P w = .ok v' w' ∧ OwP w' base e size v' (n + m) (xs ++ news) ∧ w.grownBy w' v.ownBlock := by
 obtain ⟨v', w', hr, h2, h3, _⟩ := run_append_own (P := P) w base t ty e i z size bytes ht hi hz hsize hby hzs hsz v n xs hown.1 a m c news hl hnews h1 h63 hbytes hbase
 refine ⟨v', w', hr, ⟨h2, ?_⟩, h3⟩
 subst hsize
 subst hby
 have hsmall : n + m ≤ 9223372036854775807 := by simp only [maxLen] at h63; omega
 have hzc : ∀ k, ∀ u ∈ (Builtin.zeroCells z.cells k).toList, NoInt u := fun k u hu => hzn u (zeroCells_mem (by omega) hu)
 rcases hown.1.2 with ⟨rfl, rfl⟩ | ⟨g, cap, cur, rfl, hbg, hg, hnc, hcm, hcs, htake⟩
 ·have hr2 := run_append_nil (P := P) w t ty e i z ht hi hz a m c news hl hnews hm (by omega) (by have hb := hbytes; simp only [Nat.zero_add] at hb; omega)
  rw [hr] at hr2
  injection hr2 with e1 e2
  subst e1 e2
  refine noI_alloc rfl fun u hu => ?_
  rw [Array.toList_append, List.mem_append] at hu
  rcases hu with hu | hu
  ·exact hnn u hu
  ·exact hzc _ u hu
 ·have hcur := hown.2 g cur e (0, 0) rfl hg
  by_cases hroom : n + m ≤ cap
  ·have hfit : n * i.size + news.length ≤ cur.size := by rw [hl, hcs, ← Nat.add_mul]; exact Nat.mul_le_mul_right _ hroom
   have hr2 := run_append_room (P := P) w t ty e i ht hi g n cap cur hg a m c news hl hnews h1 hroom hfit
   rw [hr] at hr2
   injection hr2 with e1 e2
   subst e1 e2
   intro g' cur' e' fz hg' hcur' u hu
   simp only [Value.ownBlock, Option.some.injEq] at hg'
   subst hg'
   rw [setRow_heap w g cur _ e _ hg] at hcur'
   injection hcur' with hcur'
   injection hcur' with hcur'
   subst hcur'
   simp only [List.mem_append] at hu
   rcases hu with (hu | hu) | hu
   ·exact hcur u (List.mem_of_mem_take hu)
   ·exact hnn u hu
   ·exact hcur u (List.mem_of_mem_drop hu)
  ·have holds : ∀ j u, xs[j]? = some u → w.cell? ((⟨g, 0, none⟩ : Addr).add j) = some u := hown.1.cells (g := g) rfl
   have hr2 := run_append_grow (P := P) w t ty e i z ht hi hz ⟨g, 0, none⟩ n cap xs hown.1.1 holds a m c news hl hnews (by omega) (by omega) (growslice_fits (by omega) hbytes)
   rw [hr] at hr2
   injection hr2 with e1 e2
   subst e1 e2
   refine noI_alloc rfl fun u hu => ?_
   rw [Array.toList_append, Array.toList_append, List.mem_append, List.mem_append] at hu
   rcases hu with (hu | hu) | hu
   ·have hx : xs = cur.toList.take (n * i.size) := htake.symm
    rw [show xs.toArray.toList = xs from rfl, hx] at hu
    exact hcur u (List.mem_of_mem_take hu)
   ·exact hnn u hu
   ·exact hzc _ u hu
theorem wp_append_P {ops : Array Oper} {rest : List Oper} {o : Oper} {a : Act} {Q : Exit → Act → World → Prop} (hgd : o.guard = none) (s x : Operand) (t : TypeId)
  (ho : o.op = .call { callee := .builtin .append, args := #[s, x], argTypes := #[t, t] })
  (base : Nat) (e : TypeId) (i : TypeInfo) (z : Value) (size bytes : Nat) (ht : P.underlying t = some (.slice e)) (hi : P.info? e = some i) (hz : i.zero = some z)
  (hsize : i.size = size) (hby : i.bytes = bytes) (hzs : z.cells.size = size) (hsz : 0 < size) (hzn : ∀ u ∈ z.cells.toList, NoInt u)
  (v : Value) (n : Nat) (xs : List Value) (hs : a.eval s = v) (hown : OwP w base e size v n xs)
  (ad : Addr) (m c : Nat) (news : List Value) (hx : a.eval x = .slice (some ad) m c) (hl : news.length = m * size) (hnews : ∀ j u, news[j]? = some u → w.cell? (ad.add j) = some u) (h1 : ∀ u ∈ news, u.oneCell' = true) (hnn : ∀ u ∈ news, NoInt u) (hm : 0 < m)
  (h63 : n + m ≤ maxLen) (hbytes : (n + m) * bytes ≤ 140737488355328) (hbase : base ≤ w.heap.size)
  (h : ∀ v' w', OwP w' base e size v' (n + m) (xs ++ news) → w.grownBy w' v.ownBlock → wpList P ops Q rest (a.put o.dst v') w') : wpList P ops Q (o :: rest) a w :=
 wpList_plain hgd fun _ hK => by
  obtain ⟨v', w', hr, h2, h3⟩ := run_append_P (P := P) w base t o.type e i z size bytes ht hi hz hsize hby hzs hsz hzn v n xs hown ad m c news hl hnews h1 hnn hm h63 hbytes hbase
  unfold Oper.wp execOp
  simp only [ho, resolve, invoke, builtin, Sem.run_bind, Sem.run_pure, Result.andThen_ok, List.map_toArray, List.map_cons, List.map_nil, hs, hx, hr]
  exact hK _ _ (h v' w' h2 h3)
end

/-- What a row without whole numbers takes leaves whole numbers as they are. -/
theorem Kp.grown {w w' : World} {v : Value} (h : w.grownBy w' v.ownBlock) (hn : noI w v) (hv : ∀ g, v.ownBlock = some g → ∃ cur e fz, w.heap[g]? = some (.cells cur e fz)) : Kp w w' := by
 intro k A c l hs
 refine ⟨⟨hs.1.1, fun hl => ?_⟩, hs.2⟩
 obtain ⟨b, off, hA, hlt, hc⟩ := hs.1.2 hl
 refine ⟨b, off, hA, Nat.lt_of_lt_of_le hlt h.size, fun j u hu => ?_⟩
 have hne : some b ≠ v.ownBlock := by
  intro he
  obtain ⟨cur, e, fz, hcur⟩ := hv b he.symm
  have h0 := hc j u hu
  have hun : u ∈ cur.toList := by
   simp only [World.cell?, hcur] at h0
   exact Array.mem_toList_iff.2 (Array.mem_of_getElem? h0)
  have := hn b cur e fz he.symm hcur u hun
  have hu2 : u ∈ ints k l := List.mem_of_getElem? hu
  unfold ints at hu2
  simp only [List.mem_map] at hu2
  obtain ⟨x, _, rfl⟩ := hu2
  exact this _ _ rfl
 rw [← hc j u hu]
 exact World.cell?_of_block (h.block b hlt hne)
theorem own_cells {w : World} {base : Nat} {e : TypeId} {size n : Nat} {v : Value} {xs : List Value} (h : w.ownsRow base e size v n xs) : ∀ g, v.ownBlock = some g → ∃ cur e fz, w.heap[g]? = some (.cells cur e fz) := by
 intro g hg
 rcases h.2 with ⟨rfl, _⟩ | ⟨g', cap, cur, rfl, _, hgg, _⟩
 ·simp [Value.ownBlock] at hg
 ·have : g' = g := by simpa [Value.ownBlock] using hg
  subst this
  exact ⟨cur, e, _, hgg⟩
theorem OwP.below {w w' : World} {base : Nat} {e : TypeId} {size n : Nat} {v : Value} {xs : List Value} (h : OwP w base e size v n xs) (hb : Below w.heap.size w w') : OwP w' base e size v n xs := by
 refine ⟨World.ownsRow.kept (row := none) h.1 ⟨hb.os, hb.tape, hb.output, hb.size, fun i hi _ => hb.block i hi⟩ (by cases v.ownBlock <;> simp), ?_⟩
 intro g cur e' fz hg hcur
 have hlt := (h.1.lt g hg).2
 rw [hb.block g hlt] at hcur
 exact h.2 g cur e' fz hg hcur

/-- A list of numbers, two cells each, reads as l. -/
def Rl (B : Nat) (k : IntKind) (w : World) (xs : List Value) (l : List Int) : Prop :=
 ∀ j z, l[j]? = some z → ∃ nv A n c, xs[2 * j]? = some (.bool nv) ∧ xs[2 * j + 1]? = some (.slice A n c) ∧ IsZ B k w (.agg #[.bool nv, .slice A n c]) z
theorem Rl.kp {B : Nat} {k : IntKind} {w w' : World} {xs : List Value} {l : List Int} (h : Rl B k w xs l) (hk : Kp w w') : Rl B k w' xs l := fun j z hj => by
 obtain ⟨nv, A, n, c, h1, h2, h3⟩ := h j z hj
 exact ⟨nv, A, n, c, h1, h2, hk.isZ h3⟩
theorem Rl.snoc {B : Nat} {k : IntKind} {w : World} {xs : List Value} {l : List Int} (h : Rl B k w xs l) (hl : xs.length = l.length * 2) {nv : Bool} {A : Option Addr} {n c : Nat} {y : Int} (hy : IsZ B k w (.agg #[.bool nv, .slice A n c]) y) : Rl B k w (xs ++ [.bool nv, .slice A n c]) (l ++ [y]) := by
 intro j z hj
 rcases Nat.lt_or_ge j l.length with h1 | h1
 ·rw [List.getElem?_append_left h1] at hj
  obtain ⟨nv', A', n', c', h2, h3, h4⟩ := h j z hj
  exact ⟨nv', A', n', c', by rw [List.getElem?_append_left (by omega)]; exact h2, by rw [List.getElem?_append_left (by omega)]; exact h3, h4⟩
 ·rw [List.getElem?_append_right h1] at hj
  have hj0 : j - l.length = 0 := by
   rcases Nat.eq_zero_or_pos (j - l.length) with h2 | h2
   ·exact h2
   ·rw [List.getElem?_eq_none (by simp; omega)] at hj; cases hj
  rw [hj0] at hj
  have hz : y = z := by simpa using hj
  subst hz
  refine ⟨nv, A, n, c, ?_, ?_, hy⟩
  ·rw [List.getElem?_append_right (by omega), show 2 * j - xs.length = 0 by omega]; rfl
  ·rw [List.getElem?_append_right (by omega), show 2 * j + 1 - xs.length = 1 by omega]; rfl
/-- A slice of numbers. -/
def LsZ (B : Nat) (k : IntKind) (w : World) (A : Option Addr) (c : Nat) (l : List Int) : Prop := ∃ xs, Rd w 2 A l.length xs ∧ l.length ≤ c ∧ c ≤ 9223372036854775807 ∧ Rl B k w xs l
/-- A list of numbers of the call's own. -/
def OwZ (B : Nat) (k : IntKind) (w : World) (base : Nat) (e : TypeId) (v : Value) (l : List Int) : Prop := ∃ xs, OwP w base e 2 v l.length xs ∧ Rl B k w xs l
section
variable {B : Nat} {k : IntKind} {w w' : World} {base : Nat} {e : TypeId} {v : Value} {l : List Int} {A : Option Addr} {c : Nat}
theorem LsZ.below (h : LsZ B k w A c l) (hb : Below w.heap.size w w') : LsZ B k w' A c l := by
 obtain ⟨xs, h1, h2, h3, h4⟩ := h
 exact ⟨xs, h1.below hb, h2, h3, h4.kp (Kp.of hb)⟩
theorem LsZ.at (h : LsZ B k w A c l) {j : Nat} (hj : j < l.length) : ∃ b off nv A' n' c', A = some ⟨b, off, none⟩ ∧ b < w.heap.size ∧ w.cell? ⟨b, off + j * 2, none⟩ = some (.bool nv) ∧ w.cell? ⟨b, off + j * 2 + 1, none⟩ = some (.slice A' n' c') ∧ Hid (IsZ B k w (.agg #[.bool nv, .slice A' n' c']) (gd l j)) := by
 obtain ⟨xs, h1, h2, h3, h4⟩ := h
 obtain ⟨b, off, hA, hlt, hc⟩ := h1.2 (by omega)
 obtain ⟨nv, A', n', c', h5, h6, h7⟩ := h4 j (gd l j) (by rw [gd_lt hj]; exact List.getElem?_eq_getElem hj)
 refine ⟨b, off, nv, A', n', c', hA, hlt, ?_, ?_, h7⟩
 ·rw [Nat.mul_comm]; exact hc _ _ h5
 ·rw [Nat.add_assoc, Nat.mul_comm]; exact hc _ _ h6
theorem OwZ.nil (w : World) (base : Nat) (e : TypeId) : OwZ B k w base e (.slice none 0 0) [] :=
 ⟨[], ⟨World.ownsRow_nil _ _ _ _, fun g _ _ _ hg => by simp [Value.ownBlock] at hg⟩, fun j z h => by simp at h⟩
theorem OwZ.below (h : OwZ B k w base e v l) (hb : Below w.heap.size w w') : OwZ B k w' base e v l := by
 obtain ⟨xs, h1, h2⟩ := h
 exact ⟨xs, h1.below hb, h2.kp (Kp.of hb)⟩
theorem OwZ.form (h : OwZ B k w base e v l) : ∃ A c, v = .slice A l.length c ∧ LsZ B k w A c l := by
 obtain ⟨xs, h1, h2⟩ := h
 have hh := h1.1
 rcases h1.1.2 with ⟨rfl, h0⟩ | ⟨g, cap, cur, rfl, hb, hg, hnc, hm, _⟩
 ·have : l = [] := List.eq_nil_of_length_eq_zero h0
  subst this
  exact ⟨none, 0, rfl, xs, ⟨hh.1, fun h => absurd h (by simp)⟩, Nat.le_refl _, by omega, h2⟩
 ·refine ⟨some ⟨g, 0, none⟩, cap, rfl, xs, Rd.of_own hh, hnc, ?_, h2⟩
  simp only [maxLen] at hm
  omega
/-- A list of one number, just made. -/
theorem OwZ.one {nv : Bool} {A : Option Addr} {n c : Nat} {y : Int} (hbase : base ≤ w.heap.size) (hy : IsZ B k w (.agg #[.bool nv, .slice A n c]) y) : OwZ B k (w.alloc (.cells #[.bool nv, .slice A n c] e)) base e (.slice (some ⟨w.heap.size, 0, none⟩) 1 1) [y] := by
 refine ⟨[.bool nv, .slice A n c], ⟨⟨rfl, .inr ⟨w.heap.size, 1, #[.bool nv, .slice A n c], rfl, hbase, heap_alloc_new w _, Nat.le_refl _, by simp [maxLen], rfl, rfl⟩⟩, ?_⟩, ?_⟩
 ·refine noI_alloc rfl fun u hu => ?_
  simp at hu
  rcases hu with rfl | rfl <;> exact fun _ _ h => by cases h
 ·have := (show Rl B k (w.alloc (.cells #[.bool nv, .slice A n c] e)) [] [] from fun j z h => by simp at h).snoc rfl (hy.below (below_alloc (Below.refl _ _) _))
  simpa using this
end
section
variable {P : Program} {ops : Array Oper} {rest : List Oper} {o : Oper} {a : Act} {Q : Exit → Act → World → Prop}
end
end Go.Proofs.YtibdipfhfaeooaaGreatDoor


set_option linter.unusedVariables false
namespace Go.Proofs.YtibdipfhfaeooaaGreatDoor
open Go

section
variable {P : Program} {ops : Array Oper} {Q : Exit → Act → World → Prop} {md : Region.Mode} {S : World → Prop} {st : List Nat}

/-- As long as none of st has come up, the world meets S. -/
def heldF (S : World → Prop) (st : List Nat) (done : Array Bool) (w : World) : Prop := (∀ k ∈ st, done.getD k true = false) → S w
/-- Whatever order is picked; behind every operation: heldF. -/
def wpAnyF (P : Program) (md : Region.Mode) (ops : Array Oper) (Q : Exit → Act → World → Prop) (S : World → Prop) (st : List Nat) : Nat → Array Bool → Act → World → Prop
 | 0, done, a, w => Region.ready md ops done = [] ∧ Q .normal a w
 | n + 1, done, a, w => (Region.ready md ops done = [] → Q .normal a w) ∧
  ∀ i ∈ Region.ready md ops done, wpOp P ops Q i (fun a' w' => heldF S st (done.setIfInBounds i true) w' ∧ wpAnyF P md ops Q S st n (done.setIfInBounds i true) a' w') a w

theorem wpAny_of_F : ∀ (n : Nat) (done : Array Bool) (a : Act) (w : World), wpAnyF P md ops Q S st n done a w → wpAny P md ops Q n done a w
 | 0, _, _, _, h => h
 | n + 1, _, _, _, h => ⟨h.1, fun i hi => wpOp_mono (fun a' w' h' => wpAny_of_F n _ a' w' h'.2) (h.2 i hi)⟩

/-- Every operation of st waits for number i. -/
def stWait (md : Region.Mode) (ops : Array Oper) (st : List Nat) (i : Nat) : Bool :=
 st.all fun j => match ops[j]? with
  | some o => o.after.any fun e => Region.binds md e && e.on == i
  | none => true
theorem set_ne {done : Array Bool} {i k : Nat} (h : k ≠ i) : (done.setIfInBounds i true).getD k true = done.getD k true := getD_set_ne true (Ne.symm h)

theorem wpAnyF_first {i : Nat} {oi : Oper} {v : Value} (hi : ops[i]? = some oi) (hsel : ∀ (j : Nat) (o : Oper) cs b, ops[j]? = some o → o.op ≠ .select cs b)
  (hQ : ∀ c a w, Q (.panic c) (a.put oi.dst v) w → Q (.panic c) a w) (hst : stWait md ops st i = true) (hin : i ∉ st) :
  ∀ (n : Nat) (done : Array Bool) (a : Act) (w : World),
   (∀ j oj, ops[j]? = some oj → j ≠ i → done.getD j true = false → (∀ e ∈ oj.after, Region.binds md e = true → e.on ≠ i) → oi.apart ops oj = true) →
   i ∈ Region.ready md ops done → YieldsIf P ops S oi v a → S w → (∀ k ∈ st, done.getD k true = false) →
   wpAnyF P md ops Q S st n (done.setIfInBounds i true) (a.put oi.dst v) w → wpAnyF P md ops Q S st (n + 1) done a w := by
 intro n
 induction n with
 | zero =>
  intro done a w _ hr hy hS hno H
  refine ⟨fun h => (by rw [h] at hr; cases hr), fun j hj => ?_⟩
  by_cases hji : j = i
  ·subst hji; exact hy.wpOp hi hS ⟨fun _ => hS, H⟩
  ·have := ready_mono hj hji
   rw [H.1] at this
   cases this
 | succ n ih =>
  intro done a w hfree hr hy hS hno H
  refine ⟨fun h => (by rw [h] at hr; cases hr), fun j hj => ?_⟩
  by_cases hji : j = i
  ·subst hji; exact hy.wpOp hi hS ⟨fun _ => hS, H⟩
  ·have h1 := H.2 j (ready_mono hj hji)
   obtain ⟨hjun, oj, hoj, hall⟩ := mem_ready.1 hj
   have hnot : ∀ e ∈ oj.after, Region.binds md e = true → e.on ≠ i := fun e he hb heq => by
    have h1 := hall e he hb
    have h0 := (mem_ready.1 hr).1
    rw [heq] at h1
    rcases Nat.lt_or_ge i done.size with h' | h'
    ·simp [h'] at h0 h1; rw [h0] at h1; cases h1
    ·simp [Array.getElem?_eq_none h'] at h1
   have hjst : j ∉ st := fun hm => by
    have h2 := List.all_eq_true.1 hst j hm
    simp only [hoj] at h2
    obtain ⟨e, he, h3⟩ := Array.any_eq_true'.1 h2
    simp only [Bool.and_eq_true, beq_iff_eq] at h3
    exact hnot e he h3.1 h3.2
   have hno' : ∀ k ∈ st, (done.setIfInBounds j true).getD k true = false := fun k hk => by
    rw [set_ne (i := j) (show k ≠ j from fun e => hjst (by rw [← e]; exact hk))]; exact hno k hk
   have hno2 : ∀ k ∈ st, ((done.setIfInBounds i true).setIfInBounds j true).getD k true = false := fun k hk => by
    rw [set_ne (i := j) (show k ≠ j from fun e => hjst (by rw [← e]; exact hk)), set_ne (i := i) (show k ≠ i from fun e => hin (by rw [← e]; exact hk))]; exact hno k hk
   have h2 := wpOp_putIf hoj (hfree j oj hoj hji hjun hnot) (fun cs b => hsel i oi cs b hi) (fun cs b => hsel j oj cs b hoj) hQ hy h1
   have hfree' : ∀ k ok, ops[k]? = some ok → k ≠ i → (done.setIfInBounds j true).getD k true = false →
     (∀ e ∈ ok.after, Region.binds md e = true → e.on ≠ i) → oi.apart ops ok = true := fun k ok hk hki hun hno => by
    refine hfree k ok hk hki ?_ hno
    by_cases hjk : j = k
    ·subst hjk; exact hjun
    ·rw [getD_set_ne true hjk] at hun; exact hun
   refine wpOp_mono (fun a' w' h3 => ⟨fun _ => h3.2.1 hno2, ih (done.setIfInBounds j true) a' w' hfree' (ready_mono hr (Ne.symm hji)) h3.1 (h3.2.1 hno2) hno' ?_⟩) h2
   rw [Array.setIfInBounds_comm _ _ hji]
   exact h3.2.2
theorem wpAnyF_first' {i : Nat} {oi : Oper} {v : Value} (hi : ops[i]? = some oi) (hsel : ∀ (j : Nat) (o : Oper) cs b, ops[j]? = some o → o.op ≠ .select cs b)
  (hQ : ∀ c a w, Q (.panic c) (a.put oi.dst v) w → Q (.panic c) a w) (hin : i ∉ st) :
  ∀ (n : Nat) (done : Array Bool) (a : Act) (w : World),
   (∀ j oj, ops[j]? = some oj → j ≠ i → done.getD j true = false → (∀ e ∈ oj.after, Region.binds md e = true → e.on ≠ i) → oi.apart ops oj = true) →
   i ∈ Region.ready md ops done → YieldsIf P ops (fun _ => True) oi v a → heldF S st done w →
   wpAnyF P md ops Q S st n (done.setIfInBounds i true) (a.put oi.dst v) w → wpAnyF P md ops Q S st (n + 1) done a w := by
 intro n
 induction n with
 | zero =>
  intro done a w _ hr hy hS H
  refine ⟨fun h => (by rw [h] at hr; cases hr), fun j hj => ?_⟩
  by_cases hji : j = i
  ·subst hji; exact hy.wpOp hi trivial ⟨fun hk => hS fun k hm => by rw [← set_ne (i := j) (show k ≠ j from fun e => hin (by rw [← e]; exact hm))]; exact hk k hm, H⟩
  ·have := ready_mono hj hji
   rw [H.1] at this
   cases this
 | succ n ih =>
  intro done a w hfree hr hy hS H
  refine ⟨fun h => (by rw [h] at hr; cases hr), fun j hj => ?_⟩
  by_cases hji : j = i
  ·subst hji; exact hy.wpOp hi trivial ⟨fun hk => hS fun k hm => by rw [← set_ne (i := j) (show k ≠ j from fun e => hin (by rw [← e]; exact hm))]; exact hk k hm, H⟩
  ·have h1 := H.2 j (ready_mono hj hji)
   obtain ⟨hjun, oj, hoj, hall⟩ := mem_ready.1 hj
   have hnot : ∀ e ∈ oj.after, Region.binds md e = true → e.on ≠ i := fun e he hb heq => by
    have h1 := hall e he hb
    have h0 := (mem_ready.1 hr).1
    rw [heq] at h1
    rcases Nat.lt_or_ge i done.size with h' | h'
    ·simp [h'] at h0 h1; rw [h0] at h1; cases h1
    ·simp [Array.getElem?_eq_none h'] at h1
   have h2 := wpOp_putIf hoj (hfree j oj hoj hji hjun hnot) (fun cs b => hsel i oi cs b hi) (fun cs b => hsel j oj cs b hoj) hQ hy h1
   have hfree' : ∀ k ok, ops[k]? = some ok → k ≠ i → (done.setIfInBounds j true).getD k true = false →
     (∀ e ∈ ok.after, Region.binds md e = true → e.on ≠ i) → oi.apart ops ok = true := fun k ok hk hki hun hno => by
    refine hfree k ok hk hki ?_ hno
    by_cases hjk : j = k
    ·subst hjk; exact hjun
    ·rw [getD_set_ne true hjk] at hun; exact hun
   have hD : ∀ w', heldF S st ((done.setIfInBounds i true).setIfInBounds j true) w' → heldF S st (done.setIfInBounds j true) w' := fun w' h hk => h fun k hm => by
    rw [Array.setIfInBounds_comm _ _ (Ne.symm hji), set_ne (i := i) (show k ≠ i from fun e => hin (by rw [← e]; exact hm))]; exact hk k hm
   refine wpOp_mono (fun a' w' h3 => ⟨hD w' h3.2.1, ih (done.setIfInBounds j true) a' w' hfree' (ready_mono hr (Ne.symm hji)) h3.1 (hD w' h3.2.1) ?_⟩) h2
   rw [Array.setIfInBounds_comm _ _ hji]
   exact h3.2.2

/-- None of st has come up. -/
def noneSt (st : List Nat) (done : Array Bool) : Bool := st.all fun k => !done.getD k true
theorem noneSt_spec {done : Array Bool} (h : noneSt st done = true) : ∀ k ∈ st, done.getD k true = false := fun k hk => by
 have := List.all_eq_true.1 h k hk
 simpa using this
theorem wpAnyF_take {i : Nat} {oi : Oper} {v : Value} {n : Nat} {done : Array Bool} {a : Act} {w : World} (hi : ops[i]? = some oi)
  (hs : Region.noSelect ops = true) (hf : Region.free md ops done i = true) (hr : (Region.ready md ops done).contains i = true) (hst : (stWait md ops st i && !st.contains i && noneSt st done) = true)
  (hQ : ∀ c a w, Q (.panic c) (a.put oi.dst v) w → Q (.panic c) a w) (hy : YieldsIf P ops S oi v a) (hS : S w)
  (h : wpAnyF P md ops Q S st n (done.setIfInBounds i true) (a.put oi.dst v) w) : wpAnyF P md ops Q S st (n + 1) done a w := by
 simp only [Bool.and_eq_true] at hst
 exact wpAnyF_first hi (Region.noSelect_spec hs) hQ hst.1.1 (by simpa using hst.1.2) n done a w (Region.free_spec hi hf) (by simpa using hr) hy hS (noneSt_spec hst.2) h
/-- An operation that does not look at the world. -/
theorem wpAnyF_pure {i : Nat} {oi : Oper} {v : Value} {n : Nat} {done : Array Bool} {a : Act} {w : World} (hi : ops[i]? = some oi)
  (hs : Region.noSelect ops = true) (hf : Region.free md ops done i = true) (hr : (Region.ready md ops done).contains i = true) (hst : (!st.contains i) = true)
  (hQ : ∀ c a w, Q (.panic c) (a.put oi.dst v) w → Q (.panic c) a w) (hy : YieldsIf P ops (fun _ => True) oi v a) (hS : S w)
  (h : wpAnyF P md ops Q S st n (done.setIfInBounds i true) (a.put oi.dst v) w) : wpAnyF P md ops Q S st (n + 1) done a w :=
 wpAnyF_first' hi (Region.noSelect_spec hs) hQ (by simpa using hst) n done a w (Region.free_spec hi hf) (by simpa using hr) hy (fun _ => hS) h
/-- The same two, their closed facts in one. -/
theorem wpF_t {i : Nat} {oi : Oper} {v : Value} {n : Nat} {done : Array Bool} {a : Act} {w : World} (hi : ops[i]? = some oi)
  (hc : (Region.noSelect ops && Region.free md ops done i && (Region.ready md ops done).contains i && (stWait md ops st i && !st.contains i && noneSt st done)) = true)
  (hQ : ∀ c a w, Q (.panic c) (a.put oi.dst v) w → Q (.panic c) a w) (hy : YieldsIf P ops S oi v a) (hS : S w)
  (h : wpAnyF P md ops Q S st n (done.setIfInBounds i true) (a.put oi.dst v) w) : wpAnyF P md ops Q S st (n + 1) done a w := by
 rw [Bool.and_eq_true, Bool.and_eq_true, Bool.and_eq_true] at hc
 exact wpAnyF_take hi hc.1.1.1 hc.1.1.2 hc.1.2 hc.2 hQ hy hS h
theorem wpF_p {i : Nat} {oi : Oper} {v : Value} {n : Nat} {done : Array Bool} {a : Act} {w : World} (hi : ops[i]? = some oi)
  (hc : (Region.noSelect ops && Region.free md ops done i && (Region.ready md ops done).contains i && !st.contains i) = true)
  (hQ : ∀ c a w, Q (.panic c) (a.put oi.dst v) w → Q (.panic c) a w) (hy : YieldsIf P ops (fun _ => True) oi v a) (hS : S w)
  (h : wpAnyF P md ops Q S st n (done.setIfInBounds i true) (a.put oi.dst v) w) : wpAnyF P md ops Q S st (n + 1) done a w := by
 rw [Bool.and_eq_true, Bool.and_eq_true, Bool.and_eq_true] at hc
 exact wpAnyF_pure hi hc.1.1.1 hc.1.1.2 hc.1.2 hc.2 hQ hy hS h
theorem tF (i : Nat) (oi : Oper) {v : Value} {n : Nat} {done : Array Bool} {a : Act} {w : World} (hS : S w)
  (h : wpAnyF P md ops Q S st n (done.setIfInBounds i true) (a.put oi.dst v) w) (hi : ops[i]? = some oi := by rfl)
  (hc : (Region.noSelect ops && Region.free md ops done i && (Region.ready md ops done).contains i && (stWait md ops st i && !st.contains i && noneSt st done)) = true := by kernel_rfl)
  (hQ : ∀ c a w, Q (.panic c) (a.put oi.dst v) w → Q (.panic c) a w := by exact fun _ _ _ h => h) (hg : Region.wanted oi (yielded ops a.tmps) = true := by rfl)
  (hr : ∀ w, S w → (execOp a.eval oi).run P w = .ok (.value v) w := by intro _ h; (try dsimp only at h); go_simp; (try with_reducible rfl)) : wpAnyF P md ops Q S st (n + 1) done a w := wpF_t hi hc hQ (.inl ⟨hg, hr⟩) hS h
theorem nF (i : Nat) (oi : Oper) {n : Nat} {done : Array Bool} {a : Act} {w : World} (hS : S w)
  (h : wpAnyF P md ops Q S st n (done.setIfInBounds i true) (a.put oi.dst undef) w) (hi : ops[i]? = some oi := by rfl)
  (hc : (Region.noSelect ops && Region.free md ops done i && (Region.ready md ops done).contains i && (stWait md ops st i && !st.contains i && noneSt st done)) = true := by kernel_rfl)
  (hQ : ∀ c a w, Q (.panic c) (a.put oi.dst undef) w → Q (.panic c) a w := by exact fun _ _ _ h => h) (hg : Region.wanted oi (yielded ops a.tmps) = false := by rfl) : wpAnyF P md ops Q S st (n + 1) done a w := wpF_t hi hc hQ (.inr ⟨hg, rfl⟩) hS h
theorem pF (i : Nat) (oi : Oper) {v : Value} {n : Nat} {done : Array Bool} {a : Act} {w : World} (hS : S w)
  (h : wpAnyF P md ops Q S st n (done.setIfInBounds i true) (a.put oi.dst v) w) (hi : ops[i]? = some oi := by rfl)
  (hc : (Region.noSelect ops && Region.free md ops done i && (Region.ready md ops done).contains i && !st.contains i) = true := by kernel_rfl)
  (hQ : ∀ c a w, Q (.panic c) (a.put oi.dst v) w → Q (.panic c) a w := by exact fun _ _ _ h => h) (hg : Region.wanted oi (yielded ops a.tmps) = true := by rfl)
  (hr : ∀ w, True → (execOp a.eval oi).run P w = .ok (.value v) w := by intro _ h; (try dsimp only at h); go_simp; (try with_reducible rfl)) : wpAnyF P md ops Q S st (n + 1) done a w := wpF_p hi hc hQ (.inl ⟨hg, hr⟩) hS h
/-- Only number i may come up; S is to be shown behind it. -/
theorem wpAnyF_one {i : Nat} {o : Oper} {n : Nat} {done : Array Bool} {a : Act} {w : World} (hr : Region.ready md ops done = [i]) (ho : ops[i]? = some o)
  (h : ∀ K' : Act → World → Prop, Shut (∀ a w, S w → (S w → wpAnyF P md ops Q S st n (done.setIfInBounds i true) a w) → K' a w) → if Region.wanted o (yielded ops a.tmps) = true then Oper.wp P o a w K' Q else K' (a.put o.dst undef) w) :
  wpAnyF P md ops Q S st (n + 1) done a w := by
 refine ⟨fun h0 => (by rw [hr] at h0; cases h0), fun j hj => ?_⟩
 rw [hr] at hj
 obtain rfl : j = i := by simpa using hj
 exact wpOp_step ho (fun K' hK => h K' (fun a w hS hW => hK a w ⟨fun _ => hS, hW hS⟩))
/-- Only number i may come up, and one of st has come up, it or one before it. -/
theorem wpAnyF_st {i : Nat} {o : Oper} {n : Nat} {done : Array Bool} {a : Act} {w : World} (hr : Region.ready md ops done = [i]) (hi : noneSt st (done.setIfInBounds i true) = false) (ho : ops[i]? = some o)
  (h : ∀ K' : Act → World → Prop, Shut (∀ a w, wpAnyF P md ops Q S st n (done.setIfInBounds i true) a w → K' a w) → if Region.wanted o (yielded ops a.tmps) = true then Oper.wp P o a w K' Q else K' (a.put o.dst undef) w) :
  wpAnyF P md ops Q S st (n + 1) done a w := by
 refine ⟨fun h0 => (by rw [hr] at h0; cases h0), fun j hj => ?_⟩
 rw [hr] at hj
 obtain rfl : j = i := by simpa using hj
 refine wpOp_step ho (fun K' hK => h K' (fun a w hW => hK a w ⟨fun hn => ?_, hW⟩))
 have : noneSt st (done.setIfInBounds j true) = true := List.all_eq_true.2 fun k hk => by rw [hn k hk]; rfl
 rw [hi] at this; cases this
theorem wpAnyF_done {done : Array Bool} {a : Act} {w : World} (hr : Region.ready md ops done = []) (h : Q .normal a w) : ∀ n, wpAnyF P md ops Q S st n done a w
 | 0 => ⟨hr, h⟩
 | _ + 1 => ⟨fun _ => h, by rw [hr]; simp⟩
theorem wp_region_F (S : World → Prop) (st : List Nat) {id : Nat} {a : Act} {w : World} (hm : P.follows .mixedOrders = true) (hS : S w.drew)
  (h : S w.drew → wpAnyF P .any ops Q S st ops.size (Array.replicate ops.size false) a w.drew) : (Code.region id ops true).wp P Q a w :=
 wp_region_any hm (wpAny_of_F _ _ _ _ (h hS))
end
end Go.Proofs.YtibdipfhfaeooaaGreatDoor


set_option linter.unusedVariables false
namespace Go.Proofs.YtibdipfhfaeooaaGreatDoor
open Go

section
variable {P : Program} {ops : Array Oper} {Q : Exit → Act → World → Prop} {md : Region.Mode} {S : World → Prop} {st : List Nat}
/-- Two numbers may come up. -/
theorem wpAnyF_two {i j : Nat} {oi oj : Oper} {n : Nat} {done : Array Bool} {a : Act} {w : World} (hr : Region.ready md ops done = [i, j]) (hi : ops[i]? = some oi) (hj : ops[j]? = some oj)
  (h1 : ∀ K' : Act → World → Prop, Shut (∀ a w, S w → (S w → wpAnyF P md ops Q S st n (done.setIfInBounds i true) a w) → K' a w) → if Region.wanted oi (yielded ops a.tmps) = true then Oper.wp P oi a w K' Q else K' (a.put oi.dst undef) w)
  (h2 : ∀ K' : Act → World → Prop, Shut (∀ a w, S w → (S w → wpAnyF P md ops Q S st n (done.setIfInBounds j true) a w) → K' a w) → if Region.wanted oj (yielded ops a.tmps) = true then Oper.wp P oj a w K' Q else K' (a.put oj.dst undef) w) :
  wpAnyF P md ops Q S st (n + 1) done a w := by
 refine ⟨fun h0 => (by rw [hr] at h0; cases h0), fun k hk => ?_⟩
 rw [hr] at hk
 have hk' : k = i ∨ k = j := by simpa using hk
 rcases hk' with rfl | rfl
 ·exact wpOp_step hi (fun K' hK => h1 K' (fun a w hS hW => hK a w ⟨fun _ => hS, hW hS⟩))
 ·exact wpOp_step hj (fun K' hK => h2 K' (fun a w hS hW => hK a w ⟨fun _ => hS, hW hS⟩))
end
theorem newRes (w : World) (t : TypeId) : Res2 (w.alloc (.cells #[.bool false, .slice none 0 0] t)) w.heap.size :=
 ⟨⟨false, by simp [go_sem]⟩, ⟨none, 0, 0, by simp [go_sem]⟩, by simp [go_sem], by simp [go_sem], by simp⟩
end Go.Proofs.YtibdipfhfaeooaaGreatDoor

