/- Lists of numbers in memory: two cells for each number. No condition. -/
import Derived.Test.YtiaeeclmlchpoaaZ4
import Derived.Test.YtiaeeclmlchpoaaZ9
import Derived.Deep.LoopGhost
set_option linter.unusedVariables false
set_option linter.unusedSimpArgs false
namespace Go.Proofs.Ytiaeeclmlchpoaa
open Go.RowKit

/-- Whatever whole numbers lie in a row lie there still. -/
def Kp (w w' : World) : Prop := ∀ k A c l, SlI w k A c l → SlI w' k A c l
theorem Kp.refl (w : World) : Kp w w := fun _ _ _ _ h => h
theorem Kp.of {w w' : World} (h : Below w.heap.size w w') : Kp w w' := fun _ _ _ _ hs => hs.below h
theorem Kp.trans {a b c : World} (h : Kp a b) (k : Kp b c) : Kp a c := fun _ _ _ _ hs => k _ _ _ _ (h _ _ _ _ hs)
theorem Kp.isZ {w w' : World} (h : Kp w w') {B : Nat} {k : IntKind} {v : Value} {z : Int} (hz : IsZ B k w v z) : IsZ B k w' v z := by
  obtain ⟨A, c, e, hs⟩ := hz
  exact ⟨A, c, e, h _ _ _ _ hs⟩
theorem Kp.res2 {w : World} {b : Nat} (hr : Res2 w b) (x y : Value) : Kp w ((w.setCell ⟨b, 0, none⟩ x).setCell ⟨b, 1, none⟩ y) := fun _ _ _ _ hs => hs.res2 hr x y
theorem VX.keepB {B : Nat} {k : IntKind} {W w1 : World} {b base : Nat} {nv : Bool} {A : Option Addr} {n c : Nat} {z : Int} (h : VX B k W b nv A n c z) (hb : Below base W w1) (hlt : b < base) (hk : Kp W w1) : VX B k w1 b nv A n c z :=
  ⟨kcellB hb hlt h.c0, kcellB hb hlt h.c1, kfrozB hb hlt h.f0, kfrozB hb hlt h.f1, Nat.lt_of_lt_of_le h.lt hb.size, hk.isZ h.iz.out⟩

/-- A cell that holds no whole number. -/
def NoInt (u : Value) : Prop := ∀ k x, u ≠ .int k x
theorem zeroCells_mem {z : Array Value} (hz : 0 < z.size) {n : Nat} {u : Value} (h : u ∈ (Builtin.zeroCells z n).toList) : u ∈ z.toList := by
  unfold Builtin.zeroCells at h
  simp only [Array.toList_map, List.mem_map] at h
  obtain ⟨i, _, rfl⟩ := h
  have hm := Nat.mod_lt i hz
  rw [getElem!_pos z (i % z.size) hm]
  exact Array.getElem_mem_toList hm
def noI (w : World) (v : Value) : Prop := ∀ g cur e fz, v.ownBlock = some g → w.heap[g]? = some (.cells cur e fz) → ∀ u ∈ cur.toList, NoInt u
/-- A row of the call's own that holds no whole number. -/
def OwP (w : World) (base : Nat) (e : TypeId) (size : Nat) (v : Value) (n : Nat) (xs : List Value) : Prop := w.ownsRow base e size v n xs ∧ noI w v
theorem noI_alloc {W : World} {b : Nat} {cells : Array Value} {e : TypeId} {n c : Nat} (hb : b = W.heap.size) (h : ∀ u ∈ cells.toList, NoInt u) : noI (W.alloc (.cells cells e)) (.slice (some ⟨b, 0, none⟩) n c) := by
  intro g cur e' fz hg hcur u hu
  subst hb
  simp only [Value.ownBlock, Option.some.injEq] at hg
  subst hg
  rw [heap_alloc_new] at hcur
  injection hcur with hcur
  injection hcur with hcur
  subst hcur
  exact h u hu
section
variable {P : Program} (w : World)
theorem run_append_P (base : Nat) (t ty e : TypeId) (i : TypeInfo) (z : Value) (size bytes : Nat) (ht : P.underlying t = some (.slice e)) (hi : P.info? e = some i) (hz : i.zero = some z)
    (hsize : i.size = size) (hby : i.bytes = bytes) (hzs : z.cells.size = size) (hsz : 0 < size) (hzn : ∀ u ∈ z.cells.toList, NoInt u)
    (v : Value) (n : Nat) (xs : List Value) (hown : OwP w base e size v n xs)
    (a : Addr) (m c : Nat) (news : List Value) (hl : news.length = m * size) (hnews : ∀ j u, news[j]? = some u → w.cell? (a.add j) = some u) (h1 : ∀ u ∈ news, u.oneCell' = true) (hnn : ∀ u ∈ news, NoInt u) (hm : 0 < m)
    (h63 : n + m ≤ maxLen) (hbytes : (n + m) * bytes ≤ 140737488355328) (hbase : base ≤ w.heap.size) :
    ∃ v' w', (Builtin.append_ #[t, t] ty #[v, .slice (some a) m c]).run P w = .ok v' w' ∧ OwP w' base e size v' (n + m) (xs ++ news) ∧ w.grownBy w' v.ownBlock := by
  obtain ⟨v', w', hr, h2, h3, _⟩ := run_append_own (P := P) w base t ty e i z size bytes ht hi hz hsize hby hzs hsz v n xs hown.1 a m c news hl hnews h1 h63 hbytes hbase
  refine ⟨v', w', hr, ⟨h2, ?_⟩, h3⟩
  subst hsize
  subst hby
  have hsmall : n + m ≤ 9223372036854775807 := by simp only [maxLen] at h63; omega
  have hzc : ∀ k, ∀ u ∈ (Builtin.zeroCells z.cells k).toList, NoInt u := fun k u hu => hzn u (zeroCells_mem (by omega) hu)
  rcases hown.1.2 with ⟨rfl, rfl⟩ | ⟨g, cap, cur, rfl, hbg, hg, hnc, hcm, hcs, htake⟩
  · have hr2 := run_append_nil (P := P) w t ty e i z ht hi hz a m c news hl hnews hm (by omega) (by have hb := hbytes; simp only [Nat.zero_add] at hb; omega)
    rw [hr] at hr2
    injection hr2 with e1 e2
    subst e1 e2
    refine noI_alloc rfl fun u hu => ?_
    rw [Array.toList_append, List.mem_append] at hu
    rcases hu with hu | hu
    · exact hnn u hu
    · exact hzc _ u hu
  · have hcur := hown.2 g cur e (0, 0) rfl hg
    by_cases hroom : n + m ≤ cap
    · have hfit : n * i.size + news.length ≤ cur.size := by rw [hl, hcs, ← Nat.add_mul]; exact Nat.mul_le_mul_right _ hroom
      have hr2 := run_append_room (P := P) w t ty e i ht hi g n cap cur hg a m c news hl hnews h1 hroom hfit
      rw [hr] at hr2
      injection hr2 with e1 e2
      subst e1 e2
      intro g' cur' e' fz hg' hcur' u hu
      simp only [Value.ownBlock, Option.some.injEq] at hg'
      subst hg'
      rw [setRow_heap w g cur _ e _ hg] at hcur'
      injection hcur' with hcur'
      injection hcur' with hcur'
      subst hcur'
      simp only [List.mem_append] at hu
      rcases hu with (hu | hu) | hu
      · exact hcur u (List.mem_of_mem_take hu)
      · exact hnn u hu
      · exact hcur u (List.mem_of_mem_drop hu)
    · have holds : ∀ j u, xs[j]? = some u → w.cell? ((⟨g, 0, none⟩ : Addr).add j) = some u := hown.1.cells (g := g) rfl
      have hr2 := run_append_grow (P := P) w t ty e i z ht hi hz ⟨g, 0, none⟩ n cap xs hown.1.1 holds a m c news hl hnews (by omega) (by omega) (growslice_fits (by omega) hbytes)
      rw [hr] at hr2
      injection hr2 with e1 e2
      subst e1 e2
      refine noI_alloc rfl fun u hu => ?_
      rw [Array.toList_append, Array.toList_append, List.mem_append, List.mem_append] at hu
      rcases hu with (hu | hu) | hu
      · have hx : xs = cur.toList.take (n * i.size) := htake.symm
        rw [show xs.toArray.toList = xs from rfl, hx] at hu
        exact hcur u (List.mem_of_mem_take hu)
      · exact hnn u hu
      · exact hzc _ u hu
theorem wp_append_P {ops : Array Oper} {rest : List Oper} {o : Oper} {a : Act} {Q : Exit → Act → World → Prop} (hgd : o.guard = none) (s x : Operand) (t : TypeId)
    (ho : o.op = .call { callee := .builtin .append, args := #[s, x], argTypes := #[t, t] })
    (base : Nat) (e : TypeId) (i : TypeInfo) (z : Value) (size bytes : Nat) (ht : P.underlying t = some (.slice e)) (hi : P.info? e = some i) (hz : i.zero = some z)
    (hsize : i.size = size) (hby : i.bytes = bytes) (hzs : z.cells.size = size) (hsz : 0 < size) (hzn : ∀ u ∈ z.cells.toList, NoInt u)
    (v : Value) (n : Nat) (xs : List Value) (hs : a.eval s = v) (hown : OwP w base e size v n xs)
    (ad : Addr) (m c : Nat) (news : List Value) (hx : a.eval x = .slice (some ad) m c) (hl : news.length = m * size) (hnews : ∀ j u, news[j]? = some u → w.cell? (ad.add j) = some u) (h1 : ∀ u ∈ news, u.oneCell' = true) (hnn : ∀ u ∈ news, NoInt u) (hm : 0 < m)
    (h63 : n + m ≤ maxLen) (hbytes : (n + m) * bytes ≤ 140737488355328) (hbase : base ≤ w.heap.size)
    (h : ∀ v' w', OwP w' base e size v' (n + m) (xs ++ news) → w.grownBy w' v.ownBlock → wpList P ops Q rest (a.put o.dst v') w') : wpList P ops Q (o :: rest) a w :=
  wpList_plain hgd fun _ hK => by
    obtain ⟨v', w', hr, h2, h3⟩ := run_append_P (P := P) w base t o.type e i z size bytes ht hi hz hsize hby hzs hsz hzn v n xs hown ad m c news hl hnews h1 hnn hm h63 hbytes hbase
    unfold Oper.wp execOp
    simp only [ho, resolve, invoke, builtin, Sem.run_bind, Sem.run_pure, Result.andThen_ok, List.map_toArray, List.map_cons, List.map_nil, hs, hx, hr]
    exact hK _ _ (h v' w' h2 h3)
end

/-- What a row without whole numbers takes leaves whole numbers as they are. -/
theorem Kp.grown {w w' : World} {v : Value} (h : w.grownBy w' v.ownBlock) (hn : noI w v) (hv : ∀ g, v.ownBlock = some g → ∃ cur e fz, w.heap[g]? = some (.cells cur e fz)) : Kp w w' := by
  intro k A c l hs
  refine ⟨⟨hs.1.1, fun hl => ?_⟩, hs.2⟩
  obtain ⟨b, off, hA, hlt, hc⟩ := hs.1.2 hl
  refine ⟨b, off, hA, Nat.lt_of_lt_of_le hlt h.size, fun j u hu => ?_⟩
  have hne : some b ≠ v.ownBlock := by
    intro he
    obtain ⟨cur, e, fz, hcur⟩ := hv b he.symm
    have h0 := hc j u hu
    have hun : u ∈ cur.toList := by
      simp only [World.cell?, hcur] at h0
      exact Array.mem_toList_iff.2 (Array.mem_of_getElem? h0)
    have := hn b cur e fz he.symm hcur u hun
    have hu2 : u ∈ ints k l := List.mem_of_getElem? hu
    unfold ints at hu2
    simp only [List.mem_map] at hu2
    obtain ⟨x, _, rfl⟩ := hu2
    exact this _ _ rfl
  rw [← hc j u hu]
  exact World.cell?_of_block (h.block b hlt hne)
theorem own_cells {w : World} {base : Nat} {e : TypeId} {size n : Nat} {v : Value} {xs : List Value} (h : w.ownsRow base e size v n xs) : ∀ g, v.ownBlock = some g → ∃ cur e fz, w.heap[g]? = some (.cells cur e fz) := by
  intro g hg
  rcases h.2 with ⟨rfl, _⟩ | ⟨g', cap, cur, rfl, _, hgg, _⟩
  · simp [Value.ownBlock] at hg
  · have : g' = g := by simpa [Value.ownBlock] using hg
    subst this
    exact ⟨cur, e, _, hgg⟩
theorem OwP.below {w w' : World} {base : Nat} {e : TypeId} {size n : Nat} {v : Value} {xs : List Value} (h : OwP w base e size v n xs) (hb : Below w.heap.size w w') : OwP w' base e size v n xs := by
  refine ⟨World.ownsRow.kept (row := none) h.1 ⟨hb.os, hb.tape, hb.output, hb.size, fun i hi _ => hb.block i hi⟩ (by cases v.ownBlock <;> simp), ?_⟩
  intro g cur e' fz hg hcur
  have hlt := (h.1.lt g hg).2
  rw [hb.block g hlt] at hcur
  exact h.2 g cur e' fz hg hcur

/-- A list of numbers, two cells each, reads as l. -/
def Rl (B : Nat) (k : IntKind) (w : World) (xs : List Value) (l : List Int) : Prop :=
  ∀ j z, l[j]? = some z → ∃ nv A n c, xs[2 * j]? = some (.bool nv) ∧ xs[2 * j + 1]? = some (.slice A n c) ∧ IsZ B k w (.agg #[.bool nv, .slice A n c]) z
theorem Rl.kp {B : Nat} {k : IntKind} {w w' : World} {xs : List Value} {l : List Int} (h : Rl B k w xs l) (hk : Kp w w') : Rl B k w' xs l := fun j z hj => by
  obtain ⟨nv, A, n, c, h1, h2, h3⟩ := h j z hj
  exact ⟨nv, A, n, c, h1, h2, hk.isZ h3⟩
theorem Rl.snoc {B : Nat} {k : IntKind} {w : World} {xs : List Value} {l : List Int} (h : Rl B k w xs l) (hl : xs.length = l.length * 2) {nv : Bool} {A : Option Addr} {n c : Nat} {y : Int} (hy : IsZ B k w (.agg #[.bool nv, .slice A n c]) y) : Rl B k w (xs ++ [.bool nv, .slice A n c]) (l ++ [y]) := by
  intro j z hj
  rcases Nat.lt_or_ge j l.length with h1 | h1
  · rw [List.getElem?_append_left h1] at hj
    obtain ⟨nv', A', n', c', h2, h3, h4⟩ := h j z hj
    exact ⟨nv', A', n', c', by rw [List.getElem?_append_left (by omega)]; exact h2, by rw [List.getElem?_append_left (by omega)]; exact h3, h4⟩
  · rw [List.getElem?_append_right h1] at hj
    have hj0 : j - l.length = 0 := by
      rcases Nat.eq_zero_or_pos (j - l.length) with h2 | h2
      · exact h2
      · rw [List.getElem?_eq_none (by simp; omega)] at hj; cases hj
    rw [hj0] at hj
    have hz : y = z := by simpa using hj
    subst hz
    refine ⟨nv, A, n, c, ?_, ?_, hy⟩
    · rw [List.getElem?_append_right (by omega), show 2 * j - xs.length = 0 by omega]; rfl
    · rw [List.getElem?_append_right (by omega), show 2 * j + 1 - xs.length = 1 by omega]; rfl
/-- A slice of numbers. -/
def LsZ (B : Nat) (k : IntKind) (w : World) (A : Option Addr) (c : Nat) (l : List Int) : Prop := ∃ xs, Rd w 2 A l.length xs ∧ l.length ≤ c ∧ c ≤ 9223372036854775807 ∧ Rl B k w xs l
/-- A list of numbers of the call's own. -/
def OwZ (B : Nat) (k : IntKind) (w : World) (base : Nat) (e : TypeId) (v : Value) (l : List Int) : Prop := ∃ xs, OwP w base e 2 v l.length xs ∧ Rl B k w xs l
section
variable {B : Nat} {k : IntKind} {w w' : World} {base : Nat} {e : TypeId} {v : Value} {l : List Int} {A : Option Addr} {c : Nat}
theorem LsZ.below (h : LsZ B k w A c l) (hb : Below w.heap.size w w') : LsZ B k w' A c l := by
  obtain ⟨xs, h1, h2, h3, h4⟩ := h
  exact ⟨xs, h1.below hb, h2, h3, h4.kp (Kp.of hb)⟩
theorem LsZ.at (h : LsZ B k w A c l) {j : Nat} (hj : j < l.length) : ∃ b off nv A' n' c', A = some ⟨b, off, none⟩ ∧ b < w.heap.size ∧ w.cell? ⟨b, off + j * 2, none⟩ = some (.bool nv) ∧ w.cell? ⟨b, off + j * 2 + 1, none⟩ = some (.slice A' n' c') ∧ Hid (IsZ B k w (.agg #[.bool nv, .slice A' n' c']) (gd l j)) := by
  obtain ⟨xs, h1, h2, h3, h4⟩ := h
  obtain ⟨b, off, hA, hlt, hc⟩ := h1.2 (by omega)
  obtain ⟨nv, A', n', c', h5, h6, h7⟩ := h4 j (gd l j) (by rw [gd_lt hj]; exact List.getElem?_eq_getElem hj)
  refine ⟨b, off, nv, A', n', c', hA, hlt, ?_, ?_, h7⟩
  · rw [Nat.mul_comm]; exact hc _ _ h5
  · rw [Nat.add_assoc, Nat.mul_comm]; exact hc _ _ h6
theorem OwZ.nil (w : World) (base : Nat) (e : TypeId) : OwZ B k w base e (.slice none 0 0) [] :=
  ⟨[], ⟨World.ownsRow_nil _ _ _ _, fun g _ _ _ hg => by simp [Value.ownBlock] at hg⟩, fun j z h => by simp at h⟩
theorem OwZ.below (h : OwZ B k w base e v l) (hb : Below w.heap.size w w') : OwZ B k w' base e v l := by
  obtain ⟨xs, h1, h2⟩ := h
  exact ⟨xs, h1.below hb, h2.kp (Kp.of hb)⟩
theorem OwZ.form (h : OwZ B k w base e v l) : ∃ A c, v = .slice A l.length c ∧ LsZ B k w A c l := by
  obtain ⟨xs, h1, h2⟩ := h
  have hh := h1.1
  rcases h1.1.2 with ⟨rfl, h0⟩ | ⟨g, cap, cur, rfl, hb, hg, hnc, hm, _⟩
  · have : l = [] := List.eq_nil_of_length_eq_zero h0
    subst this
    exact ⟨none, 0, rfl, xs, ⟨hh.1, fun h => absurd h (by simp)⟩, Nat.le_refl _, by omega, h2⟩
  · refine ⟨some ⟨g, 0, none⟩, cap, rfl, xs, Rd.of_own hh, hnc, ?_, h2⟩
    simp only [maxLen] at hm
    omega
/-- A list of one number, just made. -/
theorem OwZ.one {nv : Bool} {A : Option Addr} {n c : Nat} {y : Int} (hbase : base ≤ w.heap.size) (hy : IsZ B k w (.agg #[.bool nv, .slice A n c]) y) : OwZ B k (w.alloc (.cells #[.bool nv, .slice A n c] e)) base e (.slice (some ⟨w.heap.size, 0, none⟩) 1 1) [y] := by
  refine ⟨[.bool nv, .slice A n c], ⟨⟨rfl, .inr ⟨w.heap.size, 1, #[.bool nv, .slice A n c], rfl, hbase, heap_alloc_new w _, Nat.le_refl _, by simp [maxLen], rfl, rfl⟩⟩, ?_⟩, ?_⟩
  · refine noI_alloc rfl fun u hu => ?_
    simp at hu
    rcases hu with rfl | rfl <;> exact fun _ _ h => by cases h
  · have := (show Rl B k (w.alloc (.cells #[.bool nv, .slice A n c] e)) [] [] from fun j z h => by simp at h).snoc rfl (hy.below (below_alloc (Below.refl _ _) _))
    simpa using this
end
section
variable {P : Program} {ops : Array Oper} {rest : List Oper} {o : Oper} {a : Act} {Q : Exit → Act → World → Prop}
/-- One number more at the end of a list of the call's own. -/
theorem app_Z {B : Nat} {k : IntKind} {W : World} (base : Nat) (hgd : o.guard = none) (s x : Operand) (t e : TypeId) (bytes : Nat)
    (ho : o.op = .call { callee := .builtin .append, args := #[s, x], argTypes := #[t, t] })
    (ht : P.underlying t = some (.slice e)) (hinfo : (P.info? e).map (fun i => (i.zero, i.size, i.bytes)) = some (some (.agg #[.bool false, .slice none 0 0]), 2, bytes)) (hb0 : 0 < bytes)
    (v : Value) (l : List Int) (nv : Bool) (A : Option Addr) (n c : Nat) (y : Int) (HO : OwZ B k W base e v l) (hy : IsZ B k W (.agg #[.bool nv, .slice A n c]) y) (hs : a.eval s = v) (hx : a.eval x = .slice (some ⟨W.heap.size, 0, none⟩) 1 1) (hbase : base ≤ W.heap.size) (hl : (l.length + 1) * bytes ≤ 140737488355328)
    (h : ∀ v1 w1, OwZ B k w1 base e v1 (l ++ [y]) → Below base W w1 → Kp W w1 → base ≤ w1.heap.size → wpList P ops Q rest (a.put o.dst v1) w1) :
    wpList P ops Q (o :: rest) a (W.alloc (.cells #[.bool nv, .slice A n c] e)) := by
  obtain ⟨i0, hi, hzz⟩ := Option.map_eq_some_iff.1 hinfo
  simp only [Prod.mk.injEq] at hzz
  obtain ⟨hz0, hz1, hz2⟩ := hzz
  obtain ⟨xs, hP, hR⟩ := HO
  have hlen : l.length + 1 ≤ 140737488355328 := Nat.le_trans (Nat.le_mul_of_pos_right _ hb0) hl
  have hba : Below W.heap.size W (W.alloc (.cells #[.bool nv, .slice A n c] e)) := below_alloc (Below.refl _ _) _
  have hP2 := hP.below hba
  refine wp_append_P (w := W.alloc (.cells #[.bool nv, .slice A n c] e)) hgd s x t ho base e i0 (.agg #[.bool false, .slice none 0 0]) 2 bytes ht hi hz0 hz1 hz2 rfl (by omega) ?_ v l.length xs hs hP2 ⟨W.heap.size, 0, none⟩ 1 1 [.bool nv, .slice A n c] hx rfl
    ?_ (by simp [Value.oneCell']) ?_ (by omega) (by simp only [maxLen]; omega) hl (by simp; omega) ?_
  · intro u hu
    simp [Value.cells] at hu
    rcases hu with rfl | rfl <;> exact fun _ _ h => by cases h
  · intro j u hj
    match j, hj with
    | 0, hj => simp at hj; subst hj; simp [Addr.add, go_sem]
    | 1, hj => simp at hj; subst hj; simp [Addr.add, go_sem]
  · intro u hu
    simp at hu
    rcases hu with rfl | rfl <;> exact fun _ _ h => by cases h
  · intro v1 w1 hown hg
    have hk : Kp W w1 := (Kp.of hba).trans (Kp.grown hg hP2.2 (own_cells hP2.1))
    refine h v1 w1 ⟨xs ++ [.bool nv, .slice A n c], by rw [List.length_append]; exact hown, (hR.kp hk).snoc hP.1.1 (hk.isZ hy)⟩ ?_ hk (by have := hg.size; simp at this; omega)
    exact ((Below.refl base W).alloc hbase _).grown hg (by simp; omega) (ownsRow_base hP2.1)
end
end Go.Proofs.Ytiaeeclmlchpoaa

set_option linter.unusedVariables false
set_option linter.unusedSimpArgs false
namespace Go.Proofs.Ytiaeeclmlchpoaa
open Go.RowKit

/-- A map: its modulus, factors and addends. -/
structure Mp where
  mod : Int
  mul : List Int
  add : List Int
def IsM (w : World) (v : Value) (M : Mp) : Prop := ∃ A c A' c', v = .agg #[.int .i64 M.mod, .slice A M.mul.length c, .slice A' M.add.length c'] ∧ SlI w .i64 A c M.mul ∧ SlI w .i64 A' c' M.add
theorem IsM.kp {w w' : World} {v : Value} {M : Mp} (h : IsM w v M) (hk : Kp w w') : IsM w' v M := by
  obtain ⟨A, c, A', c', e, h1, h2⟩ := h
  exact ⟨A, c, A', c', e, hk _ _ _ _ h1, hk _ _ _ _ h2⟩
theorem IsM.below {w w' : World} {v : Value} {M : Mp} (h : IsM w v M) (hb : Below w.heap.size w w') : IsM w' v M := h.kp (Kp.of hb)
theorem IsM.form {w : World} {v : Value} {M : Mp} (h : IsM w v M) : ∃ md A n c A' n' c', v = .agg #[.int .i64 md, .slice A n c, .slice A' n' c'] ∧ Hid (IsM w (.agg #[.int .i64 md, .slice A n c, .slice A' n' c']) M) := by
  obtain ⟨A, c, A', c', rfl, h1, h2⟩ := h
  exact ⟨_, A, _, c, A', _, c', rfl, A, c, A', c', rfl, h1, h2⟩
/-- Block b holds a map. -/
structure VM (W : World) (b : Nat) (md : Int) (A : Option Addr) (n c : Nat) (A' : Option Addr) (n' c' : Nat) (M : Mp) : Prop where
  c0 : W.cell? ⟨b, 0, none⟩ = some (.int .i64 md)
  c1 : W.cell? ⟨b, 1, none⟩ = some (.slice A n c)
  c2 : W.cell? ⟨b, 2, none⟩ = some (.slice A' n' c')
  lt : b < W.heap.size
  im : Hid (IsM W (.agg #[.int .i64 md, .slice A n c, .slice A' n' c']) M)
section
variable {W w1 : World} {b : Nat} {md : Int} {A : Option Addr} {n c : Nat} {A' : Option Addr} {n' c' : Nat} {M : Mp}
theorem VM.keep (h : VM W b md A n c A' n' c' M) (hb : Below W.heap.size W w1) : VM w1 b md A n c A' n' c' M :=
  ⟨kcell hb h.lt h.c0, kcell hb h.lt h.c1, kcell hb h.lt h.c2, Nat.lt_of_lt_of_le h.lt hb.size, h.im.out.below hb⟩
theorem VM.drew (h : VM W b md A n c A' n' c' M) : VM W.drew b md A n c A' n' c' M := h.keep (below_drew (Below.refl _ _))
theorem VM.keepB {base : Nat} (h : VM W b md A n c A' n' c' M) (hb : Below base W w1) (hlt : b < base) (hk : Kp W w1) : VM w1 b md A n c A' n' c' M :=
  ⟨kcellB hb hlt h.c0, kcellB hb hlt h.c1, kcellB hb hlt h.c2, Nat.lt_of_lt_of_le h.lt hb.size, h.im.out.kp hk⟩
theorem VM.new (W : World) (t : TypeId) (h : IsM W (.agg #[.int .i64 md, .slice A n c, .slice A' n' c']) M) : VM (W.alloc (.cells #[.int .i64 md, .slice A n c, .slice A' n' c'] t)) W.heap.size md A n c A' n' c' M :=
  ⟨by simp [go_sem], by simp [go_sem], by simp [go_sem], by simp, h.below (below_alloc (Below.refl _ _) _)⟩
theorem VM.far {b' : Nat} {x y : Value} (h : VM W b md A n c A' n' c' M) (hr : Res2 W b') (hne : b' ≠ b) : VM ((W.setCell ⟨b', 0, none⟩ x).setCell ⟨b', 1, none⟩ y) b md A n c A' n' c' M := by
  have e : ∀ (o : Nat) (w : World) (u : Value) (o' : Nat), (w.setCell ⟨b', o', none⟩ u).cell? ⟨b, o, none⟩ = w.cell? ⟨b, o, none⟩ := fun o w u o' => World.cell?_setCell_other _ _ _ _ (by simp [hne])
  exact ⟨by rw [e, e]; exact h.c0, by rw [e, e]; exact h.c1, by rw [e, e]; exact h.c2, by simpa [World.setCell] using h.lt, h.im.out.kp (Kp.res2 hr x y)⟩
end
theorem VM.sl {W : World} {b : Nat} {md : Int} {A : Option Addr} {n c : Nat} {A' : Option Addr} {n' c' : Nat} {M : Mp} (h : VM W b md A n c A' n' c' M) : md = M.mod ∧ n = M.mul.length ∧ n' = M.add.length ∧ SlI W .i64 A c M.mul ∧ SlI W .i64 A' c' M.add := by
  obtain ⟨A1, c1, A2, c2, e, h1, h2⟩ := h.im.out
  injection e with e
  simp only [Array.mk.injEq, List.cons.injEq, Value.int.injEq, Value.slice.injEq, and_true, true_and] at e
  obtain ⟨e0, ⟨rfl, e1, rfl⟩, rfl, e2, rfl⟩ := e
  exact ⟨e0, e1, e2, h1, h2⟩
/-- Is a rest's row as it has to be? -/
def okR (M : Mp) (r : Nat) : Prop := 1 ≤ gd M.mul r ∧ gd M.mul r ≤ 999 ∧ -999999 ≤ gd M.add r ∧ gd M.add r ≤ 999999 ∧ (gd M.mul r * r + gd M.add r) % M.mod = 0
instance (M : Mp) (r : Nat) : Decidable (okR M r) := by unfold okR; infer_instance
/-- Is a map valid? -/
def okM (M : Mp) : Prop := 2 ≤ M.mod ∧ M.mod ≤ 12 ∧ (M.mul.length : Int) = M.mod ∧ (M.add.length : Int) = M.mod ∧ ∀ r : Nat, (r : Int) < M.mod → okR M r
def okRs (M : Mp) : Nat → Bool
  | 0 => true
  | r + 1 => okRs M r && decide (okR M r)
theorem okRs_iff {M : Mp} {n : Nat} : okRs M n = true ↔ ∀ r, r < n → okR M r := by
  induction n with
  | zero => simp [okRs]
  | succ n ih =>
    unfold okRs
    rw [Bool.and_eq_true, ih, decide_eq_true_eq]
    constructor
    · rintro ⟨h1, h2⟩ r hr
      rcases Nat.lt_or_ge r n with h | h
      · exact h1 r h
      · obtain rfl : r = n := by omega
        exact h2
    · exact fun h => ⟨fun r hr => h r (by omega), h n (by omega)⟩
def okB (M : Mp) : Bool := decide (2 ≤ M.mod) && decide (M.mod ≤ 12) && decide ((M.mul.length : Int) = M.mod) && decide ((M.add.length : Int) = M.mod) && okRs M M.mod.toNat
theorem okB_iff {M : Mp} : okB M = true ↔ okM M := by
  unfold okB okM
  simp only [Bool.and_eq_true, decide_eq_true_eq, okRs_iff]
  constructor
  · rintro ⟨⟨⟨⟨h1, h2⟩, h3⟩, h4⟩, h5⟩; exact ⟨h1, h2, h3, h4, fun r hr => h5 r (by omega)⟩
  · rintro ⟨h1, h2, h3, h4, h5⟩; exact ⟨⟨⟨⟨h1, h2⟩, h3⟩, h4⟩, fun r hr => h5 r (by omega)⟩
theorem tmod_zero {x m : Int} : x.tmod m = 0 ↔ x % m = 0 := by
  rw [← Int.dvd_iff_tmod_eq_zero, Int.dvd_iff_emod_eq_zero]

set_option maxRecDepth 100000 in
set_option maxHeartbeats 4000000 in
theorem MValid_c (M : Mp) (v : Value) (w : World) (h : IsM w v M) :
    Calls Try.prog 30 #[v] w fun e w' => e = .returned (.bool (okB M)) ∧ Below w.heap.size w w' := by
  obtain ⟨A, c, A', c', rfl, HA, HA'⟩ := h
  have hcl := HA.2
  have hcl' := HA'.2
  have H1 := Lib.hid HA
  have H2 := Lib.hid HA'
  clear HA HA'
  generalize hw1 : M.mul.length = L1 at *
  generalize hw2 : M.add.length = L2 at *
  have HL1 := Lib.hid hw1
  have HL2 := Lib.hid hw2
  clear hw1 hw2
  have hB : ∀ o n, Below w.heap.size w ((w.alloc o).drewN n) := fun o n => below_drewN (below_alloc (Below.refl _ _) _) n
  obtain ⟨m, hm⟩ : ∃ m, M.mod = m := ⟨_, rfl⟩
  rw [hm]
  have HM := Lib.hid hm
  clear hm
  by_cases h1 : m < 2
  · have HR : Hid (okB M = false) := by show _ = _; unfold okB; rw [HM.out, decide_eq_false (show ¬ 2 ≤ m by omega)]; simp
    go_enter Try.func30, Try.ntmps30
    go_wp2
    go_ret
    exact ⟨by rw [HR.out] <;> rfl, below_alloc (Below.refl _ _) _⟩
  · by_cases h2 : 12 < m
    · have HR : Hid (okB M = false) := by show _ = _; unfold okB; rw [HM.out, decide_eq_false (show ¬ m ≤ 12 by omega)]; simp
      go_enter Try.func30, Try.ntmps30
      go_wp2
      go_ret
      exact ⟨by rw [HR.out] <;> rfl, below_alloc (Below.refl _ _) _⟩
    · by_cases h3 : (L1 : Int) = m
      rotate_left
      · have HR : Hid (okB M = false) := by show _ = _; unfold okB; rw [HM.out, HL1.out, decide_eq_false h3]; simp
        have h3b : ((L1 : Int) == m) = false := by simpa using h3
        go_enter Try.func30, Try.ntmps30
        go_wp2
        go_ret
        exact ⟨by rw [HR.out] <;> rfl, below_alloc (Below.refl _ _) _⟩
      · by_cases h4 : (L2 : Int) = m
        rotate_left
        · have HR : Hid (okB M = false) := by show _ = _; unfold okB; rw [HM.out, HL2.out, decide_eq_false h4]; simp
          have h4b : ((L2 : Int) == m) = false := by simpa using h4
          subst h3
          go_enter Try.func30, Try.ntmps30
          go_wp2
          go_ret
          exact ⟨by rw [HR.out] <;> rfl, below_alloc (Below.refl _ _) _⟩
        · obtain ⟨m', rfl⟩ := Int.eq_ofNat_of_zero_le (show 0 ≤ m by omega)
          have hl1 : L1 = m' := by omega
          have hl2 : m' = L2 := by omega
          subst hl1
          clear h3 h4
          subst hl2
          have HR0 : Hid (okB M = okRs M L1) := by show _ = _; unfold okB; rw [HM.out, HL1.out, HL2.out, decide_eq_true (show 2 ≤ (L1 : Int) by omega), decide_eq_true (show (L1 : Int) ≤ 12 by omega)]; simp
          have hVM : VM (w.alloc (Obj.cells #[Value.int .i64 L1, Value.slice A L1 c, Value.slice A' L1 c'] 55)) w.heap.size L1 A L1 c A' L1 c' M := VM.new w _ ⟨A, c, A', c', by rw [HM.out, HL1.out, HL2.out], H1.out, H2.out⟩
          have HB := below_alloc (Below.refl w.heap.size w) (Obj.cells #[Value.int .i64 L1, Value.slice A L1 c, Value.slice A' L1 c'] 55)
          clear HM
          go_enter Try.func30, Try.ntmps30
          go_wp2_with fail
          generalize hW : (w.alloc (Obj.cells #[Value.int .i64 L1, Value.slice A L1 c, Value.slice A' L1 c'] 55)) = W at *
          generalize hb0 : w.heap.size = b at *
          clear hW hB
          go_loopg [3] L1 (fun g iv wr => ∃ (r : Nat), g = L1 - r ∧ iv = .int .i64 r ∧ r ≤ L1 ∧ VM wr b L1 A L1 c A' L1 c' M ∧ Below b w wr ∧ Hid (∀ r', r' < r → okR M r'))
          case atStart => exact ⟨0, rfl, rfl, by omega, hVM, HB, fun r' h => absurd h (by omega)⟩
          case round =>
            clear hVM HB
            obtain ⟨r, hgk, rfl, hr, V, HB, HI⟩ := hrel
            have c0 := V.c0
            have c1 := V.c1
            have c2 := V.c2
            by_cases hrl : r < L1
            · obtain ⟨-, -, -, s1, s2⟩ := V.sl
              obtain ⟨bA, oA, rfl, hlA, cA⟩ := s1.cell (j := r) (by rw [HL1.out]; exact hrl)
              obtain ⟨bB, oB, rfl, hlB, cB⟩ := s2.cell (j := r) (by rw [HL2.out]; exact hrl)
              clear s1 s2
              obtain ⟨x, hx⟩ : ∃ x, gd M.mul r = x := ⟨_, rfl⟩
              obtain ⟨y, hy⟩ : ∃ y, gd M.add r = y := ⟨_, rfl⟩
              rw [hx] at cA
              rw [hy] at cB
              have HX := Lib.hid hx
              have HY := Lib.hid hy
              clear hx hy
              have hi0 : (0 : Int) ≤ (r : Int) := by omega
              have hi1 : (r : Int) < (L1 : Int) := by omega
              have HNO : Hid (¬ okR M r → okB M = false) := fun h => by
                rw [HR0.out]
                cases ho : okRs M L1 with
                | false => rfl
                | true => exact absurd (okRs_iff.1 ho r hrl) h
              by_cases q1 : x < 1
              · have HR : Hid (okB M = false) := HNO.out (fun h => by have := h.1; rw [HX.out] at this; omega)

                go_wp2_with fail
                have V1 := V.drew
                have cA1 : wr.drew.cell? ⟨bA, oA + r, none⟩ = some (.int .i64 x) := cA
                have cB1 : wr.drew.cell? ⟨bB, oB + r, none⟩ = some (.int .i64 y) := cB
                have HB1 := below_drew HB
                generalize hWd : wr.drew = wd at *
                refine wp_region_F (fun w' => w'.cell? ⟨b, 0, none⟩ = some (.int .i64 L1) ∧ w'.cell? ⟨b, 1, none⟩ = some (.slice (some ⟨bA, oA, none⟩) L1 c) ∧ w'.cell? ⟨b, 2, none⟩ = some (.slice (some ⟨bB, oB, none⟩) L1 c') ∧ w'.cell? ⟨bA, oA + r, none⟩ = some (.int .i64 x) ∧ w'.cell? ⟨bB, oB + r, none⟩ = some (.int .i64 y)) [] (by kernel_rfl) (by rw [hWd]; exact ⟨V1.c0, V1.c1, V1.c2, cA1, cB1⟩) (fun hHeld => ?_)
                rw [hWd] at hHeld ⊢
                refine wpAnyF_take (i := 0) (oi := { dst := some 34, op := Go.Op.fieldAddr 55 (Go.Operand.tmp 1) 1, type := 0, pos := "ref.go:15", after := #[], guard := none }) (v := ?_) rfl (by kernel_rfl) (by kernel_rfl) (by kernel_rfl) (by kernel_rfl) (fun _ _ _ h => h) (Or.inl ⟨by rfl, ?_⟩) hHeld ?_
                rotate_left
                · intro w_ hSw_; (try dsimp only at hSw_); go_simp; (try with_reducible rfl)
                (try simp only [Act.put, List.setIfInBounds_toArray, List.set_cons_zero, List.set_cons_succ])
                refine wpAnyF_take (i := 1) (oi := { dst := some 35, op := Go.Op.load 26 (Go.Operand.tmp 34), type := 26, pos := "ref.go:15", after := #[{ on := 0, ground := Go.Ground.data }], guard := none }) (v := ?_) rfl (by kernel_rfl) (by kernel_rfl) (by kernel_rfl) (by kernel_rfl) (fun _ _ _ h => h) (Or.inl ⟨by rfl, ?_⟩) hHeld ?_
                rotate_left
                · intro w_ hSw_; (try dsimp only at hSw_); go_simp; (try with_reducible rfl)
                (try simp only [Act.put, List.setIfInBounds_toArray, List.set_cons_zero, List.set_cons_succ])
                refine wpAnyF_take (i := 2) (oi := { dst := some 36, op := Go.Op.move (Go.Operand.tmp 3), type := 3, pos := "ref.go:15", after := #[], guard := none }) (v := ?_) rfl (by kernel_rfl) (by kernel_rfl) (by kernel_rfl) (by kernel_rfl) (fun _ _ _ h => h) (Or.inl ⟨by rfl, ?_⟩) hHeld ?_
                rotate_left
                · intro w_ hSw_; (try dsimp only at hSw_); go_simp; (try with_reducible rfl)
                (try simp only [Act.put, List.setIfInBounds_toArray, List.set_cons_zero, List.set_cons_succ])
                refine wpAnyF_take (i := 3) (oi := { dst := some 37, op := Go.Op.indexAddr 26 (Go.Operand.tmp 35) (Go.Operand.tmp 36), type := 0, pos := "ref.go:15", after := #[{ on := 1, ground := Go.Ground.data }, { on := 2, ground := Go.Ground.data }], guard := none }) (v := ?_) rfl (by kernel_rfl) (by kernel_rfl) (by kernel_rfl) (by kernel_rfl) (fun _ _ _ h => h) (Or.inl ⟨by rfl, ?_⟩) hHeld ?_
                rotate_left
                · intro w_ hSw_; (try dsimp only at hSw_); go_simp; (try with_reducible rfl)
                (try simp only [Act.put, List.setIfInBounds_toArray, List.set_cons_zero, List.set_cons_succ])
                refine wpAnyF_take (i := 4) (oi := { dst := some 38, op := Go.Op.load 3 (Go.Operand.tmp 37), type := 3, pos := "ref.go:15", after := #[{ on := 3, ground := Go.Ground.data }], guard := none }) (v := ?_) rfl (by kernel_rfl) (by kernel_rfl) (by kernel_rfl) (by kernel_rfl) (fun _ _ _ h => h) (Or.inl ⟨by rfl, ?_⟩) hHeld ?_
                rotate_left
                · intro w_ hSw_; (try dsimp only at hSw_); go_simp; (try with_reducible rfl)
                (try simp only [Act.put, List.setIfInBounds_toArray, List.set_cons_zero, List.set_cons_succ])
                refine wpAnyF_take (i := 5) (oi := { dst := some 39, op := Go.Op.binOp Go.BinOp.lss 3 (Go.Operand.tmp 38) (Go.Operand.const (Go.Value.int Go.IntKind.i64 1)) 3, type := 4, pos := "ref.go:15", after := #[{ on := 4, ground := Go.Ground.data }], guard := none }) (v := ?_) rfl (by kernel_rfl) (by kernel_rfl) (by kernel_rfl) (by kernel_rfl) (fun _ _ _ h => h) (Or.inl ⟨by rfl, ?_⟩) hHeld ?_
                rotate_left
                · intro w_ hSw_; (try dsimp only at hSw_); go_simp; (try with_reducible rfl)
                (try simp only [Act.put, List.setIfInBounds_toArray, List.set_cons_zero, List.set_cons_succ])
                refine wpAnyF_take (i := 6) (oi := { dst := some 40, op := Go.Op.move (Go.Operand.tmp 39), type := 4, pos := "ref.go:15", after := #[{ on := 5, ground := Go.Ground.data }], guard := none }) (v := ?_) rfl (by kernel_rfl) (by kernel_rfl) (by kernel_rfl) (by kernel_rfl) (fun _ _ _ h => h) (Or.inl ⟨by rfl, ?_⟩) hHeld ?_
                rotate_left
                · intro w_ hSw_; (try dsimp only at hSw_); go_simp; (try with_reducible rfl)
                (try simp only [Act.put, List.setIfInBounds_toArray, List.set_cons_zero, List.set_cons_succ])
                refine wpAnyF_take (i := 7) (oi := { dst := some 41, op := Go.Op.fieldAddr 55 (Go.Operand.tmp 1) 1, type := 0, pos := "ref.go:15", after := #[{ on := 6, ground := Go.Ground.guard }], guard := some (6, false) }) rfl (by kernel_rfl) (by kernel_rfl) (by kernel_rfl) (by kernel_rfl) (fun _ _ _ h => h) (Or.inr ⟨by rfl, rfl⟩) hHeld ?_
                (try simp only [Act.put, List.setIfInBounds_toArray, List.set_cons_zero, List.set_cons_succ])
                refine wpAnyF_take (i := 8) (oi := { dst := some 42, op := Go.Op.load 26 (Go.Operand.tmp 41), type := 26, pos := "ref.go:15", after := #[{ on := 7, ground := Go.Ground.data }, { on := 6, ground := Go.Ground.guard }], guard := some (6, false) }) rfl (by kernel_rfl) (by kernel_rfl) (by kernel_rfl) (by kernel_rfl) (fun _ _ _ h => h) (Or.inr ⟨by rfl, rfl⟩) hHeld ?_
                (try simp only [Act.put, List.setIfInBounds_toArray, List.set_cons_zero, List.set_cons_succ])
                refine wpAnyF_take (i := 9) (oi := { dst := some 43, op := Go.Op.move (Go.Operand.tmp 3), type := 3, pos := "ref.go:15", after := #[{ on := 6, ground := Go.Ground.guard }], guard := some (6, false) }) rfl (by kernel_rfl) (by kernel_rfl) (by kernel_rfl) (by kernel_rfl) (fun _ _ _ h => h) (Or.inr ⟨by rfl, rfl⟩) hHeld ?_
                (try simp only [Act.put, List.setIfInBounds_toArray, List.set_cons_zero, List.set_cons_succ])
                refine wpAnyF_take (i := 10) (oi := { dst := some 44, op := Go.Op.indexAddr 26 (Go.Operand.tmp 42) (Go.Operand.tmp 43), type := 0, pos := "ref.go:15", after := #[{ on := 8, ground := Go.Ground.data }, { on := 9, ground := Go.Ground.data }, { on := 6, ground := Go.Ground.guard }], guard := some (6, false) }) rfl (by kernel_rfl) (by kernel_rfl) (by kernel_rfl) (by kernel_rfl) (fun _ _ _ h => h) (Or.inr ⟨by rfl, rfl⟩) hHeld ?_
                (try simp only [Act.put, List.setIfInBounds_toArray, List.set_cons_zero, List.set_cons_succ])
                refine wpAnyF_take (i := 11) (oi := { dst := some 45, op := Go.Op.load 3 (Go.Operand.tmp 44), type := 3, pos := "ref.go:15", after := #[{ on := 10, ground := Go.Ground.data }, { on := 6, ground := Go.Ground.guard }], guard := some (6, false) }) rfl (by kernel_rfl) (by kernel_rfl) (by kernel_rfl) (by kernel_rfl) (fun _ _ _ h => h) (Or.inr ⟨by rfl, rfl⟩) hHeld ?_
                (try simp only [Act.put, List.setIfInBounds_toArray, List.set_cons_zero, List.set_cons_succ])
                refine wpAnyF_take (i := 12) (oi := { dst := some 46, op := Go.Op.binOp Go.BinOp.gtr 3 (Go.Operand.tmp 45) (Go.Operand.const (Go.Value.int Go.IntKind.i64 999)) 3, type := 4, pos := "ref.go:15", after := #[{ on := 11, ground := Go.Ground.data }, { on := 6, ground := Go.Ground.guard }], guard := some (6, false) }) rfl (by kernel_rfl) (by kernel_rfl) (by kernel_rfl) (by kernel_rfl) (fun _ _ _ h => h) (Or.inr ⟨by rfl, rfl⟩) hHeld ?_
                (try simp only [Act.put, List.setIfInBounds_toArray, List.set_cons_zero, List.set_cons_succ])
                refine wpAnyF_take (i := 13) (oi := { dst := some 47, op := Go.Op.pick (Go.Operand.tmp 40) (Go.Operand.const (Go.Value.bool true)) (Go.Operand.tmp 46), type := 4, pos := "ref.go:15", after := #[{ on := 6, ground := Go.Ground.data }, { on := 12, ground := Go.Ground.data }], guard := none }) (v := ?_) rfl (by kernel_rfl) (by kernel_rfl) (by kernel_rfl) (by kernel_rfl) (fun _ _ _ h => h) (Or.inl ⟨by rfl, ?_⟩) hHeld ?_
                rotate_left
                · intro w_ hSw_; (try dsimp only at hSw_); go_simp; (try with_reducible rfl)
                (try simp only [Act.put, List.setIfInBounds_toArray, List.set_cons_zero, List.set_cons_succ])
                refine wpAnyF_take (i := 14) (oi := { dst := some 48, op := Go.Op.move (Go.Operand.tmp 47), type := 4, pos := "ref.go:15", after := #[{ on := 13, ground := Go.Ground.data }, { on := 6, ground := Go.Ground.chain }], guard := none }) (v := ?_) rfl (by kernel_rfl) (by kernel_rfl) (by kernel_rfl) (by kernel_rfl) (fun _ _ _ h => h) (Or.inl ⟨by rfl, ?_⟩) hHeld ?_
                rotate_left
                · intro w_ hSw_; (try dsimp only at hSw_); go_simp; (try with_reducible rfl)
                (try simp only [Act.put, List.setIfInBounds_toArray, List.set_cons_zero, List.set_cons_succ])
                refine wpAnyF_take (i := 15) (oi := { dst := some 49, op := Go.Op.fieldAddr 55 (Go.Operand.tmp 1) 2, type := 0, pos := "ref.go:15", after := #[{ on := 14, ground := Go.Ground.guard }], guard := some (14, false) }) rfl (by kernel_rfl) (by kernel_rfl) (by kernel_rfl) (by kernel_rfl) (fun _ _ _ h => h) (Or.inr ⟨by rfl, rfl⟩) hHeld ?_
                (try simp only [Act.put, List.setIfInBounds_toArray, List.set_cons_zero, List.set_cons_succ])
                refine wpAnyF_take (i := 16) (oi := { dst := some 50, op := Go.Op.load 26 (Go.Operand.tmp 49), type := 26, pos := "ref.go:15", after := #[{ on := 15, ground := Go.Ground.data }, { on := 14, ground := Go.Ground.guard }], guard := some (14, false) }) rfl (by kernel_rfl) (by kernel_rfl) (by kernel_rfl) (by kernel_rfl) (fun _ _ _ h => h) (Or.inr ⟨by rfl, rfl⟩) hHeld ?_
                (try simp only [Act.put, List.setIfInBounds_toArray, List.set_cons_zero, List.set_cons_succ])
                refine wpAnyF_take (i := 17) (oi := { dst := some 51, op := Go.Op.move (Go.Operand.tmp 3), type := 3, pos := "ref.go:15", after := #[{ on := 14, ground := Go.Ground.guard }], guard := some (14, false) }) rfl (by kernel_rfl) (by kernel_rfl) (by kernel_rfl) (by kernel_rfl) (fun _ _ _ h => h) (Or.inr ⟨by rfl, rfl⟩) hHeld ?_
                (try simp only [Act.put, List.setIfInBounds_toArray, List.set_cons_zero, List.set_cons_succ])
                refine wpAnyF_take (i := 18) (oi := { dst := some 52, op := Go.Op.indexAddr 26 (Go.Operand.tmp 50) (Go.Operand.tmp 51), type := 0, pos := "ref.go:15", after := #[{ on := 16, ground := Go.Ground.data }, { on := 17, ground := Go.Ground.data }, { on := 14, ground := Go.Ground.guard }], guard := some (14, false) }) rfl (by kernel_rfl) (by kernel_rfl) (by kernel_rfl) (by kernel_rfl) (fun _ _ _ h => h) (Or.inr ⟨by rfl, rfl⟩) hHeld ?_
                (try simp only [Act.put, List.setIfInBounds_toArray, List.set_cons_zero, List.set_cons_succ])
                refine wpAnyF_take (i := 19) (oi := { dst := some 53, op := Go.Op.load 3 (Go.Operand.tmp 52), type := 3, pos := "ref.go:15", after := #[{ on := 18, ground := Go.Ground.data }, { on := 14, ground := Go.Ground.guard }], guard := some (14, false) }) rfl (by kernel_rfl) (by kernel_rfl) (by kernel_rfl) (by kernel_rfl) (fun _ _ _ h => h) (Or.inr ⟨by rfl, rfl⟩) hHeld ?_
                (try simp only [Act.put, List.setIfInBounds_toArray, List.set_cons_zero, List.set_cons_succ])
                refine wpAnyF_take (i := 20) (oi := { dst := some 54, op := Go.Op.binOp Go.BinOp.lss 3 (Go.Operand.tmp 53) (Go.Operand.const (Go.Value.int Go.IntKind.i64 (-999999))) 3, type := 4, pos := "ref.go:15", after := #[{ on := 19, ground := Go.Ground.data }, { on := 14, ground := Go.Ground.guard }], guard := some (14, false) }) rfl (by kernel_rfl) (by kernel_rfl) (by kernel_rfl) (by kernel_rfl) (fun _ _ _ h => h) (Or.inr ⟨by rfl, rfl⟩) hHeld ?_
                (try simp only [Act.put, List.setIfInBounds_toArray, List.set_cons_zero, List.set_cons_succ])
                refine wpAnyF_take (i := 21) (oi := { dst := some 55, op := Go.Op.pick (Go.Operand.tmp 48) (Go.Operand.const (Go.Value.bool true)) (Go.Operand.tmp 54), type := 4, pos := "ref.go:15", after := #[{ on := 14, ground := Go.Ground.data }, { on := 20, ground := Go.Ground.data }], guard := none }) (v := ?_) rfl (by kernel_rfl) (by kernel_rfl) (by kernel_rfl) (by kernel_rfl) (fun _ _ _ h => h) (Or.inl ⟨by rfl, ?_⟩) hHeld ?_
                rotate_left
                · intro w_ hSw_; (try dsimp only at hSw_); go_simp; (try with_reducible rfl)
                (try simp only [Act.put, List.setIfInBounds_toArray, List.set_cons_zero, List.set_cons_succ])
                refine wpAnyF_take (i := 22) (oi := { dst := some 56, op := Go.Op.move (Go.Operand.tmp 55), type := 4, pos := "ref.go:15", after := #[{ on := 21, ground := Go.Ground.data }, { on := 14, ground := Go.Ground.chain }], guard := none }) (v := ?_) rfl (by kernel_rfl) (by kernel_rfl) (by kernel_rfl) (by kernel_rfl) (fun _ _ _ h => h) (Or.inl ⟨by rfl, ?_⟩) hHeld ?_
                rotate_left
                · intro w_ hSw_; (try dsimp only at hSw_); go_simp; (try with_reducible rfl)
                (try simp only [Act.put, List.setIfInBounds_toArray, List.set_cons_zero, List.set_cons_succ])
                refine wpAnyF_take (i := 23) (oi := { dst := some 57, op := Go.Op.fieldAddr 55 (Go.Operand.tmp 1) 2, type := 0, pos := "ref.go:15", after := #[{ on := 22, ground := Go.Ground.guard }], guard := some (22, false) }) rfl (by kernel_rfl) (by kernel_rfl) (by kernel_rfl) (by kernel_rfl) (fun _ _ _ h => h) (Or.inr ⟨by rfl, rfl⟩) hHeld ?_
                (try simp only [Act.put, List.setIfInBounds_toArray, List.set_cons_zero, List.set_cons_succ])
                refine wpAnyF_take (i := 24) (oi := { dst := some 58, op := Go.Op.load 26 (Go.Operand.tmp 57), type := 26, pos := "ref.go:15", after := #[{ on := 23, ground := Go.Ground.data }, { on := 22, ground := Go.Ground.guard }], guard := some (22, false) }) rfl (by kernel_rfl) (by kernel_rfl) (by kernel_rfl) (by kernel_rfl) (fun _ _ _ h => h) (Or.inr ⟨by rfl, rfl⟩) hHeld ?_
                (try simp only [Act.put, List.setIfInBounds_toArray, List.set_cons_zero, List.set_cons_succ])
                refine wpAnyF_take (i := 25) (oi := { dst := some 59, op := Go.Op.move (Go.Operand.tmp 3), type := 3, pos := "ref.go:15", after := #[{ on := 22, ground := Go.Ground.guard }], guard := some (22, false) }) rfl (by kernel_rfl) (by kernel_rfl) (by kernel_rfl) (by kernel_rfl) (fun _ _ _ h => h) (Or.inr ⟨by rfl, rfl⟩) hHeld ?_
                (try simp only [Act.put, List.setIfInBounds_toArray, List.set_cons_zero, List.set_cons_succ])
                refine wpAnyF_take (i := 26) (oi := { dst := some 60, op := Go.Op.indexAddr 26 (Go.Operand.tmp 58) (Go.Operand.tmp 59), type := 0, pos := "ref.go:15", after := #[{ on := 24, ground := Go.Ground.data }, { on := 25, ground := Go.Ground.data }, { on := 22, ground := Go.Ground.guard }], guard := some (22, false) }) rfl (by kernel_rfl) (by kernel_rfl) (by kernel_rfl) (by kernel_rfl) (fun _ _ _ h => h) (Or.inr ⟨by rfl, rfl⟩) hHeld ?_
                (try simp only [Act.put, List.setIfInBounds_toArray, List.set_cons_zero, List.set_cons_succ])
                refine wpAnyF_take (i := 27) (oi := { dst := some 61, op := Go.Op.load 3 (Go.Operand.tmp 60), type := 3, pos := "ref.go:15", after := #[{ on := 26, ground := Go.Ground.data }, { on := 22, ground := Go.Ground.guard }], guard := some (22, false) }) rfl (by kernel_rfl) (by kernel_rfl) (by kernel_rfl) (by kernel_rfl) (fun _ _ _ h => h) (Or.inr ⟨by rfl, rfl⟩) hHeld ?_
                (try simp only [Act.put, List.setIfInBounds_toArray, List.set_cons_zero, List.set_cons_succ])
                refine wpAnyF_take (i := 28) (oi := { dst := some 62, op := Go.Op.binOp Go.BinOp.gtr 3 (Go.Operand.tmp 61) (Go.Operand.const (Go.Value.int Go.IntKind.i64 999999)) 3, type := 4, pos := "ref.go:15", after := #[{ on := 27, ground := Go.Ground.data }, { on := 22, ground := Go.Ground.guard }], guard := some (22, false) }) rfl (by kernel_rfl) (by kernel_rfl) (by kernel_rfl) (by kernel_rfl) (fun _ _ _ h => h) (Or.inr ⟨by rfl, rfl⟩) hHeld ?_
                (try simp only [Act.put, List.setIfInBounds_toArray, List.set_cons_zero, List.set_cons_succ])
                refine wpAnyF_take (i := 29) (oi := { dst := some 63, op := Go.Op.pick (Go.Operand.tmp 56) (Go.Operand.const (Go.Value.bool true)) (Go.Operand.tmp 62), type := 4, pos := "ref.go:15", after := #[{ on := 22, ground := Go.Ground.data }, { on := 28, ground := Go.Ground.data }], guard := none }) (v := ?_) rfl (by kernel_rfl) (by kernel_rfl) (by kernel_rfl) (by kernel_rfl) (fun _ _ _ h => h) (Or.inl ⟨by rfl, ?_⟩) hHeld ?_
                rotate_left
                · intro w_ hSw_; (try dsimp only at hSw_); go_simp; (try with_reducible rfl)
                (try simp only [Act.put, List.setIfInBounds_toArray, List.set_cons_zero, List.set_cons_succ])
                refine wpAnyF_take (i := 30) (oi := { dst := some 64, op := Go.Op.move (Go.Operand.tmp 63), type := 4, pos := "ref.go:15", after := #[{ on := 29, ground := Go.Ground.data }, { on := 22, ground := Go.Ground.chain }], guard := none }) (v := ?_) rfl (by kernel_rfl) (by kernel_rfl) (by kernel_rfl) (by kernel_rfl) (fun _ _ _ h => h) (Or.inl ⟨by rfl, ?_⟩) hHeld ?_
                rotate_left
                · intro w_ hSw_; (try dsimp only at hSw_); go_simp; (try with_reducible rfl)
                (try simp only [Act.put, List.setIfInBounds_toArray, List.set_cons_zero, List.set_cons_succ])
                refine wpAnyF_take (i := 31) (oi := { dst := some 65, op := Go.Op.fieldAddr 55 (Go.Operand.tmp 1) 1, type := 0, pos := "ref.go:15", after := #[{ on := 30, ground := Go.Ground.guard }], guard := some (30, false) }) rfl (by kernel_rfl) (by kernel_rfl) (by kernel_rfl) (by kernel_rfl) (fun _ _ _ h => h) (Or.inr ⟨by rfl, rfl⟩) hHeld ?_
                (try simp only [Act.put, List.setIfInBounds_toArray, List.set_cons_zero, List.set_cons_succ])
                refine wpAnyF_take (i := 32) (oi := { dst := some 66, op := Go.Op.load 26 (Go.Operand.tmp 65), type := 26, pos := "ref.go:15", after := #[{ on := 31, ground := Go.Ground.data }, { on := 30, ground := Go.Ground.guard }], guard := some (30, false) }) rfl (by kernel_rfl) (by kernel_rfl) (by kernel_rfl) (by kernel_rfl) (fun _ _ _ h => h) (Or.inr ⟨by rfl, rfl⟩) hHeld ?_
                (try simp only [Act.put, List.setIfInBounds_toArray, List.set_cons_zero, List.set_cons_succ])
                refine wpAnyF_take (i := 33) (oi := { dst := some 67, op := Go.Op.move (Go.Operand.tmp 3), type := 3, pos := "ref.go:15", after := #[{ on := 30, ground := Go.Ground.guard }], guard := some (30, false) }) rfl (by kernel_rfl) (by kernel_rfl) (by kernel_rfl) (by kernel_rfl) (fun _ _ _ h => h) (Or.inr ⟨by rfl, rfl⟩) hHeld ?_
                (try simp only [Act.put, List.setIfInBounds_toArray, List.set_cons_zero, List.set_cons_succ])
                refine wpAnyF_take (i := 34) (oi := { dst := some 68, op := Go.Op.indexAddr 26 (Go.Operand.tmp 66) (Go.Operand.tmp 67), type := 0, pos := "ref.go:15", after := #[{ on := 32, ground := Go.Ground.data }, { on := 33, ground := Go.Ground.data }, { on := 30, ground := Go.Ground.guard }], guard := some (30, false) }) rfl (by kernel_rfl) (by kernel_rfl) (by kernel_rfl) (by kernel_rfl) (fun _ _ _ h => h) (Or.inr ⟨by rfl, rfl⟩) hHeld ?_
                (try simp only [Act.put, List.setIfInBounds_toArray, List.set_cons_zero, List.set_cons_succ])
                refine wpAnyF_take (i := 35) (oi := { dst := some 69, op := Go.Op.load 3 (Go.Operand.tmp 68), type := 3, pos := "ref.go:15", after := #[{ on := 34, ground := Go.Ground.data }, { on := 30, ground := Go.Ground.guard }], guard := some (30, false) }) rfl (by kernel_rfl) (by kernel_rfl) (by kernel_rfl) (by kernel_rfl) (fun _ _ _ h => h) (Or.inr ⟨by rfl, rfl⟩) hHeld ?_
                (try simp only [Act.put, List.setIfInBounds_toArray, List.set_cons_zero, List.set_cons_succ])
                refine wpAnyF_take (i := 36) (oi := { dst := some 70, op := Go.Op.move (Go.Operand.tmp 3), type := 3, pos := "ref.go:15", after := #[{ on := 30, ground := Go.Ground.guard }], guard := some (30, false) }) rfl (by kernel_rfl) (by kernel_rfl) (by kernel_rfl) (by kernel_rfl) (fun _ _ _ h => h) (Or.inr ⟨by rfl, rfl⟩) hHeld ?_
                (try simp only [Act.put, List.setIfInBounds_toArray, List.set_cons_zero, List.set_cons_succ])
                refine wpAnyF_take (i := 37) (oi := { dst := some 71, op := Go.Op.binOp Go.BinOp.mul 3 (Go.Operand.tmp 69) (Go.Operand.tmp 70) 3, type := 3, pos := "ref.go:15", after := #[{ on := 35, ground := Go.Ground.data }, { on := 36, ground := Go.Ground.data }, { on := 30, ground := Go.Ground.guard }], guard := some (30, false) }) rfl (by kernel_rfl) (by kernel_rfl) (by kernel_rfl) (by kernel_rfl) (fun _ _ _ h => h) (Or.inr ⟨by rfl, rfl⟩) hHeld ?_
                (try simp only [Act.put, List.setIfInBounds_toArray, List.set_cons_zero, List.set_cons_succ])
                refine wpAnyF_take (i := 38) (oi := { dst := some 72, op := Go.Op.fieldAddr 55 (Go.Operand.tmp 1) 2, type := 0, pos := "ref.go:15", after := #[{ on := 30, ground := Go.Ground.guard }], guard := some (30, false) }) rfl (by kernel_rfl) (by kernel_rfl) (by kernel_rfl) (by kernel_rfl) (fun _ _ _ h => h) (Or.inr ⟨by rfl, rfl⟩) hHeld ?_
                (try simp only [Act.put, List.setIfInBounds_toArray, List.set_cons_zero, List.set_cons_succ])
                refine wpAnyF_take (i := 39) (oi := { dst := some 73, op := Go.Op.load 26 (Go.Operand.tmp 72), type := 26, pos := "ref.go:15", after := #[{ on := 38, ground := Go.Ground.data }, { on := 30, ground := Go.Ground.guard }], guard := some (30, false) }) rfl (by kernel_rfl) (by kernel_rfl) (by kernel_rfl) (by kernel_rfl) (fun _ _ _ h => h) (Or.inr ⟨by rfl, rfl⟩) hHeld ?_
                (try simp only [Act.put, List.setIfInBounds_toArray, List.set_cons_zero, List.set_cons_succ])
                refine wpAnyF_take (i := 40) (oi := { dst := some 74, op := Go.Op.move (Go.Operand.tmp 3), type := 3, pos := "ref.go:15", after := #[{ on := 30, ground := Go.Ground.guard }], guard := some (30, false) }) rfl (by kernel_rfl) (by kernel_rfl) (by kernel_rfl) (by kernel_rfl) (fun _ _ _ h => h) (Or.inr ⟨by rfl, rfl⟩) hHeld ?_
                (try simp only [Act.put, List.setIfInBounds_toArray, List.set_cons_zero, List.set_cons_succ])
                refine wpAnyF_take (i := 41) (oi := { dst := some 75, op := Go.Op.indexAddr 26 (Go.Operand.tmp 73) (Go.Operand.tmp 74), type := 0, pos := "ref.go:15", after := #[{ on := 39, ground := Go.Ground.data }, { on := 40, ground := Go.Ground.data }, { on := 30, ground := Go.Ground.guard }], guard := some (30, false) }) rfl (by kernel_rfl) (by kernel_rfl) (by kernel_rfl) (by kernel_rfl) (fun _ _ _ h => h) (Or.inr ⟨by rfl, rfl⟩) hHeld ?_
                (try simp only [Act.put, List.setIfInBounds_toArray, List.set_cons_zero, List.set_cons_succ])
                refine wpAnyF_take (i := 42) (oi := { dst := some 76, op := Go.Op.load 3 (Go.Operand.tmp 75), type := 3, pos := "ref.go:15", after := #[{ on := 41, ground := Go.Ground.data }, { on := 30, ground := Go.Ground.guard }], guard := some (30, false) }) rfl (by kernel_rfl) (by kernel_rfl) (by kernel_rfl) (by kernel_rfl) (fun _ _ _ h => h) (Or.inr ⟨by rfl, rfl⟩) hHeld ?_
                (try simp only [Act.put, List.setIfInBounds_toArray, List.set_cons_zero, List.set_cons_succ])
                refine wpAnyF_take (i := 43) (oi := { dst := some 77, op := Go.Op.binOp Go.BinOp.add 3 (Go.Operand.tmp 71) (Go.Operand.tmp 76) 3, type := 3, pos := "ref.go:15", after := #[{ on := 37, ground := Go.Ground.data }, { on := 42, ground := Go.Ground.data }, { on := 30, ground := Go.Ground.guard }], guard := some (30, false) }) rfl (by kernel_rfl) (by kernel_rfl) (by kernel_rfl) (by kernel_rfl) (fun _ _ _ h => h) (Or.inr ⟨by rfl, rfl⟩) hHeld ?_
                (try simp only [Act.put, List.setIfInBounds_toArray, List.set_cons_zero, List.set_cons_succ])
                refine wpAnyF_take (i := 44) (oi := { dst := some 78, op := Go.Op.fieldAddr 55 (Go.Operand.tmp 1) 0, type := 0, pos := "ref.go:15", after := #[{ on := 30, ground := Go.Ground.guard }], guard := some (30, false) }) rfl (by kernel_rfl) (by kernel_rfl) (by kernel_rfl) (by kernel_rfl) (fun _ _ _ h => h) (Or.inr ⟨by rfl, rfl⟩) hHeld ?_
                (try simp only [Act.put, List.setIfInBounds_toArray, List.set_cons_zero, List.set_cons_succ])
                refine wpAnyF_take (i := 45) (oi := { dst := some 79, op := Go.Op.load 3 (Go.Operand.tmp 78), type := 3, pos := "ref.go:15", after := #[{ on := 44, ground := Go.Ground.data }, { on := 30, ground := Go.Ground.guard }], guard := some (30, false) }) rfl (by kernel_rfl) (by kernel_rfl) (by kernel_rfl) (by kernel_rfl) (fun _ _ _ h => h) (Or.inr ⟨by rfl, rfl⟩) hHeld ?_
                (try simp only [Act.put, List.setIfInBounds_toArray, List.set_cons_zero, List.set_cons_succ])
                refine wpAnyF_take (i := 46) (oi := { dst := some 80, op := Go.Op.binOp Go.BinOp.rem 3 (Go.Operand.tmp 77) (Go.Operand.tmp 79) 3, type := 3, pos := "ref.go:15", after := #[{ on := 43, ground := Go.Ground.data }, { on := 45, ground := Go.Ground.data }, { on := 30, ground := Go.Ground.guard }], guard := some (30, false) }) rfl (by kernel_rfl) (by kernel_rfl) (by kernel_rfl) (by kernel_rfl) (fun _ _ _ h => h) (Or.inr ⟨by rfl, rfl⟩) hHeld ?_
                (try simp only [Act.put, List.setIfInBounds_toArray, List.set_cons_zero, List.set_cons_succ])
                refine wpAnyF_take (i := 47) (oi := { dst := some 81, op := Go.Op.binOp Go.BinOp.neq 3 (Go.Operand.tmp 80) (Go.Operand.const (Go.Value.int Go.IntKind.i64 0)) 3, type := 4, pos := "ref.go:15", after := #[{ on := 46, ground := Go.Ground.data }, { on := 30, ground := Go.Ground.guard }], guard := some (30, false) }) rfl (by kernel_rfl) (by kernel_rfl) (by kernel_rfl) (by kernel_rfl) (fun _ _ _ h => h) (Or.inr ⟨by rfl, rfl⟩) hHeld ?_
                (try simp only [Act.put, List.setIfInBounds_toArray, List.set_cons_zero, List.set_cons_succ])
                refine wpAnyF_take (i := 48) (oi := { dst := some 82, op := Go.Op.pick (Go.Operand.tmp 64) (Go.Operand.const (Go.Value.bool true)) (Go.Operand.tmp 81), type := 4, pos := "ref.go:15", after := #[{ on := 30, ground := Go.Ground.data }, { on := 47, ground := Go.Ground.data }], guard := none }) (v := ?_) rfl (by kernel_rfl) (by kernel_rfl) (by kernel_rfl) (by kernel_rfl) (fun _ _ _ h => h) (Or.inl ⟨by rfl, ?_⟩) hHeld ?_
                rotate_left
                · intro w_ hSw_; (try dsimp only at hSw_); go_simp; (try with_reducible rfl)
                (try simp only [Act.put, List.setIfInBounds_toArray, List.set_cons_zero, List.set_cons_succ])
                refine wpAnyF_done (by kernel_rfl) ?_ _
                clear hHeld
                go_wp2
                go_ret
                exact ⟨by rw [HR.out] <;> rfl, by rw [hb0]; exact HB1⟩
              · have q1b : decide (x < 1) = false := decide_eq_false q1
                by_cases q2 : 999 < x
                · have HR : Hid (okB M = false) := HNO.out (fun h => by have := h.2.1; rw [HX.out] at this; omega)
                  go_wp2_with fail
                  have V1 := V.drew
                  have cA1 : wr.drew.cell? ⟨bA, oA + r, none⟩ = some (.int .i64 x) := cA
                  have cB1 : wr.drew.cell? ⟨bB, oB + r, none⟩ = some (.int .i64 y) := cB
                  have HB1 := below_drew HB
                  generalize hWd : wr.drew = wd at *
                  refine wp_region_F (fun w' => w'.cell? ⟨b, 0, none⟩ = some (.int .i64 L1) ∧ w'.cell? ⟨b, 1, none⟩ = some (.slice (some ⟨bA, oA, none⟩) L1 c) ∧ w'.cell? ⟨b, 2, none⟩ = some (.slice (some ⟨bB, oB, none⟩) L1 c') ∧ w'.cell? ⟨bA, oA + r, none⟩ = some (.int .i64 x) ∧ w'.cell? ⟨bB, oB + r, none⟩ = some (.int .i64 y)) [] (by kernel_rfl) (by rw [hWd]; exact ⟨V1.c0, V1.c1, V1.c2, cA1, cB1⟩) (fun hHeld => ?_)
                  rw [hWd] at hHeld ⊢
                  refine wpAnyF_take (i := 0) (oi := { dst := some 34, op := Go.Op.fieldAddr 55 (Go.Operand.tmp 1) 1, type := 0, pos := "ref.go:15", after := #[], guard := none }) (v := ?_) rfl (by kernel_rfl) (by kernel_rfl) (by kernel_rfl) (by kernel_rfl) (fun _ _ _ h => h) (Or.inl ⟨by rfl, ?_⟩) hHeld ?_
                  rotate_left
                  · intro w_ hSw_; (try dsimp only at hSw_); go_simp; (try with_reducible rfl)
                  (try simp only [Act.put, List.setIfInBounds_toArray, List.set_cons_zero, List.set_cons_succ])
                  refine wpAnyF_take (i := 1) (oi := { dst := some 35, op := Go.Op.load 26 (Go.Operand.tmp 34), type := 26, pos := "ref.go:15", after := #[{ on := 0, ground := Go.Ground.data }], guard := none }) (v := ?_) rfl (by kernel_rfl) (by kernel_rfl) (by kernel_rfl) (by kernel_rfl) (fun _ _ _ h => h) (Or.inl ⟨by rfl, ?_⟩) hHeld ?_
                  rotate_left
                  · intro w_ hSw_; (try dsimp only at hSw_); go_simp; (try with_reducible rfl)
                  (try simp only [Act.put, List.setIfInBounds_toArray, List.set_cons_zero, List.set_cons_succ])
                  refine wpAnyF_take (i := 2) (oi := { dst := some 36, op := Go.Op.move (Go.Operand.tmp 3), type := 3, pos := "ref.go:15", after := #[], guard := none }) (v := ?_) rfl (by kernel_rfl) (by kernel_rfl) (by kernel_rfl) (by kernel_rfl) (fun _ _ _ h => h) (Or.inl ⟨by rfl, ?_⟩) hHeld ?_
                  rotate_left
                  · intro w_ hSw_; (try dsimp only at hSw_); go_simp; (try with_reducible rfl)
                  (try simp only [Act.put, List.setIfInBounds_toArray, List.set_cons_zero, List.set_cons_succ])
                  refine wpAnyF_take (i := 3) (oi := { dst := some 37, op := Go.Op.indexAddr 26 (Go.Operand.tmp 35) (Go.Operand.tmp 36), type := 0, pos := "ref.go:15", after := #[{ on := 1, ground := Go.Ground.data }, { on := 2, ground := Go.Ground.data }], guard := none }) (v := ?_) rfl (by kernel_rfl) (by kernel_rfl) (by kernel_rfl) (by kernel_rfl) (fun _ _ _ h => h) (Or.inl ⟨by rfl, ?_⟩) hHeld ?_
                  rotate_left
                  · intro w_ hSw_; (try dsimp only at hSw_); go_simp; (try with_reducible rfl)
                  (try simp only [Act.put, List.setIfInBounds_toArray, List.set_cons_zero, List.set_cons_succ])
                  refine wpAnyF_take (i := 4) (oi := { dst := some 38, op := Go.Op.load 3 (Go.Operand.tmp 37), type := 3, pos := "ref.go:15", after := #[{ on := 3, ground := Go.Ground.data }], guard := none }) (v := ?_) rfl (by kernel_rfl) (by kernel_rfl) (by kernel_rfl) (by kernel_rfl) (fun _ _ _ h => h) (Or.inl ⟨by rfl, ?_⟩) hHeld ?_
                  rotate_left
                  · intro w_ hSw_; (try dsimp only at hSw_); go_simp; (try with_reducible rfl)
                  (try simp only [Act.put, List.setIfInBounds_toArray, List.set_cons_zero, List.set_cons_succ])
                  refine wpAnyF_take (i := 5) (oi := { dst := some 39, op := Go.Op.binOp Go.BinOp.lss 3 (Go.Operand.tmp 38) (Go.Operand.const (Go.Value.int Go.IntKind.i64 1)) 3, type := 4, pos := "ref.go:15", after := #[{ on := 4, ground := Go.Ground.data }], guard := none }) (v := ?_) rfl (by kernel_rfl) (by kernel_rfl) (by kernel_rfl) (by kernel_rfl) (fun _ _ _ h => h) (Or.inl ⟨by rfl, ?_⟩) hHeld ?_
                  rotate_left
                  · intro w_ hSw_; (try dsimp only at hSw_); go_simp; (try with_reducible rfl)
                  (try simp only [Act.put, List.setIfInBounds_toArray, List.set_cons_zero, List.set_cons_succ])
                  refine wpAnyF_take (i := 6) (oi := { dst := some 40, op := Go.Op.move (Go.Operand.tmp 39), type := 4, pos := "ref.go:15", after := #[{ on := 5, ground := Go.Ground.data }], guard := none }) (v := ?_) rfl (by kernel_rfl) (by kernel_rfl) (by kernel_rfl) (by kernel_rfl) (fun _ _ _ h => h) (Or.inl ⟨by rfl, ?_⟩) hHeld ?_
                  rotate_left
                  · intro w_ hSw_; (try dsimp only at hSw_); go_simp; (try with_reducible rfl)
                  (try simp only [Act.put, List.setIfInBounds_toArray, List.set_cons_zero, List.set_cons_succ])
                  refine wpAnyF_take (i := 7) (oi := { dst := some 41, op := Go.Op.fieldAddr 55 (Go.Operand.tmp 1) 1, type := 0, pos := "ref.go:15", after := #[{ on := 6, ground := Go.Ground.guard }], guard := some (6, false) }) (v := ?_) rfl (by kernel_rfl) (by kernel_rfl) (by kernel_rfl) (by kernel_rfl) (fun _ _ _ h => h) (Or.inl ⟨by rfl, ?_⟩) hHeld ?_
                  rotate_left
                  · intro w_ hSw_; (try dsimp only at hSw_); go_simp; (try with_reducible rfl)
                  (try simp only [Act.put, List.setIfInBounds_toArray, List.set_cons_zero, List.set_cons_succ])
                  refine wpAnyF_take (i := 8) (oi := { dst := some 42, op := Go.Op.load 26 (Go.Operand.tmp 41), type := 26, pos := "ref.go:15", after := #[{ on := 7, ground := Go.Ground.data }, { on := 6, ground := Go.Ground.guard }], guard := some (6, false) }) (v := ?_) rfl (by kernel_rfl) (by kernel_rfl) (by kernel_rfl) (by kernel_rfl) (fun _ _ _ h => h) (Or.inl ⟨by rfl, ?_⟩) hHeld ?_
                  rotate_left
                  · intro w_ hSw_; (try dsimp only at hSw_); go_simp; (try with_reducible rfl)
                  (try simp only [Act.put, List.setIfInBounds_toArray, List.set_cons_zero, List.set_cons_succ])
                  refine wpAnyF_take (i := 9) (oi := { dst := some 43, op := Go.Op.move (Go.Operand.tmp 3), type := 3, pos := "ref.go:15", after := #[{ on := 6, ground := Go.Ground.guard }], guard := some (6, false) }) (v := ?_) rfl (by kernel_rfl) (by kernel_rfl) (by kernel_rfl) (by kernel_rfl) (fun _ _ _ h => h) (Or.inl ⟨by rfl, ?_⟩) hHeld ?_
                  rotate_left
                  · intro w_ hSw_; (try dsimp only at hSw_); go_simp; (try with_reducible rfl)
                  (try simp only [Act.put, List.setIfInBounds_toArray, List.set_cons_zero, List.set_cons_succ])
                  refine wpAnyF_take (i := 10) (oi := { dst := some 44, op := Go.Op.indexAddr 26 (Go.Operand.tmp 42) (Go.Operand.tmp 43), type := 0, pos := "ref.go:15", after := #[{ on := 8, ground := Go.Ground.data }, { on := 9, ground := Go.Ground.data }, { on := 6, ground := Go.Ground.guard }], guard := some (6, false) }) (v := ?_) rfl (by kernel_rfl) (by kernel_rfl) (by kernel_rfl) (by kernel_rfl) (fun _ _ _ h => h) (Or.inl ⟨by rfl, ?_⟩) hHeld ?_
                  rotate_left
                  · intro w_ hSw_; (try dsimp only at hSw_); go_simp; (try with_reducible rfl)
                  (try simp only [Act.put, List.setIfInBounds_toArray, List.set_cons_zero, List.set_cons_succ])
                  refine wpAnyF_take (i := 11) (oi := { dst := some 45, op := Go.Op.load 3 (Go.Operand.tmp 44), type := 3, pos := "ref.go:15", after := #[{ on := 10, ground := Go.Ground.data }, { on := 6, ground := Go.Ground.guard }], guard := some (6, false) }) (v := ?_) rfl (by kernel_rfl) (by kernel_rfl) (by kernel_rfl) (by kernel_rfl) (fun _ _ _ h => h) (Or.inl ⟨by rfl, ?_⟩) hHeld ?_
                  rotate_left
                  · intro w_ hSw_; (try dsimp only at hSw_); go_simp; (try with_reducible rfl)
                  (try simp only [Act.put, List.setIfInBounds_toArray, List.set_cons_zero, List.set_cons_succ])
                  refine wpAnyF_take (i := 12) (oi := { dst := some 46, op := Go.Op.binOp Go.BinOp.gtr 3 (Go.Operand.tmp 45) (Go.Operand.const (Go.Value.int Go.IntKind.i64 999)) 3, type := 4, pos := "ref.go:15", after := #[{ on := 11, ground := Go.Ground.data }, { on := 6, ground := Go.Ground.guard }], guard := some (6, false) }) (v := ?_) rfl (by kernel_rfl) (by kernel_rfl) (by kernel_rfl) (by kernel_rfl) (fun _ _ _ h => h) (Or.inl ⟨by rfl, ?_⟩) hHeld ?_
                  rotate_left
                  · intro w_ hSw_; (try dsimp only at hSw_); go_simp; (try with_reducible rfl)
                  (try simp only [Act.put, List.setIfInBounds_toArray, List.set_cons_zero, List.set_cons_succ])
                  refine wpAnyF_take (i := 13) (oi := { dst := some 47, op := Go.Op.pick (Go.Operand.tmp 40) (Go.Operand.const (Go.Value.bool true)) (Go.Operand.tmp 46), type := 4, pos := "ref.go:15", after := #[{ on := 6, ground := Go.Ground.data }, { on := 12, ground := Go.Ground.data }], guard := none }) (v := ?_) rfl (by kernel_rfl) (by kernel_rfl) (by kernel_rfl) (by kernel_rfl) (fun _ _ _ h => h) (Or.inl ⟨by rfl, ?_⟩) hHeld ?_
                  rotate_left
                  · intro w_ hSw_; (try dsimp only at hSw_); go_simp; (try with_reducible rfl)
                  (try simp only [Act.put, List.setIfInBounds_toArray, List.set_cons_zero, List.set_cons_succ])
                  refine wpAnyF_take (i := 14) (oi := { dst := some 48, op := Go.Op.move (Go.Operand.tmp 47), type := 4, pos := "ref.go:15", after := #[{ on := 13, ground := Go.Ground.data }, { on := 6, ground := Go.Ground.chain }], guard := none }) (v := ?_) rfl (by kernel_rfl) (by kernel_rfl) (by kernel_rfl) (by kernel_rfl) (fun _ _ _ h => h) (Or.inl ⟨by rfl, ?_⟩) hHeld ?_
                  rotate_left
                  · intro w_ hSw_; (try dsimp only at hSw_); go_simp; (try with_reducible rfl)
                  (try simp only [Act.put, List.setIfInBounds_toArray, List.set_cons_zero, List.set_cons_succ])
                  refine wpAnyF_take (i := 15) (oi := { dst := some 49, op := Go.Op.fieldAddr 55 (Go.Operand.tmp 1) 2, type := 0, pos := "ref.go:15", after := #[{ on := 14, ground := Go.Ground.guard }], guard := some (14, false) }) rfl (by kernel_rfl) (by kernel_rfl) (by kernel_rfl) (by kernel_rfl) (fun _ _ _ h => h) (Or.inr ⟨by rfl, rfl⟩) hHeld ?_
                  (try simp only [Act.put, List.setIfInBounds_toArray, List.set_cons_zero, List.set_cons_succ])
                  refine wpAnyF_take (i := 16) (oi := { dst := some 50, op := Go.Op.load 26 (Go.Operand.tmp 49), type := 26, pos := "ref.go:15", after := #[{ on := 15, ground := Go.Ground.data }, { on := 14, ground := Go.Ground.guard }], guard := some (14, false) }) rfl (by kernel_rfl) (by kernel_rfl) (by kernel_rfl) (by kernel_rfl) (fun _ _ _ h => h) (Or.inr ⟨by rfl, rfl⟩) hHeld ?_
                  (try simp only [Act.put, List.setIfInBounds_toArray, List.set_cons_zero, List.set_cons_succ])
                  refine wpAnyF_take (i := 17) (oi := { dst := some 51, op := Go.Op.move (Go.Operand.tmp 3), type := 3, pos := "ref.go:15", after := #[{ on := 14, ground := Go.Ground.guard }], guard := some (14, false) }) rfl (by kernel_rfl) (by kernel_rfl) (by kernel_rfl) (by kernel_rfl) (fun _ _ _ h => h) (Or.inr ⟨by rfl, rfl⟩) hHeld ?_
                  (try simp only [Act.put, List.setIfInBounds_toArray, List.set_cons_zero, List.set_cons_succ])
                  refine wpAnyF_take (i := 18) (oi := { dst := some 52, op := Go.Op.indexAddr 26 (Go.Operand.tmp 50) (Go.Operand.tmp 51), type := 0, pos := "ref.go:15", after := #[{ on := 16, ground := Go.Ground.data }, { on := 17, ground := Go.Ground.data }, { on := 14, ground := Go.Ground.guard }], guard := some (14, false) }) rfl (by kernel_rfl) (by kernel_rfl) (by kernel_rfl) (by kernel_rfl) (fun _ _ _ h => h) (Or.inr ⟨by rfl, rfl⟩) hHeld ?_
                  (try simp only [Act.put, List.setIfInBounds_toArray, List.set_cons_zero, List.set_cons_succ])
                  refine wpAnyF_take (i := 19) (oi := { dst := some 53, op := Go.Op.load 3 (Go.Operand.tmp 52), type := 3, pos := "ref.go:15", after := #[{ on := 18, ground := Go.Ground.data }, { on := 14, ground := Go.Ground.guard }], guard := some (14, false) }) rfl (by kernel_rfl) (by kernel_rfl) (by kernel_rfl) (by kernel_rfl) (fun _ _ _ h => h) (Or.inr ⟨by rfl, rfl⟩) hHeld ?_
                  (try simp only [Act.put, List.setIfInBounds_toArray, List.set_cons_zero, List.set_cons_succ])
                  refine wpAnyF_take (i := 20) (oi := { dst := some 54, op := Go.Op.binOp Go.BinOp.lss 3 (Go.Operand.tmp 53) (Go.Operand.const (Go.Value.int Go.IntKind.i64 (-999999))) 3, type := 4, pos := "ref.go:15", after := #[{ on := 19, ground := Go.Ground.data }, { on := 14, ground := Go.Ground.guard }], guard := some (14, false) }) rfl (by kernel_rfl) (by kernel_rfl) (by kernel_rfl) (by kernel_rfl) (fun _ _ _ h => h) (Or.inr ⟨by rfl, rfl⟩) hHeld ?_
                  (try simp only [Act.put, List.setIfInBounds_toArray, List.set_cons_zero, List.set_cons_succ])
                  refine wpAnyF_take (i := 21) (oi := { dst := some 55, op := Go.Op.pick (Go.Operand.tmp 48) (Go.Operand.const (Go.Value.bool true)) (Go.Operand.tmp 54), type := 4, pos := "ref.go:15", after := #[{ on := 14, ground := Go.Ground.data }, { on := 20, ground := Go.Ground.data }], guard := none }) (v := ?_) rfl (by kernel_rfl) (by kernel_rfl) (by kernel_rfl) (by kernel_rfl) (fun _ _ _ h => h) (Or.inl ⟨by rfl, ?_⟩) hHeld ?_
                  rotate_left
                  · intro w_ hSw_; (try dsimp only at hSw_); go_simp; (try with_reducible rfl)
                  (try simp only [Act.put, List.setIfInBounds_toArray, List.set_cons_zero, List.set_cons_succ])
                  refine wpAnyF_take (i := 22) (oi := { dst := some 56, op := Go.Op.move (Go.Operand.tmp 55), type := 4, pos := "ref.go:15", after := #[{ on := 21, ground := Go.Ground.data }, { on := 14, ground := Go.Ground.chain }], guard := none }) (v := ?_) rfl (by kernel_rfl) (by kernel_rfl) (by kernel_rfl) (by kernel_rfl) (fun _ _ _ h => h) (Or.inl ⟨by rfl, ?_⟩) hHeld ?_
                  rotate_left
                  · intro w_ hSw_; (try dsimp only at hSw_); go_simp; (try with_reducible rfl)
                  (try simp only [Act.put, List.setIfInBounds_toArray, List.set_cons_zero, List.set_cons_succ])
                  refine wpAnyF_take (i := 23) (oi := { dst := some 57, op := Go.Op.fieldAddr 55 (Go.Operand.tmp 1) 2, type := 0, pos := "ref.go:15", after := #[{ on := 22, ground := Go.Ground.guard }], guard := some (22, false) }) rfl (by kernel_rfl) (by kernel_rfl) (by kernel_rfl) (by kernel_rfl) (fun _ _ _ h => h) (Or.inr ⟨by rfl, rfl⟩) hHeld ?_
                  (try simp only [Act.put, List.setIfInBounds_toArray, List.set_cons_zero, List.set_cons_succ])
                  refine wpAnyF_take (i := 24) (oi := { dst := some 58, op := Go.Op.load 26 (Go.Operand.tmp 57), type := 26, pos := "ref.go:15", after := #[{ on := 23, ground := Go.Ground.data }, { on := 22, ground := Go.Ground.guard }], guard := some (22, false) }) rfl (by kernel_rfl) (by kernel_rfl) (by kernel_rfl) (by kernel_rfl) (fun _ _ _ h => h) (Or.inr ⟨by rfl, rfl⟩) hHeld ?_
                  (try simp only [Act.put, List.setIfInBounds_toArray, List.set_cons_zero, List.set_cons_succ])
                  refine wpAnyF_take (i := 25) (oi := { dst := some 59, op := Go.Op.move (Go.Operand.tmp 3), type := 3, pos := "ref.go:15", after := #[{ on := 22, ground := Go.Ground.guard }], guard := some (22, false) }) rfl (by kernel_rfl) (by kernel_rfl) (by kernel_rfl) (by kernel_rfl) (fun _ _ _ h => h) (Or.inr ⟨by rfl, rfl⟩) hHeld ?_
                  (try simp only [Act.put, List.setIfInBounds_toArray, List.set_cons_zero, List.set_cons_succ])
                  refine wpAnyF_take (i := 26) (oi := { dst := some 60, op := Go.Op.indexAddr 26 (Go.Operand.tmp 58) (Go.Operand.tmp 59), type := 0, pos := "ref.go:15", after := #[{ on := 24, ground := Go.Ground.data }, { on := 25, ground := Go.Ground.data }, { on := 22, ground := Go.Ground.guard }], guard := some (22, false) }) rfl (by kernel_rfl) (by kernel_rfl) (by kernel_rfl) (by kernel_rfl) (fun _ _ _ h => h) (Or.inr ⟨by rfl, rfl⟩) hHeld ?_
                  (try simp only [Act.put, List.setIfInBounds_toArray, List.set_cons_zero, List.set_cons_succ])
                  refine wpAnyF_take (i := 27) (oi := { dst := some 61, op := Go.Op.load 3 (Go.Operand.tmp 60), type := 3, pos := "ref.go:15", after := #[{ on := 26, ground := Go.Ground.data }, { on := 22, ground := Go.Ground.guard }], guard := some (22, false) }) rfl (by kernel_rfl) (by kernel_rfl) (by kernel_rfl) (by kernel_rfl) (fun _ _ _ h => h) (Or.inr ⟨by rfl, rfl⟩) hHeld ?_
                  (try simp only [Act.put, List.setIfInBounds_toArray, List.set_cons_zero, List.set_cons_succ])
                  refine wpAnyF_take (i := 28) (oi := { dst := some 62, op := Go.Op.binOp Go.BinOp.gtr 3 (Go.Operand.tmp 61) (Go.Operand.const (Go.Value.int Go.IntKind.i64 999999)) 3, type := 4, pos := "ref.go:15", after := #[{ on := 27, ground := Go.Ground.data }, { on := 22, ground := Go.Ground.guard }], guard := some (22, false) }) rfl (by kernel_rfl) (by kernel_rfl) (by kernel_rfl) (by kernel_rfl) (fun _ _ _ h => h) (Or.inr ⟨by rfl, rfl⟩) hHeld ?_
                  (try simp only [Act.put, List.setIfInBounds_toArray, List.set_cons_zero, List.set_cons_succ])
                  refine wpAnyF_take (i := 29) (oi := { dst := some 63, op := Go.Op.pick (Go.Operand.tmp 56) (Go.Operand.const (Go.Value.bool true)) (Go.Operand.tmp 62), type := 4, pos := "ref.go:15", after := #[{ on := 22, ground := Go.Ground.data }, { on := 28, ground := Go.Ground.data }], guard := none }) (v := ?_) rfl (by kernel_rfl) (by kernel_rfl) (by kernel_rfl) (by kernel_rfl) (fun _ _ _ h => h) (Or.inl ⟨by rfl, ?_⟩) hHeld ?_
                  rotate_left
                  · intro w_ hSw_; (try dsimp only at hSw_); go_simp; (try with_reducible rfl)
                  (try simp only [Act.put, List.setIfInBounds_toArray, List.set_cons_zero, List.set_cons_succ])
                  refine wpAnyF_take (i := 30) (oi := { dst := some 64, op := Go.Op.move (Go.Operand.tmp 63), type := 4, pos := "ref.go:15", after := #[{ on := 29, ground := Go.Ground.data }, { on := 22, ground := Go.Ground.chain }], guard := none }) (v := ?_) rfl (by kernel_rfl) (by kernel_rfl) (by kernel_rfl) (by kernel_rfl) (fun _ _ _ h => h) (Or.inl ⟨by rfl, ?_⟩) hHeld ?_
                  rotate_left
                  · intro w_ hSw_; (try dsimp only at hSw_); go_simp; (try with_reducible rfl)
                  (try simp only [Act.put, List.setIfInBounds_toArray, List.set_cons_zero, List.set_cons_succ])
                  refine wpAnyF_take (i := 31) (oi := { dst := some 65, op := Go.Op.fieldAddr 55 (Go.Operand.tmp 1) 1, type := 0, pos := "ref.go:15", after := #[{ on := 30, ground := Go.Ground.guard }], guard := some (30, false) }) rfl (by kernel_rfl) (by kernel_rfl) (by kernel_rfl) (by kernel_rfl) (fun _ _ _ h => h) (Or.inr ⟨by rfl, rfl⟩) hHeld ?_
                  (try simp only [Act.put, List.setIfInBounds_toArray, List.set_cons_zero, List.set_cons_succ])
                  refine wpAnyF_take (i := 32) (oi := { dst := some 66, op := Go.Op.load 26 (Go.Operand.tmp 65), type := 26, pos := "ref.go:15", after := #[{ on := 31, ground := Go.Ground.data }, { on := 30, ground := Go.Ground.guard }], guard := some (30, false) }) rfl (by kernel_rfl) (by kernel_rfl) (by kernel_rfl) (by kernel_rfl) (fun _ _ _ h => h) (Or.inr ⟨by rfl, rfl⟩) hHeld ?_
                  (try simp only [Act.put, List.setIfInBounds_toArray, List.set_cons_zero, List.set_cons_succ])
                  refine wpAnyF_take (i := 33) (oi := { dst := some 67, op := Go.Op.move (Go.Operand.tmp 3), type := 3, pos := "ref.go:15", after := #[{ on := 30, ground := Go.Ground.guard }], guard := some (30, false) }) rfl (by kernel_rfl) (by kernel_rfl) (by kernel_rfl) (by kernel_rfl) (fun _ _ _ h => h) (Or.inr ⟨by rfl, rfl⟩) hHeld ?_
                  (try simp only [Act.put, List.setIfInBounds_toArray, List.set_cons_zero, List.set_cons_succ])
                  refine wpAnyF_take (i := 34) (oi := { dst := some 68, op := Go.Op.indexAddr 26 (Go.Operand.tmp 66) (Go.Operand.tmp 67), type := 0, pos := "ref.go:15", after := #[{ on := 32, ground := Go.Ground.data }, { on := 33, ground := Go.Ground.data }, { on := 30, ground := Go.Ground.guard }], guard := some (30, false) }) rfl (by kernel_rfl) (by kernel_rfl) (by kernel_rfl) (by kernel_rfl) (fun _ _ _ h => h) (Or.inr ⟨by rfl, rfl⟩) hHeld ?_
                  (try simp only [Act.put, List.setIfInBounds_toArray, List.set_cons_zero, List.set_cons_succ])
                  refine wpAnyF_take (i := 35) (oi := { dst := some 69, op := Go.Op.load 3 (Go.Operand.tmp 68), type := 3, pos := "ref.go:15", after := #[{ on := 34, ground := Go.Ground.data }, { on := 30, ground := Go.Ground.guard }], guard := some (30, false) }) rfl (by kernel_rfl) (by kernel_rfl) (by kernel_rfl) (by kernel_rfl) (fun _ _ _ h => h) (Or.inr ⟨by rfl, rfl⟩) hHeld ?_
                  (try simp only [Act.put, List.setIfInBounds_toArray, List.set_cons_zero, List.set_cons_succ])
                  refine wpAnyF_take (i := 36) (oi := { dst := some 70, op := Go.Op.move (Go.Operand.tmp 3), type := 3, pos := "ref.go:15", after := #[{ on := 30, ground := Go.Ground.guard }], guard := some (30, false) }) rfl (by kernel_rfl) (by kernel_rfl) (by kernel_rfl) (by kernel_rfl) (fun _ _ _ h => h) (Or.inr ⟨by rfl, rfl⟩) hHeld ?_
                  (try simp only [Act.put, List.setIfInBounds_toArray, List.set_cons_zero, List.set_cons_succ])
                  refine wpAnyF_take (i := 37) (oi := { dst := some 71, op := Go.Op.binOp Go.BinOp.mul 3 (Go.Operand.tmp 69) (Go.Operand.tmp 70) 3, type := 3, pos := "ref.go:15", after := #[{ on := 35, ground := Go.Ground.data }, { on := 36, ground := Go.Ground.data }, { on := 30, ground := Go.Ground.guard }], guard := some (30, false) }) rfl (by kernel_rfl) (by kernel_rfl) (by kernel_rfl) (by kernel_rfl) (fun _ _ _ h => h) (Or.inr ⟨by rfl, rfl⟩) hHeld ?_
                  (try simp only [Act.put, List.setIfInBounds_toArray, List.set_cons_zero, List.set_cons_succ])
                  refine wpAnyF_take (i := 38) (oi := { dst := some 72, op := Go.Op.fieldAddr 55 (Go.Operand.tmp 1) 2, type := 0, pos := "ref.go:15", after := #[{ on := 30, ground := Go.Ground.guard }], guard := some (30, false) }) rfl (by kernel_rfl) (by kernel_rfl) (by kernel_rfl) (by kernel_rfl) (fun _ _ _ h => h) (Or.inr ⟨by rfl, rfl⟩) hHeld ?_
                  (try simp only [Act.put, List.setIfInBounds_toArray, List.set_cons_zero, List.set_cons_succ])
                  refine wpAnyF_take (i := 39) (oi := { dst := some 73, op := Go.Op.load 26 (Go.Operand.tmp 72), type := 26, pos := "ref.go:15", after := #[{ on := 38, ground := Go.Ground.data }, { on := 30, ground := Go.Ground.guard }], guard := some (30, false) }) rfl (by kernel_rfl) (by kernel_rfl) (by kernel_rfl) (by kernel_rfl) (fun _ _ _ h => h) (Or.inr ⟨by rfl, rfl⟩) hHeld ?_
                  (try simp only [Act.put, List.setIfInBounds_toArray, List.set_cons_zero, List.set_cons_succ])
                  refine wpAnyF_take (i := 40) (oi := { dst := some 74, op := Go.Op.move (Go.Operand.tmp 3), type := 3, pos := "ref.go:15", after := #[{ on := 30, ground := Go.Ground.guard }], guard := some (30, false) }) rfl (by kernel_rfl) (by kernel_rfl) (by kernel_rfl) (by kernel_rfl) (fun _ _ _ h => h) (Or.inr ⟨by rfl, rfl⟩) hHeld ?_
                  (try simp only [Act.put, List.setIfInBounds_toArray, List.set_cons_zero, List.set_cons_succ])
                  refine wpAnyF_take (i := 41) (oi := { dst := some 75, op := Go.Op.indexAddr 26 (Go.Operand.tmp 73) (Go.Operand.tmp 74), type := 0, pos := "ref.go:15", after := #[{ on := 39, ground := Go.Ground.data }, { on := 40, ground := Go.Ground.data }, { on := 30, ground := Go.Ground.guard }], guard := some (30, false) }) rfl (by kernel_rfl) (by kernel_rfl) (by kernel_rfl) (by kernel_rfl) (fun _ _ _ h => h) (Or.inr ⟨by rfl, rfl⟩) hHeld ?_
                  (try simp only [Act.put, List.setIfInBounds_toArray, List.set_cons_zero, List.set_cons_succ])
                  refine wpAnyF_take (i := 42) (oi := { dst := some 76, op := Go.Op.load 3 (Go.Operand.tmp 75), type := 3, pos := "ref.go:15", after := #[{ on := 41, ground := Go.Ground.data }, { on := 30, ground := Go.Ground.guard }], guard := some (30, false) }) rfl (by kernel_rfl) (by kernel_rfl) (by kernel_rfl) (by kernel_rfl) (fun _ _ _ h => h) (Or.inr ⟨by rfl, rfl⟩) hHeld ?_
                  (try simp only [Act.put, List.setIfInBounds_toArray, List.set_cons_zero, List.set_cons_succ])
                  refine wpAnyF_take (i := 43) (oi := { dst := some 77, op := Go.Op.binOp Go.BinOp.add 3 (Go.Operand.tmp 71) (Go.Operand.tmp 76) 3, type := 3, pos := "ref.go:15", after := #[{ on := 37, ground := Go.Ground.data }, { on := 42, ground := Go.Ground.data }, { on := 30, ground := Go.Ground.guard }], guard := some (30, false) }) rfl (by kernel_rfl) (by kernel_rfl) (by kernel_rfl) (by kernel_rfl) (fun _ _ _ h => h) (Or.inr ⟨by rfl, rfl⟩) hHeld ?_
                  (try simp only [Act.put, List.setIfInBounds_toArray, List.set_cons_zero, List.set_cons_succ])
                  refine wpAnyF_take (i := 44) (oi := { dst := some 78, op := Go.Op.fieldAddr 55 (Go.Operand.tmp 1) 0, type := 0, pos := "ref.go:15", after := #[{ on := 30, ground := Go.Ground.guard }], guard := some (30, false) }) rfl (by kernel_rfl) (by kernel_rfl) (by kernel_rfl) (by kernel_rfl) (fun _ _ _ h => h) (Or.inr ⟨by rfl, rfl⟩) hHeld ?_
                  (try simp only [Act.put, List.setIfInBounds_toArray, List.set_cons_zero, List.set_cons_succ])
                  refine wpAnyF_take (i := 45) (oi := { dst := some 79, op := Go.Op.load 3 (Go.Operand.tmp 78), type := 3, pos := "ref.go:15", after := #[{ on := 44, ground := Go.Ground.data }, { on := 30, ground := Go.Ground.guard }], guard := some (30, false) }) rfl (by kernel_rfl) (by kernel_rfl) (by kernel_rfl) (by kernel_rfl) (fun _ _ _ h => h) (Or.inr ⟨by rfl, rfl⟩) hHeld ?_
                  (try simp only [Act.put, List.setIfInBounds_toArray, List.set_cons_zero, List.set_cons_succ])
                  refine wpAnyF_take (i := 46) (oi := { dst := some 80, op := Go.Op.binOp Go.BinOp.rem 3 (Go.Operand.tmp 77) (Go.Operand.tmp 79) 3, type := 3, pos := "ref.go:15", after := #[{ on := 43, ground := Go.Ground.data }, { on := 45, ground := Go.Ground.data }, { on := 30, ground := Go.Ground.guard }], guard := some (30, false) }) rfl (by kernel_rfl) (by kernel_rfl) (by kernel_rfl) (by kernel_rfl) (fun _ _ _ h => h) (Or.inr ⟨by rfl, rfl⟩) hHeld ?_
                  (try simp only [Act.put, List.setIfInBounds_toArray, List.set_cons_zero, List.set_cons_succ])
                  refine wpAnyF_take (i := 47) (oi := { dst := some 81, op := Go.Op.binOp Go.BinOp.neq 3 (Go.Operand.tmp 80) (Go.Operand.const (Go.Value.int Go.IntKind.i64 0)) 3, type := 4, pos := "ref.go:15", after := #[{ on := 46, ground := Go.Ground.data }, { on := 30, ground := Go.Ground.guard }], guard := some (30, false) }) rfl (by kernel_rfl) (by kernel_rfl) (by kernel_rfl) (by kernel_rfl) (fun _ _ _ h => h) (Or.inr ⟨by rfl, rfl⟩) hHeld ?_
                  (try simp only [Act.put, List.setIfInBounds_toArray, List.set_cons_zero, List.set_cons_succ])
                  refine wpAnyF_take (i := 48) (oi := { dst := some 82, op := Go.Op.pick (Go.Operand.tmp 64) (Go.Operand.const (Go.Value.bool true)) (Go.Operand.tmp 81), type := 4, pos := "ref.go:15", after := #[{ on := 30, ground := Go.Ground.data }, { on := 47, ground := Go.Ground.data }], guard := none }) (v := ?_) rfl (by kernel_rfl) (by kernel_rfl) (by kernel_rfl) (by kernel_rfl) (fun _ _ _ h => h) (Or.inl ⟨by rfl, ?_⟩) hHeld ?_
                  rotate_left
                  · intro w_ hSw_; (try dsimp only at hSw_); go_simp; (try with_reducible rfl)
                  (try simp only [Act.put, List.setIfInBounds_toArray, List.set_cons_zero, List.set_cons_succ])
                  refine wpAnyF_done (by kernel_rfl) ?_ _
                  clear hHeld
                  go_wp2
                  go_ret
                  exact ⟨by rw [HR.out] <;> rfl, by rw [hb0]; exact HB1⟩
                · have q2b : decide (999 < x) = false := decide_eq_false q2
                  by_cases q3 : y < -999999
                  · have HR : Hid (okB M = false) := HNO.out (fun h => by have := h.2.2.1; rw [HY.out] at this; omega)
                    go_wp2_with fail
                    have V1 := V.drew
                    have cA1 : wr.drew.cell? ⟨bA, oA + r, none⟩ = some (.int .i64 x) := cA
                    have cB1 : wr.drew.cell? ⟨bB, oB + r, none⟩ = some (.int .i64 y) := cB
                    have HB1 := below_drew HB
                    generalize hWd : wr.drew = wd at *
                    refine wp_region_F (fun w' => w'.cell? ⟨b, 0, none⟩ = some (.int .i64 L1) ∧ w'.cell? ⟨b, 1, none⟩ = some (.slice (some ⟨bA, oA, none⟩) L1 c) ∧ w'.cell? ⟨b, 2, none⟩ = some (.slice (some ⟨bB, oB, none⟩) L1 c') ∧ w'.cell? ⟨bA, oA + r, none⟩ = some (.int .i64 x) ∧ w'.cell? ⟨bB, oB + r, none⟩ = some (.int .i64 y)) [] (by kernel_rfl) (by rw [hWd]; exact ⟨V1.c0, V1.c1, V1.c2, cA1, cB1⟩) (fun hHeld => ?_)
                    rw [hWd] at hHeld ⊢
                    refine wpAnyF_take (i := 0) (oi := { dst := some 34, op := Go.Op.fieldAddr 55 (Go.Operand.tmp 1) 1, type := 0, pos := "ref.go:15", after := #[], guard := none }) (v := ?_) rfl (by kernel_rfl) (by kernel_rfl) (by kernel_rfl) (by kernel_rfl) (fun _ _ _ h => h) (Or.inl ⟨by rfl, ?_⟩) hHeld ?_
                    rotate_left
                    · intro w_ hSw_; (try dsimp only at hSw_); go_simp; (try with_reducible rfl)
                    (try simp only [Act.put, List.setIfInBounds_toArray, List.set_cons_zero, List.set_cons_succ])
                    refine wpAnyF_take (i := 1) (oi := { dst := some 35, op := Go.Op.load 26 (Go.Operand.tmp 34), type := 26, pos := "ref.go:15", after := #[{ on := 0, ground := Go.Ground.data }], guard := none }) (v := ?_) rfl (by kernel_rfl) (by kernel_rfl) (by kernel_rfl) (by kernel_rfl) (fun _ _ _ h => h) (Or.inl ⟨by rfl, ?_⟩) hHeld ?_
                    rotate_left
                    · intro w_ hSw_; (try dsimp only at hSw_); go_simp; (try with_reducible rfl)
                    (try simp only [Act.put, List.setIfInBounds_toArray, List.set_cons_zero, List.set_cons_succ])
                    refine wpAnyF_take (i := 2) (oi := { dst := some 36, op := Go.Op.move (Go.Operand.tmp 3), type := 3, pos := "ref.go:15", after := #[], guard := none }) (v := ?_) rfl (by kernel_rfl) (by kernel_rfl) (by kernel_rfl) (by kernel_rfl) (fun _ _ _ h => h) (Or.inl ⟨by rfl, ?_⟩) hHeld ?_
                    rotate_left
                    · intro w_ hSw_; (try dsimp only at hSw_); go_simp; (try with_reducible rfl)
                    (try simp only [Act.put, List.setIfInBounds_toArray, List.set_cons_zero, List.set_cons_succ])
                    refine wpAnyF_take (i := 3) (oi := { dst := some 37, op := Go.Op.indexAddr 26 (Go.Operand.tmp 35) (Go.Operand.tmp 36), type := 0, pos := "ref.go:15", after := #[{ on := 1, ground := Go.Ground.data }, { on := 2, ground := Go.Ground.data }], guard := none }) (v := ?_) rfl (by kernel_rfl) (by kernel_rfl) (by kernel_rfl) (by kernel_rfl) (fun _ _ _ h => h) (Or.inl ⟨by rfl, ?_⟩) hHeld ?_
                    rotate_left
                    · intro w_ hSw_; (try dsimp only at hSw_); go_simp; (try with_reducible rfl)
                    (try simp only [Act.put, List.setIfInBounds_toArray, List.set_cons_zero, List.set_cons_succ])
                    refine wpAnyF_take (i := 4) (oi := { dst := some 38, op := Go.Op.load 3 (Go.Operand.tmp 37), type := 3, pos := "ref.go:15", after := #[{ on := 3, ground := Go.Ground.data }], guard := none }) (v := ?_) rfl (by kernel_rfl) (by kernel_rfl) (by kernel_rfl) (by kernel_rfl) (fun _ _ _ h => h) (Or.inl ⟨by rfl, ?_⟩) hHeld ?_
                    rotate_left
                    · intro w_ hSw_; (try dsimp only at hSw_); go_simp; (try with_reducible rfl)
                    (try simp only [Act.put, List.setIfInBounds_toArray, List.set_cons_zero, List.set_cons_succ])
                    refine wpAnyF_take (i := 5) (oi := { dst := some 39, op := Go.Op.binOp Go.BinOp.lss 3 (Go.Operand.tmp 38) (Go.Operand.const (Go.Value.int Go.IntKind.i64 1)) 3, type := 4, pos := "ref.go:15", after := #[{ on := 4, ground := Go.Ground.data }], guard := none }) (v := ?_) rfl (by kernel_rfl) (by kernel_rfl) (by kernel_rfl) (by kernel_rfl) (fun _ _ _ h => h) (Or.inl ⟨by rfl, ?_⟩) hHeld ?_
                    rotate_left
                    · intro w_ hSw_; (try dsimp only at hSw_); go_simp; (try with_reducible rfl)
                    (try simp only [Act.put, List.setIfInBounds_toArray, List.set_cons_zero, List.set_cons_succ])
                    refine wpAnyF_take (i := 6) (oi := { dst := some 40, op := Go.Op.move (Go.Operand.tmp 39), type := 4, pos := "ref.go:15", after := #[{ on := 5, ground := Go.Ground.data }], guard := none }) (v := ?_) rfl (by kernel_rfl) (by kernel_rfl) (by kernel_rfl) (by kernel_rfl) (fun _ _ _ h => h) (Or.inl ⟨by rfl, ?_⟩) hHeld ?_
                    rotate_left
                    · intro w_ hSw_; (try dsimp only at hSw_); go_simp; (try with_reducible rfl)
                    (try simp only [Act.put, List.setIfInBounds_toArray, List.set_cons_zero, List.set_cons_succ])
                    refine wpAnyF_take (i := 7) (oi := { dst := some 41, op := Go.Op.fieldAddr 55 (Go.Operand.tmp 1) 1, type := 0, pos := "ref.go:15", after := #[{ on := 6, ground := Go.Ground.guard }], guard := some (6, false) }) (v := ?_) rfl (by kernel_rfl) (by kernel_rfl) (by kernel_rfl) (by kernel_rfl) (fun _ _ _ h => h) (Or.inl ⟨by rfl, ?_⟩) hHeld ?_
                    rotate_left
                    · intro w_ hSw_; (try dsimp only at hSw_); go_simp; (try with_reducible rfl)
                    (try simp only [Act.put, List.setIfInBounds_toArray, List.set_cons_zero, List.set_cons_succ])
                    refine wpAnyF_take (i := 8) (oi := { dst := some 42, op := Go.Op.load 26 (Go.Operand.tmp 41), type := 26, pos := "ref.go:15", after := #[{ on := 7, ground := Go.Ground.data }, { on := 6, ground := Go.Ground.guard }], guard := some (6, false) }) (v := ?_) rfl (by kernel_rfl) (by kernel_rfl) (by kernel_rfl) (by kernel_rfl) (fun _ _ _ h => h) (Or.inl ⟨by rfl, ?_⟩) hHeld ?_
                    rotate_left
                    · intro w_ hSw_; (try dsimp only at hSw_); go_simp; (try with_reducible rfl)
                    (try simp only [Act.put, List.setIfInBounds_toArray, List.set_cons_zero, List.set_cons_succ])
                    refine wpAnyF_take (i := 9) (oi := { dst := some 43, op := Go.Op.move (Go.Operand.tmp 3), type := 3, pos := "ref.go:15", after := #[{ on := 6, ground := Go.Ground.guard }], guard := some (6, false) }) (v := ?_) rfl (by kernel_rfl) (by kernel_rfl) (by kernel_rfl) (by kernel_rfl) (fun _ _ _ h => h) (Or.inl ⟨by rfl, ?_⟩) hHeld ?_
                    rotate_left
                    · intro w_ hSw_; (try dsimp only at hSw_); go_simp; (try with_reducible rfl)
                    (try simp only [Act.put, List.setIfInBounds_toArray, List.set_cons_zero, List.set_cons_succ])
                    refine wpAnyF_take (i := 10) (oi := { dst := some 44, op := Go.Op.indexAddr 26 (Go.Operand.tmp 42) (Go.Operand.tmp 43), type := 0, pos := "ref.go:15", after := #[{ on := 8, ground := Go.Ground.data }, { on := 9, ground := Go.Ground.data }, { on := 6, ground := Go.Ground.guard }], guard := some (6, false) }) (v := ?_) rfl (by kernel_rfl) (by kernel_rfl) (by kernel_rfl) (by kernel_rfl) (fun _ _ _ h => h) (Or.inl ⟨by rfl, ?_⟩) hHeld ?_
                    rotate_left
                    · intro w_ hSw_; (try dsimp only at hSw_); go_simp; (try with_reducible rfl)
                    (try simp only [Act.put, List.setIfInBounds_toArray, List.set_cons_zero, List.set_cons_succ])
                    refine wpAnyF_take (i := 11) (oi := { dst := some 45, op := Go.Op.load 3 (Go.Operand.tmp 44), type := 3, pos := "ref.go:15", after := #[{ on := 10, ground := Go.Ground.data }, { on := 6, ground := Go.Ground.guard }], guard := some (6, false) }) (v := ?_) rfl (by kernel_rfl) (by kernel_rfl) (by kernel_rfl) (by kernel_rfl) (fun _ _ _ h => h) (Or.inl ⟨by rfl, ?_⟩) hHeld ?_
                    rotate_left
                    · intro w_ hSw_; (try dsimp only at hSw_); go_simp; (try with_reducible rfl)
                    (try simp only [Act.put, List.setIfInBounds_toArray, List.set_cons_zero, List.set_cons_succ])
                    refine wpAnyF_take (i := 12) (oi := { dst := some 46, op := Go.Op.binOp Go.BinOp.gtr 3 (Go.Operand.tmp 45) (Go.Operand.const (Go.Value.int Go.IntKind.i64 999)) 3, type := 4, pos := "ref.go:15", after := #[{ on := 11, ground := Go.Ground.data }, { on := 6, ground := Go.Ground.guard }], guard := some (6, false) }) (v := ?_) rfl (by kernel_rfl) (by kernel_rfl) (by kernel_rfl) (by kernel_rfl) (fun _ _ _ h => h) (Or.inl ⟨by rfl, ?_⟩) hHeld ?_
                    rotate_left
                    · intro w_ hSw_; (try dsimp only at hSw_); go_simp; (try with_reducible rfl)
                    (try simp only [Act.put, List.setIfInBounds_toArray, List.set_cons_zero, List.set_cons_succ])
                    refine wpAnyF_take (i := 13) (oi := { dst := some 47, op := Go.Op.pick (Go.Operand.tmp 40) (Go.Operand.const (Go.Value.bool true)) (Go.Operand.tmp 46), type := 4, pos := "ref.go:15", after := #[{ on := 6, ground := Go.Ground.data }, { on := 12, ground := Go.Ground.data }], guard := none }) (v := ?_) rfl (by kernel_rfl) (by kernel_rfl) (by kernel_rfl) (by kernel_rfl) (fun _ _ _ h => h) (Or.inl ⟨by rfl, ?_⟩) hHeld ?_
                    rotate_left
                    · intro w_ hSw_; (try dsimp only at hSw_); go_simp; (try with_reducible rfl)
                    (try simp only [Act.put, List.setIfInBounds_toArray, List.set_cons_zero, List.set_cons_succ])
                    refine wpAnyF_take (i := 14) (oi := { dst := some 48, op := Go.Op.move (Go.Operand.tmp 47), type := 4, pos := "ref.go:15", after := #[{ on := 13, ground := Go.Ground.data }, { on := 6, ground := Go.Ground.chain }], guard := none }) (v := ?_) rfl (by kernel_rfl) (by kernel_rfl) (by kernel_rfl) (by kernel_rfl) (fun _ _ _ h => h) (Or.inl ⟨by rfl, ?_⟩) hHeld ?_
                    rotate_left
                    · intro w_ hSw_; (try dsimp only at hSw_); go_simp; (try with_reducible rfl)
                    (try simp only [Act.put, List.setIfInBounds_toArray, List.set_cons_zero, List.set_cons_succ])
                    refine wpAnyF_take (i := 15) (oi := { dst := some 49, op := Go.Op.fieldAddr 55 (Go.Operand.tmp 1) 2, type := 0, pos := "ref.go:15", after := #[{ on := 14, ground := Go.Ground.guard }], guard := some (14, false) }) (v := ?_) rfl (by kernel_rfl) (by kernel_rfl) (by kernel_rfl) (by kernel_rfl) (fun _ _ _ h => h) (Or.inl ⟨by rfl, ?_⟩) hHeld ?_
                    rotate_left
                    · intro w_ hSw_; (try dsimp only at hSw_); go_simp; (try with_reducible rfl)
                    (try simp only [Act.put, List.setIfInBounds_toArray, List.set_cons_zero, List.set_cons_succ])
                    refine wpAnyF_take (i := 16) (oi := { dst := some 50, op := Go.Op.load 26 (Go.Operand.tmp 49), type := 26, pos := "ref.go:15", after := #[{ on := 15, ground := Go.Ground.data }, { on := 14, ground := Go.Ground.guard }], guard := some (14, false) }) (v := ?_) rfl (by kernel_rfl) (by kernel_rfl) (by kernel_rfl) (by kernel_rfl) (fun _ _ _ h => h) (Or.inl ⟨by rfl, ?_⟩) hHeld ?_
                    rotate_left
                    · intro w_ hSw_; (try dsimp only at hSw_); go_simp; (try with_reducible rfl)
                    (try simp only [Act.put, List.setIfInBounds_toArray, List.set_cons_zero, List.set_cons_succ])
                    refine wpAnyF_take (i := 17) (oi := { dst := some 51, op := Go.Op.move (Go.Operand.tmp 3), type := 3, pos := "ref.go:15", after := #[{ on := 14, ground := Go.Ground.guard }], guard := some (14, false) }) (v := ?_) rfl (by kernel_rfl) (by kernel_rfl) (by kernel_rfl) (by kernel_rfl) (fun _ _ _ h => h) (Or.inl ⟨by rfl, ?_⟩) hHeld ?_
                    rotate_left
                    · intro w_ hSw_; (try dsimp only at hSw_); go_simp; (try with_reducible rfl)
                    (try simp only [Act.put, List.setIfInBounds_toArray, List.set_cons_zero, List.set_cons_succ])
                    refine wpAnyF_take (i := 18) (oi := { dst := some 52, op := Go.Op.indexAddr 26 (Go.Operand.tmp 50) (Go.Operand.tmp 51), type := 0, pos := "ref.go:15", after := #[{ on := 16, ground := Go.Ground.data }, { on := 17, ground := Go.Ground.data }, { on := 14, ground := Go.Ground.guard }], guard := some (14, false) }) (v := ?_) rfl (by kernel_rfl) (by kernel_rfl) (by kernel_rfl) (by kernel_rfl) (fun _ _ _ h => h) (Or.inl ⟨by rfl, ?_⟩) hHeld ?_
                    rotate_left
                    · intro w_ hSw_; (try dsimp only at hSw_); go_simp; (try with_reducible rfl)
                    (try simp only [Act.put, List.setIfInBounds_toArray, List.set_cons_zero, List.set_cons_succ])
                    refine wpAnyF_take (i := 19) (oi := { dst := some 53, op := Go.Op.load 3 (Go.Operand.tmp 52), type := 3, pos := "ref.go:15", after := #[{ on := 18, ground := Go.Ground.data }, { on := 14, ground := Go.Ground.guard }], guard := some (14, false) }) (v := ?_) rfl (by kernel_rfl) (by kernel_rfl) (by kernel_rfl) (by kernel_rfl) (fun _ _ _ h => h) (Or.inl ⟨by rfl, ?_⟩) hHeld ?_
                    rotate_left
                    · intro w_ hSw_; (try dsimp only at hSw_); go_simp; (try with_reducible rfl)
                    (try simp only [Act.put, List.setIfInBounds_toArray, List.set_cons_zero, List.set_cons_succ])
                    refine wpAnyF_take (i := 20) (oi := { dst := some 54, op := Go.Op.binOp Go.BinOp.lss 3 (Go.Operand.tmp 53) (Go.Operand.const (Go.Value.int Go.IntKind.i64 (-999999))) 3, type := 4, pos := "ref.go:15", after := #[{ on := 19, ground := Go.Ground.data }, { on := 14, ground := Go.Ground.guard }], guard := some (14, false) }) (v := ?_) rfl (by kernel_rfl) (by kernel_rfl) (by kernel_rfl) (by kernel_rfl) (fun _ _ _ h => h) (Or.inl ⟨by rfl, ?_⟩) hHeld ?_
                    rotate_left
                    · intro w_ hSw_; (try dsimp only at hSw_); go_simp; (try with_reducible rfl)
                    (try simp only [Act.put, List.setIfInBounds_toArray, List.set_cons_zero, List.set_cons_succ])
                    refine wpAnyF_take (i := 21) (oi := { dst := some 55, op := Go.Op.pick (Go.Operand.tmp 48) (Go.Operand.const (Go.Value.bool true)) (Go.Operand.tmp 54), type := 4, pos := "ref.go:15", after := #[{ on := 14, ground := Go.Ground.data }, { on := 20, ground := Go.Ground.data }], guard := none }) (v := ?_) rfl (by kernel_rfl) (by kernel_rfl) (by kernel_rfl) (by kernel_rfl) (fun _ _ _ h => h) (Or.inl ⟨by rfl, ?_⟩) hHeld ?_
                    rotate_left
                    · intro w_ hSw_; (try dsimp only at hSw_); go_simp; (try with_reducible rfl)
                    (try simp only [Act.put, List.setIfInBounds_toArray, List.set_cons_zero, List.set_cons_succ])
                    refine wpAnyF_take (i := 22) (oi := { dst := some 56, op := Go.Op.move (Go.Operand.tmp 55), type := 4, pos := "ref.go:15", after := #[{ on := 21, ground := Go.Ground.data }, { on := 14, ground := Go.Ground.chain }], guard := none }) (v := ?_) rfl (by kernel_rfl) (by kernel_rfl) (by kernel_rfl) (by kernel_rfl) (fun _ _ _ h => h) (Or.inl ⟨by rfl, ?_⟩) hHeld ?_
                    rotate_left
                    · intro w_ hSw_; (try dsimp only at hSw_); go_simp; (try with_reducible rfl)
                    (try simp only [Act.put, List.setIfInBounds_toArray, List.set_cons_zero, List.set_cons_succ])
                    refine wpAnyF_take (i := 23) (oi := { dst := some 57, op := Go.Op.fieldAddr 55 (Go.Operand.tmp 1) 2, type := 0, pos := "ref.go:15", after := #[{ on := 22, ground := Go.Ground.guard }], guard := some (22, false) }) rfl (by kernel_rfl) (by kernel_rfl) (by kernel_rfl) (by kernel_rfl) (fun _ _ _ h => h) (Or.inr ⟨by rfl, rfl⟩) hHeld ?_
                    (try simp only [Act.put, List.setIfInBounds_toArray, List.set_cons_zero, List.set_cons_succ])
                    refine wpAnyF_take (i := 24) (oi := { dst := some 58, op := Go.Op.load 26 (Go.Operand.tmp 57), type := 26, pos := "ref.go:15", after := #[{ on := 23, ground := Go.Ground.data }, { on := 22, ground := Go.Ground.guard }], guard := some (22, false) }) rfl (by kernel_rfl) (by kernel_rfl) (by kernel_rfl) (by kernel_rfl) (fun _ _ _ h => h) (Or.inr ⟨by rfl, rfl⟩) hHeld ?_
                    (try simp only [Act.put, List.setIfInBounds_toArray, List.set_cons_zero, List.set_cons_succ])
                    refine wpAnyF_take (i := 25) (oi := { dst := some 59, op := Go.Op.move (Go.Operand.tmp 3), type := 3, pos := "ref.go:15", after := #[{ on := 22, ground := Go.Ground.guard }], guard := some (22, false) }) rfl (by kernel_rfl) (by kernel_rfl) (by kernel_rfl) (by kernel_rfl) (fun _ _ _ h => h) (Or.inr ⟨by rfl, rfl⟩) hHeld ?_
                    (try simp only [Act.put, List.setIfInBounds_toArray, List.set_cons_zero, List.set_cons_succ])
                    refine wpAnyF_take (i := 26) (oi := { dst := some 60, op := Go.Op.indexAddr 26 (Go.Operand.tmp 58) (Go.Operand.tmp 59), type := 0, pos := "ref.go:15", after := #[{ on := 24, ground := Go.Ground.data }, { on := 25, ground := Go.Ground.data }, { on := 22, ground := Go.Ground.guard }], guard := some (22, false) }) rfl (by kernel_rfl) (by kernel_rfl) (by kernel_rfl) (by kernel_rfl) (fun _ _ _ h => h) (Or.inr ⟨by rfl, rfl⟩) hHeld ?_
                    (try simp only [Act.put, List.setIfInBounds_toArray, List.set_cons_zero, List.set_cons_succ])
                    refine wpAnyF_take (i := 27) (oi := { dst := some 61, op := Go.Op.load 3 (Go.Operand.tmp 60), type := 3, pos := "ref.go:15", after := #[{ on := 26, ground := Go.Ground.data }, { on := 22, ground := Go.Ground.guard }], guard := some (22, false) }) rfl (by kernel_rfl) (by kernel_rfl) (by kernel_rfl) (by kernel_rfl) (fun _ _ _ h => h) (Or.inr ⟨by rfl, rfl⟩) hHeld ?_
                    (try simp only [Act.put, List.setIfInBounds_toArray, List.set_cons_zero, List.set_cons_succ])
                    refine wpAnyF_take (i := 28) (oi := { dst := some 62, op := Go.Op.binOp Go.BinOp.gtr 3 (Go.Operand.tmp 61) (Go.Operand.const (Go.Value.int Go.IntKind.i64 999999)) 3, type := 4, pos := "ref.go:15", after := #[{ on := 27, ground := Go.Ground.data }, { on := 22, ground := Go.Ground.guard }], guard := some (22, false) }) rfl (by kernel_rfl) (by kernel_rfl) (by kernel_rfl) (by kernel_rfl) (fun _ _ _ h => h) (Or.inr ⟨by rfl, rfl⟩) hHeld ?_
                    (try simp only [Act.put, List.setIfInBounds_toArray, List.set_cons_zero, List.set_cons_succ])
                    refine wpAnyF_take (i := 29) (oi := { dst := some 63, op := Go.Op.pick (Go.Operand.tmp 56) (Go.Operand.const (Go.Value.bool true)) (Go.Operand.tmp 62), type := 4, pos := "ref.go:15", after := #[{ on := 22, ground := Go.Ground.data }, { on := 28, ground := Go.Ground.data }], guard := none }) (v := ?_) rfl (by kernel_rfl) (by kernel_rfl) (by kernel_rfl) (by kernel_rfl) (fun _ _ _ h => h) (Or.inl ⟨by rfl, ?_⟩) hHeld ?_
                    rotate_left
                    · intro w_ hSw_; (try dsimp only at hSw_); go_simp; (try with_reducible rfl)
                    (try simp only [Act.put, List.setIfInBounds_toArray, List.set_cons_zero, List.set_cons_succ])
                    refine wpAnyF_take (i := 30) (oi := { dst := some 64, op := Go.Op.move (Go.Operand.tmp 63), type := 4, pos := "ref.go:15", after := #[{ on := 29, ground := Go.Ground.data }, { on := 22, ground := Go.Ground.chain }], guard := none }) (v := ?_) rfl (by kernel_rfl) (by kernel_rfl) (by kernel_rfl) (by kernel_rfl) (fun _ _ _ h => h) (Or.inl ⟨by rfl, ?_⟩) hHeld ?_
                    rotate_left
                    · intro w_ hSw_; (try dsimp only at hSw_); go_simp; (try with_reducible rfl)
                    (try simp only [Act.put, List.setIfInBounds_toArray, List.set_cons_zero, List.set_cons_succ])
                    refine wpAnyF_take (i := 31) (oi := { dst := some 65, op := Go.Op.fieldAddr 55 (Go.Operand.tmp 1) 1, type := 0, pos := "ref.go:15", after := #[{ on := 30, ground := Go.Ground.guard }], guard := some (30, false) }) rfl (by kernel_rfl) (by kernel_rfl) (by kernel_rfl) (by kernel_rfl) (fun _ _ _ h => h) (Or.inr ⟨by rfl, rfl⟩) hHeld ?_
                    (try simp only [Act.put, List.setIfInBounds_toArray, List.set_cons_zero, List.set_cons_succ])
                    refine wpAnyF_take (i := 32) (oi := { dst := some 66, op := Go.Op.load 26 (Go.Operand.tmp 65), type := 26, pos := "ref.go:15", after := #[{ on := 31, ground := Go.Ground.data }, { on := 30, ground := Go.Ground.guard }], guard := some (30, false) }) rfl (by kernel_rfl) (by kernel_rfl) (by kernel_rfl) (by kernel_rfl) (fun _ _ _ h => h) (Or.inr ⟨by rfl, rfl⟩) hHeld ?_
                    (try simp only [Act.put, List.setIfInBounds_toArray, List.set_cons_zero, List.set_cons_succ])
                    refine wpAnyF_take (i := 33) (oi := { dst := some 67, op := Go.Op.move (Go.Operand.tmp 3), type := 3, pos := "ref.go:15", after := #[{ on := 30, ground := Go.Ground.guard }], guard := some (30, false) }) rfl (by kernel_rfl) (by kernel_rfl) (by kernel_rfl) (by kernel_rfl) (fun _ _ _ h => h) (Or.inr ⟨by rfl, rfl⟩) hHeld ?_
                    (try simp only [Act.put, List.setIfInBounds_toArray, List.set_cons_zero, List.set_cons_succ])
                    refine wpAnyF_take (i := 34) (oi := { dst := some 68, op := Go.Op.indexAddr 26 (Go.Operand.tmp 66) (Go.Operand.tmp 67), type := 0, pos := "ref.go:15", after := #[{ on := 32, ground := Go.Ground.data }, { on := 33, ground := Go.Ground.data }, { on := 30, ground := Go.Ground.guard }], guard := some (30, false) }) rfl (by kernel_rfl) (by kernel_rfl) (by kernel_rfl) (by kernel_rfl) (fun _ _ _ h => h) (Or.inr ⟨by rfl, rfl⟩) hHeld ?_
                    (try simp only [Act.put, List.setIfInBounds_toArray, List.set_cons_zero, List.set_cons_succ])
                    refine wpAnyF_take (i := 35) (oi := { dst := some 69, op := Go.Op.load 3 (Go.Operand.tmp 68), type := 3, pos := "ref.go:15", after := #[{ on := 34, ground := Go.Ground.data }, { on := 30, ground := Go.Ground.guard }], guard := some (30, false) }) rfl (by kernel_rfl) (by kernel_rfl) (by kernel_rfl) (by kernel_rfl) (fun _ _ _ h => h) (Or.inr ⟨by rfl, rfl⟩) hHeld ?_
                    (try simp only [Act.put, List.setIfInBounds_toArray, List.set_cons_zero, List.set_cons_succ])
                    refine wpAnyF_take (i := 36) (oi := { dst := some 70, op := Go.Op.move (Go.Operand.tmp 3), type := 3, pos := "ref.go:15", after := #[{ on := 30, ground := Go.Ground.guard }], guard := some (30, false) }) rfl (by kernel_rfl) (by kernel_rfl) (by kernel_rfl) (by kernel_rfl) (fun _ _ _ h => h) (Or.inr ⟨by rfl, rfl⟩) hHeld ?_
                    (try simp only [Act.put, List.setIfInBounds_toArray, List.set_cons_zero, List.set_cons_succ])
                    refine wpAnyF_take (i := 37) (oi := { dst := some 71, op := Go.Op.binOp Go.BinOp.mul 3 (Go.Operand.tmp 69) (Go.Operand.tmp 70) 3, type := 3, pos := "ref.go:15", after := #[{ on := 35, ground := Go.Ground.data }, { on := 36, ground := Go.Ground.data }, { on := 30, ground := Go.Ground.guard }], guard := some (30, false) }) rfl (by kernel_rfl) (by kernel_rfl) (by kernel_rfl) (by kernel_rfl) (fun _ _ _ h => h) (Or.inr ⟨by rfl, rfl⟩) hHeld ?_
                    (try simp only [Act.put, List.setIfInBounds_toArray, List.set_cons_zero, List.set_cons_succ])
                    refine wpAnyF_take (i := 38) (oi := { dst := some 72, op := Go.Op.fieldAddr 55 (Go.Operand.tmp 1) 2, type := 0, pos := "ref.go:15", after := #[{ on := 30, ground := Go.Ground.guard }], guard := some (30, false) }) rfl (by kernel_rfl) (by kernel_rfl) (by kernel_rfl) (by kernel_rfl) (fun _ _ _ h => h) (Or.inr ⟨by rfl, rfl⟩) hHeld ?_
                    (try simp only [Act.put, List.setIfInBounds_toArray, List.set_cons_zero, List.set_cons_succ])
                    refine wpAnyF_take (i := 39) (oi := { dst := some 73, op := Go.Op.load 26 (Go.Operand.tmp 72), type := 26, pos := "ref.go:15", after := #[{ on := 38, ground := Go.Ground.data }, { on := 30, ground := Go.Ground.guard }], guard := some (30, false) }) rfl (by kernel_rfl) (by kernel_rfl) (by kernel_rfl) (by kernel_rfl) (fun _ _ _ h => h) (Or.inr ⟨by rfl, rfl⟩) hHeld ?_
                    (try simp only [Act.put, List.setIfInBounds_toArray, List.set_cons_zero, List.set_cons_succ])
                    refine wpAnyF_take (i := 40) (oi := { dst := some 74, op := Go.Op.move (Go.Operand.tmp 3), type := 3, pos := "ref.go:15", after := #[{ on := 30, ground := Go.Ground.guard }], guard := some (30, false) }) rfl (by kernel_rfl) (by kernel_rfl) (by kernel_rfl) (by kernel_rfl) (fun _ _ _ h => h) (Or.inr ⟨by rfl, rfl⟩) hHeld ?_
                    (try simp only [Act.put, List.setIfInBounds_toArray, List.set_cons_zero, List.set_cons_succ])
                    refine wpAnyF_take (i := 41) (oi := { dst := some 75, op := Go.Op.indexAddr 26 (Go.Operand.tmp 73) (Go.Operand.tmp 74), type := 0, pos := "ref.go:15", after := #[{ on := 39, ground := Go.Ground.data }, { on := 40, ground := Go.Ground.data }, { on := 30, ground := Go.Ground.guard }], guard := some (30, false) }) rfl (by kernel_rfl) (by kernel_rfl) (by kernel_rfl) (by kernel_rfl) (fun _ _ _ h => h) (Or.inr ⟨by rfl, rfl⟩) hHeld ?_
                    (try simp only [Act.put, List.setIfInBounds_toArray, List.set_cons_zero, List.set_cons_succ])
                    refine wpAnyF_take (i := 42) (oi := { dst := some 76, op := Go.Op.load 3 (Go.Operand.tmp 75), type := 3, pos := "ref.go:15", after := #[{ on := 41, ground := Go.Ground.data }, { on := 30, ground := Go.Ground.guard }], guard := some (30, false) }) rfl (by kernel_rfl) (by kernel_rfl) (by kernel_rfl) (by kernel_rfl) (fun _ _ _ h => h) (Or.inr ⟨by rfl, rfl⟩) hHeld ?_
                    (try simp only [Act.put, List.setIfInBounds_toArray, List.set_cons_zero, List.set_cons_succ])
                    refine wpAnyF_take (i := 43) (oi := { dst := some 77, op := Go.Op.binOp Go.BinOp.add 3 (Go.Operand.tmp 71) (Go.Operand.tmp 76) 3, type := 3, pos := "ref.go:15", after := #[{ on := 37, ground := Go.Ground.data }, { on := 42, ground := Go.Ground.data }, { on := 30, ground := Go.Ground.guard }], guard := some (30, false) }) rfl (by kernel_rfl) (by kernel_rfl) (by kernel_rfl) (by kernel_rfl) (fun _ _ _ h => h) (Or.inr ⟨by rfl, rfl⟩) hHeld ?_
                    (try simp only [Act.put, List.setIfInBounds_toArray, List.set_cons_zero, List.set_cons_succ])
                    refine wpAnyF_take (i := 44) (oi := { dst := some 78, op := Go.Op.fieldAddr 55 (Go.Operand.tmp 1) 0, type := 0, pos := "ref.go:15", after := #[{ on := 30, ground := Go.Ground.guard }], guard := some (30, false) }) rfl (by kernel_rfl) (by kernel_rfl) (by kernel_rfl) (by kernel_rfl) (fun _ _ _ h => h) (Or.inr ⟨by rfl, rfl⟩) hHeld ?_
                    (try simp only [Act.put, List.setIfInBounds_toArray, List.set_cons_zero, List.set_cons_succ])
                    refine wpAnyF_take (i := 45) (oi := { dst := some 79, op := Go.Op.load 3 (Go.Operand.tmp 78), type := 3, pos := "ref.go:15", after := #[{ on := 44, ground := Go.Ground.data }, { on := 30, ground := Go.Ground.guard }], guard := some (30, false) }) rfl (by kernel_rfl) (by kernel_rfl) (by kernel_rfl) (by kernel_rfl) (fun _ _ _ h => h) (Or.inr ⟨by rfl, rfl⟩) hHeld ?_
                    (try simp only [Act.put, List.setIfInBounds_toArray, List.set_cons_zero, List.set_cons_succ])
                    refine wpAnyF_take (i := 46) (oi := { dst := some 80, op := Go.Op.binOp Go.BinOp.rem 3 (Go.Operand.tmp 77) (Go.Operand.tmp 79) 3, type := 3, pos := "ref.go:15", after := #[{ on := 43, ground := Go.Ground.data }, { on := 45, ground := Go.Ground.data }, { on := 30, ground := Go.Ground.guard }], guard := some (30, false) }) rfl (by kernel_rfl) (by kernel_rfl) (by kernel_rfl) (by kernel_rfl) (fun _ _ _ h => h) (Or.inr ⟨by rfl, rfl⟩) hHeld ?_
                    (try simp only [Act.put, List.setIfInBounds_toArray, List.set_cons_zero, List.set_cons_succ])
                    refine wpAnyF_take (i := 47) (oi := { dst := some 81, op := Go.Op.binOp Go.BinOp.neq 3 (Go.Operand.tmp 80) (Go.Operand.const (Go.Value.int Go.IntKind.i64 0)) 3, type := 4, pos := "ref.go:15", after := #[{ on := 46, ground := Go.Ground.data }, { on := 30, ground := Go.Ground.guard }], guard := some (30, false) }) rfl (by kernel_rfl) (by kernel_rfl) (by kernel_rfl) (by kernel_rfl) (fun _ _ _ h => h) (Or.inr ⟨by rfl, rfl⟩) hHeld ?_
                    (try simp only [Act.put, List.setIfInBounds_toArray, List.set_cons_zero, List.set_cons_succ])
                    refine wpAnyF_take (i := 48) (oi := { dst := some 82, op := Go.Op.pick (Go.Operand.tmp 64) (Go.Operand.const (Go.Value.bool true)) (Go.Operand.tmp 81), type := 4, pos := "ref.go:15", after := #[{ on := 30, ground := Go.Ground.data }, { on := 47, ground := Go.Ground.data }], guard := none }) (v := ?_) rfl (by kernel_rfl) (by kernel_rfl) (by kernel_rfl) (by kernel_rfl) (fun _ _ _ h => h) (Or.inl ⟨by rfl, ?_⟩) hHeld ?_
                    rotate_left
                    · intro w_ hSw_; (try dsimp only at hSw_); go_simp; (try with_reducible rfl)
                    (try simp only [Act.put, List.setIfInBounds_toArray, List.set_cons_zero, List.set_cons_succ])
                    refine wpAnyF_done (by kernel_rfl) ?_ _
                    clear hHeld
                    go_wp2
                    go_ret
                    exact ⟨by rw [HR.out] <;> rfl, by rw [hb0]; exact HB1⟩
                  · have q3b : decide (y < -999999) = false := decide_eq_false q3
                    by_cases q4 : 999999 < y
                    · have HR : Hid (okB M = false) := HNO.out (fun h => by have := h.2.2.2.1; rw [HY.out] at this; omega)
                      go_wp2_with fail
                      have V1 := V.drew
                      have cA1 : wr.drew.cell? ⟨bA, oA + r, none⟩ = some (.int .i64 x) := cA
                      have cB1 : wr.drew.cell? ⟨bB, oB + r, none⟩ = some (.int .i64 y) := cB
                      have HB1 := below_drew HB
                      generalize hWd : wr.drew = wd at *
                      refine wp_region_F (fun w' => w'.cell? ⟨b, 0, none⟩ = some (.int .i64 L1) ∧ w'.cell? ⟨b, 1, none⟩ = some (.slice (some ⟨bA, oA, none⟩) L1 c) ∧ w'.cell? ⟨b, 2, none⟩ = some (.slice (some ⟨bB, oB, none⟩) L1 c') ∧ w'.cell? ⟨bA, oA + r, none⟩ = some (.int .i64 x) ∧ w'.cell? ⟨bB, oB + r, none⟩ = some (.int .i64 y)) [] (by kernel_rfl) (by rw [hWd]; exact ⟨V1.c0, V1.c1, V1.c2, cA1, cB1⟩) (fun hHeld => ?_)
                      rw [hWd] at hHeld ⊢
                      refine wpAnyF_take (i := 0) (oi := { dst := some 34, op := Go.Op.fieldAddr 55 (Go.Operand.tmp 1) 1, type := 0, pos := "ref.go:15", after := #[], guard := none }) (v := ?_) rfl (by kernel_rfl) (by kernel_rfl) (by kernel_rfl) (by kernel_rfl) (fun _ _ _ h => h) (Or.inl ⟨by rfl, ?_⟩) hHeld ?_
                      rotate_left
                      · intro w_ hSw_; (try dsimp only at hSw_); go_simp; (try with_reducible rfl)
                      (try simp only [Act.put, List.setIfInBounds_toArray, List.set_cons_zero, List.set_cons_succ])
                      refine wpAnyF_take (i := 1) (oi := { dst := some 35, op := Go.Op.load 26 (Go.Operand.tmp 34), type := 26, pos := "ref.go:15", after := #[{ on := 0, ground := Go.Ground.data }], guard := none }) (v := ?_) rfl (by kernel_rfl) (by kernel_rfl) (by kernel_rfl) (by kernel_rfl) (fun _ _ _ h => h) (Or.inl ⟨by rfl, ?_⟩) hHeld ?_
                      rotate_left
                      · intro w_ hSw_; (try dsimp only at hSw_); go_simp; (try with_reducible rfl)
                      (try simp only [Act.put, List.setIfInBounds_toArray, List.set_cons_zero, List.set_cons_succ])
                      refine wpAnyF_take (i := 2) (oi := { dst := some 36, op := Go.Op.move (Go.Operand.tmp 3), type := 3, pos := "ref.go:15", after := #[], guard := none }) (v := ?_) rfl (by kernel_rfl) (by kernel_rfl) (by kernel_rfl) (by kernel_rfl) (fun _ _ _ h => h) (Or.inl ⟨by rfl, ?_⟩) hHeld ?_
                      rotate_left
                      · intro w_ hSw_; (try dsimp only at hSw_); go_simp; (try with_reducible rfl)
                      (try simp only [Act.put, List.setIfInBounds_toArray, List.set_cons_zero, List.set_cons_succ])
                      refine wpAnyF_take (i := 3) (oi := { dst := some 37, op := Go.Op.indexAddr 26 (Go.Operand.tmp 35) (Go.Operand.tmp 36), type := 0, pos := "ref.go:15", after := #[{ on := 1, ground := Go.Ground.data }, { on := 2, ground := Go.Ground.data }], guard := none }) (v := ?_) rfl (by kernel_rfl) (by kernel_rfl) (by kernel_rfl) (by kernel_rfl) (fun _ _ _ h => h) (Or.inl ⟨by rfl, ?_⟩) hHeld ?_
                      rotate_left
                      · intro w_ hSw_; (try dsimp only at hSw_); go_simp; (try with_reducible rfl)
                      (try simp only [Act.put, List.setIfInBounds_toArray, List.set_cons_zero, List.set_cons_succ])
                      refine wpAnyF_take (i := 4) (oi := { dst := some 38, op := Go.Op.load 3 (Go.Operand.tmp 37), type := 3, pos := "ref.go:15", after := #[{ on := 3, ground := Go.Ground.data }], guard := none }) (v := ?_) rfl (by kernel_rfl) (by kernel_rfl) (by kernel_rfl) (by kernel_rfl) (fun _ _ _ h => h) (Or.inl ⟨by rfl, ?_⟩) hHeld ?_
                      rotate_left
                      · intro w_ hSw_; (try dsimp only at hSw_); go_simp; (try with_reducible rfl)
                      (try simp only [Act.put, List.setIfInBounds_toArray, List.set_cons_zero, List.set_cons_succ])
                      refine wpAnyF_take (i := 5) (oi := { dst := some 39, op := Go.Op.binOp Go.BinOp.lss 3 (Go.Operand.tmp 38) (Go.Operand.const (Go.Value.int Go.IntKind.i64 1)) 3, type := 4, pos := "ref.go:15", after := #[{ on := 4, ground := Go.Ground.data }], guard := none }) (v := ?_) rfl (by kernel_rfl) (by kernel_rfl) (by kernel_rfl) (by kernel_rfl) (fun _ _ _ h => h) (Or.inl ⟨by rfl, ?_⟩) hHeld ?_
                      rotate_left
                      · intro w_ hSw_; (try dsimp only at hSw_); go_simp; (try with_reducible rfl)
                      (try simp only [Act.put, List.setIfInBounds_toArray, List.set_cons_zero, List.set_cons_succ])
                      refine wpAnyF_take (i := 6) (oi := { dst := some 40, op := Go.Op.move (Go.Operand.tmp 39), type := 4, pos := "ref.go:15", after := #[{ on := 5, ground := Go.Ground.data }], guard := none }) (v := ?_) rfl (by kernel_rfl) (by kernel_rfl) (by kernel_rfl) (by kernel_rfl) (fun _ _ _ h => h) (Or.inl ⟨by rfl, ?_⟩) hHeld ?_
                      rotate_left
                      · intro w_ hSw_; (try dsimp only at hSw_); go_simp; (try with_reducible rfl)
                      (try simp only [Act.put, List.setIfInBounds_toArray, List.set_cons_zero, List.set_cons_succ])
                      refine wpAnyF_take (i := 7) (oi := { dst := some 41, op := Go.Op.fieldAddr 55 (Go.Operand.tmp 1) 1, type := 0, pos := "ref.go:15", after := #[{ on := 6, ground := Go.Ground.guard }], guard := some (6, false) }) (v := ?_) rfl (by kernel_rfl) (by kernel_rfl) (by kernel_rfl) (by kernel_rfl) (fun _ _ _ h => h) (Or.inl ⟨by rfl, ?_⟩) hHeld ?_
                      rotate_left
                      · intro w_ hSw_; (try dsimp only at hSw_); go_simp; (try with_reducible rfl)
                      (try simp only [Act.put, List.setIfInBounds_toArray, List.set_cons_zero, List.set_cons_succ])
                      refine wpAnyF_take (i := 8) (oi := { dst := some 42, op := Go.Op.load 26 (Go.Operand.tmp 41), type := 26, pos := "ref.go:15", after := #[{ on := 7, ground := Go.Ground.data }, { on := 6, ground := Go.Ground.guard }], guard := some (6, false) }) (v := ?_) rfl (by kernel_rfl) (by kernel_rfl) (by kernel_rfl) (by kernel_rfl) (fun _ _ _ h => h) (Or.inl ⟨by rfl, ?_⟩) hHeld ?_
                      rotate_left
                      · intro w_ hSw_; (try dsimp only at hSw_); go_simp; (try with_reducible rfl)
                      (try simp only [Act.put, List.setIfInBounds_toArray, List.set_cons_zero, List.set_cons_succ])
                      refine wpAnyF_take (i := 9) (oi := { dst := some 43, op := Go.Op.move (Go.Operand.tmp 3), type := 3, pos := "ref.go:15", after := #[{ on := 6, ground := Go.Ground.guard }], guard := some (6, false) }) (v := ?_) rfl (by kernel_rfl) (by kernel_rfl) (by kernel_rfl) (by kernel_rfl) (fun _ _ _ h => h) (Or.inl ⟨by rfl, ?_⟩) hHeld ?_
                      rotate_left
                      · intro w_ hSw_; (try dsimp only at hSw_); go_simp; (try with_reducible rfl)
                      (try simp only [Act.put, List.setIfInBounds_toArray, List.set_cons_zero, List.set_cons_succ])
                      refine wpAnyF_take (i := 10) (oi := { dst := some 44, op := Go.Op.indexAddr 26 (Go.Operand.tmp 42) (Go.Operand.tmp 43), type := 0, pos := "ref.go:15", after := #[{ on := 8, ground := Go.Ground.data }, { on := 9, ground := Go.Ground.data }, { on := 6, ground := Go.Ground.guard }], guard := some (6, false) }) (v := ?_) rfl (by kernel_rfl) (by kernel_rfl) (by kernel_rfl) (by kernel_rfl) (fun _ _ _ h => h) (Or.inl ⟨by rfl, ?_⟩) hHeld ?_
                      rotate_left
                      · intro w_ hSw_; (try dsimp only at hSw_); go_simp; (try with_reducible rfl)
                      (try simp only [Act.put, List.setIfInBounds_toArray, List.set_cons_zero, List.set_cons_succ])
                      refine wpAnyF_take (i := 11) (oi := { dst := some 45, op := Go.Op.load 3 (Go.Operand.tmp 44), type := 3, pos := "ref.go:15", after := #[{ on := 10, ground := Go.Ground.data }, { on := 6, ground := Go.Ground.guard }], guard := some (6, false) }) (v := ?_) rfl (by kernel_rfl) (by kernel_rfl) (by kernel_rfl) (by kernel_rfl) (fun _ _ _ h => h) (Or.inl ⟨by rfl, ?_⟩) hHeld ?_
                      rotate_left
                      · intro w_ hSw_; (try dsimp only at hSw_); go_simp; (try with_reducible rfl)
                      (try simp only [Act.put, List.setIfInBounds_toArray, List.set_cons_zero, List.set_cons_succ])
                      refine wpAnyF_take (i := 12) (oi := { dst := some 46, op := Go.Op.binOp Go.BinOp.gtr 3 (Go.Operand.tmp 45) (Go.Operand.const (Go.Value.int Go.IntKind.i64 999)) 3, type := 4, pos := "ref.go:15", after := #[{ on := 11, ground := Go.Ground.data }, { on := 6, ground := Go.Ground.guard }], guard := some (6, false) }) (v := ?_) rfl (by kernel_rfl) (by kernel_rfl) (by kernel_rfl) (by kernel_rfl) (fun _ _ _ h => h) (Or.inl ⟨by rfl, ?_⟩) hHeld ?_
                      rotate_left
                      · intro w_ hSw_; (try dsimp only at hSw_); go_simp; (try with_reducible rfl)
                      (try simp only [Act.put, List.setIfInBounds_toArray, List.set_cons_zero, List.set_cons_succ])
                      refine wpAnyF_take (i := 13) (oi := { dst := some 47, op := Go.Op.pick (Go.Operand.tmp 40) (Go.Operand.const (Go.Value.bool true)) (Go.Operand.tmp 46), type := 4, pos := "ref.go:15", after := #[{ on := 6, ground := Go.Ground.data }, { on := 12, ground := Go.Ground.data }], guard := none }) (v := ?_) rfl (by kernel_rfl) (by kernel_rfl) (by kernel_rfl) (by kernel_rfl) (fun _ _ _ h => h) (Or.inl ⟨by rfl, ?_⟩) hHeld ?_
                      rotate_left
                      · intro w_ hSw_; (try dsimp only at hSw_); go_simp; (try with_reducible rfl)
                      (try simp only [Act.put, List.setIfInBounds_toArray, List.set_cons_zero, List.set_cons_succ])
                      refine wpAnyF_take (i := 14) (oi := { dst := some 48, op := Go.Op.move (Go.Operand.tmp 47), type := 4, pos := "ref.go:15", after := #[{ on := 13, ground := Go.Ground.data }, { on := 6, ground := Go.Ground.chain }], guard := none }) (v := ?_) rfl (by kernel_rfl) (by kernel_rfl) (by kernel_rfl) (by kernel_rfl) (fun _ _ _ h => h) (Or.inl ⟨by rfl, ?_⟩) hHeld ?_
                      rotate_left
                      · intro w_ hSw_; (try dsimp only at hSw_); go_simp; (try with_reducible rfl)
                      (try simp only [Act.put, List.setIfInBounds_toArray, List.set_cons_zero, List.set_cons_succ])
                      refine wpAnyF_take (i := 15) (oi := { dst := some 49, op := Go.Op.fieldAddr 55 (Go.Operand.tmp 1) 2, type := 0, pos := "ref.go:15", after := #[{ on := 14, ground := Go.Ground.guard }], guard := some (14, false) }) (v := ?_) rfl (by kernel_rfl) (by kernel_rfl) (by kernel_rfl) (by kernel_rfl) (fun _ _ _ h => h) (Or.inl ⟨by rfl, ?_⟩) hHeld ?_
                      rotate_left
                      · intro w_ hSw_; (try dsimp only at hSw_); go_simp; (try with_reducible rfl)
                      (try simp only [Act.put, List.setIfInBounds_toArray, List.set_cons_zero, List.set_cons_succ])
                      refine wpAnyF_take (i := 16) (oi := { dst := some 50, op := Go.Op.load 26 (Go.Operand.tmp 49), type := 26, pos := "ref.go:15", after := #[{ on := 15, ground := Go.Ground.data }, { on := 14, ground := Go.Ground.guard }], guard := some (14, false) }) (v := ?_) rfl (by kernel_rfl) (by kernel_rfl) (by kernel_rfl) (by kernel_rfl) (fun _ _ _ h => h) (Or.inl ⟨by rfl, ?_⟩) hHeld ?_
                      rotate_left
                      · intro w_ hSw_; (try dsimp only at hSw_); go_simp; (try with_reducible rfl)
                      (try simp only [Act.put, List.setIfInBounds_toArray, List.set_cons_zero, List.set_cons_succ])
                      refine wpAnyF_take (i := 17) (oi := { dst := some 51, op := Go.Op.move (Go.Operand.tmp 3), type := 3, pos := "ref.go:15", after := #[{ on := 14, ground := Go.Ground.guard }], guard := some (14, false) }) (v := ?_) rfl (by kernel_rfl) (by kernel_rfl) (by kernel_rfl) (by kernel_rfl) (fun _ _ _ h => h) (Or.inl ⟨by rfl, ?_⟩) hHeld ?_
                      rotate_left
                      · intro w_ hSw_; (try dsimp only at hSw_); go_simp; (try with_reducible rfl)
                      (try simp only [Act.put, List.setIfInBounds_toArray, List.set_cons_zero, List.set_cons_succ])
                      refine wpAnyF_take (i := 18) (oi := { dst := some 52, op := Go.Op.indexAddr 26 (Go.Operand.tmp 50) (Go.Operand.tmp 51), type := 0, pos := "ref.go:15", after := #[{ on := 16, ground := Go.Ground.data }, { on := 17, ground := Go.Ground.data }, { on := 14, ground := Go.Ground.guard }], guard := some (14, false) }) (v := ?_) rfl (by kernel_rfl) (by kernel_rfl) (by kernel_rfl) (by kernel_rfl) (fun _ _ _ h => h) (Or.inl ⟨by rfl, ?_⟩) hHeld ?_
                      rotate_left
                      · intro w_ hSw_; (try dsimp only at hSw_); go_simp; (try with_reducible rfl)
                      (try simp only [Act.put, List.setIfInBounds_toArray, List.set_cons_zero, List.set_cons_succ])
                      refine wpAnyF_take (i := 19) (oi := { dst := some 53, op := Go.Op.load 3 (Go.Operand.tmp 52), type := 3, pos := "ref.go:15", after := #[{ on := 18, ground := Go.Ground.data }, { on := 14, ground := Go.Ground.guard }], guard := some (14, false) }) (v := ?_) rfl (by kernel_rfl) (by kernel_rfl) (by kernel_rfl) (by kernel_rfl) (fun _ _ _ h => h) (Or.inl ⟨by rfl, ?_⟩) hHeld ?_
                      rotate_left
                      · intro w_ hSw_; (try dsimp only at hSw_); go_simp; (try with_reducible rfl)
                      (try simp only [Act.put, List.setIfInBounds_toArray, List.set_cons_zero, List.set_cons_succ])
                      refine wpAnyF_take (i := 20) (oi := { dst := some 54, op := Go.Op.binOp Go.BinOp.lss 3 (Go.Operand.tmp 53) (Go.Operand.const (Go.Value.int Go.IntKind.i64 (-999999))) 3, type := 4, pos := "ref.go:15", after := #[{ on := 19, ground := Go.Ground.data }, { on := 14, ground := Go.Ground.guard }], guard := some (14, false) }) (v := ?_) rfl (by kernel_rfl) (by kernel_rfl) (by kernel_rfl) (by kernel_rfl) (fun _ _ _ h => h) (Or.inl ⟨by rfl, ?_⟩) hHeld ?_
                      rotate_left
                      · intro w_ hSw_; (try dsimp only at hSw_); go_simp; (try with_reducible rfl)
                      (try simp only [Act.put, List.setIfInBounds_toArray, List.set_cons_zero, List.set_cons_succ])
                      refine wpAnyF_take (i := 21) (oi := { dst := some 55, op := Go.Op.pick (Go.Operand.tmp 48) (Go.Operand.const (Go.Value.bool true)) (Go.Operand.tmp 54), type := 4, pos := "ref.go:15", after := #[{ on := 14, ground := Go.Ground.data }, { on := 20, ground := Go.Ground.data }], guard := none }) (v := ?_) rfl (by kernel_rfl) (by kernel_rfl) (by kernel_rfl) (by kernel_rfl) (fun _ _ _ h => h) (Or.inl ⟨by rfl, ?_⟩) hHeld ?_
                      rotate_left
                      · intro w_ hSw_; (try dsimp only at hSw_); go_simp; (try with_reducible rfl)
                      (try simp only [Act.put, List.setIfInBounds_toArray, List.set_cons_zero, List.set_cons_succ])
                      refine wpAnyF_take (i := 22) (oi := { dst := some 56, op := Go.Op.move (Go.Operand.tmp 55), type := 4, pos := "ref.go:15", after := #[{ on := 21, ground := Go.Ground.data }, { on := 14, ground := Go.Ground.chain }], guard := none }) (v := ?_) rfl (by kernel_rfl) (by kernel_rfl) (by kernel_rfl) (by kernel_rfl) (fun _ _ _ h => h) (Or.inl ⟨by rfl, ?_⟩) hHeld ?_
                      rotate_left
                      · intro w_ hSw_; (try dsimp only at hSw_); go_simp; (try with_reducible rfl)
                      (try simp only [Act.put, List.setIfInBounds_toArray, List.set_cons_zero, List.set_cons_succ])
                      refine wpAnyF_take (i := 23) (oi := { dst := some 57, op := Go.Op.fieldAddr 55 (Go.Operand.tmp 1) 2, type := 0, pos := "ref.go:15", after := #[{ on := 22, ground := Go.Ground.guard }], guard := some (22, false) }) (v := ?_) rfl (by kernel_rfl) (by kernel_rfl) (by kernel_rfl) (by kernel_rfl) (fun _ _ _ h => h) (Or.inl ⟨by rfl, ?_⟩) hHeld ?_
                      rotate_left
                      · intro w_ hSw_; (try dsimp only at hSw_); go_simp; (try with_reducible rfl)
                      (try simp only [Act.put, List.setIfInBounds_toArray, List.set_cons_zero, List.set_cons_succ])
                      refine wpAnyF_take (i := 24) (oi := { dst := some 58, op := Go.Op.load 26 (Go.Operand.tmp 57), type := 26, pos := "ref.go:15", after := #[{ on := 23, ground := Go.Ground.data }, { on := 22, ground := Go.Ground.guard }], guard := some (22, false) }) (v := ?_) rfl (by kernel_rfl) (by kernel_rfl) (by kernel_rfl) (by kernel_rfl) (fun _ _ _ h => h) (Or.inl ⟨by rfl, ?_⟩) hHeld ?_
                      rotate_left
                      · intro w_ hSw_; (try dsimp only at hSw_); go_simp; (try with_reducible rfl)
                      (try simp only [Act.put, List.setIfInBounds_toArray, List.set_cons_zero, List.set_cons_succ])
                      refine wpAnyF_take (i := 25) (oi := { dst := some 59, op := Go.Op.move (Go.Operand.tmp 3), type := 3, pos := "ref.go:15", after := #[{ on := 22, ground := Go.Ground.guard }], guard := some (22, false) }) (v := ?_) rfl (by kernel_rfl) (by kernel_rfl) (by kernel_rfl) (by kernel_rfl) (fun _ _ _ h => h) (Or.inl ⟨by rfl, ?_⟩) hHeld ?_
                      rotate_left
                      · intro w_ hSw_; (try dsimp only at hSw_); go_simp; (try with_reducible rfl)
                      (try simp only [Act.put, List.setIfInBounds_toArray, List.set_cons_zero, List.set_cons_succ])
                      refine wpAnyF_take (i := 26) (oi := { dst := some 60, op := Go.Op.indexAddr 26 (Go.Operand.tmp 58) (Go.Operand.tmp 59), type := 0, pos := "ref.go:15", after := #[{ on := 24, ground := Go.Ground.data }, { on := 25, ground := Go.Ground.data }, { on := 22, ground := Go.Ground.guard }], guard := some (22, false) }) (v := ?_) rfl (by kernel_rfl) (by kernel_rfl) (by kernel_rfl) (by kernel_rfl) (fun _ _ _ h => h) (Or.inl ⟨by rfl, ?_⟩) hHeld ?_
                      rotate_left
                      · intro w_ hSw_; (try dsimp only at hSw_); go_simp; (try with_reducible rfl)
                      (try simp only [Act.put, List.setIfInBounds_toArray, List.set_cons_zero, List.set_cons_succ])
                      refine wpAnyF_take (i := 27) (oi := { dst := some 61, op := Go.Op.load 3 (Go.Operand.tmp 60), type := 3, pos := "ref.go:15", after := #[{ on := 26, ground := Go.Ground.data }, { on := 22, ground := Go.Ground.guard }], guard := some (22, false) }) (v := ?_) rfl (by kernel_rfl) (by kernel_rfl) (by kernel_rfl) (by kernel_rfl) (fun _ _ _ h => h) (Or.inl ⟨by rfl, ?_⟩) hHeld ?_
                      rotate_left
                      · intro w_ hSw_; (try dsimp only at hSw_); go_simp; (try with_reducible rfl)
                      (try simp only [Act.put, List.setIfInBounds_toArray, List.set_cons_zero, List.set_cons_succ])
                      refine wpAnyF_take (i := 28) (oi := { dst := some 62, op := Go.Op.binOp Go.BinOp.gtr 3 (Go.Operand.tmp 61) (Go.Operand.const (Go.Value.int Go.IntKind.i64 999999)) 3, type := 4, pos := "ref.go:15", after := #[{ on := 27, ground := Go.Ground.data }, { on := 22, ground := Go.Ground.guard }], guard := some (22, false) }) (v := ?_) rfl (by kernel_rfl) (by kernel_rfl) (by kernel_rfl) (by kernel_rfl) (fun _ _ _ h => h) (Or.inl ⟨by rfl, ?_⟩) hHeld ?_
                      rotate_left
                      · intro w_ hSw_; (try dsimp only at hSw_); go_simp; (try with_reducible rfl)
                      (try simp only [Act.put, List.setIfInBounds_toArray, List.set_cons_zero, List.set_cons_succ])
                      refine wpAnyF_take (i := 29) (oi := { dst := some 63, op := Go.Op.pick (Go.Operand.tmp 56) (Go.Operand.const (Go.Value.bool true)) (Go.Operand.tmp 62), type := 4, pos := "ref.go:15", after := #[{ on := 22, ground := Go.Ground.data }, { on := 28, ground := Go.Ground.data }], guard := none }) (v := ?_) rfl (by kernel_rfl) (by kernel_rfl) (by kernel_rfl) (by kernel_rfl) (fun _ _ _ h => h) (Or.inl ⟨by rfl, ?_⟩) hHeld ?_
                      rotate_left
                      · intro w_ hSw_; (try dsimp only at hSw_); go_simp; (try with_reducible rfl)
                      (try simp only [Act.put, List.setIfInBounds_toArray, List.set_cons_zero, List.set_cons_succ])
                      refine wpAnyF_take (i := 30) (oi := { dst := some 64, op := Go.Op.move (Go.Operand.tmp 63), type := 4, pos := "ref.go:15", after := #[{ on := 29, ground := Go.Ground.data }, { on := 22, ground := Go.Ground.chain }], guard := none }) (v := ?_) rfl (by kernel_rfl) (by kernel_rfl) (by kernel_rfl) (by kernel_rfl) (fun _ _ _ h => h) (Or.inl ⟨by rfl, ?_⟩) hHeld ?_
                      rotate_left
                      · intro w_ hSw_; (try dsimp only at hSw_); go_simp; (try with_reducible rfl)
                      (try simp only [Act.put, List.setIfInBounds_toArray, List.set_cons_zero, List.set_cons_succ])
                      refine wpAnyF_take (i := 31) (oi := { dst := some 65, op := Go.Op.fieldAddr 55 (Go.Operand.tmp 1) 1, type := 0, pos := "ref.go:15", after := #[{ on := 30, ground := Go.Ground.guard }], guard := some (30, false) }) rfl (by kernel_rfl) (by kernel_rfl) (by kernel_rfl) (by kernel_rfl) (fun _ _ _ h => h) (Or.inr ⟨by rfl, rfl⟩) hHeld ?_
                      (try simp only [Act.put, List.setIfInBounds_toArray, List.set_cons_zero, List.set_cons_succ])
                      refine wpAnyF_take (i := 32) (oi := { dst := some 66, op := Go.Op.load 26 (Go.Operand.tmp 65), type := 26, pos := "ref.go:15", after := #[{ on := 31, ground := Go.Ground.data }, { on := 30, ground := Go.Ground.guard }], guard := some (30, false) }) rfl (by kernel_rfl) (by kernel_rfl) (by kernel_rfl) (by kernel_rfl) (fun _ _ _ h => h) (Or.inr ⟨by rfl, rfl⟩) hHeld ?_
                      (try simp only [Act.put, List.setIfInBounds_toArray, List.set_cons_zero, List.set_cons_succ])
                      refine wpAnyF_take (i := 33) (oi := { dst := some 67, op := Go.Op.move (Go.Operand.tmp 3), type := 3, pos := "ref.go:15", after := #[{ on := 30, ground := Go.Ground.guard }], guard := some (30, false) }) rfl (by kernel_rfl) (by kernel_rfl) (by kernel_rfl) (by kernel_rfl) (fun _ _ _ h => h) (Or.inr ⟨by rfl, rfl⟩) hHeld ?_
                      (try simp only [Act.put, List.setIfInBounds_toArray, List.set_cons_zero, List.set_cons_succ])
                      refine wpAnyF_take (i := 34) (oi := { dst := some 68, op := Go.Op.indexAddr 26 (Go.Operand.tmp 66) (Go.Operand.tmp 67), type := 0, pos := "ref.go:15", after := #[{ on := 32, ground := Go.Ground.data }, { on := 33, ground := Go.Ground.data }, { on := 30, ground := Go.Ground.guard }], guard := some (30, false) }) rfl (by kernel_rfl) (by kernel_rfl) (by kernel_rfl) (by kernel_rfl) (fun _ _ _ h => h) (Or.inr ⟨by rfl, rfl⟩) hHeld ?_
                      (try simp only [Act.put, List.setIfInBounds_toArray, List.set_cons_zero, List.set_cons_succ])
                      refine wpAnyF_take (i := 35) (oi := { dst := some 69, op := Go.Op.load 3 (Go.Operand.tmp 68), type := 3, pos := "ref.go:15", after := #[{ on := 34, ground := Go.Ground.data }, { on := 30, ground := Go.Ground.guard }], guard := some (30, false) }) rfl (by kernel_rfl) (by kernel_rfl) (by kernel_rfl) (by kernel_rfl) (fun _ _ _ h => h) (Or.inr ⟨by rfl, rfl⟩) hHeld ?_
                      (try simp only [Act.put, List.setIfInBounds_toArray, List.set_cons_zero, List.set_cons_succ])
                      refine wpAnyF_take (i := 36) (oi := { dst := some 70, op := Go.Op.move (Go.Operand.tmp 3), type := 3, pos := "ref.go:15", after := #[{ on := 30, ground := Go.Ground.guard }], guard := some (30, false) }) rfl (by kernel_rfl) (by kernel_rfl) (by kernel_rfl) (by kernel_rfl) (fun _ _ _ h => h) (Or.inr ⟨by rfl, rfl⟩) hHeld ?_
                      (try simp only [Act.put, List.setIfInBounds_toArray, List.set_cons_zero, List.set_cons_succ])
                      refine wpAnyF_take (i := 37) (oi := { dst := some 71, op := Go.Op.binOp Go.BinOp.mul 3 (Go.Operand.tmp 69) (Go.Operand.tmp 70) 3, type := 3, pos := "ref.go:15", after := #[{ on := 35, ground := Go.Ground.data }, { on := 36, ground := Go.Ground.data }, { on := 30, ground := Go.Ground.guard }], guard := some (30, false) }) rfl (by kernel_rfl) (by kernel_rfl) (by kernel_rfl) (by kernel_rfl) (fun _ _ _ h => h) (Or.inr ⟨by rfl, rfl⟩) hHeld ?_
                      (try simp only [Act.put, List.setIfInBounds_toArray, List.set_cons_zero, List.set_cons_succ])
                      refine wpAnyF_take (i := 38) (oi := { dst := some 72, op := Go.Op.fieldAddr 55 (Go.Operand.tmp 1) 2, type := 0, pos := "ref.go:15", after := #[{ on := 30, ground := Go.Ground.guard }], guard := some (30, false) }) rfl (by kernel_rfl) (by kernel_rfl) (by kernel_rfl) (by kernel_rfl) (fun _ _ _ h => h) (Or.inr ⟨by rfl, rfl⟩) hHeld ?_
                      (try simp only [Act.put, List.setIfInBounds_toArray, List.set_cons_zero, List.set_cons_succ])
                      refine wpAnyF_take (i := 39) (oi := { dst := some 73, op := Go.Op.load 26 (Go.Operand.tmp 72), type := 26, pos := "ref.go:15", after := #[{ on := 38, ground := Go.Ground.data }, { on := 30, ground := Go.Ground.guard }], guard := some (30, false) }) rfl (by kernel_rfl) (by kernel_rfl) (by kernel_rfl) (by kernel_rfl) (fun _ _ _ h => h) (Or.inr ⟨by rfl, rfl⟩) hHeld ?_
                      (try simp only [Act.put, List.setIfInBounds_toArray, List.set_cons_zero, List.set_cons_succ])
                      refine wpAnyF_take (i := 40) (oi := { dst := some 74, op := Go.Op.move (Go.Operand.tmp 3), type := 3, pos := "ref.go:15", after := #[{ on := 30, ground := Go.Ground.guard }], guard := some (30, false) }) rfl (by kernel_rfl) (by kernel_rfl) (by kernel_rfl) (by kernel_rfl) (fun _ _ _ h => h) (Or.inr ⟨by rfl, rfl⟩) hHeld ?_
                      (try simp only [Act.put, List.setIfInBounds_toArray, List.set_cons_zero, List.set_cons_succ])
                      refine wpAnyF_take (i := 41) (oi := { dst := some 75, op := Go.Op.indexAddr 26 (Go.Operand.tmp 73) (Go.Operand.tmp 74), type := 0, pos := "ref.go:15", after := #[{ on := 39, ground := Go.Ground.data }, { on := 40, ground := Go.Ground.data }, { on := 30, ground := Go.Ground.guard }], guard := some (30, false) }) rfl (by kernel_rfl) (by kernel_rfl) (by kernel_rfl) (by kernel_rfl) (fun _ _ _ h => h) (Or.inr ⟨by rfl, rfl⟩) hHeld ?_
                      (try simp only [Act.put, List.setIfInBounds_toArray, List.set_cons_zero, List.set_cons_succ])
                      refine wpAnyF_take (i := 42) (oi := { dst := some 76, op := Go.Op.load 3 (Go.Operand.tmp 75), type := 3, pos := "ref.go:15", after := #[{ on := 41, ground := Go.Ground.data }, { on := 30, ground := Go.Ground.guard }], guard := some (30, false) }) rfl (by kernel_rfl) (by kernel_rfl) (by kernel_rfl) (by kernel_rfl) (fun _ _ _ h => h) (Or.inr ⟨by rfl, rfl⟩) hHeld ?_
                      (try simp only [Act.put, List.setIfInBounds_toArray, List.set_cons_zero, List.set_cons_succ])
                      refine wpAnyF_take (i := 43) (oi := { dst := some 77, op := Go.Op.binOp Go.BinOp.add 3 (Go.Operand.tmp 71) (Go.Operand.tmp 76) 3, type := 3, pos := "ref.go:15", after := #[{ on := 37, ground := Go.Ground.data }, { on := 42, ground := Go.Ground.data }, { on := 30, ground := Go.Ground.guard }], guard := some (30, false) }) rfl (by kernel_rfl) (by kernel_rfl) (by kernel_rfl) (by kernel_rfl) (fun _ _ _ h => h) (Or.inr ⟨by rfl, rfl⟩) hHeld ?_
                      (try simp only [Act.put, List.setIfInBounds_toArray, List.set_cons_zero, List.set_cons_succ])
                      refine wpAnyF_take (i := 44) (oi := { dst := some 78, op := Go.Op.fieldAddr 55 (Go.Operand.tmp 1) 0, type := 0, pos := "ref.go:15", after := #[{ on := 30, ground := Go.Ground.guard }], guard := some (30, false) }) rfl (by kernel_rfl) (by kernel_rfl) (by kernel_rfl) (by kernel_rfl) (fun _ _ _ h => h) (Or.inr ⟨by rfl, rfl⟩) hHeld ?_
                      (try simp only [Act.put, List.setIfInBounds_toArray, List.set_cons_zero, List.set_cons_succ])
                      refine wpAnyF_take (i := 45) (oi := { dst := some 79, op := Go.Op.load 3 (Go.Operand.tmp 78), type := 3, pos := "ref.go:15", after := #[{ on := 44, ground := Go.Ground.data }, { on := 30, ground := Go.Ground.guard }], guard := some (30, false) }) rfl (by kernel_rfl) (by kernel_rfl) (by kernel_rfl) (by kernel_rfl) (fun _ _ _ h => h) (Or.inr ⟨by rfl, rfl⟩) hHeld ?_
                      (try simp only [Act.put, List.setIfInBounds_toArray, List.set_cons_zero, List.set_cons_succ])
                      refine wpAnyF_take (i := 46) (oi := { dst := some 80, op := Go.Op.binOp Go.BinOp.rem 3 (Go.Operand.tmp 77) (Go.Operand.tmp 79) 3, type := 3, pos := "ref.go:15", after := #[{ on := 43, ground := Go.Ground.data }, { on := 45, ground := Go.Ground.data }, { on := 30, ground := Go.Ground.guard }], guard := some (30, false) }) rfl (by kernel_rfl) (by kernel_rfl) (by kernel_rfl) (by kernel_rfl) (fun _ _ _ h => h) (Or.inr ⟨by rfl, rfl⟩) hHeld ?_
                      (try simp only [Act.put, List.setIfInBounds_toArray, List.set_cons_zero, List.set_cons_succ])
                      refine wpAnyF_take (i := 47) (oi := { dst := some 81, op := Go.Op.binOp Go.BinOp.neq 3 (Go.Operand.tmp 80) (Go.Operand.const (Go.Value.int Go.IntKind.i64 0)) 3, type := 4, pos := "ref.go:15", after := #[{ on := 46, ground := Go.Ground.data }, { on := 30, ground := Go.Ground.guard }], guard := some (30, false) }) rfl (by kernel_rfl) (by kernel_rfl) (by kernel_rfl) (by kernel_rfl) (fun _ _ _ h => h) (Or.inr ⟨by rfl, rfl⟩) hHeld ?_
                      (try simp only [Act.put, List.setIfInBounds_toArray, List.set_cons_zero, List.set_cons_succ])
                      refine wpAnyF_take (i := 48) (oi := { dst := some 82, op := Go.Op.pick (Go.Operand.tmp 64) (Go.Operand.const (Go.Value.bool true)) (Go.Operand.tmp 81), type := 4, pos := "ref.go:15", after := #[{ on := 30, ground := Go.Ground.data }, { on := 47, ground := Go.Ground.data }], guard := none }) (v := ?_) rfl (by kernel_rfl) (by kernel_rfl) (by kernel_rfl) (by kernel_rfl) (fun _ _ _ h => h) (Or.inl ⟨by rfl, ?_⟩) hHeld ?_
                      rotate_left
                      · intro w_ hSw_; (try dsimp only at hSw_); go_simp; (try with_reducible rfl)
                      (try simp only [Act.put, List.setIfInBounds_toArray, List.set_cons_zero, List.set_cons_succ])
                      refine wpAnyF_done (by kernel_rfl) ?_ _
                      clear hHeld
                      go_wp2
                      go_ret
                      exact ⟨by rw [HR.out] <;> rfl, by rw [hb0]; exact HB1⟩
                    · have q4b : decide (999999 < y) = false := decide_eq_false q4
                      have p0 : 0 ≤ x * (r : Int) := Int.mul_nonneg (by omega) hi0
                      have p1 : x * (r : Int) ≤ 999 * 12 := Int.mul_le_mul (by omega) (by omega) hi0 (by omega)
                      obtain ⟨p, hp⟩ : ∃ p, x * (r : Int) = p := ⟨_, rfl⟩
                      rw [hp] at p0 p1
                      obtain ⟨t, ht⟩ : ∃ t, (p + y).tmod (L1 : Int) = t := ⟨_, rfl⟩
                      have HT : Hid (okR M r ↔ t = 0) := by
                        show _ ↔ _
                        unfold okR
                        rw [HX.out, HY.out, hp, ← ht, tmod_zero, ← V.sl.1]
                        exact ⟨fun h => h.2.2.2.2, fun h => ⟨by omega, by omega, by omega, by omega, h⟩⟩
                      have n0 : ¬ L1 = 0 := by omega
                      have hw1 : IntKind.i64.wrap p = p := by rw [IntKind.wrap_i64]; omega
                      have hw2 : IntKind.i64.wrap (p + y) = p + y := by rw [IntKind.wrap_i64]; omega
                      by_cases q5 : t = 0
                      · have HOK := Lib.hid (HT.out.2 q5)
                        have q5b : (t == 0) = true := by simpa using q5
                        clear q5
                        go_wp2_with fail
                        have V1 := V.drew
                        have cA1 : wr.drew.cell? ⟨bA, oA + r, none⟩ = some (.int .i64 x) := cA
                        have cB1 : wr.drew.cell? ⟨bB, oB + r, none⟩ = some (.int .i64 y) := cB
                        have HB1 := below_drew HB
                        generalize hWd : wr.drew = wd at *
                        refine wp_region_F (fun w' => w'.cell? ⟨b, 0, none⟩ = some (.int .i64 L1) ∧ w'.cell? ⟨b, 1, none⟩ = some (.slice (some ⟨bA, oA, none⟩) L1 c) ∧ w'.cell? ⟨b, 2, none⟩ = some (.slice (some ⟨bB, oB, none⟩) L1 c') ∧ w'.cell? ⟨bA, oA + r, none⟩ = some (.int .i64 x) ∧ w'.cell? ⟨bB, oB + r, none⟩ = some (.int .i64 y)) [] (by kernel_rfl) (by rw [hWd]; exact ⟨V1.c0, V1.c1, V1.c2, cA1, cB1⟩) (fun hHeld => ?_)
                        rw [hWd] at hHeld ⊢
                        refine wpAnyF_take (i := 0) (oi := { dst := some 34, op := Go.Op.fieldAddr 55 (Go.Operand.tmp 1) 1, type := 0, pos := "ref.go:15", after := #[], guard := none }) (v := ?_) rfl (by kernel_rfl) (by kernel_rfl) (by kernel_rfl) (by kernel_rfl) (fun _ _ _ h => h) (Or.inl ⟨by rfl, ?_⟩) hHeld ?_
                        rotate_left
                        · intro w_ hSw_; (try dsimp only at hSw_); go_simp; (try with_reducible rfl)
                        (try simp only [Act.put, List.setIfInBounds_toArray, List.set_cons_zero, List.set_cons_succ])
                        refine wpAnyF_take (i := 1) (oi := { dst := some 35, op := Go.Op.load 26 (Go.Operand.tmp 34), type := 26, pos := "ref.go:15", after := #[{ on := 0, ground := Go.Ground.data }], guard := none }) (v := ?_) rfl (by kernel_rfl) (by kernel_rfl) (by kernel_rfl) (by kernel_rfl) (fun _ _ _ h => h) (Or.inl ⟨by rfl, ?_⟩) hHeld ?_
                        rotate_left
                        · intro w_ hSw_; (try dsimp only at hSw_); go_simp; (try with_reducible rfl)
                        (try simp only [Act.put, List.setIfInBounds_toArray, List.set_cons_zero, List.set_cons_succ])
                        refine wpAnyF_take (i := 2) (oi := { dst := some 36, op := Go.Op.move (Go.Operand.tmp 3), type := 3, pos := "ref.go:15", after := #[], guard := none }) (v := ?_) rfl (by kernel_rfl) (by kernel_rfl) (by kernel_rfl) (by kernel_rfl) (fun _ _ _ h => h) (Or.inl ⟨by rfl, ?_⟩) hHeld ?_
                        rotate_left
                        · intro w_ hSw_; (try dsimp only at hSw_); go_simp; (try with_reducible rfl)
                        (try simp only [Act.put, List.setIfInBounds_toArray, List.set_cons_zero, List.set_cons_succ])
                        refine wpAnyF_take (i := 3) (oi := { dst := some 37, op := Go.Op.indexAddr 26 (Go.Operand.tmp 35) (Go.Operand.tmp 36), type := 0, pos := "ref.go:15", after := #[{ on := 1, ground := Go.Ground.data }, { on := 2, ground := Go.Ground.data }], guard := none }) (v := ?_) rfl (by kernel_rfl) (by kernel_rfl) (by kernel_rfl) (by kernel_rfl) (fun _ _ _ h => h) (Or.inl ⟨by rfl, ?_⟩) hHeld ?_
                        rotate_left
                        · intro w_ hSw_; (try dsimp only at hSw_); go_simp; (try with_reducible rfl)
                        (try simp only [Act.put, List.setIfInBounds_toArray, List.set_cons_zero, List.set_cons_succ])
                        refine wpAnyF_take (i := 4) (oi := { dst := some 38, op := Go.Op.load 3 (Go.Operand.tmp 37), type := 3, pos := "ref.go:15", after := #[{ on := 3, ground := Go.Ground.data }], guard := none }) (v := ?_) rfl (by kernel_rfl) (by kernel_rfl) (by kernel_rfl) (by kernel_rfl) (fun _ _ _ h => h) (Or.inl ⟨by rfl, ?_⟩) hHeld ?_
                        rotate_left
                        · intro w_ hSw_; (try dsimp only at hSw_); go_simp; (try with_reducible rfl)
                        (try simp only [Act.put, List.setIfInBounds_toArray, List.set_cons_zero, List.set_cons_succ])
                        refine wpAnyF_take (i := 5) (oi := { dst := some 39, op := Go.Op.binOp Go.BinOp.lss 3 (Go.Operand.tmp 38) (Go.Operand.const (Go.Value.int Go.IntKind.i64 1)) 3, type := 4, pos := "ref.go:15", after := #[{ on := 4, ground := Go.Ground.data }], guard := none }) (v := ?_) rfl (by kernel_rfl) (by kernel_rfl) (by kernel_rfl) (by kernel_rfl) (fun _ _ _ h => h) (Or.inl ⟨by rfl, ?_⟩) hHeld ?_
                        rotate_left
                        · intro w_ hSw_; (try dsimp only at hSw_); go_simp; (try with_reducible rfl)
                        (try simp only [Act.put, List.setIfInBounds_toArray, List.set_cons_zero, List.set_cons_succ])
                        refine wpAnyF_take (i := 6) (oi := { dst := some 40, op := Go.Op.move (Go.Operand.tmp 39), type := 4, pos := "ref.go:15", after := #[{ on := 5, ground := Go.Ground.data }], guard := none }) (v := ?_) rfl (by kernel_rfl) (by kernel_rfl) (by kernel_rfl) (by kernel_rfl) (fun _ _ _ h => h) (Or.inl ⟨by rfl, ?_⟩) hHeld ?_
                        rotate_left
                        · intro w_ hSw_; (try dsimp only at hSw_); go_simp; (try with_reducible rfl)
                        (try simp only [Act.put, List.setIfInBounds_toArray, List.set_cons_zero, List.set_cons_succ])
                        refine wpAnyF_take (i := 7) (oi := { dst := some 41, op := Go.Op.fieldAddr 55 (Go.Operand.tmp 1) 1, type := 0, pos := "ref.go:15", after := #[{ on := 6, ground := Go.Ground.guard }], guard := some (6, false) }) (v := ?_) rfl (by kernel_rfl) (by kernel_rfl) (by kernel_rfl) (by kernel_rfl) (fun _ _ _ h => h) (Or.inl ⟨by rfl, ?_⟩) hHeld ?_
                        rotate_left
                        · intro w_ hSw_; (try dsimp only at hSw_); go_simp; (try with_reducible rfl)
                        (try simp only [Act.put, List.setIfInBounds_toArray, List.set_cons_zero, List.set_cons_succ])
                        refine wpAnyF_take (i := 8) (oi := { dst := some 42, op := Go.Op.load 26 (Go.Operand.tmp 41), type := 26, pos := "ref.go:15", after := #[{ on := 7, ground := Go.Ground.data }, { on := 6, ground := Go.Ground.guard }], guard := some (6, false) }) (v := ?_) rfl (by kernel_rfl) (by kernel_rfl) (by kernel_rfl) (by kernel_rfl) (fun _ _ _ h => h) (Or.inl ⟨by rfl, ?_⟩) hHeld ?_
                        rotate_left
                        · intro w_ hSw_; (try dsimp only at hSw_); go_simp; (try with_reducible rfl)
                        (try simp only [Act.put, List.setIfInBounds_toArray, List.set_cons_zero, List.set_cons_succ])
                        refine wpAnyF_take (i := 9) (oi := { dst := some 43, op := Go.Op.move (Go.Operand.tmp 3), type := 3, pos := "ref.go:15", after := #[{ on := 6, ground := Go.Ground.guard }], guard := some (6, false) }) (v := ?_) rfl (by kernel_rfl) (by kernel_rfl) (by kernel_rfl) (by kernel_rfl) (fun _ _ _ h => h) (Or.inl ⟨by rfl, ?_⟩) hHeld ?_
                        rotate_left
                        · intro w_ hSw_; (try dsimp only at hSw_); go_simp; (try with_reducible rfl)
                        (try simp only [Act.put, List.setIfInBounds_toArray, List.set_cons_zero, List.set_cons_succ])
                        refine wpAnyF_take (i := 10) (oi := { dst := some 44, op := Go.Op.indexAddr 26 (Go.Operand.tmp 42) (Go.Operand.tmp 43), type := 0, pos := "ref.go:15", after := #[{ on := 8, ground := Go.Ground.data }, { on := 9, ground := Go.Ground.data }, { on := 6, ground := Go.Ground.guard }], guard := some (6, false) }) (v := ?_) rfl (by kernel_rfl) (by kernel_rfl) (by kernel_rfl) (by kernel_rfl) (fun _ _ _ h => h) (Or.inl ⟨by rfl, ?_⟩) hHeld ?_
                        rotate_left
                        · intro w_ hSw_; (try dsimp only at hSw_); go_simp; (try with_reducible rfl)
                        (try simp only [Act.put, List.setIfInBounds_toArray, List.set_cons_zero, List.set_cons_succ])
                        refine wpAnyF_take (i := 11) (oi := { dst := some 45, op := Go.Op.load 3 (Go.Operand.tmp 44), type := 3, pos := "ref.go:15", after := #[{ on := 10, ground := Go.Ground.data }, { on := 6, ground := Go.Ground.guard }], guard := some (6, false) }) (v := ?_) rfl (by kernel_rfl) (by kernel_rfl) (by kernel_rfl) (by kernel_rfl) (fun _ _ _ h => h) (Or.inl ⟨by rfl, ?_⟩) hHeld ?_
                        rotate_left
                        · intro w_ hSw_; (try dsimp only at hSw_); go_simp; (try with_reducible rfl)
                        (try simp only [Act.put, List.setIfInBounds_toArray, List.set_cons_zero, List.set_cons_succ])
                        refine wpAnyF_take (i := 12) (oi := { dst := some 46, op := Go.Op.binOp Go.BinOp.gtr 3 (Go.Operand.tmp 45) (Go.Operand.const (Go.Value.int Go.IntKind.i64 999)) 3, type := 4, pos := "ref.go:15", after := #[{ on := 11, ground := Go.Ground.data }, { on := 6, ground := Go.Ground.guard }], guard := some (6, false) }) (v := ?_) rfl (by kernel_rfl) (by kernel_rfl) (by kernel_rfl) (by kernel_rfl) (fun _ _ _ h => h) (Or.inl ⟨by rfl, ?_⟩) hHeld ?_
                        rotate_left
                        · intro w_ hSw_; (try dsimp only at hSw_); go_simp; (try with_reducible rfl)
                        (try simp only [Act.put, List.setIfInBounds_toArray, List.set_cons_zero, List.set_cons_succ])
                        refine wpAnyF_take (i := 13) (oi := { dst := some 47, op := Go.Op.pick (Go.Operand.tmp 40) (Go.Operand.const (Go.Value.bool true)) (Go.Operand.tmp 46), type := 4, pos := "ref.go:15", after := #[{ on := 6, ground := Go.Ground.data }, { on := 12, ground := Go.Ground.data }], guard := none }) (v := ?_) rfl (by kernel_rfl) (by kernel_rfl) (by kernel_rfl) (by kernel_rfl) (fun _ _ _ h => h) (Or.inl ⟨by rfl, ?_⟩) hHeld ?_
                        rotate_left
                        · intro w_ hSw_; (try dsimp only at hSw_); go_simp; (try with_reducible rfl)
                        (try simp only [Act.put, List.setIfInBounds_toArray, List.set_cons_zero, List.set_cons_succ])
                        refine wpAnyF_take (i := 14) (oi := { dst := some 48, op := Go.Op.move (Go.Operand.tmp 47), type := 4, pos := "ref.go:15", after := #[{ on := 13, ground := Go.Ground.data }, { on := 6, ground := Go.Ground.chain }], guard := none }) (v := ?_) rfl (by kernel_rfl) (by kernel_rfl) (by kernel_rfl) (by kernel_rfl) (fun _ _ _ h => h) (Or.inl ⟨by rfl, ?_⟩) hHeld ?_
                        rotate_left
                        · intro w_ hSw_; (try dsimp only at hSw_); go_simp; (try with_reducible rfl)
                        (try simp only [Act.put, List.setIfInBounds_toArray, List.set_cons_zero, List.set_cons_succ])
                        refine wpAnyF_take (i := 15) (oi := { dst := some 49, op := Go.Op.fieldAddr 55 (Go.Operand.tmp 1) 2, type := 0, pos := "ref.go:15", after := #[{ on := 14, ground := Go.Ground.guard }], guard := some (14, false) }) (v := ?_) rfl (by kernel_rfl) (by kernel_rfl) (by kernel_rfl) (by kernel_rfl) (fun _ _ _ h => h) (Or.inl ⟨by rfl, ?_⟩) hHeld ?_
                        rotate_left
                        · intro w_ hSw_; (try dsimp only at hSw_); go_simp; (try with_reducible rfl)
                        (try simp only [Act.put, List.setIfInBounds_toArray, List.set_cons_zero, List.set_cons_succ])
                        refine wpAnyF_take (i := 16) (oi := { dst := some 50, op := Go.Op.load 26 (Go.Operand.tmp 49), type := 26, pos := "ref.go:15", after := #[{ on := 15, ground := Go.Ground.data }, { on := 14, ground := Go.Ground.guard }], guard := some (14, false) }) (v := ?_) rfl (by kernel_rfl) (by kernel_rfl) (by kernel_rfl) (by kernel_rfl) (fun _ _ _ h => h) (Or.inl ⟨by rfl, ?_⟩) hHeld ?_
                        rotate_left
                        · intro w_ hSw_; (try dsimp only at hSw_); go_simp; (try with_reducible rfl)
                        (try simp only [Act.put, List.setIfInBounds_toArray, List.set_cons_zero, List.set_cons_succ])
                        refine wpAnyF_take (i := 17) (oi := { dst := some 51, op := Go.Op.move (Go.Operand.tmp 3), type := 3, pos := "ref.go:15", after := #[{ on := 14, ground := Go.Ground.guard }], guard := some (14, false) }) (v := ?_) rfl (by kernel_rfl) (by kernel_rfl) (by kernel_rfl) (by kernel_rfl) (fun _ _ _ h => h) (Or.inl ⟨by rfl, ?_⟩) hHeld ?_
                        rotate_left
                        · intro w_ hSw_; (try dsimp only at hSw_); go_simp; (try with_reducible rfl)
                        (try simp only [Act.put, List.setIfInBounds_toArray, List.set_cons_zero, List.set_cons_succ])
                        refine wpAnyF_take (i := 18) (oi := { dst := some 52, op := Go.Op.indexAddr 26 (Go.Operand.tmp 50) (Go.Operand.tmp 51), type := 0, pos := "ref.go:15", after := #[{ on := 16, ground := Go.Ground.data }, { on := 17, ground := Go.Ground.data }, { on := 14, ground := Go.Ground.guard }], guard := some (14, false) }) (v := ?_) rfl (by kernel_rfl) (by kernel_rfl) (by kernel_rfl) (by kernel_rfl) (fun _ _ _ h => h) (Or.inl ⟨by rfl, ?_⟩) hHeld ?_
                        rotate_left
                        · intro w_ hSw_; (try dsimp only at hSw_); go_simp; (try with_reducible rfl)
                        (try simp only [Act.put, List.setIfInBounds_toArray, List.set_cons_zero, List.set_cons_succ])
                        refine wpAnyF_take (i := 19) (oi := { dst := some 53, op := Go.Op.load 3 (Go.Operand.tmp 52), type := 3, pos := "ref.go:15", after := #[{ on := 18, ground := Go.Ground.data }, { on := 14, ground := Go.Ground.guard }], guard := some (14, false) }) (v := ?_) rfl (by kernel_rfl) (by kernel_rfl) (by kernel_rfl) (by kernel_rfl) (fun _ _ _ h => h) (Or.inl ⟨by rfl, ?_⟩) hHeld ?_
                        rotate_left
                        · intro w_ hSw_; (try dsimp only at hSw_); go_simp; (try with_reducible rfl)
                        (try simp only [Act.put, List.setIfInBounds_toArray, List.set_cons_zero, List.set_cons_succ])
                        refine wpAnyF_take (i := 20) (oi := { dst := some 54, op := Go.Op.binOp Go.BinOp.lss 3 (Go.Operand.tmp 53) (Go.Operand.const (Go.Value.int Go.IntKind.i64 (-999999))) 3, type := 4, pos := "ref.go:15", after := #[{ on := 19, ground := Go.Ground.data }, { on := 14, ground := Go.Ground.guard }], guard := some (14, false) }) (v := ?_) rfl (by kernel_rfl) (by kernel_rfl) (by kernel_rfl) (by kernel_rfl) (fun _ _ _ h => h) (Or.inl ⟨by rfl, ?_⟩) hHeld ?_
                        rotate_left
                        · intro w_ hSw_; (try dsimp only at hSw_); go_simp; (try with_reducible rfl)
                        (try simp only [Act.put, List.setIfInBounds_toArray, List.set_cons_zero, List.set_cons_succ])
                        refine wpAnyF_take (i := 21) (oi := { dst := some 55, op := Go.Op.pick (Go.Operand.tmp 48) (Go.Operand.const (Go.Value.bool true)) (Go.Operand.tmp 54), type := 4, pos := "ref.go:15", after := #[{ on := 14, ground := Go.Ground.data }, { on := 20, ground := Go.Ground.data }], guard := none }) (v := ?_) rfl (by kernel_rfl) (by kernel_rfl) (by kernel_rfl) (by kernel_rfl) (fun _ _ _ h => h) (Or.inl ⟨by rfl, ?_⟩) hHeld ?_
                        rotate_left
                        · intro w_ hSw_; (try dsimp only at hSw_); go_simp; (try with_reducible rfl)
                        (try simp only [Act.put, List.setIfInBounds_toArray, List.set_cons_zero, List.set_cons_succ])
                        refine wpAnyF_take (i := 22) (oi := { dst := some 56, op := Go.Op.move (Go.Operand.tmp 55), type := 4, pos := "ref.go:15", after := #[{ on := 21, ground := Go.Ground.data }, { on := 14, ground := Go.Ground.chain }], guard := none }) (v := ?_) rfl (by kernel_rfl) (by kernel_rfl) (by kernel_rfl) (by kernel_rfl) (fun _ _ _ h => h) (Or.inl ⟨by rfl, ?_⟩) hHeld ?_
                        rotate_left
                        · intro w_ hSw_; (try dsimp only at hSw_); go_simp; (try with_reducible rfl)
                        (try simp only [Act.put, List.setIfInBounds_toArray, List.set_cons_zero, List.set_cons_succ])
                        refine wpAnyF_take (i := 23) (oi := { dst := some 57, op := Go.Op.fieldAddr 55 (Go.Operand.tmp 1) 2, type := 0, pos := "ref.go:15", after := #[{ on := 22, ground := Go.Ground.guard }], guard := some (22, false) }) (v := ?_) rfl (by kernel_rfl) (by kernel_rfl) (by kernel_rfl) (by kernel_rfl) (fun _ _ _ h => h) (Or.inl ⟨by rfl, ?_⟩) hHeld ?_
                        rotate_left
                        · intro w_ hSw_; (try dsimp only at hSw_); go_simp; (try with_reducible rfl)
                        (try simp only [Act.put, List.setIfInBounds_toArray, List.set_cons_zero, List.set_cons_succ])
                        refine wpAnyF_take (i := 24) (oi := { dst := some 58, op := Go.Op.load 26 (Go.Operand.tmp 57), type := 26, pos := "ref.go:15", after := #[{ on := 23, ground := Go.Ground.data }, { on := 22, ground := Go.Ground.guard }], guard := some (22, false) }) (v := ?_) rfl (by kernel_rfl) (by kernel_rfl) (by kernel_rfl) (by kernel_rfl) (fun _ _ _ h => h) (Or.inl ⟨by rfl, ?_⟩) hHeld ?_
                        rotate_left
                        · intro w_ hSw_; (try dsimp only at hSw_); go_simp; (try with_reducible rfl)
                        (try simp only [Act.put, List.setIfInBounds_toArray, List.set_cons_zero, List.set_cons_succ])
                        refine wpAnyF_take (i := 25) (oi := { dst := some 59, op := Go.Op.move (Go.Operand.tmp 3), type := 3, pos := "ref.go:15", after := #[{ on := 22, ground := Go.Ground.guard }], guard := some (22, false) }) (v := ?_) rfl (by kernel_rfl) (by kernel_rfl) (by kernel_rfl) (by kernel_rfl) (fun _ _ _ h => h) (Or.inl ⟨by rfl, ?_⟩) hHeld ?_
                        rotate_left
                        · intro w_ hSw_; (try dsimp only at hSw_); go_simp; (try with_reducible rfl)
                        (try simp only [Act.put, List.setIfInBounds_toArray, List.set_cons_zero, List.set_cons_succ])
                        refine wpAnyF_take (i := 26) (oi := { dst := some 60, op := Go.Op.indexAddr 26 (Go.Operand.tmp 58) (Go.Operand.tmp 59), type := 0, pos := "ref.go:15", after := #[{ on := 24, ground := Go.Ground.data }, { on := 25, ground := Go.Ground.data }, { on := 22, ground := Go.Ground.guard }], guard := some (22, false) }) (v := ?_) rfl (by kernel_rfl) (by kernel_rfl) (by kernel_rfl) (by kernel_rfl) (fun _ _ _ h => h) (Or.inl ⟨by rfl, ?_⟩) hHeld ?_
                        rotate_left
                        · intro w_ hSw_; (try dsimp only at hSw_); go_simp; (try with_reducible rfl)
                        (try simp only [Act.put, List.setIfInBounds_toArray, List.set_cons_zero, List.set_cons_succ])
                        refine wpAnyF_take (i := 27) (oi := { dst := some 61, op := Go.Op.load 3 (Go.Operand.tmp 60), type := 3, pos := "ref.go:15", after := #[{ on := 26, ground := Go.Ground.data }, { on := 22, ground := Go.Ground.guard }], guard := some (22, false) }) (v := ?_) rfl (by kernel_rfl) (by kernel_rfl) (by kernel_rfl) (by kernel_rfl) (fun _ _ _ h => h) (Or.inl ⟨by rfl, ?_⟩) hHeld ?_
                        rotate_left
                        · intro w_ hSw_; (try dsimp only at hSw_); go_simp; (try with_reducible rfl)
                        (try simp only [Act.put, List.setIfInBounds_toArray, List.set_cons_zero, List.set_cons_succ])
                        refine wpAnyF_take (i := 28) (oi := { dst := some 62, op := Go.Op.binOp Go.BinOp.gtr 3 (Go.Operand.tmp 61) (Go.Operand.const (Go.Value.int Go.IntKind.i64 999999)) 3, type := 4, pos := "ref.go:15", after := #[{ on := 27, ground := Go.Ground.data }, { on := 22, ground := Go.Ground.guard }], guard := some (22, false) }) (v := ?_) rfl (by kernel_rfl) (by kernel_rfl) (by kernel_rfl) (by kernel_rfl) (fun _ _ _ h => h) (Or.inl ⟨by rfl, ?_⟩) hHeld ?_
                        rotate_left
                        · intro w_ hSw_; (try dsimp only at hSw_); go_simp; (try with_reducible rfl)
                        (try simp only [Act.put, List.setIfInBounds_toArray, List.set_cons_zero, List.set_cons_succ])
                        refine wpAnyF_take (i := 29) (oi := { dst := some 63, op := Go.Op.pick (Go.Operand.tmp 56) (Go.Operand.const (Go.Value.bool true)) (Go.Operand.tmp 62), type := 4, pos := "ref.go:15", after := #[{ on := 22, ground := Go.Ground.data }, { on := 28, ground := Go.Ground.data }], guard := none }) (v := ?_) rfl (by kernel_rfl) (by kernel_rfl) (by kernel_rfl) (by kernel_rfl) (fun _ _ _ h => h) (Or.inl ⟨by rfl, ?_⟩) hHeld ?_
                        rotate_left
                        · intro w_ hSw_; (try dsimp only at hSw_); go_simp; (try with_reducible rfl)
                        (try simp only [Act.put, List.setIfInBounds_toArray, List.set_cons_zero, List.set_cons_succ])
                        refine wpAnyF_take (i := 30) (oi := { dst := some 64, op := Go.Op.move (Go.Operand.tmp 63), type := 4, pos := "ref.go:15", after := #[{ on := 29, ground := Go.Ground.data }, { on := 22, ground := Go.Ground.chain }], guard := none }) (v := ?_) rfl (by kernel_rfl) (by kernel_rfl) (by kernel_rfl) (by kernel_rfl) (fun _ _ _ h => h) (Or.inl ⟨by rfl, ?_⟩) hHeld ?_
                        rotate_left
                        · intro w_ hSw_; (try dsimp only at hSw_); go_simp; (try with_reducible rfl)
                        (try simp only [Act.put, List.setIfInBounds_toArray, List.set_cons_zero, List.set_cons_succ])
                        refine wpAnyF_take (i := 31) (oi := { dst := some 65, op := Go.Op.fieldAddr 55 (Go.Operand.tmp 1) 1, type := 0, pos := "ref.go:15", after := #[{ on := 30, ground := Go.Ground.guard }], guard := some (30, false) }) (v := ?_) rfl (by kernel_rfl) (by kernel_rfl) (by kernel_rfl) (by kernel_rfl) (fun _ _ _ h => h) (Or.inl ⟨by rfl, ?_⟩) hHeld ?_
                        rotate_left
                        · intro w_ hSw_; (try dsimp only at hSw_); go_simp; (try with_reducible rfl)
                        (try simp only [Act.put, List.setIfInBounds_toArray, List.set_cons_zero, List.set_cons_succ])
                        refine wpAnyF_take (i := 32) (oi := { dst := some 66, op := Go.Op.load 26 (Go.Operand.tmp 65), type := 26, pos := "ref.go:15", after := #[{ on := 31, ground := Go.Ground.data }, { on := 30, ground := Go.Ground.guard }], guard := some (30, false) }) (v := ?_) rfl (by kernel_rfl) (by kernel_rfl) (by kernel_rfl) (by kernel_rfl) (fun _ _ _ h => h) (Or.inl ⟨by rfl, ?_⟩) hHeld ?_
                        rotate_left
                        · intro w_ hSw_; (try dsimp only at hSw_); go_simp; (try with_reducible rfl)
                        (try simp only [Act.put, List.setIfInBounds_toArray, List.set_cons_zero, List.set_cons_succ])
                        refine wpAnyF_take (i := 33) (oi := { dst := some 67, op := Go.Op.move (Go.Operand.tmp 3), type := 3, pos := "ref.go:15", after := #[{ on := 30, ground := Go.Ground.guard }], guard := some (30, false) }) (v := ?_) rfl (by kernel_rfl) (by kernel_rfl) (by kernel_rfl) (by kernel_rfl) (fun _ _ _ h => h) (Or.inl ⟨by rfl, ?_⟩) hHeld ?_
                        rotate_left
                        · intro w_ hSw_; (try dsimp only at hSw_); go_simp; (try with_reducible rfl)
                        (try simp only [Act.put, List.setIfInBounds_toArray, List.set_cons_zero, List.set_cons_succ])
                        refine wpAnyF_take (i := 34) (oi := { dst := some 68, op := Go.Op.indexAddr 26 (Go.Operand.tmp 66) (Go.Operand.tmp 67), type := 0, pos := "ref.go:15", after := #[{ on := 32, ground := Go.Ground.data }, { on := 33, ground := Go.Ground.data }, { on := 30, ground := Go.Ground.guard }], guard := some (30, false) }) (v := ?_) rfl (by kernel_rfl) (by kernel_rfl) (by kernel_rfl) (by kernel_rfl) (fun _ _ _ h => h) (Or.inl ⟨by rfl, ?_⟩) hHeld ?_
                        rotate_left
                        · intro w_ hSw_; (try dsimp only at hSw_); go_simp; (try with_reducible rfl)
                        (try simp only [Act.put, List.setIfInBounds_toArray, List.set_cons_zero, List.set_cons_succ])
                        refine wpAnyF_take (i := 35) (oi := { dst := some 69, op := Go.Op.load 3 (Go.Operand.tmp 68), type := 3, pos := "ref.go:15", after := #[{ on := 34, ground := Go.Ground.data }, { on := 30, ground := Go.Ground.guard }], guard := some (30, false) }) (v := ?_) rfl (by kernel_rfl) (by kernel_rfl) (by kernel_rfl) (by kernel_rfl) (fun _ _ _ h => h) (Or.inl ⟨by rfl, ?_⟩) hHeld ?_
                        rotate_left
                        · intro w_ hSw_; (try dsimp only at hSw_); go_simp; (try with_reducible rfl)
                        (try simp only [Act.put, List.setIfInBounds_toArray, List.set_cons_zero, List.set_cons_succ])
                        refine wpAnyF_take (i := 36) (oi := { dst := some 70, op := Go.Op.move (Go.Operand.tmp 3), type := 3, pos := "ref.go:15", after := #[{ on := 30, ground := Go.Ground.guard }], guard := some (30, false) }) (v := ?_) rfl (by kernel_rfl) (by kernel_rfl) (by kernel_rfl) (by kernel_rfl) (fun _ _ _ h => h) (Or.inl ⟨by rfl, ?_⟩) hHeld ?_
                        rotate_left
                        · intro w_ hSw_; (try dsimp only at hSw_); go_simp; (try with_reducible rfl)
                        (try simp only [Act.put, List.setIfInBounds_toArray, List.set_cons_zero, List.set_cons_succ])
                        refine wpAnyF_take (i := 37) (oi := { dst := some 71, op := Go.Op.binOp Go.BinOp.mul 3 (Go.Operand.tmp 69) (Go.Operand.tmp 70) 3, type := 3, pos := "ref.go:15", after := #[{ on := 35, ground := Go.Ground.data }, { on := 36, ground := Go.Ground.data }, { on := 30, ground := Go.Ground.guard }], guard := some (30, false) }) (v := ?_) rfl (by kernel_rfl) (by kernel_rfl) (by kernel_rfl) (by kernel_rfl) (fun _ _ _ h => h) (Or.inl ⟨by rfl, ?_⟩) hHeld ?_
                        rotate_left
                        · intro w_ hSw_; (try dsimp only at hSw_); go_simp; (try with_reducible rfl)
                        (try simp only [Act.put, List.setIfInBounds_toArray, List.set_cons_zero, List.set_cons_succ])
                        refine wpAnyF_take (i := 38) (oi := { dst := some 72, op := Go.Op.fieldAddr 55 (Go.Operand.tmp 1) 2, type := 0, pos := "ref.go:15", after := #[{ on := 30, ground := Go.Ground.guard }], guard := some (30, false) }) (v := ?_) rfl (by kernel_rfl) (by kernel_rfl) (by kernel_rfl) (by kernel_rfl) (fun _ _ _ h => h) (Or.inl ⟨by rfl, ?_⟩) hHeld ?_
                        rotate_left
                        · intro w_ hSw_; (try dsimp only at hSw_); go_simp; (try with_reducible rfl)
                        (try simp only [Act.put, List.setIfInBounds_toArray, List.set_cons_zero, List.set_cons_succ])
                        refine wpAnyF_take (i := 39) (oi := { dst := some 73, op := Go.Op.load 26 (Go.Operand.tmp 72), type := 26, pos := "ref.go:15", after := #[{ on := 38, ground := Go.Ground.data }, { on := 30, ground := Go.Ground.guard }], guard := some (30, false) }) (v := ?_) rfl (by kernel_rfl) (by kernel_rfl) (by kernel_rfl) (by kernel_rfl) (fun _ _ _ h => h) (Or.inl ⟨by rfl, ?_⟩) hHeld ?_
                        rotate_left
                        · intro w_ hSw_; (try dsimp only at hSw_); go_simp; (try with_reducible rfl)
                        (try simp only [Act.put, List.setIfInBounds_toArray, List.set_cons_zero, List.set_cons_succ])
                        refine wpAnyF_take (i := 40) (oi := { dst := some 74, op := Go.Op.move (Go.Operand.tmp 3), type := 3, pos := "ref.go:15", after := #[{ on := 30, ground := Go.Ground.guard }], guard := some (30, false) }) (v := ?_) rfl (by kernel_rfl) (by kernel_rfl) (by kernel_rfl) (by kernel_rfl) (fun _ _ _ h => h) (Or.inl ⟨by rfl, ?_⟩) hHeld ?_
                        rotate_left
                        · intro w_ hSw_; (try dsimp only at hSw_); go_simp; (try with_reducible rfl)
                        (try simp only [Act.put, List.setIfInBounds_toArray, List.set_cons_zero, List.set_cons_succ])
                        refine wpAnyF_take (i := 41) (oi := { dst := some 75, op := Go.Op.indexAddr 26 (Go.Operand.tmp 73) (Go.Operand.tmp 74), type := 0, pos := "ref.go:15", after := #[{ on := 39, ground := Go.Ground.data }, { on := 40, ground := Go.Ground.data }, { on := 30, ground := Go.Ground.guard }], guard := some (30, false) }) (v := ?_) rfl (by kernel_rfl) (by kernel_rfl) (by kernel_rfl) (by kernel_rfl) (fun _ _ _ h => h) (Or.inl ⟨by rfl, ?_⟩) hHeld ?_
                        rotate_left
                        · intro w_ hSw_; (try dsimp only at hSw_); go_simp; (try with_reducible rfl)
                        (try simp only [Act.put, List.setIfInBounds_toArray, List.set_cons_zero, List.set_cons_succ])
                        refine wpAnyF_take (i := 42) (oi := { dst := some 76, op := Go.Op.load 3 (Go.Operand.tmp 75), type := 3, pos := "ref.go:15", after := #[{ on := 41, ground := Go.Ground.data }, { on := 30, ground := Go.Ground.guard }], guard := some (30, false) }) (v := ?_) rfl (by kernel_rfl) (by kernel_rfl) (by kernel_rfl) (by kernel_rfl) (fun _ _ _ h => h) (Or.inl ⟨by rfl, ?_⟩) hHeld ?_
                        rotate_left
                        · intro w_ hSw_; (try dsimp only at hSw_); go_simp; (try with_reducible rfl)
                        (try simp only [Act.put, List.setIfInBounds_toArray, List.set_cons_zero, List.set_cons_succ])
                        refine wpAnyF_take (i := 43) (oi := { dst := some 77, op := Go.Op.binOp Go.BinOp.add 3 (Go.Operand.tmp 71) (Go.Operand.tmp 76) 3, type := 3, pos := "ref.go:15", after := #[{ on := 37, ground := Go.Ground.data }, { on := 42, ground := Go.Ground.data }, { on := 30, ground := Go.Ground.guard }], guard := some (30, false) }) (v := ?_) rfl (by kernel_rfl) (by kernel_rfl) (by kernel_rfl) (by kernel_rfl) (fun _ _ _ h => h) (Or.inl ⟨by rfl, ?_⟩) hHeld ?_
                        rotate_left
                        · intro w_ hSw_; (try dsimp only at hSw_); go_simp; (try with_reducible rfl)
                        (try simp only [Act.put, List.setIfInBounds_toArray, List.set_cons_zero, List.set_cons_succ])
                        refine wpAnyF_take (i := 44) (oi := { dst := some 78, op := Go.Op.fieldAddr 55 (Go.Operand.tmp 1) 0, type := 0, pos := "ref.go:15", after := #[{ on := 30, ground := Go.Ground.guard }], guard := some (30, false) }) (v := ?_) rfl (by kernel_rfl) (by kernel_rfl) (by kernel_rfl) (by kernel_rfl) (fun _ _ _ h => h) (Or.inl ⟨by rfl, ?_⟩) hHeld ?_
                        rotate_left
                        · intro w_ hSw_; (try dsimp only at hSw_); go_simp; (try with_reducible rfl)
                        (try simp only [Act.put, List.setIfInBounds_toArray, List.set_cons_zero, List.set_cons_succ])
                        refine wpAnyF_take (i := 45) (oi := { dst := some 79, op := Go.Op.load 3 (Go.Operand.tmp 78), type := 3, pos := "ref.go:15", after := #[{ on := 44, ground := Go.Ground.data }, { on := 30, ground := Go.Ground.guard }], guard := some (30, false) }) (v := ?_) rfl (by kernel_rfl) (by kernel_rfl) (by kernel_rfl) (by kernel_rfl) (fun _ _ _ h => h) (Or.inl ⟨by rfl, ?_⟩) hHeld ?_
                        rotate_left
                        · intro w_ hSw_; (try dsimp only at hSw_); go_simp; (try with_reducible rfl)
                        (try simp only [Act.put, List.setIfInBounds_toArray, List.set_cons_zero, List.set_cons_succ])
                        refine wpAnyF_take (i := 46) (oi := { dst := some 80, op := Go.Op.binOp Go.BinOp.rem 3 (Go.Operand.tmp 77) (Go.Operand.tmp 79) 3, type := 3, pos := "ref.go:15", after := #[{ on := 43, ground := Go.Ground.data }, { on := 45, ground := Go.Ground.data }, { on := 30, ground := Go.Ground.guard }], guard := some (30, false) }) (v := ?_) rfl (by kernel_rfl) (by kernel_rfl) (by kernel_rfl) (by kernel_rfl) (fun _ _ _ h => h) (Or.inl ⟨by rfl, ?_⟩) hHeld ?_
                        rotate_left
                        · intro w_ hSw_; (try dsimp only at hSw_); go_simp; (try with_reducible rfl)
                        (try simp only [Act.put, List.setIfInBounds_toArray, List.set_cons_zero, List.set_cons_succ])
                        refine wpAnyF_take (i := 47) (oi := { dst := some 81, op := Go.Op.binOp Go.BinOp.neq 3 (Go.Operand.tmp 80) (Go.Operand.const (Go.Value.int Go.IntKind.i64 0)) 3, type := 4, pos := "ref.go:15", after := #[{ on := 46, ground := Go.Ground.data }, { on := 30, ground := Go.Ground.guard }], guard := some (30, false) }) (v := ?_) rfl (by kernel_rfl) (by kernel_rfl) (by kernel_rfl) (by kernel_rfl) (fun _ _ _ h => h) (Or.inl ⟨by rfl, ?_⟩) hHeld ?_
                        rotate_left
                        · intro w_ hSw_; (try dsimp only at hSw_); go_simp; (try with_reducible rfl)
                        (try simp only [Act.put, List.setIfInBounds_toArray, List.set_cons_zero, List.set_cons_succ])
                        refine wpAnyF_take (i := 48) (oi := { dst := some 82, op := Go.Op.pick (Go.Operand.tmp 64) (Go.Operand.const (Go.Value.bool true)) (Go.Operand.tmp 81), type := 4, pos := "ref.go:15", after := #[{ on := 30, ground := Go.Ground.data }, { on := 47, ground := Go.Ground.data }], guard := none }) (v := ?_) rfl (by kernel_rfl) (by kernel_rfl) (by kernel_rfl) (by kernel_rfl) (fun _ _ _ h => h) (Or.inl ⟨by rfl, ?_⟩) hHeld ?_
                        rotate_left
                        · intro w_ hSw_; (try dsimp only at hSw_); go_simp; (try with_reducible rfl)
                        (try simp only [Act.put, List.setIfInBounds_toArray, List.set_cons_zero, List.set_cons_succ])
                        refine wpAnyF_done (by kernel_rfl) ?_ _
                        clear hHeld
                        go_wp2
                        go_roundg (L1 - (r + 1))
                        case measure => omega
                        case rel => exact ⟨r + 1, rfl, by go_num, by omega, V1, HB1, fun r' h => by
                          rcases Nat.lt_or_ge r' r with h2 | h2
                          · exact HI.out r' h2
                          · obtain rfl : r' = r := by omega
                            exact HOK.out⟩
                      · have HR : Hid (okB M = false) := HNO.out (fun h => q5 (HT.out.1 h))
                        have q5b : (t == 0) = false := by simpa using q5
                        clear q5
                        go_wp2_with fail
                        have V1 := V.drew
                        have cA1 : wr.drew.cell? ⟨bA, oA + r, none⟩ = some (.int .i64 x) := cA
                        have cB1 : wr.drew.cell? ⟨bB, oB + r, none⟩ = some (.int .i64 y) := cB
                        have HB1 := below_drew HB
                        generalize hWd : wr.drew = wd at *
                        refine wp_region_F (fun w' => w'.cell? ⟨b, 0, none⟩ = some (.int .i64 L1) ∧ w'.cell? ⟨b, 1, none⟩ = some (.slice (some ⟨bA, oA, none⟩) L1 c) ∧ w'.cell? ⟨b, 2, none⟩ = some (.slice (some ⟨bB, oB, none⟩) L1 c') ∧ w'.cell? ⟨bA, oA + r, none⟩ = some (.int .i64 x) ∧ w'.cell? ⟨bB, oB + r, none⟩ = some (.int .i64 y)) [] (by kernel_rfl) (by rw [hWd]; exact ⟨V1.c0, V1.c1, V1.c2, cA1, cB1⟩) (fun hHeld => ?_)
                        rw [hWd] at hHeld ⊢
                        refine wpAnyF_take (i := 0) (oi := { dst := some 34, op := Go.Op.fieldAddr 55 (Go.Operand.tmp 1) 1, type := 0, pos := "ref.go:15", after := #[], guard := none }) (v := ?_) rfl (by kernel_rfl) (by kernel_rfl) (by kernel_rfl) (by kernel_rfl) (fun _ _ _ h => h) (Or.inl ⟨by rfl, ?_⟩) hHeld ?_
                        rotate_left
                        · intro w_ hSw_; (try dsimp only at hSw_); go_simp; (try with_reducible rfl)
                        (try simp only [Act.put, List.setIfInBounds_toArray, List.set_cons_zero, List.set_cons_succ])
                        refine wpAnyF_take (i := 1) (oi := { dst := some 35, op := Go.Op.load 26 (Go.Operand.tmp 34), type := 26, pos := "ref.go:15", after := #[{ on := 0, ground := Go.Ground.data }], guard := none }) (v := ?_) rfl (by kernel_rfl) (by kernel_rfl) (by kernel_rfl) (by kernel_rfl) (fun _ _ _ h => h) (Or.inl ⟨by rfl, ?_⟩) hHeld ?_
                        rotate_left
                        · intro w_ hSw_; (try dsimp only at hSw_); go_simp; (try with_reducible rfl)
                        (try simp only [Act.put, List.setIfInBounds_toArray, List.set_cons_zero, List.set_cons_succ])
                        refine wpAnyF_take (i := 2) (oi := { dst := some 36, op := Go.Op.move (Go.Operand.tmp 3), type := 3, pos := "ref.go:15", after := #[], guard := none }) (v := ?_) rfl (by kernel_rfl) (by kernel_rfl) (by kernel_rfl) (by kernel_rfl) (fun _ _ _ h => h) (Or.inl ⟨by rfl, ?_⟩) hHeld ?_
                        rotate_left
                        · intro w_ hSw_; (try dsimp only at hSw_); go_simp; (try with_reducible rfl)
                        (try simp only [Act.put, List.setIfInBounds_toArray, List.set_cons_zero, List.set_cons_succ])
                        refine wpAnyF_take (i := 3) (oi := { dst := some 37, op := Go.Op.indexAddr 26 (Go.Operand.tmp 35) (Go.Operand.tmp 36), type := 0, pos := "ref.go:15", after := #[{ on := 1, ground := Go.Ground.data }, { on := 2, ground := Go.Ground.data }], guard := none }) (v := ?_) rfl (by kernel_rfl) (by kernel_rfl) (by kernel_rfl) (by kernel_rfl) (fun _ _ _ h => h) (Or.inl ⟨by rfl, ?_⟩) hHeld ?_
                        rotate_left
                        · intro w_ hSw_; (try dsimp only at hSw_); go_simp; (try with_reducible rfl)
                        (try simp only [Act.put, List.setIfInBounds_toArray, List.set_cons_zero, List.set_cons_succ])
                        refine wpAnyF_take (i := 4) (oi := { dst := some 38, op := Go.Op.load 3 (Go.Operand.tmp 37), type := 3, pos := "ref.go:15", after := #[{ on := 3, ground := Go.Ground.data }], guard := none }) (v := ?_) rfl (by kernel_rfl) (by kernel_rfl) (by kernel_rfl) (by kernel_rfl) (fun _ _ _ h => h) (Or.inl ⟨by rfl, ?_⟩) hHeld ?_
                        rotate_left
                        · intro w_ hSw_; (try dsimp only at hSw_); go_simp; (try with_reducible rfl)
                        (try simp only [Act.put, List.setIfInBounds_toArray, List.set_cons_zero, List.set_cons_succ])
                        refine wpAnyF_take (i := 5) (oi := { dst := some 39, op := Go.Op.binOp Go.BinOp.lss 3 (Go.Operand.tmp 38) (Go.Operand.const (Go.Value.int Go.IntKind.i64 1)) 3, type := 4, pos := "ref.go:15", after := #[{ on := 4, ground := Go.Ground.data }], guard := none }) (v := ?_) rfl (by kernel_rfl) (by kernel_rfl) (by kernel_rfl) (by kernel_rfl) (fun _ _ _ h => h) (Or.inl ⟨by rfl, ?_⟩) hHeld ?_
                        rotate_left
                        · intro w_ hSw_; (try dsimp only at hSw_); go_simp; (try with_reducible rfl)
                        (try simp only [Act.put, List.setIfInBounds_toArray, List.set_cons_zero, List.set_cons_succ])
                        refine wpAnyF_take (i := 6) (oi := { dst := some 40, op := Go.Op.move (Go.Operand.tmp 39), type := 4, pos := "ref.go:15", after := #[{ on := 5, ground := Go.Ground.data }], guard := none }) (v := ?_) rfl (by kernel_rfl) (by kernel_rfl) (by kernel_rfl) (by kernel_rfl) (fun _ _ _ h => h) (Or.inl ⟨by rfl, ?_⟩) hHeld ?_
                        rotate_left
                        · intro w_ hSw_; (try dsimp only at hSw_); go_simp; (try with_reducible rfl)
                        (try simp only [Act.put, List.setIfInBounds_toArray, List.set_cons_zero, List.set_cons_succ])
                        refine wpAnyF_take (i := 7) (oi := { dst := some 41, op := Go.Op.fieldAddr 55 (Go.Operand.tmp 1) 1, type := 0, pos := "ref.go:15", after := #[{ on := 6, ground := Go.Ground.guard }], guard := some (6, false) }) (v := ?_) rfl (by kernel_rfl) (by kernel_rfl) (by kernel_rfl) (by kernel_rfl) (fun _ _ _ h => h) (Or.inl ⟨by rfl, ?_⟩) hHeld ?_
                        rotate_left
                        · intro w_ hSw_; (try dsimp only at hSw_); go_simp; (try with_reducible rfl)
                        (try simp only [Act.put, List.setIfInBounds_toArray, List.set_cons_zero, List.set_cons_succ])
                        refine wpAnyF_take (i := 8) (oi := { dst := some 42, op := Go.Op.load 26 (Go.Operand.tmp 41), type := 26, pos := "ref.go:15", after := #[{ on := 7, ground := Go.Ground.data }, { on := 6, ground := Go.Ground.guard }], guard := some (6, false) }) (v := ?_) rfl (by kernel_rfl) (by kernel_rfl) (by kernel_rfl) (by kernel_rfl) (fun _ _ _ h => h) (Or.inl ⟨by rfl, ?_⟩) hHeld ?_
                        rotate_left
                        · intro w_ hSw_; (try dsimp only at hSw_); go_simp; (try with_reducible rfl)
                        (try simp only [Act.put, List.setIfInBounds_toArray, List.set_cons_zero, List.set_cons_succ])
                        refine wpAnyF_take (i := 9) (oi := { dst := some 43, op := Go.Op.move (Go.Operand.tmp 3), type := 3, pos := "ref.go:15", after := #[{ on := 6, ground := Go.Ground.guard }], guard := some (6, false) }) (v := ?_) rfl (by kernel_rfl) (by kernel_rfl) (by kernel_rfl) (by kernel_rfl) (fun _ _ _ h => h) (Or.inl ⟨by rfl, ?_⟩) hHeld ?_
                        rotate_left
                        · intro w_ hSw_; (try dsimp only at hSw_); go_simp; (try with_reducible rfl)
                        (try simp only [Act.put, List.setIfInBounds_toArray, List.set_cons_zero, List.set_cons_succ])
                        refine wpAnyF_take (i := 10) (oi := { dst := some 44, op := Go.Op.indexAddr 26 (Go.Operand.tmp 42) (Go.Operand.tmp 43), type := 0, pos := "ref.go:15", after := #[{ on := 8, ground := Go.Ground.data }, { on := 9, ground := Go.Ground.data }, { on := 6, ground := Go.Ground.guard }], guard := some (6, false) }) (v := ?_) rfl (by kernel_rfl) (by kernel_rfl) (by kernel_rfl) (by kernel_rfl) (fun _ _ _ h => h) (Or.inl ⟨by rfl, ?_⟩) hHeld ?_
                        rotate_left
                        · intro w_ hSw_; (try dsimp only at hSw_); go_simp; (try with_reducible rfl)
                        (try simp only [Act.put, List.setIfInBounds_toArray, List.set_cons_zero, List.set_cons_succ])
                        refine wpAnyF_take (i := 11) (oi := { dst := some 45, op := Go.Op.load 3 (Go.Operand.tmp 44), type := 3, pos := "ref.go:15", after := #[{ on := 10, ground := Go.Ground.data }, { on := 6, ground := Go.Ground.guard }], guard := some (6, false) }) (v := ?_) rfl (by kernel_rfl) (by kernel_rfl) (by kernel_rfl) (by kernel_rfl) (fun _ _ _ h => h) (Or.inl ⟨by rfl, ?_⟩) hHeld ?_
                        rotate_left
                        · intro w_ hSw_; (try dsimp only at hSw_); go_simp; (try with_reducible rfl)
                        (try simp only [Act.put, List.setIfInBounds_toArray, List.set_cons_zero, List.set_cons_succ])
                        refine wpAnyF_take (i := 12) (oi := { dst := some 46, op := Go.Op.binOp Go.BinOp.gtr 3 (Go.Operand.tmp 45) (Go.Operand.const (Go.Value.int Go.IntKind.i64 999)) 3, type := 4, pos := "ref.go:15", after := #[{ on := 11, ground := Go.Ground.data }, { on := 6, ground := Go.Ground.guard }], guard := some (6, false) }) (v := ?_) rfl (by kernel_rfl) (by kernel_rfl) (by kernel_rfl) (by kernel_rfl) (fun _ _ _ h => h) (Or.inl ⟨by rfl, ?_⟩) hHeld ?_
                        rotate_left
                        · intro w_ hSw_; (try dsimp only at hSw_); go_simp; (try with_reducible rfl)
                        (try simp only [Act.put, List.setIfInBounds_toArray, List.set_cons_zero, List.set_cons_succ])
                        refine wpAnyF_take (i := 13) (oi := { dst := some 47, op := Go.Op.pick (Go.Operand.tmp 40) (Go.Operand.const (Go.Value.bool true)) (Go.Operand.tmp 46), type := 4, pos := "ref.go:15", after := #[{ on := 6, ground := Go.Ground.data }, { on := 12, ground := Go.Ground.data }], guard := none }) (v := ?_) rfl (by kernel_rfl) (by kernel_rfl) (by kernel_rfl) (by kernel_rfl) (fun _ _ _ h => h) (Or.inl ⟨by rfl, ?_⟩) hHeld ?_
                        rotate_left
                        · intro w_ hSw_; (try dsimp only at hSw_); go_simp; (try with_reducible rfl)
                        (try simp only [Act.put, List.setIfInBounds_toArray, List.set_cons_zero, List.set_cons_succ])
                        refine wpAnyF_take (i := 14) (oi := { dst := some 48, op := Go.Op.move (Go.Operand.tmp 47), type := 4, pos := "ref.go:15", after := #[{ on := 13, ground := Go.Ground.data }, { on := 6, ground := Go.Ground.chain }], guard := none }) (v := ?_) rfl (by kernel_rfl) (by kernel_rfl) (by kernel_rfl) (by kernel_rfl) (fun _ _ _ h => h) (Or.inl ⟨by rfl, ?_⟩) hHeld ?_
                        rotate_left
                        · intro w_ hSw_; (try dsimp only at hSw_); go_simp; (try with_reducible rfl)
                        (try simp only [Act.put, List.setIfInBounds_toArray, List.set_cons_zero, List.set_cons_succ])
                        refine wpAnyF_take (i := 15) (oi := { dst := some 49, op := Go.Op.fieldAddr 55 (Go.Operand.tmp 1) 2, type := 0, pos := "ref.go:15", after := #[{ on := 14, ground := Go.Ground.guard }], guard := some (14, false) }) (v := ?_) rfl (by kernel_rfl) (by kernel_rfl) (by kernel_rfl) (by kernel_rfl) (fun _ _ _ h => h) (Or.inl ⟨by rfl, ?_⟩) hHeld ?_
                        rotate_left
                        · intro w_ hSw_; (try dsimp only at hSw_); go_simp; (try with_reducible rfl)
                        (try simp only [Act.put, List.setIfInBounds_toArray, List.set_cons_zero, List.set_cons_succ])
                        refine wpAnyF_take (i := 16) (oi := { dst := some 50, op := Go.Op.load 26 (Go.Operand.tmp 49), type := 26, pos := "ref.go:15", after := #[{ on := 15, ground := Go.Ground.data }, { on := 14, ground := Go.Ground.guard }], guard := some (14, false) }) (v := ?_) rfl (by kernel_rfl) (by kernel_rfl) (by kernel_rfl) (by kernel_rfl) (fun _ _ _ h => h) (Or.inl ⟨by rfl, ?_⟩) hHeld ?_
                        rotate_left
                        · intro w_ hSw_; (try dsimp only at hSw_); go_simp; (try with_reducible rfl)
                        (try simp only [Act.put, List.setIfInBounds_toArray, List.set_cons_zero, List.set_cons_succ])
                        refine wpAnyF_take (i := 17) (oi := { dst := some 51, op := Go.Op.move (Go.Operand.tmp 3), type := 3, pos := "ref.go:15", after := #[{ on := 14, ground := Go.Ground.guard }], guard := some (14, false) }) (v := ?_) rfl (by kernel_rfl) (by kernel_rfl) (by kernel_rfl) (by kernel_rfl) (fun _ _ _ h => h) (Or.inl ⟨by rfl, ?_⟩) hHeld ?_
                        rotate_left
                        · intro w_ hSw_; (try dsimp only at hSw_); go_simp; (try with_reducible rfl)
                        (try simp only [Act.put, List.setIfInBounds_toArray, List.set_cons_zero, List.set_cons_succ])
                        refine wpAnyF_take (i := 18) (oi := { dst := some 52, op := Go.Op.indexAddr 26 (Go.Operand.tmp 50) (Go.Operand.tmp 51), type := 0, pos := "ref.go:15", after := #[{ on := 16, ground := Go.Ground.data }, { on := 17, ground := Go.Ground.data }, { on := 14, ground := Go.Ground.guard }], guard := some (14, false) }) (v := ?_) rfl (by kernel_rfl) (by kernel_rfl) (by kernel_rfl) (by kernel_rfl) (fun _ _ _ h => h) (Or.inl ⟨by rfl, ?_⟩) hHeld ?_
                        rotate_left
                        · intro w_ hSw_; (try dsimp only at hSw_); go_simp; (try with_reducible rfl)
                        (try simp only [Act.put, List.setIfInBounds_toArray, List.set_cons_zero, List.set_cons_succ])
                        refine wpAnyF_take (i := 19) (oi := { dst := some 53, op := Go.Op.load 3 (Go.Operand.tmp 52), type := 3, pos := "ref.go:15", after := #[{ on := 18, ground := Go.Ground.data }, { on := 14, ground := Go.Ground.guard }], guard := some (14, false) }) (v := ?_) rfl (by kernel_rfl) (by kernel_rfl) (by kernel_rfl) (by kernel_rfl) (fun _ _ _ h => h) (Or.inl ⟨by rfl, ?_⟩) hHeld ?_
                        rotate_left
                        · intro w_ hSw_; (try dsimp only at hSw_); go_simp; (try with_reducible rfl)
                        (try simp only [Act.put, List.setIfInBounds_toArray, List.set_cons_zero, List.set_cons_succ])
                        refine wpAnyF_take (i := 20) (oi := { dst := some 54, op := Go.Op.binOp Go.BinOp.lss 3 (Go.Operand.tmp 53) (Go.Operand.const (Go.Value.int Go.IntKind.i64 (-999999))) 3, type := 4, pos := "ref.go:15", after := #[{ on := 19, ground := Go.Ground.data }, { on := 14, ground := Go.Ground.guard }], guard := some (14, false) }) (v := ?_) rfl (by kernel_rfl) (by kernel_rfl) (by kernel_rfl) (by kernel_rfl) (fun _ _ _ h => h) (Or.inl ⟨by rfl, ?_⟩) hHeld ?_
                        rotate_left
                        · intro w_ hSw_; (try dsimp only at hSw_); go_simp; (try with_reducible rfl)
                        (try simp only [Act.put, List.setIfInBounds_toArray, List.set_cons_zero, List.set_cons_succ])
                        refine wpAnyF_take (i := 21) (oi := { dst := some 55, op := Go.Op.pick (Go.Operand.tmp 48) (Go.Operand.const (Go.Value.bool true)) (Go.Operand.tmp 54), type := 4, pos := "ref.go:15", after := #[{ on := 14, ground := Go.Ground.data }, { on := 20, ground := Go.Ground.data }], guard := none }) (v := ?_) rfl (by kernel_rfl) (by kernel_rfl) (by kernel_rfl) (by kernel_rfl) (fun _ _ _ h => h) (Or.inl ⟨by rfl, ?_⟩) hHeld ?_
                        rotate_left
                        · intro w_ hSw_; (try dsimp only at hSw_); go_simp; (try with_reducible rfl)
                        (try simp only [Act.put, List.setIfInBounds_toArray, List.set_cons_zero, List.set_cons_succ])
                        refine wpAnyF_take (i := 22) (oi := { dst := some 56, op := Go.Op.move (Go.Operand.tmp 55), type := 4, pos := "ref.go:15", after := #[{ on := 21, ground := Go.Ground.data }, { on := 14, ground := Go.Ground.chain }], guard := none }) (v := ?_) rfl (by kernel_rfl) (by kernel_rfl) (by kernel_rfl) (by kernel_rfl) (fun _ _ _ h => h) (Or.inl ⟨by rfl, ?_⟩) hHeld ?_
                        rotate_left
                        · intro w_ hSw_; (try dsimp only at hSw_); go_simp; (try with_reducible rfl)
                        (try simp only [Act.put, List.setIfInBounds_toArray, List.set_cons_zero, List.set_cons_succ])
                        refine wpAnyF_take (i := 23) (oi := { dst := some 57, op := Go.Op.fieldAddr 55 (Go.Operand.tmp 1) 2, type := 0, pos := "ref.go:15", after := #[{ on := 22, ground := Go.Ground.guard }], guard := some (22, false) }) (v := ?_) rfl (by kernel_rfl) (by kernel_rfl) (by kernel_rfl) (by kernel_rfl) (fun _ _ _ h => h) (Or.inl ⟨by rfl, ?_⟩) hHeld ?_
                        rotate_left
                        · intro w_ hSw_; (try dsimp only at hSw_); go_simp; (try with_reducible rfl)
                        (try simp only [Act.put, List.setIfInBounds_toArray, List.set_cons_zero, List.set_cons_succ])
                        refine wpAnyF_take (i := 24) (oi := { dst := some 58, op := Go.Op.load 26 (Go.Operand.tmp 57), type := 26, pos := "ref.go:15", after := #[{ on := 23, ground := Go.Ground.data }, { on := 22, ground := Go.Ground.guard }], guard := some (22, false) }) (v := ?_) rfl (by kernel_rfl) (by kernel_rfl) (by kernel_rfl) (by kernel_rfl) (fun _ _ _ h => h) (Or.inl ⟨by rfl, ?_⟩) hHeld ?_
                        rotate_left
                        · intro w_ hSw_; (try dsimp only at hSw_); go_simp; (try with_reducible rfl)
                        (try simp only [Act.put, List.setIfInBounds_toArray, List.set_cons_zero, List.set_cons_succ])
                        refine wpAnyF_take (i := 25) (oi := { dst := some 59, op := Go.Op.move (Go.Operand.tmp 3), type := 3, pos := "ref.go:15", after := #[{ on := 22, ground := Go.Ground.guard }], guard := some (22, false) }) (v := ?_) rfl (by kernel_rfl) (by kernel_rfl) (by kernel_rfl) (by kernel_rfl) (fun _ _ _ h => h) (Or.inl ⟨by rfl, ?_⟩) hHeld ?_
                        rotate_left
                        · intro w_ hSw_; (try dsimp only at hSw_); go_simp; (try with_reducible rfl)
                        (try simp only [Act.put, List.setIfInBounds_toArray, List.set_cons_zero, List.set_cons_succ])
                        refine wpAnyF_take (i := 26) (oi := { dst := some 60, op := Go.Op.indexAddr 26 (Go.Operand.tmp 58) (Go.Operand.tmp 59), type := 0, pos := "ref.go:15", after := #[{ on := 24, ground := Go.Ground.data }, { on := 25, ground := Go.Ground.data }, { on := 22, ground := Go.Ground.guard }], guard := some (22, false) }) (v := ?_) rfl (by kernel_rfl) (by kernel_rfl) (by kernel_rfl) (by kernel_rfl) (fun _ _ _ h => h) (Or.inl ⟨by rfl, ?_⟩) hHeld ?_
                        rotate_left
                        · intro w_ hSw_; (try dsimp only at hSw_); go_simp; (try with_reducible rfl)
                        (try simp only [Act.put, List.setIfInBounds_toArray, List.set_cons_zero, List.set_cons_succ])
                        refine wpAnyF_take (i := 27) (oi := { dst := some 61, op := Go.Op.load 3 (Go.Operand.tmp 60), type := 3, pos := "ref.go:15", after := #[{ on := 26, ground := Go.Ground.data }, { on := 22, ground := Go.Ground.guard }], guard := some (22, false) }) (v := ?_) rfl (by kernel_rfl) (by kernel_rfl) (by kernel_rfl) (by kernel_rfl) (fun _ _ _ h => h) (Or.inl ⟨by rfl, ?_⟩) hHeld ?_
                        rotate_left
                        · intro w_ hSw_; (try dsimp only at hSw_); go_simp; (try with_reducible rfl)
                        (try simp only [Act.put, List.setIfInBounds_toArray, List.set_cons_zero, List.set_cons_succ])
                        refine wpAnyF_take (i := 28) (oi := { dst := some 62, op := Go.Op.binOp Go.BinOp.gtr 3 (Go.Operand.tmp 61) (Go.Operand.const (Go.Value.int Go.IntKind.i64 999999)) 3, type := 4, pos := "ref.go:15", after := #[{ on := 27, ground := Go.Ground.data }, { on := 22, ground := Go.Ground.guard }], guard := some (22, false) }) (v := ?_) rfl (by kernel_rfl) (by kernel_rfl) (by kernel_rfl) (by kernel_rfl) (fun _ _ _ h => h) (Or.inl ⟨by rfl, ?_⟩) hHeld ?_
                        rotate_left
                        · intro w_ hSw_; (try dsimp only at hSw_); go_simp; (try with_reducible rfl)
                        (try simp only [Act.put, List.setIfInBounds_toArray, List.set_cons_zero, List.set_cons_succ])
                        refine wpAnyF_take (i := 29) (oi := { dst := some 63, op := Go.Op.pick (Go.Operand.tmp 56) (Go.Operand.const (Go.Value.bool true)) (Go.Operand.tmp 62), type := 4, pos := "ref.go:15", after := #[{ on := 22, ground := Go.Ground.data }, { on := 28, ground := Go.Ground.data }], guard := none }) (v := ?_) rfl (by kernel_rfl) (by kernel_rfl) (by kernel_rfl) (by kernel_rfl) (fun _ _ _ h => h) (Or.inl ⟨by rfl, ?_⟩) hHeld ?_
                        rotate_left
                        · intro w_ hSw_; (try dsimp only at hSw_); go_simp; (try with_reducible rfl)
                        (try simp only [Act.put, List.setIfInBounds_toArray, List.set_cons_zero, List.set_cons_succ])
                        refine wpAnyF_take (i := 30) (oi := { dst := some 64, op := Go.Op.move (Go.Operand.tmp 63), type := 4, pos := "ref.go:15", after := #[{ on := 29, ground := Go.Ground.data }, { on := 22, ground := Go.Ground.chain }], guard := none }) (v := ?_) rfl (by kernel_rfl) (by kernel_rfl) (by kernel_rfl) (by kernel_rfl) (fun _ _ _ h => h) (Or.inl ⟨by rfl, ?_⟩) hHeld ?_
                        rotate_left
                        · intro w_ hSw_; (try dsimp only at hSw_); go_simp; (try with_reducible rfl)
                        (try simp only [Act.put, List.setIfInBounds_toArray, List.set_cons_zero, List.set_cons_succ])
                        refine wpAnyF_take (i := 31) (oi := { dst := some 65, op := Go.Op.fieldAddr 55 (Go.Operand.tmp 1) 1, type := 0, pos := "ref.go:15", after := #[{ on := 30, ground := Go.Ground.guard }], guard := some (30, false) }) (v := ?_) rfl (by kernel_rfl) (by kernel_rfl) (by kernel_rfl) (by kernel_rfl) (fun _ _ _ h => h) (Or.inl ⟨by rfl, ?_⟩) hHeld ?_
                        rotate_left
                        · intro w_ hSw_; (try dsimp only at hSw_); go_simp; (try with_reducible rfl)
                        (try simp only [Act.put, List.setIfInBounds_toArray, List.set_cons_zero, List.set_cons_succ])
                        refine wpAnyF_take (i := 32) (oi := { dst := some 66, op := Go.Op.load 26 (Go.Operand.tmp 65), type := 26, pos := "ref.go:15", after := #[{ on := 31, ground := Go.Ground.data }, { on := 30, ground := Go.Ground.guard }], guard := some (30, false) }) (v := ?_) rfl (by kernel_rfl) (by kernel_rfl) (by kernel_rfl) (by kernel_rfl) (fun _ _ _ h => h) (Or.inl ⟨by rfl, ?_⟩) hHeld ?_
                        rotate_left
                        · intro w_ hSw_; (try dsimp only at hSw_); go_simp; (try with_reducible rfl)
                        (try simp only [Act.put, List.setIfInBounds_toArray, List.set_cons_zero, List.set_cons_succ])
                        refine wpAnyF_take (i := 33) (oi := { dst := some 67, op := Go.Op.move (Go.Operand.tmp 3), type := 3, pos := "ref.go:15", after := #[{ on := 30, ground := Go.Ground.guard }], guard := some (30, false) }) (v := ?_) rfl (by kernel_rfl) (by kernel_rfl) (by kernel_rfl) (by kernel_rfl) (fun _ _ _ h => h) (Or.inl ⟨by rfl, ?_⟩) hHeld ?_
                        rotate_left
                        · intro w_ hSw_; (try dsimp only at hSw_); go_simp; (try with_reducible rfl)
                        (try simp only [Act.put, List.setIfInBounds_toArray, List.set_cons_zero, List.set_cons_succ])
                        refine wpAnyF_take (i := 34) (oi := { dst := some 68, op := Go.Op.indexAddr 26 (Go.Operand.tmp 66) (Go.Operand.tmp 67), type := 0, pos := "ref.go:15", after := #[{ on := 32, ground := Go.Ground.data }, { on := 33, ground := Go.Ground.data }, { on := 30, ground := Go.Ground.guard }], guard := some (30, false) }) (v := ?_) rfl (by kernel_rfl) (by kernel_rfl) (by kernel_rfl) (by kernel_rfl) (fun _ _ _ h => h) (Or.inl ⟨by rfl, ?_⟩) hHeld ?_
                        rotate_left
                        · intro w_ hSw_; (try dsimp only at hSw_); go_simp; (try with_reducible rfl)
                        (try simp only [Act.put, List.setIfInBounds_toArray, List.set_cons_zero, List.set_cons_succ])
                        refine wpAnyF_take (i := 35) (oi := { dst := some 69, op := Go.Op.load 3 (Go.Operand.tmp 68), type := 3, pos := "ref.go:15", after := #[{ on := 34, ground := Go.Ground.data }, { on := 30, ground := Go.Ground.guard }], guard := some (30, false) }) (v := ?_) rfl (by kernel_rfl) (by kernel_rfl) (by kernel_rfl) (by kernel_rfl) (fun _ _ _ h => h) (Or.inl ⟨by rfl, ?_⟩) hHeld ?_
                        rotate_left
                        · intro w_ hSw_; (try dsimp only at hSw_); go_simp; (try with_reducible rfl)
                        (try simp only [Act.put, List.setIfInBounds_toArray, List.set_cons_zero, List.set_cons_succ])
                        refine wpAnyF_take (i := 36) (oi := { dst := some 70, op := Go.Op.move (Go.Operand.tmp 3), type := 3, pos := "ref.go:15", after := #[{ on := 30, ground := Go.Ground.guard }], guard := some (30, false) }) (v := ?_) rfl (by kernel_rfl) (by kernel_rfl) (by kernel_rfl) (by kernel_rfl) (fun _ _ _ h => h) (Or.inl ⟨by rfl, ?_⟩) hHeld ?_
                        rotate_left
                        · intro w_ hSw_; (try dsimp only at hSw_); go_simp; (try with_reducible rfl)
                        (try simp only [Act.put, List.setIfInBounds_toArray, List.set_cons_zero, List.set_cons_succ])
                        refine wpAnyF_take (i := 37) (oi := { dst := some 71, op := Go.Op.binOp Go.BinOp.mul 3 (Go.Operand.tmp 69) (Go.Operand.tmp 70) 3, type := 3, pos := "ref.go:15", after := #[{ on := 35, ground := Go.Ground.data }, { on := 36, ground := Go.Ground.data }, { on := 30, ground := Go.Ground.guard }], guard := some (30, false) }) (v := ?_) rfl (by kernel_rfl) (by kernel_rfl) (by kernel_rfl) (by kernel_rfl) (fun _ _ _ h => h) (Or.inl ⟨by rfl, ?_⟩) hHeld ?_
                        rotate_left
                        · intro w_ hSw_; (try dsimp only at hSw_); go_simp; (try with_reducible rfl)
                        (try simp only [Act.put, List.setIfInBounds_toArray, List.set_cons_zero, List.set_cons_succ])
                        refine wpAnyF_take (i := 38) (oi := { dst := some 72, op := Go.Op.fieldAddr 55 (Go.Operand.tmp 1) 2, type := 0, pos := "ref.go:15", after := #[{ on := 30, ground := Go.Ground.guard }], guard := some (30, false) }) (v := ?_) rfl (by kernel_rfl) (by kernel_rfl) (by kernel_rfl) (by kernel_rfl) (fun _ _ _ h => h) (Or.inl ⟨by rfl, ?_⟩) hHeld ?_
                        rotate_left
                        · intro w_ hSw_; (try dsimp only at hSw_); go_simp; (try with_reducible rfl)
                        (try simp only [Act.put, List.setIfInBounds_toArray, List.set_cons_zero, List.set_cons_succ])
                        refine wpAnyF_take (i := 39) (oi := { dst := some 73, op := Go.Op.load 26 (Go.Operand.tmp 72), type := 26, pos := "ref.go:15", after := #[{ on := 38, ground := Go.Ground.data }, { on := 30, ground := Go.Ground.guard }], guard := some (30, false) }) (v := ?_) rfl (by kernel_rfl) (by kernel_rfl) (by kernel_rfl) (by kernel_rfl) (fun _ _ _ h => h) (Or.inl ⟨by rfl, ?_⟩) hHeld ?_
                        rotate_left
                        · intro w_ hSw_; (try dsimp only at hSw_); go_simp; (try with_reducible rfl)
                        (try simp only [Act.put, List.setIfInBounds_toArray, List.set_cons_zero, List.set_cons_succ])
                        refine wpAnyF_take (i := 40) (oi := { dst := some 74, op := Go.Op.move (Go.Operand.tmp 3), type := 3, pos := "ref.go:15", after := #[{ on := 30, ground := Go.Ground.guard }], guard := some (30, false) }) (v := ?_) rfl (by kernel_rfl) (by kernel_rfl) (by kernel_rfl) (by kernel_rfl) (fun _ _ _ h => h) (Or.inl ⟨by rfl, ?_⟩) hHeld ?_
                        rotate_left
                        · intro w_ hSw_; (try dsimp only at hSw_); go_simp; (try with_reducible rfl)
                        (try simp only [Act.put, List.setIfInBounds_toArray, List.set_cons_zero, List.set_cons_succ])
                        refine wpAnyF_take (i := 41) (oi := { dst := some 75, op := Go.Op.indexAddr 26 (Go.Operand.tmp 73) (Go.Operand.tmp 74), type := 0, pos := "ref.go:15", after := #[{ on := 39, ground := Go.Ground.data }, { on := 40, ground := Go.Ground.data }, { on := 30, ground := Go.Ground.guard }], guard := some (30, false) }) (v := ?_) rfl (by kernel_rfl) (by kernel_rfl) (by kernel_rfl) (by kernel_rfl) (fun _ _ _ h => h) (Or.inl ⟨by rfl, ?_⟩) hHeld ?_
                        rotate_left
                        · intro w_ hSw_; (try dsimp only at hSw_); go_simp; (try with_reducible rfl)
                        (try simp only [Act.put, List.setIfInBounds_toArray, List.set_cons_zero, List.set_cons_succ])
                        refine wpAnyF_take (i := 42) (oi := { dst := some 76, op := Go.Op.load 3 (Go.Operand.tmp 75), type := 3, pos := "ref.go:15", after := #[{ on := 41, ground := Go.Ground.data }, { on := 30, ground := Go.Ground.guard }], guard := some (30, false) }) (v := ?_) rfl (by kernel_rfl) (by kernel_rfl) (by kernel_rfl) (by kernel_rfl) (fun _ _ _ h => h) (Or.inl ⟨by rfl, ?_⟩) hHeld ?_
                        rotate_left
                        · intro w_ hSw_; (try dsimp only at hSw_); go_simp; (try with_reducible rfl)
                        (try simp only [Act.put, List.setIfInBounds_toArray, List.set_cons_zero, List.set_cons_succ])
                        refine wpAnyF_take (i := 43) (oi := { dst := some 77, op := Go.Op.binOp Go.BinOp.add 3 (Go.Operand.tmp 71) (Go.Operand.tmp 76) 3, type := 3, pos := "ref.go:15", after := #[{ on := 37, ground := Go.Ground.data }, { on := 42, ground := Go.Ground.data }, { on := 30, ground := Go.Ground.guard }], guard := some (30, false) }) (v := ?_) rfl (by kernel_rfl) (by kernel_rfl) (by kernel_rfl) (by kernel_rfl) (fun _ _ _ h => h) (Or.inl ⟨by rfl, ?_⟩) hHeld ?_
                        rotate_left
                        · intro w_ hSw_; (try dsimp only at hSw_); go_simp; (try with_reducible rfl)
                        (try simp only [Act.put, List.setIfInBounds_toArray, List.set_cons_zero, List.set_cons_succ])
                        refine wpAnyF_take (i := 44) (oi := { dst := some 78, op := Go.Op.fieldAddr 55 (Go.Operand.tmp 1) 0, type := 0, pos := "ref.go:15", after := #[{ on := 30, ground := Go.Ground.guard }], guard := some (30, false) }) (v := ?_) rfl (by kernel_rfl) (by kernel_rfl) (by kernel_rfl) (by kernel_rfl) (fun _ _ _ h => h) (Or.inl ⟨by rfl, ?_⟩) hHeld ?_
                        rotate_left
                        · intro w_ hSw_; (try dsimp only at hSw_); go_simp; (try with_reducible rfl)
                        (try simp only [Act.put, List.setIfInBounds_toArray, List.set_cons_zero, List.set_cons_succ])
                        refine wpAnyF_take (i := 45) (oi := { dst := some 79, op := Go.Op.load 3 (Go.Operand.tmp 78), type := 3, pos := "ref.go:15", after := #[{ on := 44, ground := Go.Ground.data }, { on := 30, ground := Go.Ground.guard }], guard := some (30, false) }) (v := ?_) rfl (by kernel_rfl) (by kernel_rfl) (by kernel_rfl) (by kernel_rfl) (fun _ _ _ h => h) (Or.inl ⟨by rfl, ?_⟩) hHeld ?_
                        rotate_left
                        · intro w_ hSw_; (try dsimp only at hSw_); go_simp; (try with_reducible rfl)
                        (try simp only [Act.put, List.setIfInBounds_toArray, List.set_cons_zero, List.set_cons_succ])
                        refine wpAnyF_take (i := 46) (oi := { dst := some 80, op := Go.Op.binOp Go.BinOp.rem 3 (Go.Operand.tmp 77) (Go.Operand.tmp 79) 3, type := 3, pos := "ref.go:15", after := #[{ on := 43, ground := Go.Ground.data }, { on := 45, ground := Go.Ground.data }, { on := 30, ground := Go.Ground.guard }], guard := some (30, false) }) (v := ?_) rfl (by kernel_rfl) (by kernel_rfl) (by kernel_rfl) (by kernel_rfl) (fun _ _ _ h => h) (Or.inl ⟨by rfl, ?_⟩) hHeld ?_
                        rotate_left
                        · intro w_ hSw_; (try dsimp only at hSw_); go_simp; (try with_reducible rfl)
                        (try simp only [Act.put, List.setIfInBounds_toArray, List.set_cons_zero, List.set_cons_succ])
                        refine wpAnyF_take (i := 47) (oi := { dst := some 81, op := Go.Op.binOp Go.BinOp.neq 3 (Go.Operand.tmp 80) (Go.Operand.const (Go.Value.int Go.IntKind.i64 0)) 3, type := 4, pos := "ref.go:15", after := #[{ on := 46, ground := Go.Ground.data }, { on := 30, ground := Go.Ground.guard }], guard := some (30, false) }) (v := ?_) rfl (by kernel_rfl) (by kernel_rfl) (by kernel_rfl) (by kernel_rfl) (fun _ _ _ h => h) (Or.inl ⟨by rfl, ?_⟩) hHeld ?_
                        rotate_left
                        · intro w_ hSw_; (try dsimp only at hSw_); go_simp; (try with_reducible rfl)
                        (try simp only [Act.put, List.setIfInBounds_toArray, List.set_cons_zero, List.set_cons_succ])
                        refine wpAnyF_take (i := 48) (oi := { dst := some 82, op := Go.Op.pick (Go.Operand.tmp 64) (Go.Operand.const (Go.Value.bool true)) (Go.Operand.tmp 81), type := 4, pos := "ref.go:15", after := #[{ on := 30, ground := Go.Ground.data }, { on := 47, ground := Go.Ground.data }], guard := none }) (v := ?_) rfl (by kernel_rfl) (by kernel_rfl) (by kernel_rfl) (by kernel_rfl) (fun _ _ _ h => h) (Or.inl ⟨by rfl, ?_⟩) hHeld ?_
                        rotate_left
                        · intro w_ hSw_; (try dsimp only at hSw_); go_simp; (try with_reducible rfl)
                        (try simp only [Act.put, List.setIfInBounds_toArray, List.set_cons_zero, List.set_cons_succ])
                        refine wpAnyF_done (by kernel_rfl) ?_ _
                        clear hHeld
                        go_wp2
                        go_ret
                        exact ⟨by rw [HR.out] <;> rfl, by rw [hb0]; exact HB1⟩
            · have HR : Hid (okB M = true) := by
                show _ = _
                rw [HR0.out, okRs_iff]
                exact fun r' h => HI.out r' (by omega)
              go_wp2
              go_ret
              exact ⟨by rw [HR.out] <;> rfl, by rw [hb0]; exact HB⟩
end Go.Proofs.Ytiaeeclmlchpoaa
