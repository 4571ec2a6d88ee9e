/- The plain law behind ref05.Survey: a name put in its place, or counted once more. No condition. -/
import Derived.Test.YtiaeeclmlchpoaaGreatDoorZI
import Derived.Deep.Upon
import Derived.Deep.CutBlock
import Derived.Maps.RangeWalk
import Derived.Test.YtiaeeclmlchpoaaGreatDoorZ9
import Derived.Test.YtiaeeclmlchpoaaGreatDoorZ3
import Derived.Test.YtiaeeclmlchpoaaGreatDoorZK
set_option linter.unusedVariables false
set_option linter.unusedSimpArgs false
namespace Go.Proofs.YtiaeeclmlchpoaaGreatDoor

theorem srv_mid {cs : List Int} {P S : List (Int × Nat)} {y : Int} {c : Nat} (h : ∀ u m, (u, m) ∈ P ++ S ↔ u ≠ y ∧ 0 < m ∧ m = cs.count u) (hc : c = cs.count y + 1) : ∀ u m, (u, m) ∈ P ++ (y, c) :: S ↔ 0 < m ∧ m = (cs ++ [y]).count u := by
  intro u m
  have e : (u, m) ∈ P ++ (y, c) :: S ↔ (u, m) = (y, c) ∨ (u, m) ∈ P ++ S := by
    simp only [List.mem_append, List.mem_cons]
    constructor
    · rintro (h | h | h)
      · exact .inr (.inl h)
      · exact .inl h
      · exact .inr (.inr h)
    · rintro (h | h | h)
      · exact .inr (.inl h)
      · exact .inl h
      · exact .inr (.inr h)
  rw [e, h u m, List.count_append, List.count_singleton]
  by_cases hu : u = y
  · subst hu
    simp only [Prod.mk.injEq, true_and, ne_eq, not_true, false_and, or_false, beq_self_eq_true, if_true]
    omega
  · have h2 : (y == u) = false := by simp; exact fun e => hu e.symm
    simp only [Prod.mk.injEq, hu, false_and, false_or, ne_eq, not_false_iff, true_and, h2, Bool.false_eq_true, if_false, Nat.add_zero]
/-- The list holds the name at a place; counted once more there, it is right for one name more. -/
def PreOK (cs : List Int) (y : Int) (a : Nat) (L : List (Int × Nat)) : Prop := ∃ P S c, L = P ++ (y, c) :: S ∧ P.length = a ∧ SrvOK (cs ++ [y]) (P ++ (y, c + 1) :: S)
theorem gdm {L : List (Int × Nat)} {j : Nat} (h : j < L.length) : gd (L.map Prod.fst) j = L[j].1 := by
  rw [gd_lt (by simpa using h)]; simp
theorem srv_split {cs : List Int} {L P S : List (Int × Nat)} {y : Int} {c : Nat} (h : SrvOK cs L) (e : L = P ++ (y, c) :: S) : PreOK cs y P.length L := by
  subst e
  obtain ⟨h1, h2⟩ := h
  have hy : c = cs.count y := ((h2 y c).1 (by simp)).2
  rw [List.pairwise_append, List.pairwise_cons] at h1
  obtain ⟨p1, ⟨p2, p3⟩, p4⟩ := h1
  refine ⟨P, S, c, rfl, rfl, ?_, srv_mid (fun u m => ?_) (by omega)⟩
  · rw [List.pairwise_append, List.pairwise_cons]
    refine ⟨p1, ⟨fun b hb => p2 b hb, p3⟩, fun a ha b hb => ?_⟩
    rcases List.mem_cons.1 hb with rfl | hb
    · exact p4 a ha (y, c) (.head _)
    · exact p4 a ha b (.tail _ hb)
  · have h3 := h2 u m
    constructor
    · intro hm
      have hm2 : (u, m) ∈ P ++ (y, c) :: S := by
        rcases List.mem_append.1 hm with h | h
        · exact List.mem_append.2 (.inl h)
        · exact List.mem_append.2 (.inr (.tail _ h))
      refine ⟨?_, h3.1 hm2⟩
      rcases List.mem_append.1 hm with h | h
      · have := p4 (u, m) h (y, c) (.head _)
        simp only at this; omega
      · have := p2 (u, m) h
        simp only at this; omega
    · rintro ⟨hu, hm⟩
      rcases List.mem_append.1 (h3.2 hm) with h | h
      · exact List.mem_append.2 (.inl h)
      · rcases List.mem_cons.1 h with h | h
        · exact absurd (by injection h) hu
        · exact List.mem_append.2 (.inr h)
/-- The name is there. -/
theorem pre_eq {cs : List Int} {L : List (Int × Nat)} (h : SrvOK cs L) {a : Nat} (ha : a < L.length) : PreOK cs (gd (L.map Prod.fst) a) a L := by
  have e : L = L.take a ++ (gd (L.map Prod.fst) a, L[a].2) :: L.drop (a + 1) := by
    rw [gdm ha]
    exact (List.take_append_drop a L).symm.trans (by rw [List.drop_eq_getElem_cons ha])
  have := srv_split h e
  rwa [List.length_take, Nat.min_eq_left (Nat.le_of_lt ha)] at this
/-- The name is put in its place. -/
theorem pre_ins {cs : List Int} {L : List (Int × Nat)} (h : SrvOK cs L) {a : Nat} {y : Int} (ha : a ≤ L.length) (h1 : ∀ j, j < a → gd (L.map Prod.fst) j < y) (h2 : a < L.length → y < gd (L.map Prod.fst) a) : PreOK cs y a (L.take a ++ (y, 0) :: L.drop a) := by
  have hlt : ∀ p, p ∈ L.take a → p.1 < y := fun p hp => by
    obtain ⟨j, hj, rfl⟩ := List.mem_iff_getElem.1 hp
    rw [List.length_take] at hj
    have := h1 j (by omega)
    rw [gdm (by omega)] at this
    rw [List.getElem_take]
    exact this
  have hgt : ∀ p, p ∈ L.drop a → y < p.1 := fun p hp => by
    obtain ⟨j, hj, rfl⟩ := List.mem_iff_getElem.1 hp
    rw [List.length_drop] at hj
    have h3 := h2 (by omega)
    rw [gdm (by omega)] at h3
    rw [List.getElem_drop]
    rcases Nat.eq_zero_or_pos j with hz | hz
    · subst hz; exact h3
    · have := List.pairwise_iff_getElem.1 h.1 a (a + j) (by omega) (by omega) (by omega)
      omega
  have hn : ∀ u m, (u, m) ∈ L → u ≠ y := fun u m hm e => by
    subst e
    rw [← List.take_append_drop a L] at hm
    rcases List.mem_append.1 hm with h | h
    · have := hlt _ h; simp only at this; omega
    · have := hgt _ h; simp only at this; omega
  have hc : cs.count y = 0 := by
    rcases Nat.eq_zero_or_pos (cs.count y) with h3 | h3
    · exact h3
    · exact absurd rfl (hn y _ ((h.2 y _).2 ⟨h3, rfl⟩))
  refine ⟨L.take a, L.drop a, 0, rfl, by rw [List.length_take]; omega, ?_, srv_mid (fun u m => ?_) (by omega)⟩
  · have hp := h.1
    rw [← List.take_append_drop a L, List.pairwise_append] at hp
    rw [List.pairwise_append, List.pairwise_cons]
    refine ⟨hp.1, ⟨fun b hb => hgt b hb, hp.2.1⟩, fun p hp1 b hb => ?_⟩
    rcases List.mem_cons.1 hb with rfl | hb
    · exact hlt p hp1
    · exact hp.2.2 p hp1 b hb
  · rw [List.take_append_drop, h.2 u m]
    constructor
    · exact fun hm => ⟨hn u m ((h.2 u m).2 hm), hm⟩
    · exact fun hm => hm.2
def nsL (L : List (Int × Nat)) : List Int := L.map Prod.fst
def msL (L : List (Int × Nat)) : List Int := L.map fun p => (p.2 : Int)
theorem nsL_len (L : List (Int × Nat)) : (nsL L).length = L.length := by simp [nsL]
theorem msL_len (L : List (Int × Nat)) : (msL L).length = L.length := by simp [msL]
theorem nsL_ins (L : List (Int × Nat)) (a : Nat) (y : Int) : nsL (L.take a ++ (y, 0) :: L.drop a) = (nsL L).take a ++ y :: (nsL L).drop a := by simp [nsL, List.map_take, List.map_drop]
theorem msL_ins (L : List (Int × Nat)) (a : Nat) (y : Int) : msL (L.take a ++ (y, 0) :: L.drop a) = (msL L).take a ++ 0 :: (msL L).drop a := by simp [msL, List.map_take, List.map_drop]
def cnF (p : Int × Nat) : ByteArray × Nat := (tS p.1, p.2)
theorem nm_at {L : List (Int × Nat)} {j : Nat} (h : j < L.length) : ∃ x m, (x, m) ∈ L ∧ gd (nsL L) j = x ∧ gd (msL L) j = ((m : Nat) : Int) ∧ (L.take (j + 1)).map cnF = (L.take j).map cnF ++ [(tS x, m)] := by
  refine ⟨L[j].1, L[j].2, List.getElem_mem h, gdm h, ?_, ?_⟩
  · rw [gd_lt (by simpa [msL] using h)]; simp [msL]
  · rw [List.take_succ_eq_append_getElem h, List.map_append]; rfl
/-- Counted once more: the names stay, one count grows. -/
theorem PreOK.bump {cs : List Int} {y : Int} {a : Nat} {L : List (Int × Nat)} (h : PreOK cs y a L) : ∃ (c : Nat) (L' : List (Int × Nat)), a < L.length ∧ gd (msL L) a = (c : Int) ∧ c ≤ (cs ++ [y]).length ∧ nsL L' = nsL L ∧ msL L' = (msL L).set a ((c : Int) + 1) ∧ SrvOK (cs ++ [y]) L' := by
  obtain ⟨P, S, c, rfl, rfl, h⟩ := h
  refine ⟨c, P ++ (y, c + 1) :: S, by simp, ?_, ?_, by simp [nsL], ?_, h⟩
  · rw [gd_lt (by simp [msL])]; simp [msL]
  · have h1 := ((h.2 y (c + 1)).1 (by simp)).2
    have := List.count_le_length (l := cs ++ [y]) (a := y)
    omega
  · simp [msL]
end Go.Proofs.YtiaeeclmlchpoaaGreatDoor

set_option linter.unusedVariables false
set_option linter.unusedSimpArgs false
namespace Go.Proofs.YtiaeeclmlchpoaaGreatDoor
open Go.RowKit

section
variable {P : Program} {o : Oper} {a : Act} {K : Act → World → Prop} {Q : Exit → Act → World → Prop}
/-- Some elements more, from another row, at the end of a row of the call's own. -/
theorem app_SW {w0 W : World} (base : Nat) (s x : Operand) (t e : TypeId) (z : Value) (size bytes m c : Nat) (A : Option Addr) (news : List Value) (n : Nat) (xs : List Value)
    (ho : o.op = .call { callee := .builtin .append, args := #[s, x], argTypes := #[t, t] })
    (ht : P.underlying t = some (.slice e)) (hinfo : (P.info? e).map (fun i => (i.zero, i.size, i.bytes)) = some (some z, size, bytes)) (hzs : z.cells.size = size) (hsz : 0 < size) (hb0 : 0 < bytes) (hR : Rd W size A m news) (hn1 : ∀ u ∈ news, u.oneCell' = true)
    (v : Value) (HO : W.ownsRow base e size v n xs) (hs : a.eval s = v) (hx : a.eval x = .slice A m c) (HB : Below base w0 W) (hbase : base ≤ W.heap.size) (hl : (n + m) * bytes ≤ 140737488355328)
    (h : ∀ v1 w1, w1.ownsRow base e size v1 (n + m) (xs ++ news) → Below base w0 w1 → base ≤ w1.heap.size → (∀ i, i < W.heap.size → v.ownBlock ≠ some i → w1.heap[i]? = W.heap[i]?) → W.heap.size ≤ w1.heap.size → K (a.put o.dst v1) w1) :
    o.wp P a W K Q := by
  obtain ⟨i0, hi, hzz⟩ := Option.map_eq_some_iff.1 hinfo
  simp only [Prod.mk.injEq] at hzz
  obtain ⟨hz0, hz1, hz2⟩ := hzz
  have hlen : n + m ≤ 140737488355328 := Nat.le_trans (Nat.le_mul_of_pos_right _ hb0) hl
  rcases Nat.eq_zero_or_pos m with hm | hm
  · subst hm
    have hnil : news = [] := List.eq_nil_of_length_eq_zero (by rw [hR.1]; omega)
    subst hnil
    obtain ⟨p, l, cp, rfl, hlc⟩ : ∃ p l cp, v = .slice p l cp ∧ l ≤ cp := by
      rcases HO.2 with ⟨rfl, _⟩ | ⟨g, cap, cur, rfl, _, _, h3, _⟩
      · exact ⟨_, _, _, rfl, Nat.le_refl _⟩
      · exact ⟨_, _, _, rfl, h3⟩
    have hsrc : Src P i0.size t (.slice A 0 c) 0 [] W := by
      cases A with
      | none => exact Src.ofNil W ht c
      | some ad => exact Src.ofSlice W ht ad 0 c [] (by simp) (fun j u hu => by simp at hu) (fun u hu => by cases hu)
    have hr := run_append_nothing (P := P) W t t o.type e i0 ht hi p l cp hlc (.slice A 0 c) hsrc
    unfold Oper.wp execOp
    simp only [ho, resolve, invoke, builtin, Sem.run_bind, Sem.run_pure, Result.andThen_ok, List.map_toArray, List.map_cons, List.map_nil, hs, hx, hr]
    exact h _ W (by simpa using HO) HB hbase (fun _ _ _ => rfl) (Nat.le_refl _)
  · obtain ⟨b, off, rfl, hbl, hc⟩ := hR.2 hm
    refine wp_append_own W s x t ho base e i0 z size bytes ht hi hz0 hz1 hz2 hzs hsz v n xs hs HO ⟨b, off, none⟩ m c news hx hR.1 (fun j u hu => by rw [plain_add]; exact hc j u hu) hn1 (by simp only [maxLen]; omega) hl hbase ?_
    intro v1 w1 hown hg _
    exact h v1 w1 hown (HB.grown hg hbase (ownsRow_base HO)) (Nat.le_trans hbase hg.size) (fun i hi hne => hg.block i hi (fun e => hne e.symm)) hg.size
end
/-- A slice of no element, just made. -/
theorem own_empty (W : World) (base : Nat) (e : TypeId) (size : Nat) (hbase : base ≤ W.heap.size) : (W.alloc (.cells #[] e)).ownsRow base e size (.slice (some ⟨W.heap.size, 0, none⟩) 0 0) 0 [] :=
  ⟨by simp, .inr ⟨W.heap.size, 0, #[], rfl, hbase, heap_alloc_new W _, Nat.le_refl _, Nat.zero_le _, by simp, by simp⟩⟩
theorem ownsRow_below {w w' : World} {base : Nat} {e : TypeId} {size n : Nat} {v : Value} {xs : List Value} (h : w.ownsRow base e size v n xs) (hb : Below w.heap.size w w') : w'.ownsRow base e size v n xs :=
  World.ownsRow.kept (row := none) h ⟨hb.os, hb.tape, hb.output, hb.size, fun i hi _ => hb.block i hi⟩ (by cases v.ownBlock <;> simp)
theorem ownsRow_base' {w : World} {base base' size n : Nat} {e : TypeId} {v : Value} {xs : List Value} (h : w.ownsRow base e size v n xs) (hb : base' ≤ base) : w.ownsRow base' e size v n xs :=
  ⟨h.1, h.2.imp id fun ⟨g, cap, cur, e1, h1, r⟩ => ⟨g, cap, cur, e1, Nat.le_trans hb h1, r⟩⟩
section
variable {B : Nat} {k : IntKind} {w w' : World} {xs xs' : List Value} {l l' : List Int}
theorem Rl.nil : Rl B k w [] [] := fun j z h => by simp at h
theorem Rl.join (h : Rl B k w xs l) (hl : xs.length = l.length * 2) (h' : Rl B k w xs' l') : Rl B k w (xs ++ xs') (l ++ l') := by
  intro j z hj
  rcases Nat.lt_or_ge j l.length with h1 | h1
  · rw [List.getElem?_append_left h1] at hj
    obtain ⟨nv, A, n, c, h2, h3, h4⟩ := h j z hj
    exact ⟨nv, A, n, c, by rw [List.getElem?_append_left (by omega)]; exact h2, by rw [List.getElem?_append_left (by omega)]; exact h3, h4⟩
  · rw [List.getElem?_append_right h1] at hj
    obtain ⟨nv, A, n, c, h2, h3, h4⟩ := h' _ z hj
    refine ⟨nv, A, n, c, ?_, ?_, h4⟩
    · rw [List.getElem?_append_right (by omega), ← h2]; congr 1; omega
    · rw [List.getElem?_append_right (by omega), ← h3]; congr 1; omega
theorem Rl.take (h : Rl B k w xs l) (a : Nat) : Rl B k w (xs.take (a * 2)) (l.take a) := by
  intro j z hj
  rw [List.getElem?_take] at hj
  split at hj
  · rename_i hja
    obtain ⟨nv, A, n, c, h2, h3, h4⟩ := h j z hj
    exact ⟨nv, A, n, c, by rw [List.getElem?_take, if_pos (by omega)]; exact h2, by rw [List.getElem?_take, if_pos (by omega)]; exact h3, h4⟩
  · cases hj
theorem Rl.drop (h : Rl B k w xs l) (a : Nat) : Rl B k w (xs.drop (a * 2)) (l.drop a) := by
  intro j z hj
  rw [List.getElem?_drop] at hj
  obtain ⟨nv, A, n, c, h2, h3, h4⟩ := h _ z hj
  exact ⟨nv, A, n, c, by rw [List.getElem?_drop, show a * 2 + 2 * j = 2 * (a + j) by omega]; exact h2, by rw [List.getElem?_drop, show a * 2 + (2 * j + 1) = 2 * (a + j) + 1 by omega]; exact h3, h4⟩
theorem Rl.one {nv : Bool} {A : Option Addr} {n c : Nat} {y : Int} (hy : IsZ B k w (.agg #[.bool nv, .slice A n c]) y) : Rl B k w [.bool nv, .slice A n c] [y] := by
  have := (Rl.nil (B := B) (k := k) (w := w)).snoc rfl hy
  simpa using this
theorem LsZ.of_row {base : Nat} {e : TypeId} {v : Value} (h : w.ownsRow base e 2 v l.length xs) (h2 : Rl B k w xs l) : ∃ A c, v = .slice A l.length c ∧ LsZ B k w A c l := by
  rcases h.2 with ⟨rfl, h0⟩ | ⟨g, cap, cur, rfl, hb, hg, hnc, hm, _⟩
  · have : l = [] := List.eq_nil_of_length_eq_zero h0
    subst this
    exact ⟨none, 0, rfl, xs, ⟨h.1, fun h => absurd h (by simp)⟩, Nat.le_refl _, by omega, h2⟩
  · refine ⟨some ⟨g, 0, none⟩, cap, rfl, xs, Rd.of_own h, hnc, ?_, h2⟩
    simp only [maxLen] at hm
    omega
end
/-- A number's cells are each of one. -/
theorem oneCells {w : World} {A : Option Addr} {n sz : Nat} {xs : List Value} (h : Rd w sz A n xs) : ∀ u ∈ xs, u.oneCell' = true → u.oneCell' = true := fun _ _ h => h
theorem grown_cell (w : World) (g o : Nat) (u : Value) : w.grownBy (w.setCell ⟨g, o, none⟩ u) (some g) := by
  refine ⟨rfl, rfl, rfl, by simp [World.setCell], fun i hi hne => ?_⟩
  have : g ≠ i := fun e => hne (by rw [e])
  simp [World.setCell, Array.getElem?_modify, this]
theorem grown_below {w w' : World} (h : Below w.heap.size w w') (row : Option Nat) : w.grownBy w' row := ⟨h.os, h.tape, h.output, h.size, fun i hi _ => h.block i hi⟩
theorem grown_trans {a b c : World} {row : Option Nat} (h : a.grownBy b row) (k : b.grownBy c row) : a.grownBy c row :=
  ⟨k.os.trans h.os, k.tape.trans h.tape, k.output.trans h.output, Nat.le_trans h.size k.size, fun i hi hne => (k.block i (Nat.lt_of_lt_of_le hi h.size) hne).trans (h.block i hi hne)⟩
theorem OwI.cellAt {w : World} {base : Nat} {e : TypeId} {k : IntKind} {g n c : Nat} {l : List Int} (h : OwI w base e k (.slice (some ⟨g, 0, none⟩) n c) l) {j : Nat} (hj : j < l.length) : w.cell? ⟨g, j, none⟩ = some (.int k (gd l j)) := by
  unfold OwI at h
  have hn : n = l.length := by
    rcases h.2 with ⟨h', _⟩ | ⟨g', cap', cur, h', _⟩
    · simp at h'
    · simp at h'; exact h'.2.1
  subst hn
  rw [World.ownsRow.cellAt h j (by omega), gd_lt hj]
  simp [ints, hj]
theorem OwI.frozenAt {w : World} {base : Nat} {e : TypeId} {k : IntKind} {g n c : Nat} {l : List Int} (h : OwI w base e k (.slice (some ⟨g, 0, none⟩) n c) l) (j : Nat) : w.frozen? ⟨g, j, none⟩ = false := by
  unfold OwI at h
  have hn : n = l.length := by
    rcases h.2 with ⟨h', _⟩ | ⟨g', cap', cur, h', _⟩
    · simp at h'
    · simp at h'; exact h'.2.1
  subst hn
  exact World.ownsRow.frozenAt h j
theorem OwI.setAt {w : World} {base : Nat} {e : TypeId} {k : IntKind} {g n c : Nat} {l : List Int} (h : OwI w base e k (.slice (some ⟨g, 0, none⟩) n c) l) (j : Nat) (x : Int) : OwI (w.setCell ⟨g, j, none⟩ (.int k x)) base e k (.slice (some ⟨g, 0, none⟩) n c) (l.set j x) := by
  unfold OwI at h ⊢
  have hn : n = l.length := by
    rcases h.2 with ⟨h', _⟩ | ⟨g', cap', cur, h', _⟩
    · simp at h'
    · simp at h'; exact h'.2.1
  subst hn
  rw [List.length_set, show ints k (l.set j x) = (ints k l).set j (.int k x) by simp [ints, List.map_set]]
  exact (World.ownsRow.stored h j _).1
theorem OwI.blk {w : World} {base : Nat} {e : TypeId} {k : IntKind} {v : Value} {l : List Int} (h : OwI w base e k v l) (hl : 0 < l.length) : ∃ g c, v = .slice (some ⟨g, 0, none⟩) l.length c ∧ base ≤ g ∧ g < w.heap.size := by
  unfold OwI at h
  rcases h.2 with ⟨rfl, h0⟩ | ⟨g, cap, cur, rfl, hb, hg, _⟩
  · omega
  · exact ⟨g, cap, rfl, hb, (Array.getElem?_eq_some_iff.1 hg).1⟩
theorem rd_new (w : World) (cells : List Value) (e : TypeId) : Rd (w.alloc (.cells cells.toArray e)) cells.length (some ⟨w.heap.size, 0, none⟩) 1 cells :=
  ⟨by simp, fun _ => ⟨w.heap.size, 0, rfl, by simp, fun j u hu => by simp only [World.cell?, heap_alloc_new, Nat.zero_add]; simpa using hu⟩⟩
theorem rd_far {w w' : World} {sz g n : Nat} {xs : List Value} (h : Rd w sz (some ⟨g, 0, none⟩) n xs) (hn : 0 < n) (hh : w'.heap[g]? = w.heap[g]?) (hs : w.heap.size ≤ w'.heap.size) : Rd w' sz (some ⟨g, 0, none⟩) n xs :=
  ⟨h.1, fun _ => by
    obtain ⟨b, off, e, hl, hc⟩ := h.2 hn
    injection e with e
    injection e with e1 e2
    subst e1 e2
    exact ⟨g, 0, rfl, Nat.lt_of_lt_of_le hl hs, fun j u hu => (World.cell?_of_block hh).trans (hc j u hu)⟩⟩
theorem rd_lt {w : World} {sz g n : Nat} {xs : List Value} (h : Rd w sz (some ⟨g, 0, none⟩) n xs) (hn : 0 < n) : g < w.heap.size := by
  obtain ⟨b, off, e, hl, hc⟩ := h.2 hn
  injection e with e
  injection e with e1 e2
  subst e1
  exact hl
theorem Rl.one1 {B : Nat} {k : IntKind} {w : World} {xs : List Value} {l : List Int} (h : Rl B k w xs l) (hl : xs.length = l.length * 2) : ∀ u ∈ xs, u.oneCell' = true := fun u hu => by
  obtain ⟨i, hi, rfl⟩ := List.mem_iff_getElem.1 hu
  obtain ⟨nv, A, n, c, h2, h3, -⟩ := h (i / 2) l[i / 2] (List.getElem?_eq_getElem (by omega))
  rcases Nat.mod_two_eq_zero_or_one i with h4 | h4
  · rw [show 2 * (i / 2) = i by omega, List.getElem?_eq_getElem hi] at h2
    injection h2 with h2
    rw [h2]; rfl
  · rw [show 2 * (i / 2) + 1 = i by omega, List.getElem?_eq_getElem hi] at h3
    injection h3 with h3
    rw [h3]; rfl
theorem ints_one (k : IntKind) (l : List Int) : ∀ u ∈ ints k l, u.oneCell' = true := fun u hu => by
  obtain ⟨x, -, rfl⟩ := List.mem_map.1 hu
  rfl
theorem ins_row {w : World} {base : Nat} {e : TypeId} {v : Value} {xs : List Value} {ns : List Int} {a N : Nat} {n0 : Bool} {A0 : Option Addr} {m0 k0 : Nat} {y : Int} (HR : Rl B9 .i64 w xs ns) (hx : xs.length = N * 2) (hN : ns.length = N) (hy : IsZ B9 .i64 w (.agg #[.bool n0, .slice A0 m0 k0]) y) (ha : a ≤ N)
    (h : w.ownsRow base e 2 v (0 + a + 1 + (N - a)) ([] ++ xs.take (a * 2) ++ [.bool n0, .slice A0 m0 k0] ++ xs.drop (a * 2))) : ∃ A c, v = .slice A (N + 1) c ∧ LsZ B9 .i64 w A c (ns.take a ++ y :: ns.drop a) := by
  have hl : (ns.take a ++ y :: ns.drop a).length = N + 1 := by rw [List.length_append, List.length_cons, List.length_take, List.length_drop]; omega
  have h1 : Rl B9 .i64 w (xs.take (a * 2) ++ [.bool n0, .slice A0 m0 k0] ++ xs.drop (a * 2)) (ns.take a ++ [y] ++ ns.drop a) := by
    refine Rl.join (Rl.join (HR.take a) ?_ (Rl.one hy)) ?_ (HR.drop a)
    · rw [List.length_take, List.length_take]; omega
    · rw [List.length_append, List.length_append, List.length_take, List.length_take]; simp; omega
  rw [show ns.take a ++ [y] ++ ns.drop a = ns.take a ++ y :: ns.drop a by simp] at h1
  rw [List.nil_append, show 0 + a + 1 + (N - a) = (ns.take a ++ y :: ns.drop a).length by rw [hl]; omega] at h
  obtain ⟨A, c, e1, h2⟩ := LsZ.of_row h h1
  exact ⟨A, c, by rw [e1, hl], h2⟩
theorem ins_rowI {w : World} {base : Nat} {e : TypeId} {v : Value} {ms : List Int} {a N : Nat} (hN : ms.length = N) (ha : a ≤ N)
    (h : w.ownsRow base e 1 v (0 + a + 1 + (N - a)) ([] ++ (ints .i64 ms).take (a * 1) ++ [.int .i64 0] ++ (ints .i64 ms).drop (a * 1))) : OwI w base e .i64 v (ms.take a ++ 0 :: ms.drop a) := by
  have hl : (ms.take a ++ 0 :: ms.drop a).length = 0 + a + 1 + (N - a) := by rw [List.length_append, List.length_cons, List.length_take, List.length_drop]; omega
  unfold OwI
  rw [hl]
  have e1 : ints .i64 (ms.take a ++ 0 :: ms.drop a) = [] ++ (ints .i64 ms).take (a * 1) ++ [.int .i64 0] ++ (ints .i64 ms).drop (a * 1) := by simp [ints, List.map_take, List.map_drop]
  rw [e1]
  exact h
theorem info_I : (Tryz.prog.info? 3).map (fun i => (i.zero, i.size, i.bytes)) = some (some (.int .i64 0), 1, 8) := by kernel_rfl
theorem info_Z : (Tryz.prog.info? 37).map (fun i => (i.zero, i.size, i.bytes)) = some (some (.agg #[.bool false, .slice none 0 0]), 2, 32) := by kernel_rfl
end Go.Proofs.YtiaeeclmlchpoaaGreatDoor

set_option linter.unusedVariables false
set_option linter.unusedSimpArgs false
namespace Go.Proofs.YtiaeeclmlchpoaaGreatDoor
open Go.RowKit

abbrev opc2a43b96 : Oper := { dst := some 39, op := Go.Op.move (Go.Operand.tmp 16), type := 3, pos := "ref.go:56", after := #[], guard := none }
abbrev op71ef96c9 : Oper := { dst := some 40, op := Go.Op.move (Go.Operand.tmp 9), type := 80, pos := "ref.go:56", after := #[], guard := none }
abbrev opa97bef57 : Oper := { dst := some 41, op := Go.Op.call { callee := Go.Callee.builtin Go.Builtin.len, args := #[Go.Operand.tmp 40], argTypes := #[80] }, type := 3, pos := "ref.go:56", after := #[{ on := 1, ground := Go.Ground.data }], guard := none }
abbrev opf6ca1421 : Oper := { dst := some 42, op := Go.Op.binOp Go.BinOp.lss 3 (Go.Operand.tmp 39) (Go.Operand.tmp 41) 3, type := 4, pos := "ref.go:56", after := #[{ on := 0, ground := Go.Ground.data }, { on := 2, ground := Go.Ground.data }], guard := none }
abbrev op29fd0b3c : Oper := { dst := some 43, op := Go.Op.move (Go.Operand.tmp 42), type := 4, pos := "ref.go:56", after := #[{ on := 3, ground := Go.Ground.data }], guard := none }
abbrev op2d48a317 : Oper := { dst := some 44, op := Go.Op.move (Go.Operand.tmp 9), type := 80, pos := "ref.go:56", after := #[{ on := 4, ground := Go.Ground.guard }], guard := some (4, true) }
abbrev opb4cc9903 : Oper := { dst := some 45, op := Go.Op.move (Go.Operand.tmp 16), type := 3, pos := "ref.go:56", after := #[{ on := 4, ground := Go.Ground.guard }], guard := some (4, true) }
abbrev ope13424d7 : Oper := { dst := some 46, op := Go.Op.indexAddr 80 (Go.Operand.tmp 44) (Go.Operand.tmp 45), type := 0, pos := "ref.go:56", after := #[{ on := 5, ground := Go.Ground.data }, { on := 6, ground := Go.Ground.data }, { on := 4, ground := Go.Ground.guard }], guard := some (4, true) }
abbrev op3dcd4b5c : Oper := { dst := some 47, op := Go.Op.load 37 (Go.Operand.tmp 46), type := 37, pos := "ref.go:56", after := #[{ on := 7, ground := Go.Ground.data }, { on := 4, ground := Go.Ground.guard }], guard := some (4, true) }
abbrev op6878f50d : Oper := { dst := some 48, op := Go.Op.move (Go.Operand.tmp 14), type := 80, pos := "ref.go:56", after := #[{ on := 4, ground := Go.Ground.guard }], guard := some (4, true) }
abbrev opb6966f1a : Oper := { dst := some 49, op := Go.Op.indexAddr 80 (Go.Operand.tmp 48) (Go.Operand.const (Go.Value.int Go.IntKind.i64 0)), type := 0, pos := "ref.go:56", after := #[{ on := 9, ground := Go.Ground.data }, { on := 4, ground := Go.Ground.guard }], guard := some (4, true) }
abbrev opf57f9d09 : Oper := { dst := some 50, op := Go.Op.load 37 (Go.Operand.tmp 49), type := 37, pos := "ref.go:56", after := #[{ on := 10, ground := Go.Ground.data }, { on := 4, ground := Go.Ground.guard }], guard := some (4, true) }
abbrev op6f77b9f7 : Oper := { dst := some 52, op := Go.Op.binOp Go.BinOp.lss 3 (Go.Operand.tmp 51) (Go.Operand.const (Go.Value.int Go.IntKind.i64 0)) 3, type := 4, pos := "ref.go:56", after := #[{ on := 12, ground := Go.Ground.data }, { on := 4, ground := Go.Ground.guard }], guard := some (4, true) }
abbrev opdaf3b00a : Oper := { dst := some 53, op := Go.Op.pick (Go.Operand.tmp 43) (Go.Operand.tmp 52) (Go.Operand.const (Go.Value.bool false)), type := 4, pos := "ref.go:56", after := #[{ on := 4, ground := Go.Ground.data }, { on := 13, ground := Go.Ground.data }], guard := none }
abbrev op698977d8 : Oper := { dst := some 56, op := Go.Op.move (Go.Operand.tmp 16), type := 3, pos := "ref.go:59", after := #[], guard := none }
abbrev op5b63df2b : Oper := { dst := some 57, op := Go.Op.move (Go.Operand.tmp 9), type := 80, pos := "ref.go:59", after := #[], guard := none }
abbrev op3f440d30 : Oper := { dst := some 58, op := Go.Op.call { callee := Go.Callee.builtin Go.Builtin.len, args := #[Go.Operand.tmp 57], argTypes := #[80] }, type := 3, pos := "ref.go:59", after := #[{ on := 1, ground := Go.Ground.data }], guard := none }
abbrev opecce4bf9 : Oper := { dst := some 59, op := Go.Op.binOp Go.BinOp.eql 3 (Go.Operand.tmp 56) (Go.Operand.tmp 58) 3, type := 4, pos := "ref.go:59", after := #[{ on := 0, ground := Go.Ground.data }, { on := 2, ground := Go.Ground.data }], guard := none }
abbrev op3fbc45ba : Oper := { dst := some 60, op := Go.Op.move (Go.Operand.tmp 59), type := 4, pos := "ref.go:59", after := #[{ on := 3, ground := Go.Ground.data }], guard := none }
abbrev op83dc36ea : Oper := { dst := some 61, op := Go.Op.move (Go.Operand.tmp 9), type := 80, pos := "ref.go:59", after := #[{ on := 4, ground := Go.Ground.guard }], guard := some (4, false) }
abbrev opbdefbd24 : Oper := { dst := some 62, op := Go.Op.move (Go.Operand.tmp 16), type := 3, pos := "ref.go:59", after := #[{ on := 4, ground := Go.Ground.guard }], guard := some (4, false) }
abbrev opa0b944be : Oper := { dst := some 63, op := Go.Op.indexAddr 80 (Go.Operand.tmp 61) (Go.Operand.tmp 62), type := 0, pos := "ref.go:59", after := #[{ on := 5, ground := Go.Ground.data }, { on := 6, ground := Go.Ground.data }, { on := 4, ground := Go.Ground.guard }], guard := some (4, false) }
abbrev op8da9094d : Oper := { dst := some 64, op := Go.Op.load 37 (Go.Operand.tmp 63), type := 37, pos := "ref.go:59", after := #[{ on := 7, ground := Go.Ground.data }, { on := 4, ground := Go.Ground.guard }], guard := some (4, false) }
abbrev opa9c6facb : Oper := { dst := some 65, op := Go.Op.move (Go.Operand.tmp 14), type := 80, pos := "ref.go:59", after := #[{ on := 4, ground := Go.Ground.guard }], guard := some (4, false) }
abbrev opac892562 : Oper := { dst := some 66, op := Go.Op.indexAddr 80 (Go.Operand.tmp 65) (Go.Operand.const (Go.Value.int Go.IntKind.i64 0)), type := 0, pos := "ref.go:59", after := #[{ on := 9, ground := Go.Ground.data }, { on := 4, ground := Go.Ground.guard }], guard := some (4, false) }
abbrev op39b6c788 : Oper := { dst := some 67, op := Go.Op.load 37 (Go.Operand.tmp 66), type := 37, pos := "ref.go:59", after := #[{ on := 10, ground := Go.Ground.data }, { on := 4, ground := Go.Ground.guard }], guard := some (4, false) }
abbrev op77f08b07 : Oper := { dst := some 69, op := Go.Op.binOp Go.BinOp.neq 3 (Go.Operand.tmp 68) (Go.Operand.const (Go.Value.int Go.IntKind.i64 0)) 3, type := 4, pos := "ref.go:59", after := #[{ on := 12, ground := Go.Ground.data }, { on := 4, ground := Go.Ground.guard }], guard := some (4, false) }
abbrev op7c5f5929 : Oper := { dst := some 70, op := Go.Op.pick (Go.Operand.tmp 60) (Go.Operand.const (Go.Value.bool true)) (Go.Operand.tmp 69), type := 4, pos := "ref.go:59", after := #[{ on := 4, ground := Go.Ground.data }, { on := 13, ground := Go.Ground.data }], guard := none }
abbrev op9833e2f5 : Oper := { dst := some 9, op := Go.Op.assign (Go.Operand.tmp 84), type := 80, pos := "ref.go:60", after := #[{ on := 13, ground := Go.Ground.data }, { on := 13, ground := Go.Ground.chain }, { on := 0, ground := Go.Ground.phase }, { on := 1, ground := Go.Ground.phase }, { on := 2, ground := Go.Ground.phase }, { on := 3, ground := Go.Ground.phase }, { on := 4, ground := Go.Ground.phase }, { on := 5, ground := Go.Ground.phase }, { on := 6, ground := Go.Ground.phase }, { on := 7, ground := Go.Ground.phase }, { on := 8, ground := Go.Ground.phase }, { on := 9, ground := Go.Ground.phase }, { on := 10, ground := Go.Ground.phase }, { on := 11, ground := Go.Ground.phase }, { on := 12, ground := Go.Ground.phase }, { on := 13, ground := Go.Ground.phase }], guard := none }
abbrev op62aafd77 : Oper := { dst := some 10, op := Go.Op.assign (Go.Operand.tmp 95), type := 22, pos := "ref.go:61", after := #[{ on := 10, ground := Go.Ground.data }, { on := 10, ground := Go.Ground.chain }, { on := 0, ground := Go.Ground.phase }, { on := 1, ground := Go.Ground.phase }, { on := 2, ground := Go.Ground.phase }, { on := 3, ground := Go.Ground.phase }, { on := 4, ground := Go.Ground.phase }, { on := 5, ground := Go.Ground.phase }, { on := 6, ground := Go.Ground.phase }, { on := 7, ground := Go.Ground.phase }, { on := 8, ground := Go.Ground.phase }, { on := 9, ground := Go.Ground.phase }, { on := 10, ground := Go.Ground.phase }], guard := none }
attribute [local go_sem] opc2a43b96 op71ef96c9 opa97bef57 opf6ca1421 op29fd0b3c op2d48a317 opb4cc9903 ope13424d7 op3dcd4b5c op6878f50d opb6966f1a opf57f9d09 op6f77b9f7 opdaf3b00a op698977d8 op5b63df2b op3f440d30 opecce4bf9 op3fbc45ba op83dc36ea opbdefbd24 opa0b944be op8da9094d opa9c6facb opac892562 op39b6c788 op77f08b07 op7c5f5929 op9833e2f5 op62aafd77
/-- What holds of the names and their counts between two rounds. -/
structure S5 (B0 : Nat) (W0 wr : World) (mv : Value) (An : Option Addr) (cn : Nat) (L : List (Int × Nat)) : Prop where
  hb : Below B0 W0 wr
  ns : ∀ W', wr.grownBy W' mv.ownBlock → LsZ B9 .i64 W' An cn (nsL L)
  ms : OwI wr B0 3 .i64 mv (msL L)
section
variable {B0 : Nat} {W0 wr w' : World} {mv : Value} {An : Option Addr} {cn : Nat} {L : List (Int × Nat)}
theorem below_more (h : Below B0 W0 wr) (h0 : W0.heap.size = B0) (hb : Below wr.heap.size wr w') : Below B0 W0 w' := h.trans (hb.mono (by have := h.size; omega))
theorem S5.keep (h : S5 B0 W0 wr mv An cn L) (h0 : W0.heap.size = B0) (hb : Below wr.heap.size wr w') : S5 B0 W0 w' mv An cn L :=
  ⟨below_more h.hb h0 hb, fun W' hg => h.ns W' (grown_trans (grown_below hb _) hg), h.ms.below hb⟩
theorem S5.names (h : S5 B0 W0 wr mv An cn L) : LsZ B9 .i64 wr An cn (nsL L) := h.ns wr (grown_below (Below.refl _ _) _)
theorem S5.start (h0 : W0.heap.size = B0) : S5 B0 W0 W0 (.slice none 0 0) none 0 [] := ⟨Below.refl _ _, fun W' _ => LsZ.nil _, OwI.nil _ _ _ _⟩
end
set_option maxRecDepth 100000 in
set_option maxHeartbeats 8000000 in
theorem Survey5_c (M : Mp) (z : Int) (count most : Nat) (v u : Value) (w : World) (hM : IsM w v M) (hz : IsN w u z) (hok : okM M) (sz : (dg B9 z).length ≤ 2000) (hc : count ≤ 20000) (hm : most ≤ 20000) :
    Calls Tryz.prog 17 #[v, u, .int .i64 count, .int .i64 most] w fun e w' => ∃ (L : List (Int × Nat)) (q : Nat) (A : Option Addr) (c : Nat), e = .returned (.slice A (cnL L q).length c) ∧ q + (lsts M most z count).length = count ∧ SrvOK (lsts M most z count) L ∧ Hid (LsC w' A c (cnL L q)) ∧ Below w.heap.size w w' := by
  obtain ⟨md, A, n, c, A', n', c', rfl, HM⟩ := hM.form
  obtain ⟨nz, Az, mz, kz, rfl, HZ⟩ := hz.form
  have V3 := VM.new w 24 HM.out
  have HB := below_alloc (Below.refl w.heap.size w) (Obj.cells #[Value.int .i64 md, Value.slice A n c, Value.slice A' n' c'] 24)
  have HZ1 := Lib.hid (HZ.out.below HB)
  have VA := VX.new (w.alloc (Obj.cells #[Value.int .i64 md, Value.slice A n c, Value.slice A' n' c'] 24)) 37 HZ1.out
  have hb := below_alloc (Below.refl _ (w.alloc (Obj.cells #[Value.int .i64 md, Value.slice A n c, Value.slice A' n' c'] 24))) (Obj.cells #[Value.bool nz, Value.slice Az mz kz] 37)
  rw [show (w.alloc (Obj.cells #[Value.int .i64 md, Value.slice A n c, Value.slice A' n' c'] 24)).heap.size = w.heap.size + 1 by simp] at VA
  replace V3 := V3.keep hb
  replace HB := below_step HB hb
  have HSZ := Lib.hid sz
  have HOKM := Lib.hid hok
  have hc0 : (0 : Int) ≤ (count : Int) := by omega
  have hc1 : (count : Int) ≤ 20000 := by omega
  have hm0 : (0 : Int) ≤ (most : Int) := by omega
  have hm1 : (most : Int) ≤ 20000 := by omega
  clear hM hz hok sz hb HZ HZ1 HM
  go_enter Tryz.func17, Tryz.ntmps17
  go_wp2_with fail
  generalize hW0 : (w.alloc (Obj.cells #[Value.int .i64 md, Value.slice A n c, Value.slice A' n' c'] 24)).alloc (Obj.cells #[Value.bool nz, Value.slice Az mz kz] 37) = W0 at *
  obtain ⟨B0, hB0⟩ : ∃ B, W0.heap.size = B := ⟨_, rfl⟩
  have hwB : w.heap.size + 1 < B0 := by rw [← hB0]; exact VA.lt
  clear hW0
  go_loopg [9, 10, 11, 12] count (fun g nv mv qv iv wr => ∃ (i q : Nat) (L : List (Int × Nat)) (An : Option Addr) (cn : Nat), g = count - i ∧ nv = .slice An L.length cn ∧ qv = .int .i64 q ∧ iv = .int .i64 i ∧ i ≤ count ∧ q + (lsts M most z i).length = i ∧ Hid (SrvOK (lsts M most z i) L) ∧ S5 B0 W0 wr mv An cn L)
  case atStart => exact ⟨0, 0, [], none, 0, rfl, rfl, rfl, rfl, Nat.zero_le _, rfl, ⟨.nil, fun y m => by simp [lsts]; omega⟩, S5.start hB0⟩
  case round =>
    obtain ⟨i, q, L, An, cn, hgk, rfl, rfl, rfl, hi, hql, HSV, S_⟩ := hrel
    have hi0 : (0 : Int) ≤ (i : Int) := by omega
    have hq0 : (0 : Int) ≤ (q : Int) := by omega
    have hLn : L.length ≤ 20000 := by
      have h1 := HSV.out
      have h2 := lsts_len M most z i
      have h3 := nodup_len (L.map Prod.fst) (lsts M most z i) (rise_nodup h1.1) (fun x hx => by
        obtain ⟨p, hp, rfl⟩ := List.mem_map.1 hx
        exact List.count_pos_iff.1 (by have := (h1.2 p.1 p.2).1 hp; omega))
      rw [List.length_map] at h3
      omega
    by_cases hic : i < count
    · have hi1 : (i : Int) < (count : Int) := by omega
      have HLI : Hid ((dg B9 (z + (i : Int))).length ≤ 2100) := by
        have h1 := len_add B9two z (i : Int)
        have h2 := HSZ.out
        have h3 : (dg B9 (i : Int)).length ≤ 2 := len_small (by omega) (by omega)
        show _ ≤ _
        omega
      have HLi : Hid ((dg B9 (i : Int)).length ≤ 1000000000000) := by
        have h3 : (dg B9 (i : Int)).length ≤ 2 := len_small (by omega) (by omega)
        show _ ≤ _
        omega
      obtain ⟨Rr, hRr⟩ : ∃ R, flwA M (most + 1) [] (z + (i : Int)) = R := ⟨_, rfl⟩
      have HC : Hid (Rr = (3, 0, []) ∨ Rr = (4, 0, []) ∨ ∃ t l, Rr = (0, t, l) ∧ 0 < l.length ∧ l.length ≤ most ∧ t + l.length ≤ most ∧ ∀ x, x ∈ l → dl x ≤ 2000) := by have := flw_cases M (z + (i : Int)) most; rw [hRr] at this; exact this
      have HLS2 : Hid (lsts M most z (i + 1) = lsts M most z i ++ (if Rr.1 = 0 then some (gd Rr.2.2 0) else none).toList) := by show _ = _; rw [lsts_succ]; unfold lstO; rw [hRr]
      have HFL : Hid (∀ (W : World) (v u : Value), IsM W v M → IsN W u (z + (i : Int)) → Calls Tryz.prog 39 #[v, u, .int .i64 most] W fun e w' => ∃ A c, e = .returned (.tuple #[.int .i64 Rr.2.1, .slice A Rr.2.2.length c, .int .i64 Rr.1]) ∧ Hid (LsZ B9 .i64 w' A c Rr.2.2) ∧ Below W.heap.size W w') := fun W v u h1 h2 => by
        have := Fate5_c M (z + (i : Int)) most v u W h1 h2 HOKM.out HLI.out (by omega)
        rw [← flwA_fateL, hRr] at this
        exact this
      clear hRr
      have VR := V3.keep (by rw [hB0]; exact S_.hb)
      have VZ := VA.keep (by rw [hB0]; exact S_.hb)
      have m0 := VR.c0; have m1 := VR.c1; have m2 := VR.c2; have x0 := VZ.c0; have x1 := VZ.c1
      go_wp2_with fail
      clear m0 m1 m2 x0 x1
      replace VR := VR.drew; replace VZ := VZ.drew; replace S_ := S_.keep hB0 (below_drew (Below.refl _ _))
      generalize hWd : wr.drew = wd at *
      refine wp_region_F (fun w' => (w'.cell? ⟨w.heap.size, 0, none⟩ = some (.int .i64 md) ∧ w'.cell? ⟨w.heap.size, 1, none⟩ = some (.slice A n c) ∧ w'.cell? ⟨w.heap.size, 2, none⟩ = some (.slice A' n' c')) ∧ w'.cell? ⟨w.heap.size + 1, 0, none⟩ = some (.bool nz) ∧ w'.cell? ⟨w.heap.size + 1, 1, none⟩ = some (.slice Az mz kz)) [] (by kernel_rfl) (by rw [hWd]; exact ⟨⟨VR.c0, VR.c1, VR.c2⟩, VZ.c0, VZ.c1⟩) (fun hHeld => ?_)
      rw [hWd] at hHeld ⊢
      refine wpF_t (i := 0) (oi := { dst := some 25, op := Go.Op.load 24 (Go.Operand.tmp 4), type := 24, pos := "ref.go:50", after := #[], guard := none }) (v := ?_) rfl (by kernel_rfl) (fun _ _ _ h => h) (Or.inl ⟨by rfl, ?_⟩) hHeld ?_; rotate_left
      · intro w_ hSw_; (try dsimp only at hSw_); go_simp; (try with_reducible rfl)
      try go_frame
      refine wpF_t (i := 1) (oi := { dst := some 26, op := Go.Op.load 37 (Go.Operand.tmp 5), type := 37, pos := "ref.go:50", after := #[], guard := none }) (v := ?_) rfl (by kernel_rfl) (fun _ _ _ h => h) (Or.inl ⟨by rfl, ?_⟩) hHeld ?_; rotate_left
      · intro w_ hSw_; (try dsimp only at hSw_); go_simp; (try with_reducible rfl)
      try go_frame
      refine wpF_t (i := 2) (oi := { dst := some 27, op := Go.Op.move (Go.Operand.tmp 12), type := 3, pos := "ref.go:50", after := #[], guard := none }) (v := ?_) rfl (by kernel_rfl) (fun _ _ _ h => h) (Or.inl ⟨by rfl, ?_⟩) hHeld ?_; rotate_left
      · intro w_ hSw_; (try dsimp only at hSw_); go_simp; (try with_reducible rfl)
      try go_frame
      refine wpF_t (i := 5) (oi := { dst := some 30, op := Go.Op.move (Go.Operand.tmp 3), type := 3, pos := "ref.go:50", after := #[], guard := none }) (v := ?_) rfl (by kernel_rfl) (fun _ _ _ h => h) (Or.inl ⟨by rfl, ?_⟩) hHeld ?_; rotate_left
      · intro w_ hSw_; (try dsimp only at hSw_); go_simp; (try with_reducible rfl)
      try go_frame
      refine wpAnyF_one (i := 3) (by kernel_rfl) rfl (fun K hK => ?_)
      go_simp
      (go_at_call 15; (with_reducible refine (Of_c (i : Int) _ (by omega) (by omega)).mono ?_); rintro e w11 ⟨v, rfl, hv, hb⟩; obtain ⟨n11, A11, m11, k11, rfl, H11⟩ := hv.form; clear hv; replace VR := VR.keep hb; replace VZ := VZ.keep hb; replace S_ := S_.keep hB0 hb; clear hb)
      refine hK.out _ _ (by exact ⟨⟨VR.c0, VR.c1, VR.c2⟩, VZ.c0, VZ.c1⟩) (fun hHeld => ?_)
      clear hK K
      try go_frame
      refine wpAnyF_one (i := 4) (by kernel_rfl) rfl (fun K hK => ?_)
      go_simp
      (go_at_call 14; (with_reducible refine (Add_c z (i : Int) _ _ _ VZ.iz.out H11.out (by have := HSZ.out; omega) HLi.out).mono ?_); rintro e w12 ⟨v, rfl, hv, hb⟩; obtain ⟨n12, A12, m12, k12, rfl, H12⟩ := hv.form; clear hv; replace VR := VR.keep hb; replace VZ := VZ.keep hb; replace S_ := S_.keep hB0 hb; clear hb)
      refine hK.out _ _ (by exact ⟨⟨VR.c0, VR.c1, VR.c2⟩, VZ.c0, VZ.c1⟩) (fun hHeld => ?_)
      clear hK K
      try go_frame
      refine wpAnyF_one (i := 6) (by kernel_rfl) rfl (fun K hK => ?_)
      go_simp
      (go_at_call 39; (with_reducible refine (HFL.out _ _ _ VR.im.out H12.out).mono ?_); rintro e w13 ⟨A13, c13, rfl, HL13, hb⟩; replace VR := VR.keep hb; replace VZ := VZ.keep hb; replace S_ := S_.keep hB0 hb; clear hb)
      refine hK.out _ _ (by exact ⟨⟨VR.c0, VR.c1, VR.c2⟩, VZ.c0, VZ.c1⟩) (fun hHeld => ?_)
      clear hK K
      try go_frame
      refine wpF_t (i := 7) (oi := { dst := some 24, op := Go.Op.move (Go.Operand.tmp 31), type := 81, pos := "ref.go:50", after := #[{ on := 6, ground := Go.Ground.data }], guard := none }) (v := ?_) rfl (by kernel_rfl) (fun _ _ _ h => h) (Or.inl ⟨by rfl, ?_⟩) hHeld ?_; rotate_left
      · intro w_ hSw_; (try dsimp only at hSw_); go_simp; (try with_reducible rfl)
      try go_frame
      refine wpF_t (i := 8) (oi := { dst := some 32, op := Go.Op.extract (Go.Operand.tmp 24) 0, type := 3, pos := "ref.go:50", after := #[{ on := 7, ground := Go.Ground.data }], guard := none }) (v := ?_) rfl (by kernel_rfl) (fun _ _ _ h => h) (Or.inl ⟨by rfl, ?_⟩) hHeld ?_; rotate_left
      · intro w_ hSw_; (try dsimp only at hSw_); go_simp; (try with_reducible rfl)
      try go_frame
      refine wpF_t (i := 9) (oi := { dst := some 33, op := Go.Op.extract (Go.Operand.tmp 24) 1, type := 80, pos := "ref.go:50", after := #[{ on := 7, ground := Go.Ground.data }, { on := 11, ground := Go.Ground.gcOnly Go.Departure.lateStores }], guard := none }) (v := ?_) rfl (by kernel_rfl) (fun _ _ _ h => h) (Or.inl ⟨by rfl, ?_⟩) hHeld ?_; rotate_left
      · intro w_ hSw_; (try dsimp only at hSw_); go_simp; (try with_reducible rfl)
      try go_frame
      refine wpF_t (i := 10) (oi := { dst := some 34, op := Go.Op.extract (Go.Operand.tmp 24) 2, type := 32, pos := "ref.go:50", after := #[{ on := 7, ground := Go.Ground.data }, { on := 12, ground := Go.Ground.gcOnly Go.Departure.lateStores }], guard := none }) (v := ?_) rfl (by kernel_rfl) (fun _ _ _ h => h) (Or.inl ⟨by rfl, ?_⟩) hHeld ?_; rotate_left
      · intro w_ hSw_; (try dsimp only at hSw_); go_simp; (try with_reducible rfl)
      try go_frame
      refine wpF_t (i := 11) (oi := { dst := some 13, op := Go.Op.assign (Go.Operand.tmp 32), type := 3, pos := "ref.go:50", after := #[{ on := 8, ground := Go.Ground.data }, { on := 6, ground := Go.Ground.chain }, { on := 0, ground := Go.Ground.phase }, { on := 1, ground := Go.Ground.phase }, { on := 2, ground := Go.Ground.phase }, { on := 3, ground := Go.Ground.phase }, { on := 4, ground := Go.Ground.phase }, { on := 5, ground := Go.Ground.phase }, { on := 6, ground := Go.Ground.phase }, { on := 7, ground := Go.Ground.phase }, { on := 8, ground := Go.Ground.phase }, { on := 9, ground := Go.Ground.textOnly Go.Departure.lateStores }, { on := 10, ground := Go.Ground.textOnly Go.Departure.lateStores }], guard := none }) (v := ?_) rfl (by kernel_rfl) (fun _ _ _ h => h) (Or.inl ⟨by rfl, ?_⟩) hHeld ?_; rotate_left
      · intro w_ hSw_; (try dsimp only at hSw_); go_simp; (try with_reducible rfl)
      try go_frame
      refine wpF_t (i := 12) (oi := { dst := some 14, op := Go.Op.assign (Go.Operand.tmp 33), type := 80, pos := "ref.go:50", after := #[{ on := 9, ground := Go.Ground.data }, { on := 11, ground := Go.Ground.chain }, { on := 0, ground := Go.Ground.phase }, { on := 1, ground := Go.Ground.phase }, { on := 2, ground := Go.Ground.phase }, { on := 3, ground := Go.Ground.phase }, { on := 4, ground := Go.Ground.phase }, { on := 5, ground := Go.Ground.phase }, { on := 6, ground := Go.Ground.phase }, { on := 7, ground := Go.Ground.phase }, { on := 8, ground := Go.Ground.phase }, { on := 9, ground := Go.Ground.phase }, { on := 10, ground := Go.Ground.textOnly Go.Departure.lateStores }, { on := 11, ground := Go.Ground.phase }], guard := none }) (v := ?_) rfl (by kernel_rfl) (fun _ _ _ h => h) (Or.inl ⟨by rfl, ?_⟩) hHeld ?_; rotate_left
      · intro w_ hSw_; (try dsimp only at hSw_); go_simp; (try with_reducible rfl)
      try go_frame
      refine wpF_t (i := 13) (oi := { dst := some 15, op := Go.Op.assign (Go.Operand.tmp 34), type := 32, pos := "ref.go:50", after := #[{ on := 10, ground := Go.Ground.data }, { on := 12, ground := Go.Ground.chain }, { on := 0, ground := Go.Ground.phase }, { on := 1, ground := Go.Ground.phase }, { on := 2, ground := Go.Ground.phase }, { on := 3, ground := Go.Ground.phase }, { on := 4, ground := Go.Ground.phase }, { on := 5, ground := Go.Ground.phase }, { on := 6, ground := Go.Ground.phase }, { on := 7, ground := Go.Ground.phase }, { on := 8, ground := Go.Ground.phase }, { on := 9, ground := Go.Ground.phase }, { on := 10, ground := Go.Ground.phase }, { on := 11, ground := Go.Ground.phase }, { on := 12, ground := Go.Ground.phase }], guard := none }) (v := ?_) rfl (by kernel_rfl) (fun _ _ _ h => h) (Or.inl ⟨by rfl, ?_⟩) hHeld ?_; rotate_left
      · intro w_ hSw_; (try dsimp only at hSw_); go_simp; (try with_reducible rfl)
      try go_frame
      refine wpAnyF_done (by kernel_rfl) ?_ _
      clear hHeld hWd
      have hqw : IntKind.i64.wrap ((q : Int) + 1) = (q : Int) + 1 := by rw [IntKind.wrap_i64]; omega
      rcases HC.out with h | h | ⟨t, l, h, hl1, -, -, hl4⟩
      · subst h
        dsimp only
        go_wp2
        go_roundg (count - (i + 1))
        case measure => omega
        case rel => exact ⟨i + 1, q + 1, L, An, cn, rfl, rfl, by go_num, by go_num, by omega, by rw [HLS2.out]; simp; omega, by rw [HLS2.out]; simp; exact HSV, S_⟩
      · subst h
        dsimp only
        go_wp2
        go_roundg (count - (i + 1))
        case measure => omega
        case rel => exact ⟨i + 1, q + 1, L, An, cn, rfl, rfl, by go_num, by go_num, by omega, by rw [HLS2.out]; simp; omega, by rw [HLS2.out]; simp; exact HSV, S_⟩
      · subst h
        dsimp only at HL13 HLS2 ⊢
        clear HC HFL HLI HLi VR VZ H11 H12 hqw
        obtain ⟨bl, ol, n0, A0, m0, k0, rfl, hbl, g0, g1, gi⟩ := HL13.out.at (j := 0) hl1
        have G0 : CL w13 bl ol (.bool n0) := ⟨g0, hbl⟩
        have G1 : CL w13 bl (ol + 1) (.slice A0 m0 k0) := ⟨g1, hbl⟩
        have hll : (0 : Int) < (l.length : Int) := by omega
        clear g0 g1 hbl HL13 hl4
        generalize hyy : gd l 0 = y at *
        clear hyy
        generalize l.length = ll at *
        have HNm := Lib.hid S_.names
        go_upto_block 2 with fail
        go_cut [16] from 39 to 55 (fun av wx => ∃ a : Nat, av = .int .i64 a ∧ a ≤ L.length ∧ Hid (∀ j, j < a → gd (nsL L) j < y) ∧ Hid (a < L.length → ¬ gd (nsL L) a < y) ∧ Below w13.heap.size w13 wx)
        case first =>
          go_wp2_with fail
          go_loopg [16] L.length (fun g av wr => ∃ a : Nat, g = L.length - a ∧ av = .int .i64 a ∧ a ≤ L.length ∧ Hid (∀ j, j < a → gd (nsL L) j < y) ∧ Below w13.heap.size w13 wr)
          case atStart => exact ⟨0, rfl, rfl, Nat.zero_le _, fun j h => absurd h (by omega), Below.refl _ _⟩
          case round =>
            obtain ⟨a, hga, rfl, ha, HJ, HBa⟩ := hrel
            have ha0 : (0 : Int) ≤ (a : Int) := by omega
            by_cases haL : a < L.length
            · have ha1 : (a : Int) < (L.length : Int) := by omega
              obtain ⟨b9, o9, n9, A9, m9, k9, rfl, hlt9, q0, q1, HZ9⟩ := (HNm.out.below HBa).at (j := a) (by rw [nsL_len]; exact haL)
              replace q0 : CL wr b9 (o9 + a * 2) (.bool n9) := ⟨q0, hlt9⟩
              replace q1 : CL wr b9 (o9 + a * 2 + 1) (.slice A9 m9 k9) := ⟨q1, hlt9⟩
              have p0 := G0.keep HBa
              have p1 := G1.keep HBa
              have HY := Lib.hid (gi.out.below HBa)
              obtain ⟨x, hx⟩ : ∃ x, gd (nsL L) a = x := ⟨_, rfl⟩
              rw [hx] at HZ9
              have HX := Lib.hid hx
              clear hx hlt9
              by_cases hxy : x < y
              · have hcmp : icmp x y < 0 := (icmp_lt' _ _).2 hxy
                have hdc : decide (icmp x y < 0) = true := decide_eq_true hcmp
                have HJ2 : Hid (∀ j, j < a + 1 → gd (nsL L) j < y) := fun j hj => by
                  rcases Nat.lt_or_ge j a with h2 | h2
                  · exact HJ.out j h2
                  · obtain rfl : j = a := by omega
                    rw [HX.out]; exact hxy
                have r0 := p0.c; have r1 := p1.c; have r2 := q0.c; have r3 := q1.c
                go_wp2_with fail
                clear r0 r1 r2 r3
                replace p0 := p0.drew; replace p1 := p1.drew; replace q0 := q0.drew; replace q1 := q1.drew; replace HY := Lib.hid (HY.out.below (below_drew (Below.refl _ _))); replace HZ9 := Lib.hid (HZ9.out.below (below_drew (Below.refl _ _))); replace HBa := below_drew HBa
                generalize hWd : wr.drew = wd at *
                refine wp_region_F (fun w' => w'.cell? ⟨bl, ol, none⟩ = some (.bool n0) ∧ w'.cell? ⟨bl, ol + 1, none⟩ = some (.slice A0 m0 k0) ∧ w'.cell? ⟨b9, o9 + a * 2, none⟩ = some (.bool n9) ∧ w'.cell? ⟨b9, o9 + a * 2 + 1, none⟩ = some (.slice A9 m9 k9)) [] (by kernel_rfl) (by rw [hWd]; exact ⟨p0.c, p1.c, q0.c, q1.c⟩) (fun hHeld => ?_)
                rw [hWd] at hHeld ⊢
                refine wpF_t (i := 0) (oi := opc2a43b96) (v := ?_) rfl (by kernel_rfl) (fun _ _ _ h => h) (Or.inl ⟨by rfl, ?_⟩) hHeld ?_; rotate_left
                · intro w_ hSw_; (try dsimp only at hSw_); go_simp; (try with_reducible rfl)
                try go_frame
                refine wpF_t (i := 1) (oi := op71ef96c9) (v := ?_) rfl (by kernel_rfl) (fun _ _ _ h => h) (Or.inl ⟨by rfl, ?_⟩) hHeld ?_; rotate_left
                · intro w_ hSw_; (try dsimp only at hSw_); go_simp; (try with_reducible rfl)
                try go_frame
                refine wpF_t (i := 2) (oi := opa97bef57) (v := ?_) rfl (by kernel_rfl) (fun _ _ _ h => h) (Or.inl ⟨by rfl, ?_⟩) hHeld ?_; rotate_left
                · intro w_ hSw_; (try dsimp only at hSw_); go_simp; (try with_reducible rfl)
                try go_frame
                refine wpF_t (i := 3) (oi := opf6ca1421) (v := ?_) rfl (by kernel_rfl) (fun _ _ _ h => h) (Or.inl ⟨by rfl, ?_⟩) hHeld ?_; rotate_left
                · intro w_ hSw_; (try dsimp only at hSw_); go_simp; (try with_reducible rfl)
                try go_frame
                refine wpF_t (i := 4) (oi := op29fd0b3c) (v := ?_) rfl (by kernel_rfl) (fun _ _ _ h => h) (Or.inl ⟨by rfl, ?_⟩) hHeld ?_; rotate_left
                · intro w_ hSw_; (try dsimp only at hSw_); go_simp; (try with_reducible rfl)
                try go_frame
                refine wpF_t (i := 5) (oi := op2d48a317) (v := ?_) rfl (by kernel_rfl) (fun _ _ _ h => h) (Or.inl ⟨by rfl, ?_⟩) hHeld ?_; rotate_left
                · intro w_ hSw_; (try dsimp only at hSw_); go_simp; (try with_reducible rfl)
                try go_frame
                refine wpF_t (i := 6) (oi := opb4cc9903) (v := ?_) rfl (by kernel_rfl) (fun _ _ _ h => h) (Or.inl ⟨by rfl, ?_⟩) hHeld ?_; rotate_left
                · intro w_ hSw_; (try dsimp only at hSw_); go_simp; (try with_reducible rfl)
                try go_frame
                refine wpF_t (i := 7) (oi := ope13424d7) (v := ?_) rfl (by kernel_rfl) (fun _ _ _ h => h) (Or.inl ⟨by rfl, ?_⟩) hHeld ?_; rotate_left
                · intro w_ hSw_; (try dsimp only at hSw_); go_simp; (try with_reducible rfl)
                try go_frame
                refine wpF_t (i := 8) (oi := op3dcd4b5c) (v := ?_) rfl (by kernel_rfl) (fun _ _ _ h => h) (Or.inl ⟨by rfl, ?_⟩) hHeld ?_; rotate_left
                · intro w_ hSw_; (try dsimp only at hSw_); go_simp; (try with_reducible rfl)
                try go_frame
                refine wpF_t (i := 9) (oi := op6878f50d) (v := ?_) rfl (by kernel_rfl) (fun _ _ _ h => h) (Or.inl ⟨by rfl, ?_⟩) hHeld ?_; rotate_left
                · intro w_ hSw_; (try dsimp only at hSw_); go_simp; (try with_reducible rfl)
                try go_frame
                refine wpF_t (i := 10) (oi := opb6966f1a) (v := ?_) rfl (by kernel_rfl) (fun _ _ _ h => h) (Or.inl ⟨by rfl, ?_⟩) hHeld ?_; rotate_left
                · intro w_ hSw_; (try dsimp only at hSw_); go_simp; (try with_reducible rfl)
                try go_frame
                refine wpF_t (i := 11) (oi := opf57f9d09) (v := ?_) rfl (by kernel_rfl) (fun _ _ _ h => h) (Or.inl ⟨by rfl, ?_⟩) hHeld ?_; rotate_left
                · intro w_ hSw_; (try dsimp only at hSw_); go_simp; (try with_reducible rfl)
                try go_frame
                refine wpAnyF_one (i := 12) (by kernel_rfl) rfl (fun K hK => ?_)
                go_simp
                (go_at_call 40; (with_reducible refine (Cmp_c x y _ _ _ HZ9.out HY.out).mono ?_); rintro e w14 ⟨rfl, hb⟩; replace p0 := p0.keep hb; replace p1 := p1.keep hb; replace q0 := q0.keep hb; replace q1 := q1.keep hb; replace HBa := below_step HBa hb; clear hb)
                refine hK.out _ _ (by exact ⟨p0.c, p1.c, q0.c, q1.c⟩) (fun hHeld => ?_)
                clear hK K
                try go_frame
                refine wpF_t (i := 13) (oi := op6f77b9f7) (v := ?_) rfl (by kernel_rfl) (fun _ _ _ h => h) (Or.inl ⟨by rfl, ?_⟩) hHeld ?_; rotate_left
                · intro w_ hSw_; (try dsimp only at hSw_); go_simp; (try with_reducible rfl)
                try go_frame
                refine wpF_t (i := 14) (oi := opdaf3b00a) (v := ?_) rfl (by kernel_rfl) (fun _ _ _ h => h) (Or.inl ⟨by rfl, ?_⟩) hHeld ?_; rotate_left
                · intro w_ hSw_; (try dsimp only at hSw_); go_simp; (try with_reducible rfl)
                try go_frame
                refine wpAnyF_done (by kernel_rfl) ?_ _
                clear hHeld hWd hcmp
                go_wp2
                go_roundg (L.length - (a + 1))
                case measure => omega
                case rel => exact ⟨a + 1, rfl, by go_num, by omega, HJ2, HBa⟩
              · have hcmp : ¬ icmp x y < 0 := fun h => hxy ((icmp_lt' _ _).1 h)
                have hdc : decide (icmp x y < 0) = false := decide_eq_false hcmp
                have HA3 : Hid (a < L.length → ¬ gd (nsL L) a < y) := fun _ => by rw [HX.out]; exact hxy
                have r0 := p0.c; have r1 := p1.c; have r2 := q0.c; have r3 := q1.c
                go_wp2_with fail
                clear r0 r1 r2 r3
                replace p0 := p0.drew; replace p1 := p1.drew; replace q0 := q0.drew; replace q1 := q1.drew; replace HY := Lib.hid (HY.out.below (below_drew (Below.refl _ _))); replace HZ9 := Lib.hid (HZ9.out.below (below_drew (Below.refl _ _))); replace HBa := below_drew HBa
                generalize hWd : wr.drew = wd at *
                refine wp_region_F (fun w' => w'.cell? ⟨bl, ol, none⟩ = some (.bool n0) ∧ w'.cell? ⟨bl, ol + 1, none⟩ = some (.slice A0 m0 k0) ∧ w'.cell? ⟨b9, o9 + a * 2, none⟩ = some (.bool n9) ∧ w'.cell? ⟨b9, o9 + a * 2 + 1, none⟩ = some (.slice A9 m9 k9)) [] (by kernel_rfl) (by rw [hWd]; exact ⟨p0.c, p1.c, q0.c, q1.c⟩) (fun hHeld => ?_)
                rw [hWd] at hHeld ⊢
                refine wpF_t (i := 0) (oi := opc2a43b96) (v := ?_) rfl (by kernel_rfl) (fun _ _ _ h => h) (Or.inl ⟨by rfl, ?_⟩) hHeld ?_; rotate_left
                · intro w_ hSw_; (try dsimp only at hSw_); go_simp; (try with_reducible rfl)
                try go_frame
                refine wpF_t (i := 1) (oi := op71ef96c9) (v := ?_) rfl (by kernel_rfl) (fun _ _ _ h => h) (Or.inl ⟨by rfl, ?_⟩) hHeld ?_; rotate_left
                · intro w_ hSw_; (try dsimp only at hSw_); go_simp; (try with_reducible rfl)
                try go_frame
                refine wpF_t (i := 2) (oi := opa97bef57) (v := ?_) rfl (by kernel_rfl) (fun _ _ _ h => h) (Or.inl ⟨by rfl, ?_⟩) hHeld ?_; rotate_left
                · intro w_ hSw_; (try dsimp only at hSw_); go_simp; (try with_reducible rfl)
                try go_frame
                refine wpF_t (i := 3) (oi := opf6ca1421) (v := ?_) rfl (by kernel_rfl) (fun _ _ _ h => h) (Or.inl ⟨by rfl, ?_⟩) hHeld ?_; rotate_left
                · intro w_ hSw_; (try dsimp only at hSw_); go_simp; (try with_reducible rfl)
                try go_frame
                refine wpF_t (i := 4) (oi := op29fd0b3c) (v := ?_) rfl (by kernel_rfl) (fun _ _ _ h => h) (Or.inl ⟨by rfl, ?_⟩) hHeld ?_; rotate_left
                · intro w_ hSw_; (try dsimp only at hSw_); go_simp; (try with_reducible rfl)
                try go_frame
                refine wpF_t (i := 5) (oi := op2d48a317) (v := ?_) rfl (by kernel_rfl) (fun _ _ _ h => h) (Or.inl ⟨by rfl, ?_⟩) hHeld ?_; rotate_left
                · intro w_ hSw_; (try dsimp only at hSw_); go_simp; (try with_reducible rfl)
                try go_frame
                refine wpF_t (i := 6) (oi := opb4cc9903) (v := ?_) rfl (by kernel_rfl) (fun _ _ _ h => h) (Or.inl ⟨by rfl, ?_⟩) hHeld ?_; rotate_left
                · intro w_ hSw_; (try dsimp only at hSw_); go_simp; (try with_reducible rfl)
                try go_frame
                refine wpF_t (i := 7) (oi := ope13424d7) (v := ?_) rfl (by kernel_rfl) (fun _ _ _ h => h) (Or.inl ⟨by rfl, ?_⟩) hHeld ?_; rotate_left
                · intro w_ hSw_; (try dsimp only at hSw_); go_simp; (try with_reducible rfl)
                try go_frame
                refine wpF_t (i := 8) (oi := op3dcd4b5c) (v := ?_) rfl (by kernel_rfl) (fun _ _ _ h => h) (Or.inl ⟨by rfl, ?_⟩) hHeld ?_; rotate_left
                · intro w_ hSw_; (try dsimp only at hSw_); go_simp; (try with_reducible rfl)
                try go_frame
                refine wpF_t (i := 9) (oi := op6878f50d) (v := ?_) rfl (by kernel_rfl) (fun _ _ _ h => h) (Or.inl ⟨by rfl, ?_⟩) hHeld ?_; rotate_left
                · intro w_ hSw_; (try dsimp only at hSw_); go_simp; (try with_reducible rfl)
                try go_frame
                refine wpF_t (i := 10) (oi := opb6966f1a) (v := ?_) rfl (by kernel_rfl) (fun _ _ _ h => h) (Or.inl ⟨by rfl, ?_⟩) hHeld ?_; rotate_left
                · intro w_ hSw_; (try dsimp only at hSw_); go_simp; (try with_reducible rfl)
                try go_frame
                refine wpF_t (i := 11) (oi := opf57f9d09) (v := ?_) rfl (by kernel_rfl) (fun _ _ _ h => h) (Or.inl ⟨by rfl, ?_⟩) hHeld ?_; rotate_left
                · intro w_ hSw_; (try dsimp only at hSw_); go_simp; (try with_reducible rfl)
                try go_frame
                refine wpAnyF_one (i := 12) (by kernel_rfl) rfl (fun K hK => ?_)
                go_simp
                (go_at_call 40; (with_reducible refine (Cmp_c x y _ _ _ HZ9.out HY.out).mono ?_); rintro e w14 ⟨rfl, hb⟩; replace p0 := p0.keep hb; replace p1 := p1.keep hb; replace q0 := q0.keep hb; replace q1 := q1.keep hb; replace HBa := below_step HBa hb; clear hb)
                refine hK.out _ _ (by exact ⟨p0.c, p1.c, q0.c, q1.c⟩) (fun hHeld => ?_)
                clear hK K
                try go_frame
                refine wpF_t (i := 13) (oi := op6f77b9f7) (v := ?_) rfl (by kernel_rfl) (fun _ _ _ h => h) (Or.inl ⟨by rfl, ?_⟩) hHeld ?_; rotate_left
                · intro w_ hSw_; (try dsimp only at hSw_); go_simp; (try with_reducible rfl)
                try go_frame
                refine wpF_t (i := 14) (oi := opdaf3b00a) (v := ?_) rfl (by kernel_rfl) (fun _ _ _ h => h) (Or.inl ⟨by rfl, ?_⟩) hHeld ?_; rotate_left
                · intro w_ hSw_; (try dsimp only at hSw_); go_simp; (try with_reducible rfl)
                try go_frame
                refine wpAnyF_done (by kernel_rfl) ?_ _
                clear hHeld hWd hcmp
                go_wp2_with fail
                go_meet
                exact ⟨a, rfl, ha, HJ, HA3, HBa⟩
            · have ha1 : ¬ (a : Int) < (L.length : Int) := by omega
              have HA3 : Hid (a < L.length → ¬ gd (nsL L) a < y) := fun h => absurd h haL
              have hdn1 : decide ((a : Int) < (L.length : Int)) = false := decide_eq_false ha1
              have hdn2 : decide (a < L.length) = false := decide_eq_false haL
              have p0 := G0.keep HBa
              go_wp2_with fail
              replace p0 := p0.drew; replace HBa := below_drew HBa
              generalize hWd : wr.drew = wd at *
              refine wp_region_F (fun w' => w'.cell? ⟨bl, ol, none⟩ = some (.bool n0)) [] (by kernel_rfl) (by rw [hWd]; exact p0.c) (fun hHeld => ?_)
              rw [hWd] at hHeld ⊢
              refine wpF_t (i := 0) (oi := opc2a43b96) (v := ?_) rfl (by kernel_rfl) (fun _ _ _ h => h) (Or.inl ⟨by rfl, ?_⟩) hHeld ?_; rotate_left
              · intro w_ hSw_; (try dsimp only at hSw_); go_simp; (try with_reducible rfl)
              try go_frame
              refine wpF_t (i := 1) (oi := op71ef96c9) (v := ?_) rfl (by kernel_rfl) (fun _ _ _ h => h) (Or.inl ⟨by rfl, ?_⟩) hHeld ?_; rotate_left
              · intro w_ hSw_; (try dsimp only at hSw_); go_simp; (try with_reducible rfl)
              try go_frame
              refine wpF_t (i := 2) (oi := opa97bef57) (v := ?_) rfl (by kernel_rfl) (fun _ _ _ h => h) (Or.inl ⟨by rfl, ?_⟩) hHeld ?_; rotate_left
              · intro w_ hSw_; (try dsimp only at hSw_); go_simp; (try with_reducible rfl)
              try go_frame
              refine wpF_t (i := 3) (oi := opf6ca1421) (v := ?_) rfl (by kernel_rfl) (fun _ _ _ h => h) (Or.inl ⟨by rfl, ?_⟩) hHeld ?_; rotate_left
              · intro w_ hSw_; (try dsimp only at hSw_); go_simp; (try with_reducible rfl)
              try go_frame
              refine wpF_t (i := 4) (oi := op29fd0b3c) (v := ?_) rfl (by kernel_rfl) (fun _ _ _ h => h) (Or.inl ⟨by rfl, ?_⟩) hHeld ?_; rotate_left
              · intro w_ hSw_; (try dsimp only at hSw_); go_simp; (try with_reducible rfl)
              try go_frame
              refine wpF_t (i := 5) (oi := op2d48a317) rfl (by kernel_rfl) (fun _ _ _ h => h) (Or.inr ⟨by rfl, rfl⟩) hHeld ?_
              try go_frame
              refine wpF_t (i := 6) (oi := opb4cc9903) rfl (by kernel_rfl) (fun _ _ _ h => h) (Or.inr ⟨by rfl, rfl⟩) hHeld ?_
              try go_frame
              refine wpF_t (i := 7) (oi := ope13424d7) rfl (by kernel_rfl) (fun _ _ _ h => h) (Or.inr ⟨by rfl, rfl⟩) hHeld ?_
              try go_frame
              refine wpF_t (i := 8) (oi := op3dcd4b5c) rfl (by kernel_rfl) (fun _ _ _ h => h) (Or.inr ⟨by rfl, rfl⟩) hHeld ?_
              try go_frame
              refine wpF_t (i := 9) (oi := op6878f50d) rfl (by kernel_rfl) (fun _ _ _ h => h) (Or.inr ⟨by rfl, rfl⟩) hHeld ?_
              try go_frame
              refine wpF_t (i := 10) (oi := opb6966f1a) rfl (by kernel_rfl) (fun _ _ _ h => h) (Or.inr ⟨by rfl, rfl⟩) hHeld ?_
              try go_frame
              refine wpF_t (i := 11) (oi := opf57f9d09) rfl (by kernel_rfl) (fun _ _ _ h => h) (Or.inr ⟨by rfl, rfl⟩) hHeld ?_
              try go_frame
              refine wpF_t (i := 12) (oi := { dst := some 51, op := Go.Op.call { callee := Go.Callee.value (Go.Operand.func 40), args := #[Go.Operand.tmp 47, Go.Operand.tmp 50], argTypes := #[37, 37] }, type := 3, pos := "ref.go:56", after := #[{ on := 8, ground := Go.Ground.data }, { on := 11, ground := Go.Ground.data }, { on := 4, ground := Go.Ground.chain }, { on := 4, ground := Go.Ground.guard }], guard := some (4, true) }) rfl (by kernel_rfl) (fun _ _ _ h => h) (Or.inr ⟨by rfl, rfl⟩) hHeld ?_
              try go_frame
              refine wpF_t (i := 13) (oi := op6f77b9f7) rfl (by kernel_rfl) (fun _ _ _ h => h) (Or.inr ⟨by rfl, rfl⟩) hHeld ?_
              try go_frame
              refine wpF_t (i := 14) (oi := opdaf3b00a) (v := ?_) rfl (by kernel_rfl) (fun _ _ _ h => h) (Or.inl ⟨by rfl, ?_⟩) hHeld ?_; rotate_left
              · intro w_ hSw_; (try dsimp only at hSw_); go_simp; (try with_reducible rfl)
              try go_frame
              refine wpAnyF_done (by kernel_rfl) ?_ _
              clear hHeld hWd
              go_wp2_with fail
              go_meet
              exact ⟨a, rfl, ha, HJ, HA3, HBa⟩
        case rest =>
          obtain ⟨a, rfl, ha, HJ, HA3, HBa⟩ := hcut
          go_upto_region 13 with fail
          go_cut [70] from 56 to 70 (fun cv wx => cv = .bool (decide (a = L.length ∨ gd (nsL L) a ≠ y)) ∧ Below w13.heap.size w13 wx)
          case first =>
            have ha0 : (0 : Int) ≤ (a : Int) := by omega
            by_cases haL : a < L.length
            · have ha1 : (a : Int) < (L.length : Int) := by omega
              have hae : ¬ a = L.length := by omega
              have hae2 : ((a : Int) == (L.length : Int)) = false := by simp; omega
              have hae3 : decide (a = L.length) = false := decide_eq_false hae
              have hae4 : decide ((a : Int) = (L.length : Int)) = false := decide_eq_false (by omega)
              obtain ⟨b9, o9, n9, A9, m9, k9, rfl, hlt9, q0, q1, HZ9⟩ := (HNm.out.below HBa).at (j := a) (by rw [nsL_len]; exact haL)
              replace q0 : CL wc b9 (o9 + a * 2) (.bool n9) := ⟨q0, hlt9⟩
              replace q1 : CL wc b9 (o9 + a * 2 + 1) (.slice A9 m9 k9) := ⟨q1, hlt9⟩
              have p0 := G0.keep HBa
              have p1 := G1.keep HBa
              have HY := Lib.hid (gi.out.below HBa)
              obtain ⟨x, hx⟩ : ∃ x, gd (nsL L) a = x := ⟨_, rfl⟩
              rw [hx] at HZ9
              have HX := Lib.hid hx
              clear hx hlt9
              by_cases hxy : x = y
              · have hcmp : icmp x y = 0 := (icmp_eq _ _).2 hxy
                have HI : Hid (decide (a = L.length ∨ gd (nsL L) a ≠ y) = false) := decide_eq_false (fun h => h.elim hae (fun h => h (by rw [HX.out]; exact hxy)))
                clear hxy
                replace p0 := p0.drew; replace p1 := p1.drew; replace q0 := q0.drew; replace q1 := q1.drew; replace HY := Lib.hid (HY.out.below (below_drew (Below.refl _ _))); replace HZ9 := Lib.hid (HZ9.out.below (below_drew (Below.refl _ _))); replace HBa := below_drew HBa
                generalize hWd : wc.drew = wd at *
                refine wp_region_F (fun w' => w'.cell? ⟨bl, ol, none⟩ = some (.bool n0) ∧ w'.cell? ⟨bl, ol + 1, none⟩ = some (.slice A0 m0 k0) ∧ w'.cell? ⟨b9, o9 + a * 2, none⟩ = some (.bool n9) ∧ w'.cell? ⟨b9, o9 + a * 2 + 1, none⟩ = some (.slice A9 m9 k9)) [] (by kernel_rfl) (by rw [hWd]; exact ⟨p0.c, p1.c, q0.c, q1.c⟩) (fun hHeld => ?_)
                rw [hWd] at hHeld ⊢
                refine wpF_t (i := 0) (oi := op698977d8) (v := ?_) rfl (by kernel_rfl) (fun _ _ _ h => h) (Or.inl ⟨by rfl, ?_⟩) hHeld ?_; rotate_left
                · intro w_ hSw_; (try dsimp only at hSw_); go_simp; (try with_reducible rfl)
                try go_frame
                refine wpF_t (i := 1) (oi := op5b63df2b) (v := ?_) rfl (by kernel_rfl) (fun _ _ _ h => h) (Or.inl ⟨by rfl, ?_⟩) hHeld ?_; rotate_left
                · intro w_ hSw_; (try dsimp only at hSw_); go_simp; (try with_reducible rfl)
                try go_frame
                refine wpF_t (i := 2) (oi := op3f440d30) (v := ?_) rfl (by kernel_rfl) (fun _ _ _ h => h) (Or.inl ⟨by rfl, ?_⟩) hHeld ?_; rotate_left
                · intro w_ hSw_; (try dsimp only at hSw_); go_simp; (try with_reducible rfl)
                try go_frame
                refine wpF_t (i := 3) (oi := opecce4bf9) (v := ?_) rfl (by kernel_rfl) (fun _ _ _ h => h) (Or.inl ⟨by rfl, ?_⟩) hHeld ?_; rotate_left
                · intro w_ hSw_; (try dsimp only at hSw_); go_simp; (try with_reducible rfl)
                try go_frame
                refine wpF_t (i := 4) (oi := op3fbc45ba) (v := ?_) rfl (by kernel_rfl) (fun _ _ _ h => h) (Or.inl ⟨by rfl, ?_⟩) hHeld ?_; rotate_left
                · intro w_ hSw_; (try dsimp only at hSw_); go_simp; (try with_reducible rfl)
                try go_frame
                refine wpF_t (i := 5) (oi := op83dc36ea) (v := ?_) rfl (by kernel_rfl) (fun _ _ _ h => h) (Or.inl ⟨by rfl, ?_⟩) hHeld ?_; rotate_left
                · intro w_ hSw_; (try dsimp only at hSw_); go_simp; (try with_reducible rfl)
                try go_frame
                refine wpF_t (i := 6) (oi := opbdefbd24) (v := ?_) rfl (by kernel_rfl) (fun _ _ _ h => h) (Or.inl ⟨by rfl, ?_⟩) hHeld ?_; rotate_left
                · intro w_ hSw_; (try dsimp only at hSw_); go_simp; (try with_reducible rfl)
                try go_frame
                refine wpF_t (i := 7) (oi := opa0b944be) (v := ?_) rfl (by kernel_rfl) (fun _ _ _ h => h) (Or.inl ⟨by rfl, ?_⟩) hHeld ?_; rotate_left
                · intro w_ hSw_; (try dsimp only at hSw_); go_simp; (try with_reducible rfl)
                try go_frame
                refine wpF_t (i := 8) (oi := op8da9094d) (v := ?_) rfl (by kernel_rfl) (fun _ _ _ h => h) (Or.inl ⟨by rfl, ?_⟩) hHeld ?_; rotate_left
                · intro w_ hSw_; (try dsimp only at hSw_); go_simp; (try with_reducible rfl)
                try go_frame
                refine wpF_t (i := 9) (oi := opa9c6facb) (v := ?_) rfl (by kernel_rfl) (fun _ _ _ h => h) (Or.inl ⟨by rfl, ?_⟩) hHeld ?_; rotate_left
                · intro w_ hSw_; (try dsimp only at hSw_); go_simp; (try with_reducible rfl)
                try go_frame
                refine wpF_t (i := 10) (oi := opac892562) (v := ?_) rfl (by kernel_rfl) (fun _ _ _ h => h) (Or.inl ⟨by rfl, ?_⟩) hHeld ?_; rotate_left
                · intro w_ hSw_; (try dsimp only at hSw_); go_simp; (try with_reducible rfl)
                try go_frame
                refine wpF_t (i := 11) (oi := op39b6c788) (v := ?_) rfl (by kernel_rfl) (fun _ _ _ h => h) (Or.inl ⟨by rfl, ?_⟩) hHeld ?_; rotate_left
                · intro w_ hSw_; (try dsimp only at hSw_); go_simp; (try with_reducible rfl)
                try go_frame
                refine wpAnyF_one (i := 12) (by kernel_rfl) rfl (fun K hK => ?_)
                go_simp
                (go_at_call 40; (with_reducible refine (Cmp_c x y _ _ _ HZ9.out HY.out).mono ?_); rintro e w14 ⟨rfl, hb⟩; replace p0 := p0.keep hb; replace p1 := p1.keep hb; replace q0 := q0.keep hb; replace q1 := q1.keep hb; replace HBa := below_step HBa hb; clear hb)
                refine hK.out _ _ (by exact ⟨p0.c, p1.c, q0.c, q1.c⟩) (fun hHeld => ?_)
                clear hK K
                try go_frame
                refine wpF_t (i := 13) (oi := op77f08b07) (v := ?_) rfl (by kernel_rfl) (fun _ _ _ h => h) (Or.inl ⟨by rfl, ?_⟩) hHeld ?_; rotate_left
                · intro w_ hSw_; (try dsimp only at hSw_); go_simp; (try with_reducible rfl)
                try go_frame
                refine wpF_t (i := 14) (oi := op7c5f5929) (v := ?_) rfl (by kernel_rfl) (fun _ _ _ h => h) (Or.inl ⟨by rfl, ?_⟩) hHeld ?_; rotate_left
                · intro w_ hSw_; (try dsimp only at hSw_); go_simp; (try with_reducible rfl)
                try go_frame
                refine wpAnyF_done (by kernel_rfl) ?_ _
                clear hHeld hWd
                go_wp2_with fail
                go_meet
                exact ⟨by rw [HI.out], HBa⟩
              · have hcmp : ¬ icmp x y = 0 := fun h => hxy ((icmp_eq _ _).1 h)
                have HI : Hid (decide (a = L.length ∨ gd (nsL L) a ≠ y) = true) := decide_eq_true (.inr (by rw [HX.out]; exact hxy))
                have hcb : (icmp x y != 0) = true := by simpa using hcmp
                have hcb2 : decide (icmp x y = 0) = false := decide_eq_false hcmp
                replace p0 := p0.drew; replace p1 := p1.drew; replace q0 := q0.drew; replace q1 := q1.drew; replace HY := Lib.hid (HY.out.below (below_drew (Below.refl _ _))); replace HZ9 := Lib.hid (HZ9.out.below (below_drew (Below.refl _ _))); replace HBa := below_drew HBa
                generalize hWd : wc.drew = wd at *
                refine wp_region_F (fun w' => w'.cell? ⟨bl, ol, none⟩ = some (.bool n0) ∧ w'.cell? ⟨bl, ol + 1, none⟩ = some (.slice A0 m0 k0) ∧ w'.cell? ⟨b9, o9 + a * 2, none⟩ = some (.bool n9) ∧ w'.cell? ⟨b9, o9 + a * 2 + 1, none⟩ = some (.slice A9 m9 k9)) [] (by kernel_rfl) (by rw [hWd]; exact ⟨p0.c, p1.c, q0.c, q1.c⟩) (fun hHeld => ?_)
                rw [hWd] at hHeld ⊢
                refine wpF_t (i := 0) (oi := op698977d8) (v := ?_) rfl (by kernel_rfl) (fun _ _ _ h => h) (Or.inl ⟨by rfl, ?_⟩) hHeld ?_; rotate_left
                · intro w_ hSw_; (try dsimp only at hSw_); go_simp; (try with_reducible rfl)
                try go_frame
                refine wpF_t (i := 1) (oi := op5b63df2b) (v := ?_) rfl (by kernel_rfl) (fun _ _ _ h => h) (Or.inl ⟨by rfl, ?_⟩) hHeld ?_; rotate_left
                · intro w_ hSw_; (try dsimp only at hSw_); go_simp; (try with_reducible rfl)
                try go_frame
                refine wpF_t (i := 2) (oi := op3f440d30) (v := ?_) rfl (by kernel_rfl) (fun _ _ _ h => h) (Or.inl ⟨by rfl, ?_⟩) hHeld ?_; rotate_left
                · intro w_ hSw_; (try dsimp only at hSw_); go_simp; (try with_reducible rfl)
                try go_frame
                refine wpF_t (i := 3) (oi := opecce4bf9) (v := ?_) rfl (by kernel_rfl) (fun _ _ _ h => h) (Or.inl ⟨by rfl, ?_⟩) hHeld ?_; rotate_left
                · intro w_ hSw_; (try dsimp only at hSw_); go_simp; (try with_reducible rfl)
                try go_frame
                refine wpF_t (i := 4) (oi := op3fbc45ba) (v := ?_) rfl (by kernel_rfl) (fun _ _ _ h => h) (Or.inl ⟨by rfl, ?_⟩) hHeld ?_; rotate_left
                · intro w_ hSw_; (try dsimp only at hSw_); go_simp; (try with_reducible rfl)
                try go_frame
                refine wpF_t (i := 5) (oi := op83dc36ea) (v := ?_) rfl (by kernel_rfl) (fun _ _ _ h => h) (Or.inl ⟨by rfl, ?_⟩) hHeld ?_; rotate_left
                · intro w_ hSw_; (try dsimp only at hSw_); go_simp; (try with_reducible rfl)
                try go_frame
                refine wpF_t (i := 6) (oi := opbdefbd24) (v := ?_) rfl (by kernel_rfl) (fun _ _ _ h => h) (Or.inl ⟨by rfl, ?_⟩) hHeld ?_; rotate_left
                · intro w_ hSw_; (try dsimp only at hSw_); go_simp; (try with_reducible rfl)
                try go_frame
                refine wpF_t (i := 7) (oi := opa0b944be) (v := ?_) rfl (by kernel_rfl) (fun _ _ _ h => h) (Or.inl ⟨by rfl, ?_⟩) hHeld ?_; rotate_left
                · intro w_ hSw_; (try dsimp only at hSw_); go_simp; (try with_reducible rfl)
                try go_frame
                refine wpF_t (i := 8) (oi := op8da9094d) (v := ?_) rfl (by kernel_rfl) (fun _ _ _ h => h) (Or.inl ⟨by rfl, ?_⟩) hHeld ?_; rotate_left
                · intro w_ hSw_; (try dsimp only at hSw_); go_simp; (try with_reducible rfl)
                try go_frame
                refine wpF_t (i := 9) (oi := opa9c6facb) (v := ?_) rfl (by kernel_rfl) (fun _ _ _ h => h) (Or.inl ⟨by rfl, ?_⟩) hHeld ?_; rotate_left
                · intro w_ hSw_; (try dsimp only at hSw_); go_simp; (try with_reducible rfl)
                try go_frame
                refine wpF_t (i := 10) (oi := opac892562) (v := ?_) rfl (by kernel_rfl) (fun _ _ _ h => h) (Or.inl ⟨by rfl, ?_⟩) hHeld ?_; rotate_left
                · intro w_ hSw_; (try dsimp only at hSw_); go_simp; (try with_reducible rfl)
                try go_frame
                refine wpF_t (i := 11) (oi := op39b6c788) (v := ?_) rfl (by kernel_rfl) (fun _ _ _ h => h) (Or.inl ⟨by rfl, ?_⟩) hHeld ?_; rotate_left
                · intro w_ hSw_; (try dsimp only at hSw_); go_simp; (try with_reducible rfl)
                try go_frame
                refine wpAnyF_one (i := 12) (by kernel_rfl) rfl (fun K hK => ?_)
                go_simp
                (go_at_call 40; (with_reducible refine (Cmp_c x y _ _ _ HZ9.out HY.out).mono ?_); rintro e w14 ⟨rfl, hb⟩; replace p0 := p0.keep hb; replace p1 := p1.keep hb; replace q0 := q0.keep hb; replace q1 := q1.keep hb; replace HBa := below_step HBa hb; clear hb)
                refine hK.out _ _ (by exact ⟨p0.c, p1.c, q0.c, q1.c⟩) (fun hHeld => ?_)
                clear hK K
                try go_frame
                refine wpF_t (i := 13) (oi := op77f08b07) (v := ?_) rfl (by kernel_rfl) (fun _ _ _ h => h) (Or.inl ⟨by rfl, ?_⟩) hHeld ?_; rotate_left
                · intro w_ hSw_; (try dsimp only at hSw_); go_simp; (try with_reducible rfl)
                try go_frame
                refine wpF_t (i := 14) (oi := op7c5f5929) (v := ?_) rfl (by kernel_rfl) (fun _ _ _ h => h) (Or.inl ⟨by rfl, ?_⟩) hHeld ?_; rotate_left
                · intro w_ hSw_; (try dsimp only at hSw_); go_simp; (try with_reducible rfl)
                try go_frame
                refine wpAnyF_done (by kernel_rfl) ?_ _
                clear hHeld hWd hcmp
                go_wp2_with fail
                go_meet
                exact ⟨by rw [HI.out], HBa⟩
            · obtain rfl : a = L.length := by omega
              have p0 := G0.keep HBa
              have HI : Hid (decide (L.length = L.length ∨ gd (nsL L) L.length ≠ y) = true) := decide_eq_true (.inl rfl)
              replace p0 := p0.drew; replace HBa := below_drew HBa
              generalize hWd : wc.drew = wd at *
              refine wp_region_F (fun w' => w'.cell? ⟨bl, ol, none⟩ = some (.bool n0)) [] (by kernel_rfl) (by rw [hWd]; exact p0.c) (fun hHeld => ?_)
              rw [hWd] at hHeld ⊢
              refine wpF_t (i := 0) (oi := op698977d8) (v := ?_) rfl (by kernel_rfl) (fun _ _ _ h => h) (Or.inl ⟨by rfl, ?_⟩) hHeld ?_; rotate_left
              · intro w_ hSw_; (try dsimp only at hSw_); go_simp; (try with_reducible rfl)
              try go_frame
              refine wpF_t (i := 1) (oi := op5b63df2b) (v := ?_) rfl (by kernel_rfl) (fun _ _ _ h => h) (Or.inl ⟨by rfl, ?_⟩) hHeld ?_; rotate_left
              · intro w_ hSw_; (try dsimp only at hSw_); go_simp; (try with_reducible rfl)
              try go_frame
              refine wpF_t (i := 2) (oi := op3f440d30) (v := ?_) rfl (by kernel_rfl) (fun _ _ _ h => h) (Or.inl ⟨by rfl, ?_⟩) hHeld ?_; rotate_left
              · intro w_ hSw_; (try dsimp only at hSw_); go_simp; (try with_reducible rfl)
              try go_frame
              refine wpF_t (i := 3) (oi := opecce4bf9) (v := ?_) rfl (by kernel_rfl) (fun _ _ _ h => h) (Or.inl ⟨by rfl, ?_⟩) hHeld ?_; rotate_left
              · intro w_ hSw_; (try dsimp only at hSw_); go_simp; (try with_reducible rfl)
              try go_frame
              refine wpF_t (i := 4) (oi := op3fbc45ba) (v := ?_) rfl (by kernel_rfl) (fun _ _ _ h => h) (Or.inl ⟨by rfl, ?_⟩) hHeld ?_; rotate_left
              · intro w_ hSw_; (try dsimp only at hSw_); go_simp; (try with_reducible rfl)
              try go_frame
              refine wpF_t (i := 5) (oi := op83dc36ea) rfl (by kernel_rfl) (fun _ _ _ h => h) (Or.inr ⟨by rfl, rfl⟩) hHeld ?_
              try go_frame
              refine wpF_t (i := 6) (oi := opbdefbd24) rfl (by kernel_rfl) (fun _ _ _ h => h) (Or.inr ⟨by rfl, rfl⟩) hHeld ?_
              try go_frame
              refine wpF_t (i := 7) (oi := opa0b944be) rfl (by kernel_rfl) (fun _ _ _ h => h) (Or.inr ⟨by rfl, rfl⟩) hHeld ?_
              try go_frame
              refine wpF_t (i := 8) (oi := op8da9094d) rfl (by kernel_rfl) (fun _ _ _ h => h) (Or.inr ⟨by rfl, rfl⟩) hHeld ?_
              try go_frame
              refine wpF_t (i := 9) (oi := opa9c6facb) rfl (by kernel_rfl) (fun _ _ _ h => h) (Or.inr ⟨by rfl, rfl⟩) hHeld ?_
              try go_frame
              refine wpF_t (i := 10) (oi := opac892562) rfl (by kernel_rfl) (fun _ _ _ h => h) (Or.inr ⟨by rfl, rfl⟩) hHeld ?_
              try go_frame
              refine wpF_t (i := 11) (oi := op39b6c788) rfl (by kernel_rfl) (fun _ _ _ h => h) (Or.inr ⟨by rfl, rfl⟩) hHeld ?_
              try go_frame
              refine wpF_t (i := 12) (oi := { dst := some 68, op := Go.Op.call { callee := Go.Callee.value (Go.Operand.func 40), args := #[Go.Operand.tmp 64, Go.Operand.tmp 67], argTypes := #[37, 37] }, type := 3, pos := "ref.go:59", after := #[{ on := 8, ground := Go.Ground.data }, { on := 11, ground := Go.Ground.data }, { on := 4, ground := Go.Ground.chain }, { on := 4, ground := Go.Ground.guard }], guard := some (4, false) }) rfl (by kernel_rfl) (fun _ _ _ h => h) (Or.inr ⟨by rfl, rfl⟩) hHeld ?_
              try go_frame
              refine wpF_t (i := 13) (oi := op77f08b07) rfl (by kernel_rfl) (fun _ _ _ h => h) (Or.inr ⟨by rfl, rfl⟩) hHeld ?_
              try go_frame
              refine wpF_t (i := 14) (oi := op7c5f5929) (v := ?_) rfl (by kernel_rfl) (fun _ _ _ h => h) (Or.inl ⟨by rfl, ?_⟩) hHeld ?_; rotate_left
              · intro w_ hSw_; (try dsimp only at hSw_); go_simp; (try with_reducible rfl)
              try go_frame
              refine wpAnyF_done (by kernel_rfl) ?_ _
              clear hHeld hWd
              go_wp2_with fail
              go_meet
              exact ⟨by rw [HI.out], HBa⟩
          case rest =>
            clear HBa
            obtain ⟨rfl, HBa⟩ := hcut
            by_cases hin : a = L.length ∨ gd (nsL L) a ≠ y
            · have hdi : decide (a = L.length ∨ gd (nsL L) a ≠ y) = true := decide_eq_true hin
              have HPRE : Hid (PreOK (lsts M most z i) y a (L.take a ++ (y, 0) :: L.drop a)) := pre_ins HSV.out ha HJ.out (fun h => by
                have h1 : ¬ gd (nsL L) a < y := HA3.out h
                have h2 : gd (nsL L) a ≠ y := hin.resolve_left (by omega)
                show y < gd (nsL L) a
                omega)
              have ha0 : (0 : Int) ≤ (a : Int) := by omega
              have ha2 : (a : Int) ≤ (L.length : Int) := by omega
              have ha3 : (a : Int).toNat = a := Int.toNat_natCast a
              obtain ⟨xs, hRd, hcn1, hcn2, hRl⟩ := HNm.out.below HBa
              rw [nsL_len] at hRd hcn1
              have hcna : (a : Int) ≤ (cn : Int) := by omega
              have hone := hRl.one1 (by rw [nsL_len]; exact hRd.1)
              have p0 := G0.keep HBa
              have p1 := G1.keep HBa
              have HY := Lib.hid (gi.out.below HBa)
              have HONE := Lib.hid hone
              rw [hdi]
              clear hin hdi HJ HA3 hone G0 G1 gi
              go_upto_region 14 with fail
              go_cut [9] from 71 to 84 (fun nv wx => ∃ (v3 : Value), nv = v3 ∧ wx.ownsRow wc.heap.size 37 2 v3 (0 + a + 1 + (L.length - a)) ([] ++ xs.take (a * 2) ++ [.bool n0, .slice A0 m0 k0] ++ xs.drop (a * 2)) ∧ Below wc.heap.size wc wx)
              case first =>
                have RN := Lib.hid (hRd.below (below_drew (Below.refl _ _)))
                have HBw := below_drew (Below.refl wc.heap.size wc)
                have HBk := Below.refl wc.heap.size wc.drew
                have hsz : wc.heap.size ≤ wc.drew.heap.size := Nat.le_refl _
                replace p0 := p0.drew; replace p1 := p1.drew
                have hB1 : Hid (wc.drew.heap.size = wc.heap.size) := rfl
                generalize hWd : wc.drew = wd at *
                generalize wc.heap.size = B1 at *
                refine wp_region_F (fun w' => w'.cell? ⟨bl, ol, none⟩ = some (.bool n0) ∧ w'.cell? ⟨bl, ol + 1, none⟩ = some (.slice A0 m0 k0)) [] (by kernel_rfl) (by rw [hWd]; first | exact ⟨p0.c, p1.c⟩ | exact ⟨(p0.keep (by rw [hB1.out]; exact HBk)).c, (p1.keep (by rw [hB1.out]; exact HBk)).c⟩) (fun hHeld => ?_)
                rw [hWd] at hHeld ⊢
                refine wpF_t (i := 1) (oi := { dst := some 72, op := Go.Op.move (Go.Operand.tmp 9), type := 80, pos := "ref.go:60", after := #[], guard := none }) (v := ?_) rfl (by kernel_rfl) (fun _ _ _ h => h) (Or.inl ⟨by rfl, ?_⟩) hHeld ?_; rotate_left
                · intro w_ hSw_; (try dsimp only at hSw_); go_simp; (try with_reducible rfl)
                try go_frame
                refine wpF_t (i := 2) (oi := { dst := some 73, op := Go.Op.move (Go.Operand.tmp 16), type := 3, pos := "ref.go:60", after := #[], guard := none }) (v := ?_) rfl (by kernel_rfl) (fun _ _ _ h => h) (Or.inl ⟨by rfl, ?_⟩) hHeld ?_; rotate_left
                · intro w_ hSw_; (try dsimp only at hSw_); go_simp; (try with_reducible rfl)
                try go_frame
                refine wpF_t (i := 3) (oi := { dst := some 74, op := Go.Op.slice 80 (Go.Operand.tmp 72) none (some (Go.Operand.tmp 73)) none, type := 80, pos := "ref.go:60", after := #[{ on := 1, ground := Go.Ground.data }, { on := 2, ground := Go.Ground.data }], guard := none }) (v := ?_) rfl (by kernel_rfl) (fun _ _ _ h => h) (Or.inl ⟨by rfl, ?_⟩) hHeld ?_; rotate_left
                · intro w_ hSw_; (try dsimp only at hSw_); go_simp; (try with_reducible rfl)
                try go_frame
                refine wpF_t (i := 5) (oi := { dst := some 76, op := Go.Op.move (Go.Operand.tmp 14), type := 80, pos := "ref.go:60", after := #[], guard := none }) (v := ?_) rfl (by kernel_rfl) (fun _ _ _ h => h) (Or.inl ⟨by rfl, ?_⟩) hHeld ?_; rotate_left
                · intro w_ hSw_; (try dsimp only at hSw_); go_simp; (try with_reducible rfl)
                try go_frame
                refine wpF_t (i := 6) (oi := { dst := some 77, op := Go.Op.indexAddr 80 (Go.Operand.tmp 76) (Go.Operand.const (Go.Value.int Go.IntKind.i64 0)), type := 0, pos := "ref.go:60", after := #[{ on := 5, ground := Go.Ground.data }], guard := none }) (v := ?_) rfl (by kernel_rfl) (fun _ _ _ h => h) (Or.inl ⟨by rfl, ?_⟩) hHeld ?_; rotate_left
                · intro w_ hSw_; (try dsimp only at hSw_); go_simp; (try with_reducible rfl)
                try go_frame
                refine wpF_t (i := 7) (oi := { dst := some 78, op := Go.Op.load 37 (Go.Operand.tmp 77), type := 37, pos := "ref.go:60", after := #[{ on := 6, ground := Go.Ground.data }], guard := none }) (v := ?_) rfl (by kernel_rfl) (fun _ _ _ h => h) (Or.inl ⟨by rfl, ?_⟩) hHeld ?_; rotate_left
                · intro w_ hSw_; (try dsimp only at hSw_); go_simp; (try with_reducible rfl)
                try go_frame
                refine wpF_t (i := 10) (oi := { dst := some 81, op := Go.Op.move (Go.Operand.tmp 9), type := 80, pos := "ref.go:60", after := #[], guard := none }) (v := ?_) rfl (by kernel_rfl) (fun _ _ _ h => h) (Or.inl ⟨by rfl, ?_⟩) hHeld ?_; rotate_left
                · intro w_ hSw_; (try dsimp only at hSw_); go_simp; (try with_reducible rfl)
                try go_frame
                refine wpF_t (i := 11) (oi := { dst := some 82, op := Go.Op.move (Go.Operand.tmp 16), type := 3, pos := "ref.go:60", after := #[], guard := none }) (v := ?_) rfl (by kernel_rfl) (fun _ _ _ h => h) (Or.inl ⟨by rfl, ?_⟩) hHeld ?_; rotate_left
                · intro w_ hSw_; (try dsimp only at hSw_); go_simp; (try with_reducible rfl)
                try go_frame
                refine wpF_t (i := 12) (oi := { dst := some 83, op := Go.Op.slice 80 (Go.Operand.tmp 81) (some (Go.Operand.tmp 82)) none none, type := 80, pos := "ref.go:60", after := #[{ on := 10, ground := Go.Ground.data }, { on := 11, ground := Go.Ground.data }], guard := none }) (v := ?_) rfl (by kernel_rfl) (fun _ _ _ h => h) (Or.inl ⟨by rfl, ?_⟩) hHeld ?_; rotate_left
                · intro w_ hSw_; (try dsimp only at hSw_); go_simp; (try with_reducible rfl)
                try go_frame
                refine wpAnyF_two (i := 0) (j := 8) (by kernel_rfl) rfl rfl (fun K hK => ?_) (fun K hK => ?_)
                · go_simp
                  have hA_ := below_alloc (Below.refl wd.heap.size wd) (Obj.cells #[] 37)
                  have RO := Lib.hid (own_empty wd B1 37 2 hsz)
                  replace HBk := HBk.trans (hA_.mono hsz)
                  replace hsz := Nat.le_trans hsz hA_.size
                  refine hK.out _ _ (by first | exact ⟨p0.c, p1.c⟩ | exact ⟨(p0.keep (by rw [hB1.out]; exact HBk)).c, (p1.keep (by rw [hB1.out]; exact HBk)).c⟩) (fun hHeld => ?_)
                  clear hK K
                  try go_frame
                  generalize hWa : wd.alloc (Obj.cells #[] 37) = wa0 at *
                  clear hWa hA_
                  refine wpAnyF_two (i := 4) (j := 8) (by kernel_rfl) rfl rfl (fun K hK => ?_) (fun K hK => ?_)
                  · rw [if_pos (show Region.wanted _ _ = true from rfl)]
                    refine app_SW B1 _ _ 80 37 (.agg #[.bool false, .slice none 0 0]) 2 32 a cn An (xs.take (a * 2)) 0 [] rfl Tryz.underlying80 info_Z rfl (by decide) (by decide) ((RN.out.below (by rw [hB1.out]; exact HBk)).take ha) (fun u hu => HONE.out u (List.mem_of_mem_take hu)) _ RO.out rfl rfl HBk hsz (by omega) (fun v4 wa4 HO1 HB1 hb1 hfar hgr => ?_)
                    replace RO := Lib.hid HO1
                    replace HBk := HB1
                    replace hsz := hb1
                    clear HO1 HB1 hb1 hfar hgr
                    refine hK.out _ _ (by first | exact ⟨p0.c, p1.c⟩ | exact ⟨(p0.keep (by rw [hB1.out]; exact HBk)).c, (p1.keep (by rw [hB1.out]; exact HBk)).c⟩) (fun hHeld => ?_)
                    clear hK K
                    try go_frame
                    refine wpAnyF_one (i := 8) (by kernel_rfl) rfl (fun K hK => ?_)
                    go_simp
                    have hA_ := below_alloc (Below.refl wa4.heap.size wa4) (Obj.cells #[.bool n0, .slice A0 m0 k0] 37)
                    have RE := Lib.hid (rd_new wa4 [.bool n0, .slice A0 m0 k0] 37)
                    replace RO := Lib.hid (ownsRow_below RO.out hA_)
                    replace HBk := HBk.trans (hA_.mono hsz)
                    replace hsz := Nat.le_trans hsz hA_.size
                    refine hK.out _ _ (by first | exact ⟨p0.c, p1.c⟩ | exact ⟨(p0.keep (by rw [hB1.out]; exact HBk)).c, (p1.keep (by rw [hB1.out]; exact HBk)).c⟩) (fun hHeld => ?_)
                    clear hK K
                    try go_frame
                    generalize hWa : wa4.alloc (Obj.cells #[.bool n0, .slice A0 m0 k0] 37) = wa8 at *
                    clear hWa hA_
                    refine wpAnyF_one (i := 9) (by kernel_rfl) rfl (fun K hK => ?_)
                    rw [if_pos (show Region.wanted _ _ = true from rfl)]
                    refine app_SW B1 _ _ 80 37 (.agg #[.bool false, .slice none 0 0]) 2 32 1 1 (some ⟨wa4.heap.size, 0, none⟩) [.bool n0, .slice A0 m0 k0] (0 + a) ([] ++ xs.take (a * 2)) rfl Tryz.underlying80 info_Z rfl (by decide) (by decide) RE.out (by simp [Value.oneCell']) _ RO.out rfl rfl HBk hsz (by omega) (fun v9 wa9 HO1 HB1 hb1 hfar hgr => ?_)
                    replace RO := Lib.hid HO1
                    replace HBk := HB1
                    replace hsz := hb1
                    clear HO1 HB1 hb1 hfar hgr
                    refine hK.out _ _ (by first | exact ⟨p0.c, p1.c⟩ | exact ⟨(p0.keep (by rw [hB1.out]; exact HBk)).c, (p1.keep (by rw [hB1.out]; exact HBk)).c⟩) (fun hHeld => ?_)
                    clear hK K
                    try go_frame
                    refine wpAnyF_one (i := 13) (by kernel_rfl) rfl (fun K hK => ?_)
                    rw [if_pos (show Region.wanted _ _ = true from rfl)]
                    refine app_SW B1 _ _ 80 37 (.agg #[.bool false, .slice none 0 0]) 2 32 (L.length - a) (cn - a) (if cn = a then An else Option.map (fun x => x.add (a * 2)) An) (xs.drop (a * 2)) (0 + a + 1) ([] ++ xs.take (a * 2) ++ [.bool n0, .slice A0 m0 k0]) rfl Tryz.underlying80 info_Z rfl (by decide) (by decide) (Rd.drop (RN.out.below (by rw [hB1.out]; exact HBk)) ha hcn1) (fun u hu => HONE.out u (List.mem_of_mem_drop hu)) _ RO.out rfl rfl HBk hsz (by omega) (fun v13 wa13 HO1 HB1 hb1 hfar hgr => ?_)
                    replace RO := Lib.hid HO1
                    replace HBk := HB1
                    replace hsz := hb1
                    clear HO1 HB1 hb1 hfar hgr
                    refine hK.out _ _ (by first | exact ⟨p0.c, p1.c⟩ | exact ⟨(p0.keep (by rw [hB1.out]; exact HBk)).c, (p1.keep (by rw [hB1.out]; exact HBk)).c⟩) (fun hHeld => ?_)
                    clear hK K
                    try go_frame
                    refine wpF_t (i := 14) (oi := op9833e2f5) (v := ?_) rfl (by kernel_rfl) (fun _ _ _ h => h) (Or.inl ⟨by rfl, ?_⟩) hHeld ?_; rotate_left
                    · intro w_ hSw_; (try dsimp only at hSw_); go_simp; (try with_reducible rfl)
                    try go_frame
                    refine wpAnyF_done (by kernel_rfl) ?_ _
                    clear hHeld
                    clear hWd
                    go_wp2_with fail
                    all_goals (go_meet; exact ⟨_, rfl, RO.out, HBw.trans HBk⟩)
                  · go_simp
                    have hA_ := below_alloc (Below.refl wa0.heap.size wa0) (Obj.cells #[.bool n0, .slice A0 m0 k0] 37)
                    have RE := Lib.hid (rd_new wa0 [.bool n0, .slice A0 m0 k0] 37)
                    have NE : Hid (wd.heap.size ≠ wa0.heap.size) := by have h : wd.heap.size < wa0.heap.size := (World.ownsRow.lt RO.out _ rfl).2; show _ ≠ _; omega
                    replace RO := Lib.hid (ownsRow_below RO.out hA_)
                    replace HBk := HBk.trans (hA_.mono hsz)
                    replace hsz := Nat.le_trans hsz hA_.size
                    refine hK.out _ _ (by first | exact ⟨p0.c, p1.c⟩ | exact ⟨(p0.keep (by rw [hB1.out]; exact HBk)).c, (p1.keep (by rw [hB1.out]; exact HBk)).c⟩) (fun hHeld => ?_)
                    clear hK K
                    try go_frame
                    generalize hWa : wa0.alloc (Obj.cells #[.bool n0, .slice A0 m0 k0] 37) = wa8 at *
                    clear hWa hA_
                    refine wpAnyF_one (i := 4) (by kernel_rfl) rfl (fun K hK => ?_)
                    rw [if_pos (show Region.wanted _ _ = true from rfl)]
                    refine app_SW B1 _ _ 80 37 (.agg #[.bool false, .slice none 0 0]) 2 32 a cn An (xs.take (a * 2)) 0 [] rfl Tryz.underlying80 info_Z rfl (by decide) (by decide) ((RN.out.below (by rw [hB1.out]; exact HBk)).take ha) (fun u hu => HONE.out u (List.mem_of_mem_take hu)) _ RO.out rfl rfl HBk hsz (by omega) (fun v4 wa4 HO1 HB1 hb1 hfar hgr => ?_)
                    replace RE := Lib.hid (rd_far RE.out (by decide) (hfar _ (rd_lt RE.out (by decide)) (fun e => NE.out (by injection e))) hgr)
                    replace RO := Lib.hid HO1
                    replace HBk := HB1
                    replace hsz := hb1
                    clear HO1 HB1 hb1 hfar hgr
                    refine hK.out _ _ (by first | exact ⟨p0.c, p1.c⟩ | exact ⟨(p0.keep (by rw [hB1.out]; exact HBk)).c, (p1.keep (by rw [hB1.out]; exact HBk)).c⟩) (fun hHeld => ?_)
                    clear hK K
                    try go_frame
                    refine wpAnyF_one (i := 9) (by kernel_rfl) rfl (fun K hK => ?_)
                    rw [if_pos (show Region.wanted _ _ = true from rfl)]
                    refine app_SW B1 _ _ 80 37 (.agg #[.bool false, .slice none 0 0]) 2 32 1 1 (some ⟨wa0.heap.size, 0, none⟩) [.bool n0, .slice A0 m0 k0] (0 + a) ([] ++ xs.take (a * 2)) rfl Tryz.underlying80 info_Z rfl (by decide) (by decide) RE.out (by simp [Value.oneCell']) _ RO.out rfl rfl HBk hsz (by omega) (fun v9 wa9 HO1 HB1 hb1 hfar hgr => ?_)
                    replace RO := Lib.hid HO1
                    replace HBk := HB1
                    replace hsz := hb1
                    clear HO1 HB1 hb1 hfar hgr
                    refine hK.out _ _ (by first | exact ⟨p0.c, p1.c⟩ | exact ⟨(p0.keep (by rw [hB1.out]; exact HBk)).c, (p1.keep (by rw [hB1.out]; exact HBk)).c⟩) (fun hHeld => ?_)
                    clear hK K
                    try go_frame
                    refine wpAnyF_one (i := 13) (by kernel_rfl) rfl (fun K hK => ?_)
                    rw [if_pos (show Region.wanted _ _ = true from rfl)]
                    refine app_SW B1 _ _ 80 37 (.agg #[.bool false, .slice none 0 0]) 2 32 (L.length - a) (cn - a) (if cn = a then An else Option.map (fun x => x.add (a * 2)) An) (xs.drop (a * 2)) (0 + a + 1) ([] ++ xs.take (a * 2) ++ [.bool n0, .slice A0 m0 k0]) rfl Tryz.underlying80 info_Z rfl (by decide) (by decide) (Rd.drop (RN.out.below (by rw [hB1.out]; exact HBk)) ha hcn1) (fun u hu => HONE.out u (List.mem_of_mem_drop hu)) _ RO.out rfl rfl HBk hsz (by omega) (fun v13 wa13 HO1 HB1 hb1 hfar hgr => ?_)
                    replace RO := Lib.hid HO1
                    replace HBk := HB1
                    replace hsz := hb1
                    clear HO1 HB1 hb1 hfar hgr
                    refine hK.out _ _ (by first | exact ⟨p0.c, p1.c⟩ | exact ⟨(p0.keep (by rw [hB1.out]; exact HBk)).c, (p1.keep (by rw [hB1.out]; exact HBk)).c⟩) (fun hHeld => ?_)
                    clear hK K
                    try go_frame
                    refine wpF_t (i := 14) (oi := op9833e2f5) (v := ?_) rfl (by kernel_rfl) (fun _ _ _ h => h) (Or.inl ⟨by rfl, ?_⟩) hHeld ?_; rotate_left
                    · intro w_ hSw_; (try dsimp only at hSw_); go_simp; (try with_reducible rfl)
                    try go_frame
                    refine wpAnyF_done (by kernel_rfl) ?_ _
                    clear hHeld
                    clear hWd
                    go_wp2_with fail
                    all_goals (go_meet; exact ⟨_, rfl, RO.out, HBw.trans HBk⟩)
                · go_simp
                  have hA_ := below_alloc (Below.refl wd.heap.size wd) (Obj.cells #[.bool n0, .slice A0 m0 k0] 37)
                  have RE := Lib.hid (rd_new wd [.bool n0, .slice A0 m0 k0] 37)
                  replace HBk := HBk.trans (hA_.mono hsz)
                  replace hsz := Nat.le_trans hsz hA_.size
                  refine hK.out _ _ (by first | exact ⟨p0.c, p1.c⟩ | exact ⟨(p0.keep (by rw [hB1.out]; exact HBk)).c, (p1.keep (by rw [hB1.out]; exact HBk)).c⟩) (fun hHeld => ?_)
                  clear hK K
                  try go_frame
                  generalize hWa : wd.alloc (Obj.cells #[.bool n0, .slice A0 m0 k0] 37) = wa8 at *
                  clear hWa hA_
                  refine wpAnyF_one (i := 0) (by kernel_rfl) rfl (fun K hK => ?_)
                  go_simp
                  have hA_ := below_alloc (Below.refl wa8.heap.size wa8) (Obj.cells #[] 37)
                  have RO := Lib.hid (own_empty wa8 B1 37 2 hsz)
                  have NE : Hid (wa8.heap.size ≠ wd.heap.size) := by have := rd_lt RE.out (by decide); show _ ≠ _; omega
                  replace RE := Lib.hid (RE.out.below hA_)
                  replace HBk := HBk.trans (hA_.mono hsz)
                  replace hsz := Nat.le_trans hsz hA_.size
                  refine hK.out _ _ (by first | exact ⟨p0.c, p1.c⟩ | exact ⟨(p0.keep (by rw [hB1.out]; exact HBk)).c, (p1.keep (by rw [hB1.out]; exact HBk)).c⟩) (fun hHeld => ?_)
                  clear hK K
                  try go_frame
                  generalize hWa : wa8.alloc (Obj.cells #[] 37) = wa0 at *
                  clear hWa hA_
                  refine wpAnyF_one (i := 4) (by kernel_rfl) rfl (fun K hK => ?_)
                  rw [if_pos (show Region.wanted _ _ = true from rfl)]
                  refine app_SW B1 _ _ 80 37 (.agg #[.bool false, .slice none 0 0]) 2 32 a cn An (xs.take (a * 2)) 0 [] rfl Tryz.underlying80 info_Z rfl (by decide) (by decide) ((RN.out.below (by rw [hB1.out]; exact HBk)).take ha) (fun u hu => HONE.out u (List.mem_of_mem_take hu)) _ RO.out rfl rfl HBk hsz (by omega) (fun v4 wa4 HO1 HB1 hb1 hfar hgr => ?_)
                  replace RE := Lib.hid (rd_far RE.out (by decide) (hfar _ (rd_lt RE.out (by decide)) (fun e => NE.out (by injection e))) hgr)
                  replace RO := Lib.hid HO1
                  replace HBk := HB1
                  replace hsz := hb1
                  clear HO1 HB1 hb1 hfar hgr
                  refine hK.out _ _ (by first | exact ⟨p0.c, p1.c⟩ | exact ⟨(p0.keep (by rw [hB1.out]; exact HBk)).c, (p1.keep (by rw [hB1.out]; exact HBk)).c⟩) (fun hHeld => ?_)
                  clear hK K
                  try go_frame
                  refine wpAnyF_one (i := 9) (by kernel_rfl) rfl (fun K hK => ?_)
                  rw [if_pos (show Region.wanted _ _ = true from rfl)]
                  refine app_SW B1 _ _ 80 37 (.agg #[.bool false, .slice none 0 0]) 2 32 1 1 (some ⟨wd.heap.size, 0, none⟩) [.bool n0, .slice A0 m0 k0] (0 + a) ([] ++ xs.take (a * 2)) rfl Tryz.underlying80 info_Z rfl (by decide) (by decide) RE.out (by simp [Value.oneCell']) _ RO.out rfl rfl HBk hsz (by omega) (fun v9 wa9 HO1 HB1 hb1 hfar hgr => ?_)
                  replace RO := Lib.hid HO1
                  replace HBk := HB1
                  replace hsz := hb1
                  clear HO1 HB1 hb1 hfar hgr
                  refine hK.out _ _ (by first | exact ⟨p0.c, p1.c⟩ | exact ⟨(p0.keep (by rw [hB1.out]; exact HBk)).c, (p1.keep (by rw [hB1.out]; exact HBk)).c⟩) (fun hHeld => ?_)
                  clear hK K
                  try go_frame
                  refine wpAnyF_one (i := 13) (by kernel_rfl) rfl (fun K hK => ?_)
                  rw [if_pos (show Region.wanted _ _ = true from rfl)]
                  refine app_SW B1 _ _ 80 37 (.agg #[.bool false, .slice none 0 0]) 2 32 (L.length - a) (cn - a) (if cn = a then An else Option.map (fun x => x.add (a * 2)) An) (xs.drop (a * 2)) (0 + a + 1) ([] ++ xs.take (a * 2) ++ [.bool n0, .slice A0 m0 k0]) rfl Tryz.underlying80 info_Z rfl (by decide) (by decide) (Rd.drop (RN.out.below (by rw [hB1.out]; exact HBk)) ha hcn1) (fun u hu => HONE.out u (List.mem_of_mem_drop hu)) _ RO.out rfl rfl HBk hsz (by omega) (fun v13 wa13 HO1 HB1 hb1 hfar hgr => ?_)
                  replace RO := Lib.hid HO1
                  replace HBk := HB1
                  replace hsz := hb1
                  clear HO1 HB1 hb1 hfar hgr
                  refine hK.out _ _ (by first | exact ⟨p0.c, p1.c⟩ | exact ⟨(p0.keep (by rw [hB1.out]; exact HBk)).c, (p1.keep (by rw [hB1.out]; exact HBk)).c⟩) (fun hHeld => ?_)
                  clear hK K
                  try go_frame
                  refine wpF_t (i := 14) (oi := op9833e2f5) (v := ?_) rfl (by kernel_rfl) (fun _ _ _ h => h) (Or.inl ⟨by rfl, ?_⟩) hHeld ?_; rotate_left
                  · intro w_ hSw_; (try dsimp only at hSw_); go_simp; (try with_reducible rfl)
                  try go_frame
                  refine wpAnyF_done (by kernel_rfl) ?_ _
                  clear hHeld
                  clear hWd
                  go_wp2_with fail
                  all_goals (go_meet; exact ⟨_, rfl, RO.out, HBw.trans HBk⟩)

              case rest =>
                clear p0 p1
                obtain ⟨v3, rfl, HO3, HB3⟩ := hcut
                have HBe := HBa.trans (HB3.mono HBa.size)
                have HLS3 := Lib.hid (ins_row (Rl.kp hRl (Kp.of HB3)) hRd.1 (nsL_len L) (HY.out.below HB3) ha HO3)
                obtain ⟨A2, c2, rfl, HN2⟩ := HLS3.out
                have HNN := Lib.hid HN2
                have S3 := S_.keep hB0 HBe
                have hms := S3.ms
                obtain ⟨Am, cm, rfl, hsm⟩ := hms.form
                rw [msL_len]
                have hRd2 := hsm.1
                rw [msL_len] at hRd2
                have hcm1 : L.length ≤ cm := by have := hsm.2.1; rwa [msL_len] at this
                have hcm2 := hsm.2.2
                have hcma : (a : Int) ≤ (cm : Int) := by omega
                clear HLS3 HN2 hms hsm HO3 hRl hRd HONE HY hcna
                go_upto_region 15 with fail
                have HONEI := Lib.hid (ints_one .i64 (msL L))
                have hB2 : B0 ≤ wc.heap.size := by have := S3.hb.size; omega
                have VZ := VA.keep (by rw [hB0]; exact S3.hb)
                have p0 : CL wc (w.heap.size + 1) 0 (.bool nz) := ⟨VZ.c0, VZ.lt⟩
                clear VZ
                generalize wc = w2 at *
                go_cut [10] from 85 to 95 (fun mv wx => ∃ (v4 : Value), mv = v4 ∧ wx.ownsRow w2.heap.size 3 1 v4 (0 + a + 1 + (L.length - a)) ([] ++ (ints .i64 (msL L)).take (a * 1) ++ [.int .i64 0] ++ (ints .i64 (msL L)).drop (a * 1)) ∧ Below w2.heap.size w2 wx)
                case first =>
                  have RN := Lib.hid (hRd2.below (below_drew (Below.refl _ _)))
                  have HBw := below_drew (Below.refl w2.heap.size w2)
                  have HBk := Below.refl w2.heap.size w2.drew
                  have hsz : w2.heap.size ≤ w2.drew.heap.size := Nat.le_refl _
                  replace p0 := p0.drew
                  have hB1 : Hid (w2.drew.heap.size = w2.heap.size) := rfl
                  have hcn1 := hcm1
                  generalize hWd : w2.drew = wd at *
                  generalize w2.heap.size = B1 at *
                  refine wp_region_F (fun w' => w'.cell? ⟨w.heap.size + 1, 0, none⟩ = some (.bool nz)) [] (by kernel_rfl) (by rw [hWd]; first | exact p0.c | exact (p0.keep (by rw [hB1.out]; exact HBk)).c) (fun hHeld => ?_)
                  rw [hWd] at hHeld ⊢
                  refine wpF_t (i := 1) (oi := { dst := some 86, op := Go.Op.move (Go.Operand.tmp 10), type := 22, pos := "ref.go:61", after := #[], guard := none }) (v := ?_) rfl (by kernel_rfl) (fun _ _ _ h => h) (Or.inl ⟨by rfl, ?_⟩) hHeld ?_; rotate_left
                  · intro w_ hSw_; (try dsimp only at hSw_); go_simp; (try with_reducible rfl)
                  try go_frame
                  refine wpF_t (i := 2) (oi := { dst := some 87, op := Go.Op.move (Go.Operand.tmp 16), type := 3, pos := "ref.go:61", after := #[], guard := none }) (v := ?_) rfl (by kernel_rfl) (fun _ _ _ h => h) (Or.inl ⟨by rfl, ?_⟩) hHeld ?_; rotate_left
                  · intro w_ hSw_; (try dsimp only at hSw_); go_simp; (try with_reducible rfl)
                  try go_frame
                  refine wpF_t (i := 3) (oi := { dst := some 88, op := Go.Op.slice 22 (Go.Operand.tmp 86) none (some (Go.Operand.tmp 87)) none, type := 22, pos := "ref.go:61", after := #[{ on := 1, ground := Go.Ground.data }, { on := 2, ground := Go.Ground.data }], guard := none }) (v := ?_) rfl (by kernel_rfl) (fun _ _ _ h => h) (Or.inl ⟨by rfl, ?_⟩) hHeld ?_; rotate_left
                  · intro w_ hSw_; (try dsimp only at hSw_); go_simp; (try with_reducible rfl)
                  try go_frame
                  refine wpF_t (i := 7) (oi := { dst := some 92, op := Go.Op.move (Go.Operand.tmp 10), type := 22, pos := "ref.go:61", after := #[], guard := none }) (v := ?_) rfl (by kernel_rfl) (fun _ _ _ h => h) (Or.inl ⟨by rfl, ?_⟩) hHeld ?_; rotate_left
                  · intro w_ hSw_; (try dsimp only at hSw_); go_simp; (try with_reducible rfl)
                  try go_frame
                  refine wpF_t (i := 8) (oi := { dst := some 93, op := Go.Op.move (Go.Operand.tmp 16), type := 3, pos := "ref.go:61", after := #[], guard := none }) (v := ?_) rfl (by kernel_rfl) (fun _ _ _ h => h) (Or.inl ⟨by rfl, ?_⟩) hHeld ?_; rotate_left
                  · intro w_ hSw_; (try dsimp only at hSw_); go_simp; (try with_reducible rfl)
                  try go_frame
                  refine wpF_t (i := 9) (oi := { dst := some 94, op := Go.Op.slice 22 (Go.Operand.tmp 92) (some (Go.Operand.tmp 93)) none none, type := 22, pos := "ref.go:61", after := #[{ on := 7, ground := Go.Ground.data }, { on := 8, ground := Go.Ground.data }], guard := none }) (v := ?_) rfl (by kernel_rfl) (fun _ _ _ h => h) (Or.inl ⟨by rfl, ?_⟩) hHeld ?_; rotate_left
                  · intro w_ hSw_; (try dsimp only at hSw_); go_simp; (try with_reducible rfl)
                  try go_frame
                  refine wpAnyF_two (i := 0) (j := 5) (by kernel_rfl) rfl rfl (fun K hK => ?_) (fun K hK => ?_)
                  · go_simp
                    have hA_ := below_alloc (Below.refl wd.heap.size wd) (Obj.cells #[] 3)
                    have RO := Lib.hid (own_empty wd B1 3 1 hsz)
                    replace HBk := HBk.trans (hA_.mono hsz)
                    replace hsz := Nat.le_trans hsz hA_.size
                    refine hK.out _ _ (by first | exact p0.c | exact (p0.keep (by rw [hB1.out]; exact HBk)).c) (fun hHeld => ?_)
                    clear hK K
                    try go_frame
                    generalize hWa : wd.alloc (Obj.cells #[] 3) = wa0 at *
                    clear hWa hA_
                    refine wpAnyF_two (i := 4) (j := 5) (by kernel_rfl) rfl rfl (fun K hK => ?_) (fun K hK => ?_)
                    · rw [if_pos (show Region.wanted _ _ = true from rfl)]
                      refine app_SW B1 _ _ 22 3 (.int .i64 0) 1 8 a cm Am ((ints .i64 (msL L)).take (a * 1)) 0 [] rfl Tryz.underlying22 info_I rfl (by decide) (by decide) ((RN.out.below (by rw [hB1.out]; exact HBk)).take ha) (fun u hu => HONEI.out u (List.mem_of_mem_take hu)) _ RO.out rfl rfl HBk hsz (by omega) (fun v4 wa4 HO1 HB1 hb1 hfar hgr => ?_)
                      replace RO := Lib.hid HO1
                      replace HBk := HB1
                      replace hsz := hb1
                      clear HO1 HB1 hb1 hfar hgr
                      refine hK.out _ _ (by first | exact p0.c | exact (p0.keep (by rw [hB1.out]; exact HBk)).c) (fun hHeld => ?_)
                      clear hK K
                      try go_frame
                      refine wpAnyF_one (i := 5) (by kernel_rfl) rfl (fun K hK => ?_)
                      go_simp
                      have hA_ := below_alloc (Below.refl wa4.heap.size wa4) (Obj.cells #[.int .i64 0] 3)
                      have RE := Lib.hid (rd_new wa4 [.int .i64 0] 3)
                      replace RO := Lib.hid (ownsRow_below RO.out hA_)
                      replace HBk := HBk.trans (hA_.mono hsz)
                      replace hsz := Nat.le_trans hsz hA_.size
                      refine hK.out _ _ (by first | exact p0.c | exact (p0.keep (by rw [hB1.out]; exact HBk)).c) (fun hHeld => ?_)
                      clear hK K
                      try go_frame
                      generalize hWa : wa4.alloc (Obj.cells #[.int .i64 0] 3) = wa5 at *
                      clear hWa hA_
                      refine wpAnyF_one (i := 6) (by kernel_rfl) rfl (fun K hK => ?_)
                      rw [if_pos (show Region.wanted _ _ = true from rfl)]
                      refine app_SW B1 _ _ 22 3 (.int .i64 0) 1 8 1 1 (some ⟨wa4.heap.size, 0, none⟩) [.int .i64 0] (0 + a) ([] ++ (ints .i64 (msL L)).take (a * 1)) rfl Tryz.underlying22 info_I rfl (by decide) (by decide) RE.out (by simp [Value.oneCell']) _ RO.out rfl rfl HBk hsz (by omega) (fun v6 wa6 HO1 HB1 hb1 hfar hgr => ?_)
                      replace RO := Lib.hid HO1
                      replace HBk := HB1
                      replace hsz := hb1
                      clear HO1 HB1 hb1 hfar hgr
                      refine hK.out _ _ (by first | exact p0.c | exact (p0.keep (by rw [hB1.out]; exact HBk)).c) (fun hHeld => ?_)
                      clear hK K
                      try go_frame
                      refine wpAnyF_one (i := 10) (by kernel_rfl) rfl (fun K hK => ?_)
                      rw [if_pos (show Region.wanted _ _ = true from rfl)]
                      refine app_SW B1 _ _ 22 3 (.int .i64 0) 1 8 (L.length - a) (cm - a) (if cm = a then Am else Option.map (fun x => x.add a) Am) ((ints .i64 (msL L)).drop (a * 1)) (0 + a + 1) ([] ++ (ints .i64 (msL L)).take (a * 1) ++ [.int .i64 0]) rfl Tryz.underlying22 info_I rfl (by decide) (by decide) (by have h := Rd.drop (RN.out.below (by rw [hB1.out]; exact HBk)) ha hcn1; simp only [Nat.mul_one] at h ⊢; exact h) (fun u hu => HONEI.out u (List.mem_of_mem_drop hu)) _ RO.out rfl rfl HBk hsz (by omega) (fun v10 wa10 HO1 HB1 hb1 hfar hgr => ?_)
                      replace RO := Lib.hid HO1
                      replace HBk := HB1
                      replace hsz := hb1
                      clear HO1 HB1 hb1 hfar hgr
                      refine hK.out _ _ (by first | exact p0.c | exact (p0.keep (by rw [hB1.out]; exact HBk)).c) (fun hHeld => ?_)
                      clear hK K
                      try go_frame
                      refine wpF_t (i := 11) (oi := op62aafd77) (v := ?_) rfl (by kernel_rfl) (fun _ _ _ h => h) (Or.inl ⟨by rfl, ?_⟩) hHeld ?_; rotate_left
                      · intro w_ hSw_; (try dsimp only at hSw_); go_simp; (try with_reducible rfl)
                      try go_frame
                      refine wpAnyF_done (by kernel_rfl) ?_ _
                      clear hHeld
                      clear hWd
                      go_wp2_with fail
                      all_goals (go_meet; exact ⟨_, rfl, RO.out, HBw.trans HBk⟩)
                    · go_simp
                      have hA_ := below_alloc (Below.refl wa0.heap.size wa0) (Obj.cells #[.int .i64 0] 3)
                      have RE := Lib.hid (rd_new wa0 [.int .i64 0] 3)
                      have NE : Hid (wd.heap.size ≠ wa0.heap.size) := by have h : wd.heap.size < wa0.heap.size := (World.ownsRow.lt RO.out _ rfl).2; show _ ≠ _; omega
                      replace RO := Lib.hid (ownsRow_below RO.out hA_)
                      replace HBk := HBk.trans (hA_.mono hsz)
                      replace hsz := Nat.le_trans hsz hA_.size
                      refine hK.out _ _ (by first | exact p0.c | exact (p0.keep (by rw [hB1.out]; exact HBk)).c) (fun hHeld => ?_)
                      clear hK K
                      try go_frame
                      generalize hWa : wa0.alloc (Obj.cells #[.int .i64 0] 3) = wa5 at *
                      clear hWa hA_
                      refine wpAnyF_one (i := 4) (by kernel_rfl) rfl (fun K hK => ?_)
                      rw [if_pos (show Region.wanted _ _ = true from rfl)]
                      refine app_SW B1 _ _ 22 3 (.int .i64 0) 1 8 a cm Am ((ints .i64 (msL L)).take (a * 1)) 0 [] rfl Tryz.underlying22 info_I rfl (by decide) (by decide) ((RN.out.below (by rw [hB1.out]; exact HBk)).take ha) (fun u hu => HONEI.out u (List.mem_of_mem_take hu)) _ RO.out rfl rfl HBk hsz (by omega) (fun v4 wa4 HO1 HB1 hb1 hfar hgr => ?_)
                      replace RE := Lib.hid (rd_far RE.out (by decide) (hfar _ (rd_lt RE.out (by decide)) (fun e => NE.out (by injection e))) hgr)
                      replace RO := Lib.hid HO1
                      replace HBk := HB1
                      replace hsz := hb1
                      clear HO1 HB1 hb1 hfar hgr
                      refine hK.out _ _ (by first | exact p0.c | exact (p0.keep (by rw [hB1.out]; exact HBk)).c) (fun hHeld => ?_)
                      clear hK K
                      try go_frame
                      refine wpAnyF_one (i := 6) (by kernel_rfl) rfl (fun K hK => ?_)
                      rw [if_pos (show Region.wanted _ _ = true from rfl)]
                      refine app_SW B1 _ _ 22 3 (.int .i64 0) 1 8 1 1 (some ⟨wa0.heap.size, 0, none⟩) [.int .i64 0] (0 + a) ([] ++ (ints .i64 (msL L)).take (a * 1)) rfl Tryz.underlying22 info_I rfl (by decide) (by decide) RE.out (by simp [Value.oneCell']) _ RO.out rfl rfl HBk hsz (by omega) (fun v6 wa6 HO1 HB1 hb1 hfar hgr => ?_)
                      replace RO := Lib.hid HO1
                      replace HBk := HB1
                      replace hsz := hb1
                      clear HO1 HB1 hb1 hfar hgr
                      refine hK.out _ _ (by first | exact p0.c | exact (p0.keep (by rw [hB1.out]; exact HBk)).c) (fun hHeld => ?_)
                      clear hK K
                      try go_frame
                      refine wpAnyF_one (i := 10) (by kernel_rfl) rfl (fun K hK => ?_)
                      rw [if_pos (show Region.wanted _ _ = true from rfl)]
                      refine app_SW B1 _ _ 22 3 (.int .i64 0) 1 8 (L.length - a) (cm - a) (if cm = a then Am else Option.map (fun x => x.add a) Am) ((ints .i64 (msL L)).drop (a * 1)) (0 + a + 1) ([] ++ (ints .i64 (msL L)).take (a * 1) ++ [.int .i64 0]) rfl Tryz.underlying22 info_I rfl (by decide) (by decide) (by have h := Rd.drop (RN.out.below (by rw [hB1.out]; exact HBk)) ha hcn1; simp only [Nat.mul_one] at h ⊢; exact h) (fun u hu => HONEI.out u (List.mem_of_mem_drop hu)) _ RO.out rfl rfl HBk hsz (by omega) (fun v10 wa10 HO1 HB1 hb1 hfar hgr => ?_)
                      replace RO := Lib.hid HO1
                      replace HBk := HB1
                      replace hsz := hb1
                      clear HO1 HB1 hb1 hfar hgr
                      refine hK.out _ _ (by first | exact p0.c | exact (p0.keep (by rw [hB1.out]; exact HBk)).c) (fun hHeld => ?_)
                      clear hK K
                      try go_frame
                      refine wpF_t (i := 11) (oi := op62aafd77) (v := ?_) rfl (by kernel_rfl) (fun _ _ _ h => h) (Or.inl ⟨by rfl, ?_⟩) hHeld ?_; rotate_left
                      · intro w_ hSw_; (try dsimp only at hSw_); go_simp; (try with_reducible rfl)
                      try go_frame
                      refine wpAnyF_done (by kernel_rfl) ?_ _
                      clear hHeld
                      clear hWd
                      go_wp2_with fail
                      all_goals (go_meet; exact ⟨_, rfl, RO.out, HBw.trans HBk⟩)
                  · go_simp
                    have hA_ := below_alloc (Below.refl wd.heap.size wd) (Obj.cells #[.int .i64 0] 3)
                    have RE := Lib.hid (rd_new wd [.int .i64 0] 3)
                    replace HBk := HBk.trans (hA_.mono hsz)
                    replace hsz := Nat.le_trans hsz hA_.size
                    refine hK.out _ _ (by first | exact p0.c | exact (p0.keep (by rw [hB1.out]; exact HBk)).c) (fun hHeld => ?_)
                    clear hK K
                    try go_frame
                    generalize hWa : wd.alloc (Obj.cells #[.int .i64 0] 3) = wa5 at *
                    clear hWa hA_
                    refine wpAnyF_one (i := 0) (by kernel_rfl) rfl (fun K hK => ?_)
                    go_simp
                    have hA_ := below_alloc (Below.refl wa5.heap.size wa5) (Obj.cells #[] 3)
                    have RO := Lib.hid (own_empty wa5 B1 3 1 hsz)
                    have NE : Hid (wa5.heap.size ≠ wd.heap.size) := by have := rd_lt RE.out (by decide); show _ ≠ _; omega
                    replace RE := Lib.hid (RE.out.below hA_)
                    replace HBk := HBk.trans (hA_.mono hsz)
                    replace hsz := Nat.le_trans hsz hA_.size
                    refine hK.out _ _ (by first | exact p0.c | exact (p0.keep (by rw [hB1.out]; exact HBk)).c) (fun hHeld => ?_)
                    clear hK K
                    try go_frame
                    generalize hWa : wa5.alloc (Obj.cells #[] 3) = wa0 at *
                    clear hWa hA_
                    refine wpAnyF_one (i := 4) (by kernel_rfl) rfl (fun K hK => ?_)
                    rw [if_pos (show Region.wanted _ _ = true from rfl)]
                    refine app_SW B1 _ _ 22 3 (.int .i64 0) 1 8 a cm Am ((ints .i64 (msL L)).take (a * 1)) 0 [] rfl Tryz.underlying22 info_I rfl (by decide) (by decide) ((RN.out.below (by rw [hB1.out]; exact HBk)).take ha) (fun u hu => HONEI.out u (List.mem_of_mem_take hu)) _ RO.out rfl rfl HBk hsz (by omega) (fun v4 wa4 HO1 HB1 hb1 hfar hgr => ?_)
                    replace RE := Lib.hid (rd_far RE.out (by decide) (hfar _ (rd_lt RE.out (by decide)) (fun e => NE.out (by injection e))) hgr)
                    replace RO := Lib.hid HO1
                    replace HBk := HB1
                    replace hsz := hb1
                    clear HO1 HB1 hb1 hfar hgr
                    refine hK.out _ _ (by first | exact p0.c | exact (p0.keep (by rw [hB1.out]; exact HBk)).c) (fun hHeld => ?_)
                    clear hK K
                    try go_frame
                    refine wpAnyF_one (i := 6) (by kernel_rfl) rfl (fun K hK => ?_)
                    rw [if_pos (show Region.wanted _ _ = true from rfl)]
                    refine app_SW B1 _ _ 22 3 (.int .i64 0) 1 8 1 1 (some ⟨wd.heap.size, 0, none⟩) [.int .i64 0] (0 + a) ([] ++ (ints .i64 (msL L)).take (a * 1)) rfl Tryz.underlying22 info_I rfl (by decide) (by decide) RE.out (by simp [Value.oneCell']) _ RO.out rfl rfl HBk hsz (by omega) (fun v6 wa6 HO1 HB1 hb1 hfar hgr => ?_)
                    replace RO := Lib.hid HO1
                    replace HBk := HB1
                    replace hsz := hb1
                    clear HO1 HB1 hb1 hfar hgr
                    refine hK.out _ _ (by first | exact p0.c | exact (p0.keep (by rw [hB1.out]; exact HBk)).c) (fun hHeld => ?_)
                    clear hK K
                    try go_frame
                    refine wpAnyF_one (i := 10) (by kernel_rfl) rfl (fun K hK => ?_)
                    rw [if_pos (show Region.wanted _ _ = true from rfl)]
                    refine app_SW B1 _ _ 22 3 (.int .i64 0) 1 8 (L.length - a) (cm - a) (if cm = a then Am else Option.map (fun x => x.add a) Am) ((ints .i64 (msL L)).drop (a * 1)) (0 + a + 1) ([] ++ (ints .i64 (msL L)).take (a * 1) ++ [.int .i64 0]) rfl Tryz.underlying22 info_I rfl (by decide) (by decide) (by have h := Rd.drop (RN.out.below (by rw [hB1.out]; exact HBk)) ha hcn1; simp only [Nat.mul_one] at h ⊢; exact h) (fun u hu => HONEI.out u (List.mem_of_mem_drop hu)) _ RO.out rfl rfl HBk hsz (by omega) (fun v10 wa10 HO1 HB1 hb1 hfar hgr => ?_)
                    replace RO := Lib.hid HO1
                    replace HBk := HB1
                    replace hsz := hb1
                    clear HO1 HB1 hb1 hfar hgr
                    refine hK.out _ _ (by first | exact p0.c | exact (p0.keep (by rw [hB1.out]; exact HBk)).c) (fun hHeld => ?_)
                    clear hK K
                    try go_frame
                    refine wpF_t (i := 11) (oi := op62aafd77) (v := ?_) rfl (by kernel_rfl) (fun _ _ _ h => h) (Or.inl ⟨by rfl, ?_⟩) hHeld ?_; rotate_left
                    · intro w_ hSw_; (try dsimp only at hSw_); go_simp; (try with_reducible rfl)
                    try go_frame
                    refine wpAnyF_done (by kernel_rfl) ?_ _
                    clear hHeld
                    clear hWd
                    go_wp2_with fail
                    all_goals (go_meet; exact ⟨_, rfl, RO.out, HBw.trans HBk⟩)

                case rest =>
                  clear p0
                  obtain ⟨v4, hv4, HO4, HB4⟩ := hcut
                  symm at hv4
                  subst hv4
                  have HOI := ins_rowI (msL_len L) ha HO4
                  have HB5 := S3.hb.trans (HB4.mono hB2)
                  have SN : S5 B0 W0 wc v4 A2 c2 (L.take a ++ (y, 0) :: L.drop a) := ⟨HB5, fun W' hg => by rw [nsL_ins]; exact HNN.out.below (HB4.grown hg HB4.size (ownsRow_base HO4)), by rw [msL_ins]; exact ownsRow_base' HOI hB2⟩
                  have hLL : (L.take a ++ (y, 0) :: L.drop a).length = L.length + 1 := by rw [List.length_append, List.length_cons, List.length_take, List.length_drop]; omega
                  clear HO4 HOI HB4 HB5 HNN S3 hRd2 HONEI S_ HBa HB3 HBe
                  generalize L.take a ++ (y, 0) :: L.drop a = LL at *
                  obtain ⟨cc, L', hq1, hq2, hq3, hq4, hq5, hq6⟩ := HPRE.out.bump
                  have hlen' : L'.length = L.length + 1 := by have := congrArg List.length hq4; rw [nsL_len, nsL_len] at this; omega
                  have hq7 := lsts_len M most z i
                  rw [List.length_append] at hq3
                  simp only [List.length_singleton] at hq3
                  obtain ⟨g, cg, rfl, hbg, hgl⟩ := SN.ms.blk (by rw [msL_len]; omega)
                  have c0 := OwI.cellAt SN.ms (j := a) (by rw [msL_len]; exact hq1)
                  rw [hq2] at c0
                  have f0 := OwI.frozenAt SN.ms a
                  have hcw : IntKind.i64.wrap ((cc : Int) + 1) = (cc : Int) + 1 := by rw [IntKind.wrap_i64]; omega
                  have SF : S5 B0 W0 (wc.setCell ⟨g, a, none⟩ (.int .i64 ((cc : Int) + 1))) (.slice (some ⟨g, 0, none⟩) (msL LL).length cg) A2 c2 L' :=
                    ⟨SN.hb.setCell (p := ⟨g, a, none⟩) hbg _, fun W' hg => by rw [hq4]; exact SN.ns W' (grown_trans (grown_cell wc g a _) hg), by rw [hq5]; exact OwI.setAt SN.ms a _⟩
                  have hml : (msL LL).length = L.length + 1 := by rw [msL_len] <;> omega
                  have HSV2 := Lib.hid (show SrvOK (lsts M most z (i + 1)) L' by rw [HLS2.out]; simpa using hq6)
                  have hlq : q + (lsts M most z (i + 1)).length = i + 1 := by rw [HLS2.out]; simp <;> omega
                  have haN : (a : Int) < ((L.length + 1 : Nat) : Int) := by omega
                  have haN0 : (0 : Int) ≤ (a : Int) := by omega
                  have haN1 : (a : Int).toNat = a := Int.toNat_natCast a
                  rw [hml] at SF ⊢
                  clear HPRE hq1 hq2 hq3 hq4 hq5 hq6 hq7 hml SN
                  go_wp2
                  go_roundg (count - (i + 1))
                  case measure => omega
                  case rel => exact ⟨i + 1, q, L', A2, c2, rfl, by rw [hlen'], rfl, by go_num, by omega, hlq, HSV2, SF⟩
            · have haL : a < L.length := by omega
              have hyy : gd (nsL L) a = y := by
                by_cases h : gd (nsL L) a = y
                · exact h
                · exact absurd (.inr h) hin
              have hdi : decide (a = L.length ∨ gd (nsL L) a ≠ y) = false := decide_eq_false hin
              have HPRE : Hid (PreOK (lsts M most z i) y a L) := by have h := pre_eq HSV.out haL; rw [show gd (L.map Prod.fst) a = y from hyy] at h; exact h
              have SN := S_.keep hB0 HBa
              rw [hdi]
              have hLL : L.length = L.length := rfl
              clear hin hdi HJ HA3 hyy HBa G0 G1 gi S_
              obtain ⟨cc, L', hq1, hq2, hq3, hq4, hq5, hq6⟩ := HPRE.out.bump
              have hlen' : L'.length = L.length := by have := congrArg List.length hq4; rw [nsL_len, nsL_len] at this; omega
              have hq7 := lsts_len M most z i
              rw [List.length_append] at hq3
              simp only [List.length_singleton] at hq3
              obtain ⟨g, cg, rfl, hbg, hgl⟩ := SN.ms.blk (by rw [msL_len]; omega)
              have c0 := OwI.cellAt SN.ms (j := a) (by rw [msL_len]; exact hq1)
              rw [hq2] at c0
              have f0 := OwI.frozenAt SN.ms a
              have hcw : IntKind.i64.wrap ((cc : Int) + 1) = (cc : Int) + 1 := by rw [IntKind.wrap_i64]; omega
              have SF : S5 B0 W0 (wc.setCell ⟨g, a, none⟩ (.int .i64 ((cc : Int) + 1))) (.slice (some ⟨g, 0, none⟩) (msL L).length cg) An cn L' :=
                ⟨SN.hb.setCell (p := ⟨g, a, none⟩) hbg _, fun W' hg => by rw [hq4]; exact SN.ns W' (grown_trans (grown_cell wc g a _) hg), by rw [hq5]; exact OwI.setAt SN.ms a _⟩
              have hml : (msL L).length = L.length := by rw [msL_len] <;> omega
              have HSV2 := Lib.hid (show SrvOK (lsts M most z (i + 1)) L' by rw [HLS2.out]; simpa using hq6)
              have hlq : q + (lsts M most z (i + 1)).length = i + 1 := by rw [HLS2.out]; simp <;> omega
              have haN : (a : Int) < ((L.length : Nat) : Int) := by omega
              have haN0 : (0 : Int) ≤ (a : Int) := by omega
              have haN1 : (a : Int).toNat = a := Int.toNat_natCast a
              rw [hml] at SF ⊢
              clear HPRE hq1 hq2 hq3 hq4 hq5 hq6 hq7 hml SN
              go_wp2
              go_roundg (count - (i + 1))
              case measure => omega
              case rel => exact ⟨i + 1, q, L', An, cn, rfl, by rw [hlen'], rfl, by go_num, by omega, hlq, HSV2, SF⟩
    · obtain rfl : i = count := by omega
      have hi1 : ¬ (i : Int) < (i : Int) := by omega
      have HN3 := Lib.hid S_.names
      have HM3 := S_.ms
      obtain ⟨Am, cm, rfl, hsm⟩ := HM3.form
      have HM4 := Lib.hid hsm
      have HBw := HB.trans (S_.hb.mono (by omega))
      have HQL := Lib.hid hql
      have hcn := HN3.out
      obtain ⟨_, _, hcn1, hcn2, _⟩ := hcn
      clear HM3 hsm S_ hql hcn1
      generalize wr = w3 at *
      go_wp2_with fail
      go_loopg [17, 18] L.length (fun g ov iv wr => ∃ j : Nat, g = L.length - j ∧ iv = .int .i64 j ∧ j ≤ L.length ∧ Hid (OwC wr w3.heap.size ov ((L.take j).map cnF)) ∧ Below w3.heap.size w3 wr)
      case atStart => exact ⟨0, rfl, rfl, Nat.zero_le _, OwC.nil _ _, Below.refl _ _⟩
      case round =>
        obtain ⟨j, hgj, rfl, hj, HO, HB3⟩ := hrel
        have hj0 : (0 : Int) ≤ (j : Int) := by omega
        have hbs := HB3.size
        by_cases hjL : j < L.length
        · have hj1 : (j : Int) < (L.length : Int) := by omega
          have hj2 : (j : Int) < ((msL L).length : Int) := by rw [msL_len]; exact hj1
          obtain ⟨x, m, hmem, hx, hmm, htk⟩ := nm_at hjL
          obtain ⟨b9, o9, n9, A9, m9, k9, rfl, hlt9, q0, q1, HZ9⟩ := HN3.out.at (j := j) (by rw [nsL_len]; exact hjL)
          obtain ⟨b8, o8, rfl, hlt8, q2⟩ := HM4.out.cell (j := j) (by rw [msL_len]; exact hjL)
          rw [hx] at HZ9
          rw [hmm] at q2
          replace q0 : CL w3 b9 (o9 + j * 2) (.bool n9) := ⟨q0, hlt9⟩
          replace q1 : CL w3 b9 (o9 + j * 2 + 1) (.slice A9 m9 k9) := ⟨q1, hlt9⟩
          replace q2 : CL w3 b8 (o8 + j) (.int .i64 (m : Int)) := ⟨q2, hlt8⟩
          have hd9 : dl x ≤ 2000 := by
            obtain ⟨h1, h2⟩ := (HSV.out.2 x m).1 hmem
            rw [h2] at h1
            exact lsts_dl (List.count_pos_iff.1 h1)
          have hlt : (((L.take j).map cnF).length + 1) * 24 ≤ 140737488355328 := by rw [List.length_map, List.length_take]; omega
          have HTK := Lib.hid htk
          have p0 := (q0.keep HB3).c; have p1 := (q1.keep HB3).c; have p2 := (q2.keep HB3).c
          clear hmem hx hmm htk hlt9 hlt8
          go_wp2_with fail
          clear p0 p1 p2
          replace HO := Lib.hid (HO.out.below (below_drew (Below.refl _ _)))
          replace HB3 := below_drew HB3
          generalize hWd : wr.drew = wd at *
          refine wp_region_F (fun w' => w'.cell? ⟨b9, o9 + j * 2, none⟩ = some (.bool n9) ∧ w'.cell? ⟨b9, o9 + j * 2 + 1, none⟩ = some (.slice A9 m9 k9) ∧ w'.cell? ⟨b8, o8 + j, none⟩ = some (.int .i64 (m : Int))) [] (by kernel_rfl) (by rw [hWd]; exact ⟨(q0.keep HB3).c, (q1.keep HB3).c, (q2.keep HB3).c⟩) (fun hHeld => ?_)
          rw [hWd] at hHeld ⊢
          refine wpF_t (i := 0) (oi := { dst := some 108, op := Go.Op.move (Go.Operand.tmp 17), type := 31, pos := "ref.go:67", after := #[], guard := none }) (v := ?_) rfl (by kernel_rfl) (fun _ _ _ h => h) (Or.inl ⟨by rfl, ?_⟩) hHeld ?_; rotate_left
          · intro w_ hSw_; (try dsimp only at hSw_); go_simp; (try with_reducible rfl)
          try go_frame
          refine wpF_t (i := 1) (oi := { dst := some 109, op := Go.Op.move (Go.Operand.tmp 9), type := 80, pos := "ref.go:67", after := #[], guard := none }) (v := ?_) rfl (by kernel_rfl) (fun _ _ _ h => h) (Or.inl ⟨by rfl, ?_⟩) hHeld ?_; rotate_left
          · intro w_ hSw_; (try dsimp only at hSw_); go_simp; (try with_reducible rfl)
          try go_frame
          refine wpF_t (i := 2) (oi := { dst := some 110, op := Go.Op.move (Go.Operand.tmp 18), type := 3, pos := "ref.go:67", after := #[], guard := none }) (v := ?_) rfl (by kernel_rfl) (fun _ _ _ h => h) (Or.inl ⟨by rfl, ?_⟩) hHeld ?_; rotate_left
          · intro w_ hSw_; (try dsimp only at hSw_); go_simp; (try with_reducible rfl)
          try go_frame
          refine wpF_t (i := 3) (oi := { dst := some 111, op := Go.Op.indexAddr 80 (Go.Operand.tmp 109) (Go.Operand.tmp 110), type := 0, pos := "ref.go:67", after := #[{ on := 1, ground := Go.Ground.data }, { on := 2, ground := Go.Ground.data }], guard := none }) (v := ?_) rfl (by kernel_rfl) (fun _ _ _ h => h) (Or.inl ⟨by rfl, ?_⟩) hHeld ?_; rotate_left
          · intro w_ hSw_; (try dsimp only at hSw_); go_simp; (try with_reducible rfl)
          try go_frame
          refine wpF_t (i := 4) (oi := { dst := some 112, op := Go.Op.load 37 (Go.Operand.tmp 111), type := 37, pos := "ref.go:67", after := #[{ on := 3, ground := Go.Ground.data }], guard := none }) (v := ?_) rfl (by kernel_rfl) (fun _ _ _ h => h) (Or.inl ⟨by rfl, ?_⟩) hHeld ?_; rotate_left
          · intro w_ hSw_; (try dsimp only at hSw_); go_simp; (try with_reducible rfl)
          try go_frame
          refine wpF_t (i := 6) (oi := { dst := some 114, op := Go.Op.move (Go.Operand.tmp 10), type := 22, pos := "ref.go:67", after := #[], guard := none }) (v := ?_) rfl (by kernel_rfl) (fun _ _ _ h => h) (Or.inl ⟨by rfl, ?_⟩) hHeld ?_; rotate_left
          · intro w_ hSw_; (try dsimp only at hSw_); go_simp; (try with_reducible rfl)
          try go_frame
          refine wpF_t (i := 7) (oi := { dst := some 115, op := Go.Op.move (Go.Operand.tmp 18), type := 3, pos := "ref.go:67", after := #[], guard := none }) (v := ?_) rfl (by kernel_rfl) (fun _ _ _ h => h) (Or.inl ⟨by rfl, ?_⟩) hHeld ?_; rotate_left
          · intro w_ hSw_; (try dsimp only at hSw_); go_simp; (try with_reducible rfl)
          try go_frame
          refine wpF_t (i := 8) (oi := { dst := some 116, op := Go.Op.indexAddr 22 (Go.Operand.tmp 114) (Go.Operand.tmp 115), type := 0, pos := "ref.go:67", after := #[{ on := 6, ground := Go.Ground.data }, { on := 7, ground := Go.Ground.data }], guard := none }) (v := ?_) rfl (by kernel_rfl) (fun _ _ _ h => h) (Or.inl ⟨by rfl, ?_⟩) hHeld ?_; rotate_left
          · intro w_ hSw_; (try dsimp only at hSw_); go_simp; (try with_reducible rfl)
          try go_frame
          refine wpF_t (i := 9) (oi := { dst := some 117, op := Go.Op.load 3 (Go.Operand.tmp 116), type := 3, pos := "ref.go:67", after := #[{ on := 8, ground := Go.Ground.data }], guard := none }) (v := ?_) rfl (by kernel_rfl) (fun _ _ _ h => h) (Or.inl ⟨by rfl, ?_⟩) hHeld ?_; rotate_left
          · intro w_ hSw_; (try dsimp only at hSw_); go_simp; (try with_reducible rfl)
          try go_frame
          refine wpAnyF_one (i := 5) (by kernel_rfl) rfl (fun K hK => ?_)
          go_simp
          (go_at_call 41; (with_reducible refine (Text_c x _ _ (HZ9.out.below HB3) (by have := len_of_dl hd9; omega)).mono ?_); rintro e w15 ⟨rfl, hb⟩; replace HO := Lib.hid (HO.out.below hb); replace HB3 := below_step HB3 hb; have hbs3 := HB3.size; clear hb)
          refine hK.out _ _ (by exact ⟨(q0.keep HB3).c, (q1.keep HB3).c, (q2.keep HB3).c⟩) (fun hHeld => ?_)
          clear hK K
          try go_frame
          refine wpF_t (i := 10) (oi := { dst := some 118, op := Go.Op.build 74 #[(0, Go.Operand.tmp 113), (1, Go.Operand.tmp 117)], type := 74, pos := "ref.go:67", after := #[{ on := 5, ground := Go.Ground.data }, { on := 9, ground := Go.Ground.data }], guard := none }) (v := ?_) rfl (by kernel_rfl) (fun _ _ _ h => h) (Or.inl ⟨by rfl, ?_⟩) hHeld ?_; rotate_left
          · intro w_ hSw_; (try dsimp only at hSw_); go_simp; (try with_reducible rfl)
          try go_frame
          refine wpAnyF_one (i := 11) (by kernel_rfl) rfl (fun K hK => ?_)
          go_simp
          have hbA := below_alloc (Below.refl w15.heap.size w15) (Obj.cells #[Value.string (tS x), Value.int .i64 (m : Int)] 74)
          refine hK.out _ _ (by exact ⟨(q0.keep (below_step HB3 hbA)).c, (q1.keep (below_step HB3 hbA)).c, (q2.keep (below_step HB3 hbA)).c⟩) (fun hHeld => ?_)
          clear hK K
          try go_frame
          refine wpAnyF_one (i := 12) (by kernel_rfl) rfl (fun K hK => ?_)
          rw [if_pos (show Region.wanted _ _ = true from rfl)]
          clear hbA; refine app_RW w3.heap.size _ _ 31 74 (.agg #[.string ByteArray.empty, .int .i64 0]) 2 24 [.string (tS x), .int .i64 (m : Int)] ((L.take j).map cnF).length (cns ((L.take j).map cnF)) rfl Tryz.underlying31 info_C rfl (by decide) (by decide) rfl (by simp [Value.oneCell']) _ HO.out rfl rfl HB3 hbs3 hlt (fun v1 w1 HO1 HB1 hb1 hfar => ?_)
          refine hK.out _ _ (by exact ⟨(q0.keep HB1).c, (q1.keep HB1).c, (q2.keep HB1).c⟩) (fun hHeld => ?_)
          clear hK K
          try go_frame
          refine wpF_t (i := 13) (oi := { dst := some 17, op := Go.Op.assign (Go.Operand.tmp 120), type := 31, pos := "ref.go:67", after := #[{ on := 12, ground := Go.Ground.data }, { on := 12, ground := Go.Ground.chain }, { on := 0, ground := Go.Ground.phase }, { on := 1, ground := Go.Ground.phase }, { on := 2, ground := Go.Ground.phase }, { on := 3, ground := Go.Ground.phase }, { on := 4, ground := Go.Ground.phase }, { on := 5, ground := Go.Ground.phase }, { on := 6, ground := Go.Ground.phase }, { on := 7, ground := Go.Ground.phase }, { on := 8, ground := Go.Ground.phase }, { on := 9, ground := Go.Ground.phase }, { on := 10, ground := Go.Ground.phase }, { on := 11, ground := Go.Ground.phase }, { on := 12, ground := Go.Ground.phase }], guard := none }) (v := ?_) rfl (by kernel_rfl) (fun _ _ _ h => h) (Or.inl ⟨by rfl, ?_⟩) hHeld ?_; rotate_left
          · intro w_ hSw_; (try dsimp only at hSw_); go_simp; (try with_reducible rfl)
          try go_frame
          refine wpAnyF_done (by kernel_rfl) ?_ _
          clear hHeld hWd
          have HO3 : Hid (OwC w1 w3.heap.size v1 ((L.take (j + 1)).map cnF)) := by
            show OwC _ _ _ _
            rw [HTK.out]
            unfold OwC
            rw [cns_snoc, List.length_append]
            exact HO1
          go_wp2
          go_roundg (L.length - (j + 1))
          case measure => omega
          case rel => exact ⟨j + 1, rfl, by go_num, by omega, HO3, HB1⟩
        · obtain rfl : j = L.length := by omega
          have hj1 : ¬ ((L.length : Nat) : Int) < (L.length : Int) := by omega
          rw [List.take_length] at HO
          have HB4 := HBw.trans (HB3.mono HBw.size)
          by_cases hq : q = 0
          · subst hq
            have hq1 : ¬ (0 : Int) < ((0 : Nat) : Int) := by omega
            obtain ⟨A9, c9, rfl, hs9⟩ := HO.out.form
            have HS9 := Lib.hid hs9
            have HCN : Hid (cnL L 0 = L.map cnF) := by show _ = _; unfold cnL; rw [if_pos rfl, List.append_nil]; rfl
            clear hs9 HO
            go_wp2
            go_ret
            exact ⟨L, 0, A9, c9, by rw [HCN.out, List.length_map]; rfl, HQL.out, HSV.out, by show LsC _ _ _ _; rw [HCN.out]; exact HS9.out, HB4⟩
          · have hq1 : (0 : Int) < (q : Int) := by omega
            have HCN : Hid (cnL L q = L.map cnF ++ [(ByteArray.empty, q)]) := by show _ = _; unfold cnL; rw [if_neg hq]; rfl
            have hlt : ((L.map cnF).length + 1) * 24 ≤ 140737488355328 := by rw [List.length_map]; omega
            go_wp2_with (at_builtin; refine app_R w3.heap.size rfl _ _ 31 74 (.agg #[.string ByteArray.empty, .int .i64 0]) 2 24 [.string ByteArray.empty, .int .i64 (q : Int)] (L.map cnF).length (cns (L.map cnF)) rfl Tryz.underlying31 info_C rfl (by decide) (by decide) rfl (by simp [Value.oneCell']) _ HO.out rfl rfl HB3 hbs hlt ?_; intro v1 w1 HO1 HB1 hb1)
            have HO3 : OwC w1 w3.heap.size v1 (L.map cnF ++ [(ByteArray.empty, q)]) := by
              unfold OwC
              rw [cns_snoc, List.length_append]
              exact HO1
            obtain ⟨A9, c9, rfl, hs9⟩ := HO3.form
            have HS9 := Lib.hid hs9
            have HB5 := HBw.trans (HB1.mono HBw.size)
            clear hs9 HO3 HO1 HO
            go_wp2
            go_ret
            exact ⟨L, q, A9, c9, by rw [HCN.out]; rfl, HQL.out, HSV.out, by show LsC _ _ _ _; rw [HCN.out]; exact HS9.out, HB5⟩
end Go.Proofs.YtiaeeclmlchpoaaGreatDoor

set_option linter.unusedVariables false
set_option linter.unusedSimpArgs false
namespace Go.Proofs.YtiaeeclmlchpoaaGreatDoor
open Go.RowKit

set_option maxRecDepth 100000 in
set_option maxHeartbeats 4000000 in
theorem counts_c (A A' : Option Addr) (c c' : Nat) (a : List (ByteArray × Nat)) (w : World) (h : LsC w A c a) (h' : LsC w A' c' a) :
    Calls Tryz.prog 16 #[.slice A a.length c, .slice A' a.length c'] w fun e w' => e = .returned (.bool true) ∧ Below w.heap.size w w' := by
  have HB : Below w.heap.size w w := Below.refl _ _
  have hcl := h.2
  have hlb : ((a.length : Int) != (a.length : Int)) = false := by simp
  have H1 := Lib.hid h
  have H2 := Lib.hid h'
  clear h h'
  go_enter Tryz.func16, Tryz.ntmps16
  go_wp2_with fail
  go_loopg [5] a.length (fun g iv wr => ∃ (i : Nat), g = a.length - i ∧ iv = .int .i64 i ∧ i ≤ a.length ∧ Below w.heap.size w wr)
  case atStart => exact ⟨0, rfl, rfl, by omega, HB⟩
  case round =>
    clear HB
    obtain ⟨i, hgk, rfl, hi, HB⟩ := hrel
    have hi0 : (0 : Int) ≤ (i : Int) := by omega
    by_cases hia : i < a.length
    · obtain ⟨b1, o1, rfl, k1, l1⟩ := (H1.out.below HB).el (j := i) hia
      obtain ⟨b2, o2, rfl, k2, l2⟩ := (H2.out.below HB).el (j := i) hia
      have hi1 : (i : Int) < (a.length : Int) := by omega
      generalize gc a i = p at *
      obtain ⟨x, y⟩ := p
      dsimp only at k1 k2 l1 l2
      have q1 := k1.c; have q2 := k2.c; have q3 := l1.c; have q4 := l2.c
      go_wp2_with fail
      clear q1 q2 q3 q4
      replace HB := below_drew HB
      replace k1 := k1.drew; replace k2 := k2.drew; replace l1 := l1.drew; replace l2 := l2.drew
      generalize hWd : wr.drew = wd at *
      refine wp_region_F (fun w' => w'.cell? ⟨b1, o1 + i * 2, none⟩ = some (.string x) ∧ w'.cell? ⟨b1, o1 + i * 2 + 1, none⟩ = some (.int .i64 (y : Int)) ∧ w'.cell? ⟨b2, o2 + i * 2, none⟩ = some (.string x) ∧ w'.cell? ⟨b2, o2 + i * 2 + 1, none⟩ = some (.int .i64 (y : Int))) [] (by kernel_rfl) (by rw [hWd]; exact ⟨k1.c, l1.c, k2.c, l2.c⟩) (fun hHeld => ?_)
      rw [hWd] at hHeld ⊢
      refine wpF_t (i := 0) (oi := { dst := some 17, op := Go.Op.move (Go.Operand.tmp 0), type := 31, pos := "law.go:47", after := #[], guard := none }) (v := ?_) rfl (by kernel_rfl) (fun _ _ _ h => h) (Or.inl ⟨by rfl, ?_⟩) hHeld ?_; rotate_left
      · intro w_ hSw_; (try dsimp only at hSw_); go_simp; (try with_reducible rfl)
      try go_frame
      refine wpF_t (i := 1) (oi := { dst := some 18, op := Go.Op.move (Go.Operand.tmp 5), type := 3, pos := "law.go:47", after := #[], guard := none }) (v := ?_) rfl (by kernel_rfl) (fun _ _ _ h => h) (Or.inl ⟨by rfl, ?_⟩) hHeld ?_; rotate_left
      · intro w_ hSw_; (try dsimp only at hSw_); go_simp; (try with_reducible rfl)
      try go_frame
      refine wpF_t (i := 2) (oi := { dst := some 19, op := Go.Op.indexAddr 31 (Go.Operand.tmp 17) (Go.Operand.tmp 18), type := 0, pos := "law.go:47", after := #[{ on := 0, ground := Go.Ground.data }, { on := 1, ground := Go.Ground.data }], guard := none }) (v := ?_) rfl (by kernel_rfl) (fun _ _ _ h => h) (Or.inl ⟨by rfl, ?_⟩) hHeld ?_; rotate_left
      · intro w_ hSw_; (try dsimp only at hSw_); go_simp; (try with_reducible rfl)
      try go_frame
      refine wpF_t (i := 3) (oi := { dst := some 20, op := Go.Op.load 74 (Go.Operand.tmp 19), type := 74, pos := "law.go:47", after := #[{ on := 2, ground := Go.Ground.data }], guard := none }) (v := ?_) rfl (by kernel_rfl) (fun _ _ _ h => h) (Or.inl ⟨by rfl, ?_⟩) hHeld ?_; rotate_left
      · intro w_ hSw_; (try dsimp only at hSw_); go_simp; (try with_reducible rfl)
      try go_frame
      refine wpF_t (i := 4) (oi := { dst := some 21, op := Go.Op.move (Go.Operand.tmp 1), type := 31, pos := "law.go:47", after := #[], guard := none }) (v := ?_) rfl (by kernel_rfl) (fun _ _ _ h => h) (Or.inl ⟨by rfl, ?_⟩) hHeld ?_; rotate_left
      · intro w_ hSw_; (try dsimp only at hSw_); go_simp; (try with_reducible rfl)
      try go_frame
      refine wpF_t (i := 5) (oi := { dst := some 22, op := Go.Op.move (Go.Operand.tmp 5), type := 3, pos := "law.go:47", after := #[], guard := none }) (v := ?_) rfl (by kernel_rfl) (fun _ _ _ h => h) (Or.inl ⟨by rfl, ?_⟩) hHeld ?_; rotate_left
      · intro w_ hSw_; (try dsimp only at hSw_); go_simp; (try with_reducible rfl)
      try go_frame
      refine wpF_t (i := 6) (oi := { dst := some 23, op := Go.Op.indexAddr 31 (Go.Operand.tmp 21) (Go.Operand.tmp 22), type := 0, pos := "law.go:47", after := #[{ on := 4, ground := Go.Ground.data }, { on := 5, ground := Go.Ground.data }], guard := none }) (v := ?_) rfl (by kernel_rfl) (fun _ _ _ h => h) (Or.inl ⟨by rfl, ?_⟩) hHeld ?_; rotate_left
      · intro w_ hSw_; (try dsimp only at hSw_); go_simp; (try with_reducible rfl)
      try go_frame
      refine wpF_t (i := 7) (oi := { dst := some 24, op := Go.Op.load 74 (Go.Operand.tmp 23), type := 74, pos := "law.go:47", after := #[{ on := 6, ground := Go.Ground.data }], guard := none }) (v := ?_) rfl (by kernel_rfl) (fun _ _ _ h => h) (Or.inl ⟨by rfl, ?_⟩) hHeld ?_; rotate_left
      · intro w_ hSw_; (try dsimp only at hSw_); go_simp; (try with_reducible rfl)
      try go_frame
      refine wpF_t (i := 8) (oi := { dst := some 25, op := Go.Op.binOp Go.BinOp.neq 74 (Go.Operand.tmp 20) (Go.Operand.tmp 24) 74, type := 4, pos := "law.go:47", after := #[{ on := 3, ground := Go.Ground.data }, { on := 7, ground := Go.Ground.data }], guard := none }) (v := ?_) rfl (by kernel_rfl) (fun _ _ _ h => h) (Or.inl ⟨by rfl, ?_⟩) hHeld ?_; rotate_left
      · intro w_ hSw_; (try dsimp only at hSw_); go_simp; (try with_reducible rfl)
      try go_frame
      refine wpAnyF_done (by kernel_rfl) ?_ _
      clear hHeld
      go_wp2
      go_roundg (a.length - (i + 1))
      case measure => omega
      case rel => exact ⟨i + 1, rfl, by go_num, by omega, HB⟩
    · have hi1 : ¬ (i : Int) < (a.length : Int) := by omega
      go_wp2
      go_ret
      exact ⟨rfl, HB⟩
end Go.Proofs.YtiaeeclmlchpoaaGreatDoor

set_option linter.unusedVariables false
set_option linter.unusedSimpArgs false
namespace Go.Proofs.YtiaeeclmlchpoaaGreatDoor
open Go.RowKit

abbrev opbb6fcaf2 : Oper := { dst := some 92, op := Go.Op.load 37 (Go.Operand.tmp 13), type := 37, pos := "law.go:113", after := #[], guard := none }
abbrev op1367506b : Oper := { dst := some 93, op := Go.Op.move (Go.Operand.tmp 2), type := 3, pos := "law.go:113", after := #[], guard := none }
abbrev op6f8df99a : Oper := { dst := some 97, op := Go.Op.unOp Go.UnOp.not 4 (Go.Operand.tmp 96), type := 4, pos := "law.go:113", after := #[{ on := 4, ground := Go.Ground.data }], guard := none }
attribute [local go_sem] opbb6fcaf2 op1367506b op6f8df99a
theorem withinS_yes (a : Int) (w : World) (h0 : 0 ≤ a) (h1 : a ≤ 20000) : Calls Tryz.prog 6 #[.int .i64 a] w fun e w' => e = .returned (.bool true) ∧ Below w.heap.size w w' := by
  have hB := Below.refl w.heap.size w
  go_enter Tryz.func6, Tryz.ntmps6
  go_wp2
  go_ret
  exact ⟨rfl, hB⟩
theorem withinS_no (a : Int) (w : World) (h : a < 0 ∨ 20000 < a) : Calls Tryz.prog 6 #[.int .i64 a] w fun e w' => e = .returned (.bool false) ∧ Below w.heap.size w w' := by
  have hB := Below.refl w.heap.size w
  by_cases h0 : 0 ≤ a
  · have h1 : ¬ a ≤ 20000 := by omega
    go_enter Tryz.func6, Tryz.ntmps6
    go_wp2
    go_ret
    exact ⟨rfl, hB⟩
  · clear h
    go_enter Tryz.func6, Tryz.ntmps6
    go_wp2
    go_ret
    exact ⟨rfl, hB⟩
theorem littleS_c (a b : Nat) (w : World) (h0 : a ≤ 20000) (h1 : b ≤ 20000) : Calls Tryz.prog 7 #[.int .i64 a, .int .i64 b] w fun e w' => e = .returned (.bool (decide (a * (b + 1) ≤ 100000))) ∧ Below w.heap.size w w' := by
  have hB := Below.refl w.heap.size w
  have hp : a * (b + 1) ≤ 20000 * 20001 := Nat.mul_le_mul h0 (by omega)
  have e1 : ((a : Int) * ((b : Int) + 1)) = ((a * (b + 1) : Nat) : Int) := by rw [Int.natCast_mul]; rfl
  have hb : (b : Int) ≤ 20000 := by omega
  have hb0 : (0 : Int) ≤ (b : Int) := by omega
  obtain ⟨p, hp2⟩ : ∃ p, a * (b + 1) = p := ⟨_, rfl⟩
  rw [hp2] at e1 hp ⊢
  clear hp2
  by_cases h : (p : Int) ≤ 100000
  · have HD : Hid (decide (p ≤ 100000) = true) := decide_eq_true (by omega)
    have h2 : (p : Int) ≤ 400020000 := by omega
    have h3 : (0 : Int) ≤ (p : Int) := by omega
    have hw : IntKind.i64.wrap (p : Int) = p := by rw [IntKind.wrap_i64]; omega
    go_enter Tryz.func7, Tryz.ntmps7
    go_wp2
    go_ret
    exact ⟨by rw [HD.out] <;> rfl, hB⟩
  · have HD : Hid (decide (p ≤ 100000) = false) := decide_eq_false (by omega)
    have h2 : (p : Int) ≤ 400020000 := by omega
    have h3 : (0 : Int) ≤ (p : Int) := by omega
    have hw : IntKind.i64.wrap (p : Int) = p := by rw [IntKind.wrap_i64]; omega
    go_enter Tryz.func7, Tryz.ntmps7
    go_wp2
    go_ret
    exact ⟨by rw [HD.out] <;> rfl, hB⟩
set_option maxRecDepth 100000 in
set_option maxHeartbeats 8000000 in
theorem FS_bad (M : Mp) (s : ByteArray) (count most : Int) (v : Value) (w : World) (hM : IsM w v M) (hr : Rch M) (ht : Tb w) (hs : s.size ≤ 9223372036854775807) (hbad : okB M = false ∨ vldL (codes s) = false) : Calls Tryz.prog 3 #[v, .string s, .int .i64 count, .int .i64 most] w fun e w' => e = .returned (.bool true) ∧ Below w.heap.size w w' := by
  obtain ⟨md, A, n, c, A', n', c', rfl, HM⟩ := hM.form
  have V3 := VM.new w 24 HM.out
  have HB := below_alloc (Below.refl w.heap.size w) (Obj.cells #[Value.int .i64 md, Value.slice A n c, Value.slice A' n' c'] 24)
  have HT := Lib.hid ht
  have HR := Lib.hid hr
  have HBAD := Lib.hid hbad
  clear hr ht hM
  by_cases hok : okB M = true
  · have HOK := Lib.hid hok
    have HV : Hid (vldL (codes s) = false) := hbad.resolve_left (by rw [hok]; simp)
    clear hok hbad
    go_enter Tryz.func3, Tryz.ntmps3
    have m0 := V3.c0; have m1 := V3.c1; have m2 := V3.c2
    go_wp2_with fail
    (with_reducible refine (MValid_c M _ _ V3.im.out).mono ?_)
    rintro e w2 ⟨he, hb⟩
    replace HB := below_step HB hb
    replace V3 := V3.keep hb
    clear hb
    obtain rfl : e = .returned (.bool true) := by rw [he, HOK.out] <;> rfl
    clear he
    clear m0 m1 m2
    go_wp2_with fail
    (with_reducible refine (Valid_c s _ hs).mono ?_)
    rintro e w9 ⟨rfl, rfl⟩
    rw [HV.out]
    have m0 := V3.c0; have m1 := V3.c1; have m2 := V3.c2
    go_wp2_with fail
    (with_reducible refine (Twin_c M _ _ V3.im.out HR.out).mono ?_)
    rintro e w4 ⟨v, rfl, hM4, hb⟩
    obtain ⟨md4, A4, n4, c4, A4', n4', c4', rfl, HM4⟩ := hM4.form
    replace HB := below_step HB hb
    replace V3 := V3.keep hb
    clear hb hM4 m0 m1 m2
    have V7 := VM.new w4 24 HM4.out
    have hba := below_alloc (Below.refl w4.heap.size w4) (Obj.cells #[Value.int .i64 md4, Value.slice A4 n4 c4, Value.slice A4' n4' c4'] 24)
    replace V3 := V3.keep hba
    replace HB := below_step HB hba
    go_upto_region 5 with fail
    generalize hb7 : w4.heap.size = b7 at V7 ⊢
    generalize hW5 : w4.alloc (Obj.cells #[Value.int .i64 md4, Value.slice A4 n4 c4, Value.slice A4' n4' c4'] 24) = W5 at *
    clear hW5 hba HM4 hb7
    have m0 := V3.c0; have m1 := V3.c1; have m2 := V3.c2
    go_wp2_with fail
    (with_reducible refine (Srv_bad M s count most _ _ V3.im.out hs HBAD.out).mono ?_)
    rintro e w6 ⟨rfl, hb⟩
    replace V3 := V3.keep hb; replace V7 := V7.keep hb
    replace HB := below_step HB hb
    clear hb m0 m1 m2
    have m0 := V3.c0; have m1 := V3.c1; have m2 := V3.c2
    have k0 := V7.c0; have k1 := V7.c1; have k2 := V7.c2
    go_wp2_with fail
    (with_reducible refine (Same_c M M _ _ _ V3.im.out V7.im.out).mono ?_)
    rintro e w7 ⟨rfl, hb⟩
    rw [sameB_self]
    replace V3 := V3.keep hb; replace V7 := V7.keep hb
    replace HB := below_step HB hb
    clear hb m0 m1 m2 k0 k1 k2
    have m0 := V3.c0; have m1 := V3.c1; have m2 := V3.c2
    go_wp2_with fail
    (with_reducible refine (MValid_c M _ _ V3.im.out).mono ?_)
    rintro e w8 ⟨he, hb⟩
    replace HB := below_step HB hb
    replace V3 := V3.keep hb
    clear hb
    obtain rfl : e = .returned (.bool true) := by rw [he, HOK.out] <;> rfl
    clear he
    clear m0 m1 m2
    go_wp2_with fail
    (with_reducible refine (Valid_c s _ hs).mono ?_)
    rintro e w9 ⟨rfl, rfl⟩
    rw [HV.out]
    go_wp2_with fail
    (with_reducible refine (awake5_c _ (HT.out.below HB)).mono ?_)
    rintro e w20 ⟨he, hb⟩
    replace HB := below_step HB hb
    clear hb
    subst he
    go_wp2
    go_ret
    exact ⟨rfl, HB⟩
  · have HOK : Hid (okB M = false) := by show _ = _; revert hok; cases okB M <;> simp
    clear hok hbad
    go_enter Tryz.func3, Tryz.ntmps3
    have m0 := V3.c0; have m1 := V3.c1; have m2 := V3.c2
    go_wp2_with fail
    (with_reducible refine (MValid_c M _ _ V3.im.out).mono ?_)
    rintro e w2 ⟨he, hb⟩
    replace HB := below_step HB hb
    replace V3 := V3.keep hb
    clear hb
    obtain rfl : e = .returned (.bool false) := by rw [he, HOK.out] <;> rfl
    clear he
    clear m0 m1 m2
    have m0 := V3.c0; have m1 := V3.c1; have m2 := V3.c2
    go_wp2_with fail
    (with_reducible refine (Twin_c M _ _ V3.im.out HR.out).mono ?_)
    rintro e w4 ⟨v, rfl, hM4, hb⟩
    obtain ⟨md4, A4, n4, c4, A4', n4', c4', rfl, HM4⟩ := hM4.form
    replace HB := below_step HB hb
    replace V3 := V3.keep hb
    clear hb hM4 m0 m1 m2
    have V7 := VM.new w4 24 HM4.out
    have hba := below_alloc (Below.refl w4.heap.size w4) (Obj.cells #[Value.int .i64 md4, Value.slice A4 n4 c4, Value.slice A4' n4' c4'] 24)
    replace V3 := V3.keep hba
    replace HB := below_step HB hba
    go_upto_region 5 with fail
    generalize hb7 : w4.heap.size = b7 at V7 ⊢
    generalize hW5 : w4.alloc (Obj.cells #[Value.int .i64 md4, Value.slice A4 n4 c4, Value.slice A4' n4' c4'] 24) = W5 at *
    clear hW5 hba HM4 hb7
    have m0 := V3.c0; have m1 := V3.c1; have m2 := V3.c2
    go_wp2_with fail
    (with_reducible refine (Srv_bad M s count most _ _ V3.im.out hs HBAD.out).mono ?_)
    rintro e w6 ⟨rfl, hb⟩
    replace V3 := V3.keep hb; replace V7 := V7.keep hb
    replace HB := below_step HB hb
    clear hb m0 m1 m2
    have m0 := V3.c0; have m1 := V3.c1; have m2 := V3.c2
    have k0 := V7.c0; have k1 := V7.c1; have k2 := V7.c2
    go_wp2_with fail
    (with_reducible refine (Same_c M M _ _ _ V3.im.out V7.im.out).mono ?_)
    rintro e w7 ⟨rfl, hb⟩
    rw [sameB_self]
    replace V3 := V3.keep hb; replace V7 := V7.keep hb
    replace HB := below_step HB hb
    clear hb m0 m1 m2 k0 k1 k2
    have m0 := V3.c0; have m1 := V3.c1; have m2 := V3.c2
    go_wp2_with fail
    (with_reducible refine (MValid_c M _ _ V3.im.out).mono ?_)
    rintro e w8 ⟨he, hb⟩
    replace HB := below_step HB hb
    replace V3 := V3.keep hb
    clear hb
    obtain rfl : e = .returned (.bool false) := by rw [he, HOK.out] <;> rfl
    clear he
    clear m0 m1 m2
    go_wp2_with fail
    (with_reducible refine (awake5_c _ (HT.out.below HB)).mono ?_)
    rintro e w20 ⟨he, hb⟩
    replace HB := below_step HB hb
    clear hb
    subst he
    go_wp2
    go_ret
    exact ⟨rfl, HB⟩
set_option maxRecDepth 100000 in
set_option maxHeartbeats 8000000 in
theorem FS_arg (M : Mp) (z count most : Int) (v : Value) (w : World) (hM : IsM w v M) (hr : Rch M) (ht : Tb w) (hok : okM M) (hz : dlN z.natAbs ≤ 2000) (hbad : count < 0 ∨ 20000 < count ∨ most < 0 ∨ 20000 < most) : Calls Tryz.prog 3 #[v, .string (tS z), .int .i64 count, .int .i64 most] w fun e w' => e = .returned (.bool true) ∧ Below w.heap.size w w' := by
  obtain ⟨md, A, n, c, A', n', c', rfl, HM⟩ := hM.form
  have V3 := VM.new w 24 HM.out
  have HB := below_alloc (Below.refl w.heap.size w) (Obj.cells #[Value.int .i64 md, Value.slice A n c, Value.slice A' n' c'] 24)
  have HT := Lib.hid ht
  have HOK : Hid (okB M = true) := okB_iff.2 hok
  have HOKM := Lib.hid hok
  have HR := Lib.hid hr
  have HBAD := Lib.hid hbad
  have HV := Lib.hid (vld_tS hz)
  have HZ := Lib.hid hz
  have hs := tS_sz hz
  clear hr ht hM hok hz
  by_cases h1 : count < 0
  · clear hbad
    go_enter Tryz.func3, Tryz.ntmps3
    have m0 := V3.c0; have m1 := V3.c1; have m2 := V3.c2
    go_wp2_with fail
    (with_reducible refine (MValid_c M _ _ V3.im.out).mono ?_)
    rintro e w2 ⟨he, hb⟩
    replace HB := below_step HB hb
    replace V3 := V3.keep hb
    clear hb
    obtain rfl : e = .returned (.bool true) := by rw [he, HOK.out] <;> rfl
    clear he
    clear m0 m1 m2
    go_wp2_with fail
    (with_reducible refine (Valid_c (tS z) _ hs).mono ?_)
    rintro e w9 ⟨rfl, rfl⟩
    rw [HV.out]
    have m0 := V3.c0; have m1 := V3.c1; have m2 := V3.c2
    go_wp2_with fail
    (with_reducible refine (Twin_c M _ _ V3.im.out HR.out).mono ?_)
    rintro e w4 ⟨v, rfl, hM4, hb⟩
    obtain ⟨md4, A4, n4, c4, A4', n4', c4', rfl, HM4⟩ := hM4.form
    replace HB := below_step HB hb
    replace V3 := V3.keep hb
    clear hb hM4 m0 m1 m2
    have V7 := VM.new w4 24 HM4.out
    have hba := below_alloc (Below.refl w4.heap.size w4) (Obj.cells #[Value.int .i64 md4, Value.slice A4 n4 c4, Value.slice A4' n4' c4'] 24)
    replace V3 := V3.keep hba
    replace HB := below_step HB hba
    go_upto_region 5 with fail
    generalize hb7 : w4.heap.size = b7 at V7 ⊢
    generalize hW5 : w4.alloc (Obj.cells #[Value.int .i64 md4, Value.slice A4 n4 c4, Value.slice A4' n4' c4'] 24) = W5 at *
    clear hW5 hba HM4 hb7
    have m0 := V3.c0; have m1 := V3.c1; have m2 := V3.c2
    go_wp2_with fail
    (with_reducible refine (Srv_arg M z count most _ _ V3.im.out HOKM.out HZ.out HBAD.out).mono ?_)
    rintro e w6 ⟨rfl, hb⟩
    replace V3 := V3.keep hb; replace V7 := V7.keep hb
    replace HB := below_step HB hb
    clear hb m0 m1 m2
    have m0 := V3.c0; have m1 := V3.c1; have m2 := V3.c2
    have k0 := V7.c0; have k1 := V7.c1; have k2 := V7.c2
    go_wp2_with fail
    (with_reducible refine (Same_c M M _ _ _ V3.im.out V7.im.out).mono ?_)
    rintro e w7 ⟨rfl, hb⟩
    rw [sameB_self]
    replace V3 := V3.keep hb; replace V7 := V7.keep hb
    replace HB := below_step HB hb
    clear hb m0 m1 m2 k0 k1 k2
    have m0 := V3.c0; have m1 := V3.c1; have m2 := V3.c2
    go_wp2_with fail
    (with_reducible refine (MValid_c M _ _ V3.im.out).mono ?_)
    rintro e w8 ⟨he, hb⟩
    replace HB := below_step HB hb
    replace V3 := V3.keep hb
    clear hb
    obtain rfl : e = .returned (.bool true) := by rw [he, HOK.out] <;> rfl
    clear he
    clear m0 m1 m2
    go_wp2_with fail
    (with_reducible refine (Valid_c (tS z) _ hs).mono ?_)
    rintro e w9 ⟨rfl, rfl⟩
    rw [HV.out]
    go_wp2_with fail
    (with_reducible refine (awake5_c _ (HT.out.below HB)).mono ?_)
    rintro e w20 ⟨he, hb⟩
    replace HB := below_step HB hb
    clear hb
    subst he
    go_wp2
    go_ret
    exact ⟨rfl, HB⟩
  · by_cases h2 : 20000 < count
    · clear hbad
      go_enter Tryz.func3, Tryz.ntmps3
      have m0 := V3.c0; have m1 := V3.c1; have m2 := V3.c2
      go_wp2_with fail
      (with_reducible refine (MValid_c M _ _ V3.im.out).mono ?_)
      rintro e w2 ⟨he, hb⟩
      replace HB := below_step HB hb
      replace V3 := V3.keep hb
      clear hb
      obtain rfl : e = .returned (.bool true) := by rw [he, HOK.out] <;> rfl
      clear he
      clear m0 m1 m2
      go_wp2_with fail
      (with_reducible refine (Valid_c (tS z) _ hs).mono ?_)
      rintro e w9 ⟨rfl, rfl⟩
      rw [HV.out]
      have m0 := V3.c0; have m1 := V3.c1; have m2 := V3.c2
      go_wp2_with fail
      (with_reducible refine (Twin_c M _ _ V3.im.out HR.out).mono ?_)
      rintro e w4 ⟨v, rfl, hM4, hb⟩
      obtain ⟨md4, A4, n4, c4, A4', n4', c4', rfl, HM4⟩ := hM4.form
      replace HB := below_step HB hb
      replace V3 := V3.keep hb
      clear hb hM4 m0 m1 m2
      have V7 := VM.new w4 24 HM4.out
      have hba := below_alloc (Below.refl w4.heap.size w4) (Obj.cells #[Value.int .i64 md4, Value.slice A4 n4 c4, Value.slice A4' n4' c4'] 24)
      replace V3 := V3.keep hba
      replace HB := below_step HB hba
      go_upto_region 5 with fail
      generalize hb7 : w4.heap.size = b7 at V7 ⊢
      generalize hW5 : w4.alloc (Obj.cells #[Value.int .i64 md4, Value.slice A4 n4 c4, Value.slice A4' n4' c4'] 24) = W5 at *
      clear hW5 hba HM4 hb7
      have m0 := V3.c0; have m1 := V3.c1; have m2 := V3.c2
      go_wp2_with fail
      (with_reducible refine (Srv_arg M z count most _ _ V3.im.out HOKM.out HZ.out HBAD.out).mono ?_)
      rintro e w6 ⟨rfl, hb⟩
      replace V3 := V3.keep hb; replace V7 := V7.keep hb
      replace HB := below_step HB hb
      clear hb m0 m1 m2
      have m0 := V3.c0; have m1 := V3.c1; have m2 := V3.c2
      have k0 := V7.c0; have k1 := V7.c1; have k2 := V7.c2
      go_wp2_with fail
      (with_reducible refine (Same_c M M _ _ _ V3.im.out V7.im.out).mono ?_)
      rintro e w7 ⟨rfl, hb⟩
      rw [sameB_self]
      replace V3 := V3.keep hb; replace V7 := V7.keep hb
      replace HB := below_step HB hb
      clear hb m0 m1 m2 k0 k1 k2
      have m0 := V3.c0; have m1 := V3.c1; have m2 := V3.c2
      go_wp2_with fail
      (with_reducible refine (MValid_c M _ _ V3.im.out).mono ?_)
      rintro e w8 ⟨he, hb⟩
      replace HB := below_step HB hb
      replace V3 := V3.keep hb
      clear hb
      obtain rfl : e = .returned (.bool true) := by rw [he, HOK.out] <;> rfl
      clear he
      clear m0 m1 m2
      go_wp2_with fail
      (with_reducible refine (Valid_c (tS z) _ hs).mono ?_)
      rintro e w9 ⟨rfl, rfl⟩
      rw [HV.out]
      go_wp2_with fail
      (with_reducible refine (awake5_c _ (HT.out.below HB)).mono ?_)
      rintro e w20 ⟨he, hb⟩
      replace HB := below_step HB hb
      clear hb
      subst he
      go_wp2
      go_ret
      exact ⟨rfl, HB⟩
    · have HW : Hid (most < 0 ∨ 20000 < most) := hbad.resolve_left h1 |>.resolve_left h2
      clear hbad
      go_enter Tryz.func3, Tryz.ntmps3
      have m0 := V3.c0; have m1 := V3.c1; have m2 := V3.c2
      go_wp2_with fail
      (with_reducible refine (MValid_c M _ _ V3.im.out).mono ?_)
      rintro e w2 ⟨he, hb⟩
      replace HB := below_step HB hb
      replace V3 := V3.keep hb
      clear hb
      obtain rfl : e = .returned (.bool true) := by rw [he, HOK.out] <;> rfl
      clear he
      clear m0 m1 m2
      go_wp2_with fail
      (with_reducible refine (Valid_c (tS z) _ hs).mono ?_)
      rintro e w9 ⟨rfl, rfl⟩
      rw [HV.out]
      go_wp2_with fail
      (with_reducible refine (withinS_no most _ HW.out).mono ?_)
      rintro e w3 ⟨he, hb⟩
      replace HB := below_step HB hb
      replace V3 := V3.keep hb
      clear hb
      subst he
      have m0 := V3.c0; have m1 := V3.c1; have m2 := V3.c2
      go_wp2_with fail
      (with_reducible refine (Twin_c M _ _ V3.im.out HR.out).mono ?_)
      rintro e w4 ⟨v, rfl, hM4, hb⟩
      obtain ⟨md4, A4, n4, c4, A4', n4', c4', rfl, HM4⟩ := hM4.form
      replace HB := below_step HB hb
      replace V3 := V3.keep hb
      clear hb hM4 m0 m1 m2
      have V7 := VM.new w4 24 HM4.out
      have hba := below_alloc (Below.refl w4.heap.size w4) (Obj.cells #[Value.int .i64 md4, Value.slice A4 n4 c4, Value.slice A4' n4' c4'] 24)
      replace V3 := V3.keep hba
      replace HB := below_step HB hba
      go_upto_region 5 with fail
      generalize hb7 : w4.heap.size = b7 at V7 ⊢
      generalize hW5 : w4.alloc (Obj.cells #[Value.int .i64 md4, Value.slice A4 n4 c4, Value.slice A4' n4' c4'] 24) = W5 at *
      clear hW5 hba HM4 hb7
      have m0 := V3.c0; have m1 := V3.c1; have m2 := V3.c2
      go_wp2_with fail
      (with_reducible refine (Srv_arg M z count most _ _ V3.im.out HOKM.out HZ.out HBAD.out).mono ?_)
      rintro e w6 ⟨rfl, hb⟩
      replace V3 := V3.keep hb; replace V7 := V7.keep hb
      replace HB := below_step HB hb
      clear hb m0 m1 m2
      have m0 := V3.c0; have m1 := V3.c1; have m2 := V3.c2
      have k0 := V7.c0; have k1 := V7.c1; have k2 := V7.c2
      go_wp2_with fail
      (with_reducible refine (Same_c M M _ _ _ V3.im.out V7.im.out).mono ?_)
      rintro e w7 ⟨rfl, hb⟩
      rw [sameB_self]
      replace V3 := V3.keep hb; replace V7 := V7.keep hb
      replace HB := below_step HB hb
      clear hb m0 m1 m2 k0 k1 k2
      have m0 := V3.c0; have m1 := V3.c1; have m2 := V3.c2
      go_wp2_with fail
      (with_reducible refine (MValid_c M _ _ V3.im.out).mono ?_)
      rintro e w8 ⟨he, hb⟩
      replace HB := below_step HB hb
      replace V3 := V3.keep hb
      clear hb
      obtain rfl : e = .returned (.bool true) := by rw [he, HOK.out] <;> rfl
      clear he
      clear m0 m1 m2
      go_wp2_with fail
      (with_reducible refine (Valid_c (tS z) _ hs).mono ?_)
      rintro e w9 ⟨rfl, rfl⟩
      rw [HV.out]
      go_wp2_with fail
      (with_reducible refine (awake5_c _ (HT.out.below HB)).mono ?_)
      rintro e w20 ⟨he, hb⟩
      replace HB := below_step HB hb
      clear hb
      subst he
      go_wp2
      go_ret
      exact ⟨rfl, HB⟩
set_option maxRecDepth 100000 in
set_option maxHeartbeats 8000000 in
theorem FS_big (M : Mp) (z : Int) (count most : Nat) (v : Value) (w : World) (hM : IsM w v M) (hr : Rch M) (ht : Tb w) (hok : okM M) (hz : dlN z.natAbs ≤ 2000) (hco : count ≤ 20000) (hmo : most ≤ 20000) (hl : ¬ count * (most + 1) ≤ 100000) : Calls Tryz.prog 3 #[v, .string (tS z), .int .i64 count, .int .i64 most] w fun e w' => e = .returned (.bool true) ∧ Below w.heap.size w w' := by
  obtain ⟨md, A, n, c, A', n', c', rfl, HM⟩ := hM.form
  have V3 := VM.new w 24 HM.out
  have HB := below_alloc (Below.refl w.heap.size w) (Obj.cells #[Value.int .i64 md, Value.slice A n c, Value.slice A' n' c'] 24)
  have HT := Lib.hid ht
  have HOK : Hid (okB M = true) := okB_iff.2 hok
  have HOKM := Lib.hid hok
  have HV := Lib.hid (vld_tS hz)
  have hs := tS_sz hz
  have HZ := Lib.hid hz
  have hm0 : (0 : Int) ≤ (most : Int) := by omega
  have hm1 : (most : Int) ≤ 20000 := by omega
  have hc0 : (0 : Int) ≤ (count : Int) := by omega
  have hc1 : (count : Int) ≤ 20000 := by omega
  have hd1 : decide ((count : Int) < 0) = false := decide_eq_false (by omega)
  have hd2 : decide ((20000 : Int) < (count : Int)) = false := decide_eq_false (by omega)
  have HLI : Hid (decide (count * (most + 1) ≤ 100000) = false) := decide_eq_false hl
  clear hr ht hM hok hz hl
  go_enter Tryz.func3, Tryz.ntmps3
  have m0 := V3.c0; have m1 := V3.c1; have m2 := V3.c2
  go_wp2_with fail
  (with_reducible refine (MValid_c M _ _ V3.im.out).mono ?_)
  rintro e w2 ⟨he, hb⟩
  replace HB := below_step HB hb
  replace V3 := V3.keep hb
  clear hb
  obtain rfl : e = .returned (.bool true) := by rw [he, HOK.out] <;> rfl
  clear he
  clear m0 m1 m2
  go_wp2_with fail
  (with_reducible refine (Valid_c (tS z) _ hs).mono ?_)
  rintro e w9 ⟨rfl, rfl⟩
  rw [HV.out]
  go_wp2_with fail
  (with_reducible refine (withinS_yes (most : Int) _ hm0 hm1).mono ?_)
  rintro e w3 ⟨he, hb⟩
  replace HB := below_step HB hb
  replace V3 := V3.keep hb
  clear hb
  subst he
  go_wp2_with fail
  (with_reducible refine (littleS_c count most _ hco hmo).mono ?_)
  rintro e w3b ⟨he, hb⟩
  replace HB := below_step HB hb
  replace V3 := V3.keep hb
  clear hb
  obtain rfl : e = .returned (.bool false) := by rw [he, HLI.out] <;> rfl
  clear he
  go_wp2_with fail
  (with_reducible refine (awake5_c _ (HT.out.below HB)).mono ?_)
  rintro e w20 ⟨he, hb⟩
  replace HB := below_step HB hb
  clear hb
  subst he
  go_wp2
  go_ret
  exact ⟨rfl, HB⟩
set_option maxRecDepth 100000 in
set_option maxHeartbeats 8000000 in
theorem FS_size (M : Mp) (z : Int) (count most : Nat) (v : Value) (w : World) (hM : IsM w v M) (hr : Rch M) (ht : Tb w) (hok : okM M) (hz : dlN z.natAbs ≤ 2000) (hco : count ≤ 20000) (hmo : most ≤ 20000) (hl : count * (most + 1) ≤ 100000) (hf : decide (dl (z + (count : Int)) ≤ 2000) = false) : Calls Tryz.prog 3 #[v, .string (tS z), .int .i64 count, .int .i64 most] w fun e w' => e = .returned (.bool true) ∧ Below w.heap.size w w' := by
  obtain ⟨md, A, n, c, A', n', c', rfl, HM⟩ := hM.form
  have V3 := VM.new w 24 HM.out
  have HB := below_alloc (Below.refl w.heap.size w) (Obj.cells #[Value.int .i64 md, Value.slice A n c, Value.slice A' n' c'] 24)
  have HT := Lib.hid ht
  have HOK : Hid (okB M = true) := okB_iff.2 hok
  have HOKM := Lib.hid hok
  have HV := Lib.hid (vld_tS hz)
  have hs := tS_sz hz
  have HZ := Lib.hid hz
  have hm0 : (0 : Int) ≤ (most : Int) := by omega
  have hm1 : (most : Int) ≤ 20000 := by omega
  have hc0 : (0 : Int) ≤ (count : Int) := by omega
  have hc1 : (count : Int) ≤ 20000 := by omega
  have hd1 : decide ((count : Int) < 0) = false := decide_eq_false (by omega)
  have hd2 : decide ((20000 : Int) < (count : Int)) = false := decide_eq_false (by omega)
  have HL4 : Hid ((dg B9 z).length ≤ 2000) := by have := len_dlN hz; show _ ≤ _; omega
  have hla : (dg B9 (count : Int)).length ≤ 2 := len_small (by omega) (by omega)
  have HLa : Hid ((dg B9 (count : Int)).length ≤ 1000000000000) := by show _ ≤ _; omega
  have HL8 : Hid ((dg B9 (z + (count : Int))).length ≤ 1000000000) := by
    have h1 := len_add B9two z (count : Int)
    have h2 := HL4.out
    show _ ≤ _
    omega
  clear hla
  have HLI : Hid (decide (count * (most + 1) ≤ 100000) = true) := decide_eq_true hl
  have HF1 := Lib.hid hf
  have HFB : Hid (2000 < dl (z + (count : Int))) := by have := of_decide_eq_false hf; show _ < _; omega
  have HR := Lib.hid hr
  clear hr ht hM hok hz hl hf
  go_enter Tryz.func3, Tryz.ntmps3
  have m0 := V3.c0; have m1 := V3.c1; have m2 := V3.c2
  go_wp2_with fail
  (with_reducible refine (MValid_c M _ _ V3.im.out).mono ?_)
  rintro e w2 ⟨he, hb⟩
  replace HB := below_step HB hb
  replace V3 := V3.keep hb
  clear hb
  obtain rfl : e = .returned (.bool true) := by rw [he, HOK.out] <;> rfl
  clear he
  clear m0 m1 m2
  go_wp2_with fail
  (with_reducible refine (Valid_c (tS z) _ hs).mono ?_)
  rintro e w9 ⟨rfl, rfl⟩
  rw [HV.out]
  go_wp2_with fail
  (with_reducible refine (withinS_yes (most : Int) _ hm0 hm1).mono ?_)
  rintro e w3 ⟨he, hb⟩
  replace HB := below_step HB hb
  replace V3 := V3.keep hb
  clear hb
  subst he
  go_wp2_with fail
  (with_reducible refine (littleS_c count most _ hco hmo).mono ?_)
  rintro e w3b ⟨he, hb⟩
  replace HB := below_step HB hb
  replace V3 := V3.keep hb
  clear hb
  obtain rfl : e = .returned (.bool true) := by rw [he, HLI.out] <;> rfl
  clear he
  have m0 := V3.c0; have m1 := V3.c1; have m2 := V3.c2
  go_wp2_with fail
  (with_reducible refine (Twin_c M _ _ V3.im.out HR.out).mono ?_)
  rintro e w4 ⟨v, rfl, hM4, hb⟩
  obtain ⟨md4, A4, n4, c4, A4', n4', c4', rfl, HM4⟩ := hM4.form
  replace HB := below_step HB hb
  replace V3 := V3.keep hb
  clear hb hM4 m0 m1 m2
  have V7 := VM.new w4 24 HM4.out
  have hba := below_alloc (Below.refl w4.heap.size w4) (Obj.cells #[Value.int .i64 md4, Value.slice A4 n4 c4, Value.slice A4' n4' c4'] 24)
  replace V3 := V3.keep hba
  replace HB := below_step HB hba
  go_upto_region 5 with fail
  generalize hb7 : w4.heap.size = b7 at V7 ⊢
  generalize hW5 : w4.alloc (Obj.cells #[Value.int .i64 md4, Value.slice A4 n4 c4, Value.slice A4' n4' c4'] 24) = W5 at *
  clear hW5 hba HM4 hb7
  have m0 := V3.c0; have m1 := V3.c1; have m2 := V3.c2
  go_wp2_with fail
  (with_reducible refine (Srv_size M z count most _ _ V3.im.out HOKM.out HZ.out hco hmo (HT.out.below HB) HFB.out).mono ?_)
  rintro e w6 ⟨rfl, hb⟩
  replace V3 := V3.keep hb; replace V7 := V7.keep hb
  replace HB := below_step HB hb
  clear hb m0 m1 m2
  have m0 := V3.c0; have m1 := V3.c1; have m2 := V3.c2
  have k0 := V7.c0; have k1 := V7.c1; have k2 := V7.c2
  go_wp2_with fail
  (with_reducible refine (Same_c M M _ _ _ V3.im.out V7.im.out).mono ?_)
  rintro e w7 ⟨rfl, hb⟩
  rw [sameB_self]
  replace V3 := V3.keep hb; replace V7 := V7.keep hb
  replace HB := below_step HB hb
  clear hb m0 m1 m2 k0 k1 k2
  have m0 := V3.c0; have m1 := V3.c1; have m2 := V3.c2
  go_wp2_with fail
  (with_reducible refine (MValid_c M _ _ V3.im.out).mono ?_)
  rintro e w8 ⟨he, hb⟩
  replace HB := below_step HB hb
  replace V3 := V3.keep hb
  clear hb
  obtain rfl : e = .returned (.bool true) := by rw [he, HOK.out] <;> rfl
  clear he
  clear m0 m1 m2
  go_wp2_with fail
  (with_reducible refine (Valid_c (tS z) _ hs).mono ?_)
  rintro e w9 ⟨rfl, rfl⟩
  rw [HV.out]
  go_wp2_with fail
  (with_reducible refine (Parse_c z _ (by have := HZ.out; omega)).mono ?_)
  rintro e w16 ⟨v, rfl, hv, hb⟩
  obtain ⟨n5, A5, m5, k5, rfl, H5⟩ := hv.form; clear hv
  replace V3 := V3.keep hb
  replace HB := below_step HB hb
  clear hb
  go_wp2_with fail
  have VA := VX.new w16 37 H5.out
  have hb := below_alloc (Below.refl w16.heap.size w16) (Obj.cells #[Value.bool n5, Value.slice A5 m5 k5] 37)
  replace V3 := V3.keep hb
  replace HB := below_step HB hb
  clear hb H5
  generalize hba : w16.heap.size = ba at *
  generalize hwa : w16.alloc (Obj.cells #[Value.bool n5, Value.slice A5 m5 k5] 37) = wa at *
  replace V3 := V3.drew; replace VA := VA.drew; replace HB := below_drew HB
  generalize hWd : wa.drew = wd at *
  clear hwa
  refine wp_region_F (fun w' => w'.cell? ⟨ba, 0, none⟩ = some (.bool n5) ∧ w'.cell? ⟨ba, 1, none⟩ = some (.slice A5 m5 k5)) [] (by kernel_rfl) (by rw [hWd]; exact ⟨VA.c0, VA.c1⟩) (fun hHeld => ?_)
  rw [hWd] at hHeld ⊢
  refine wpF_t (i := 0) (oi := opbb6fcaf2) (v := ?_) rfl (by kernel_rfl) (fun _ _ _ h => h) (Or.inl ⟨by rfl, ?_⟩) hHeld ?_; rotate_left
  · intro w_ hSw_; (try dsimp only at hSw_); go_simp; (try with_reducible rfl)
  try go_frame
  refine wpF_t (i := 1) (oi := op1367506b) (v := ?_) rfl (by kernel_rfl) (fun _ _ _ h => h) (Or.inl ⟨by rfl, ?_⟩) hHeld ?_; rotate_left
  · intro w_ hSw_; (try dsimp only at hSw_); go_simp; (try with_reducible rfl)
  try go_frame
  refine wpAnyF_one (i := 2) (by kernel_rfl) rfl (fun K hK => ?_)
  go_simp
  (go_at_call 15; (with_reducible refine (Of_c (count : Int) _ (by omega) (by omega)).mono ?_); rintro e w17 ⟨v, rfl, hv, hb⟩; obtain ⟨n7, A7, m7, k7, rfl, H7⟩ := hv.form; clear hv; replace V3 := V3.keep hb; replace VA := VA.keep hb; replace HB := below_step HB hb; clear hb)
  refine hK.out _ _ (by exact ⟨VA.c0, VA.c1⟩) (fun hHeld => ?_)
  clear hK K
  try go_frame
  refine wpAnyF_one (i := 3) (by kernel_rfl) rfl (fun K hK => ?_)
  go_simp
  (go_at_call 14; (with_reducible refine (Add_c z (count : Int) _ _ _ VA.iz.out H7.out (by have := HL4.out; omega) HLa.out).mono ?_); rintro e w18 ⟨v, rfl, hv, hb⟩; obtain ⟨n8, A8, m8, k8, rfl, H8⟩ := hv.form; clear hv; replace V3 := V3.keep hb; replace VA := VA.keep hb; replace HB := below_step HB hb; clear hb)
  refine hK.out _ _ (by exact ⟨VA.c0, VA.c1⟩) (fun hHeld => ?_)
  clear hK K
  try go_frame
  refine wpAnyF_one (i := 4) (by kernel_rfl) rfl (fun K hK => ?_)
  go_simp
  (go_at_call 13; (with_reducible refine (Fits_c (z + (count : Int)) _ _ H8.out (by have := HL8.out; omega)).mono ?_); rintro e w19 ⟨he, hb⟩; obtain rfl : e = .returned (.bool false) := (by rw [he, HF1.out] <;> rfl); clear he; replace V3 := V3.keep hb; replace VA := VA.keep hb; replace HB := below_step HB hb; clear hb)
  refine hK.out _ _ (by exact ⟨VA.c0, VA.c1⟩) (fun hHeld => ?_)
  clear hK K
  try go_frame
  refine wpF_t (i := 5) (oi := op6f8df99a) (v := ?_) rfl (by kernel_rfl) (fun _ _ _ h => h) (Or.inl ⟨by rfl, ?_⟩) hHeld ?_; rotate_left
  · intro w_ hSw_; (try dsimp only at hSw_); go_simp; (try with_reducible rfl)
  try go_frame
  refine wpAnyF_done (by kernel_rfl) ?_ _
  clear hHeld hWd
  go_wp2_with fail
  (with_reducible refine (awake5_c _ (HT.out.below HB)).mono ?_)
  rintro e w20 ⟨he, hb⟩
  replace HB := below_step HB hb
  clear hb
  subst he
  go_wp2
  go_ret
  exact ⟨rfl, HB⟩
set_option maxRecDepth 100000 in
set_option maxHeartbeats 8000000 in
theorem FS_ok (M : Mp) (z : Int) (count most : Nat) (v : Value) (w : World) (hM : IsM w v M) (hr : Rch M) (ht : Tb w) (hok : okM M) (hz : dlN z.natAbs ≤ 2000) (hco : count ≤ 20000) (hmo : most ≤ 20000) (hl : count * (most + 1) ≤ 100000) (hf : decide (dl (z + (count : Int)) ≤ 2000) = true) : Calls Tryz.prog 3 #[v, .string (tS z), .int .i64 count, .int .i64 most] w fun e w' => e = .returned (.bool true) ∧ Below w.heap.size w w' := by
  obtain ⟨md, A, n, c, A', n', c', rfl, HM⟩ := hM.form
  have V3 := VM.new w 24 HM.out
  have HB := below_alloc (Below.refl w.heap.size w) (Obj.cells #[Value.int .i64 md, Value.slice A n c, Value.slice A' n' c'] 24)
  have HT := Lib.hid ht
  have HOK : Hid (okB M = true) := okB_iff.2 hok
  have HOKM := Lib.hid hok
  have HV := Lib.hid (vld_tS hz)
  have hs := tS_sz hz
  have HZ := Lib.hid hz
  have hm0 : (0 : Int) ≤ (most : Int) := by omega
  have hm1 : (most : Int) ≤ 20000 := by omega
  have hc0 : (0 : Int) ≤ (count : Int) := by omega
  have hc1 : (count : Int) ≤ 20000 := by omega
  have hd1 : decide ((count : Int) < 0) = false := decide_eq_false (by omega)
  have hd2 : decide ((20000 : Int) < (count : Int)) = false := decide_eq_false (by omega)
  have HL4 : Hid ((dg B9 z).length ≤ 2000) := by have := len_dlN hz; show _ ≤ _; omega
  have hla : (dg B9 (count : Int)).length ≤ 2 := len_small (by omega) (by omega)
  have HLa : Hid ((dg B9 (count : Int)).length ≤ 1000000000000) := by show _ ≤ _; omega
  have HL8 : Hid ((dg B9 (z + (count : Int))).length ≤ 1000000000) := by
    have h1 := len_add B9two z (count : Int)
    have h2 := HL4.out
    show _ ≤ _
    omega
  clear hla
  have HLI : Hid (decide (count * (most + 1) ≤ 100000) = true) := decide_eq_true hl
  have HF1 := Lib.hid hf
  have HFB : Hid (¬ 2000 < dl (z + (count : Int))) := by have := of_decide_eq_true hf; show ¬ _; omega
  have HR := Lib.hid hr
  clear hr ht hM hok hz hl hf
  go_enter Tryz.func3, Tryz.ntmps3
  have m0 := V3.c0; have m1 := V3.c1; have m2 := V3.c2
  go_wp2_with fail
  (with_reducible refine (MValid_c M _ _ V3.im.out).mono ?_)
  rintro e w2 ⟨he, hb⟩
  replace HB := below_step HB hb
  replace V3 := V3.keep hb
  clear hb
  obtain rfl : e = .returned (.bool true) := by rw [he, HOK.out] <;> rfl
  clear he
  clear m0 m1 m2
  go_wp2_with fail
  (with_reducible refine (Valid_c (tS z) _ hs).mono ?_)
  rintro e w9 ⟨rfl, rfl⟩
  rw [HV.out]
  go_wp2_with fail
  (with_reducible refine (withinS_yes (most : Int) _ hm0 hm1).mono ?_)
  rintro e w3 ⟨he, hb⟩
  replace HB := below_step HB hb
  replace V3 := V3.keep hb
  clear hb
  subst he
  go_wp2_with fail
  (with_reducible refine (littleS_c count most _ hco hmo).mono ?_)
  rintro e w3b ⟨he, hb⟩
  replace HB := below_step HB hb
  replace V3 := V3.keep hb
  clear hb
  obtain rfl : e = .returned (.bool true) := by rw [he, HLI.out] <;> rfl
  clear he
  have m0 := V3.c0; have m1 := V3.c1; have m2 := V3.c2
  go_wp2_with fail
  (with_reducible refine (Twin_c M _ _ V3.im.out HR.out).mono ?_)
  rintro e w4 ⟨v, rfl, hM4, hb⟩
  obtain ⟨md4, A4, n4, c4, A4', n4', c4', rfl, HM4⟩ := hM4.form
  replace HB := below_step HB hb
  replace V3 := V3.keep hb
  clear hb hM4 m0 m1 m2
  have V7 := VM.new w4 24 HM4.out
  have hba := below_alloc (Below.refl w4.heap.size w4) (Obj.cells #[Value.int .i64 md4, Value.slice A4 n4 c4, Value.slice A4' n4' c4'] 24)
  replace V3 := V3.keep hba
  replace HB := below_step HB hba
  go_upto_region 5 with fail
  generalize hb7 : w4.heap.size = b7 at V7 ⊢
  generalize hW5 : w4.alloc (Obj.cells #[Value.int .i64 md4, Value.slice A4 n4 c4, Value.slice A4' n4' c4'] 24) = W5 at *
  clear hW5 hba HM4 hb7
  have m0 := V3.c0; have m1 := V3.c1; have m2 := V3.c2
  go_wp2_with fail
  (with_reducible refine (Srv_ok M z count most _ _ V3.im.out HOKM.out HZ.out hco hmo (HT.out.below HB) HFB.out).mono ?_)
  rintro e w6 ⟨L1, q1, A1, c1, rfl, hq1, hs1, HC1, hb⟩
  replace V3 := V3.keep hb; replace V7 := V7.keep hb
  replace HB := below_step HB hb
  clear hb m0 m1 m2
  have m0 := V3.c0; have m1 := V3.c1; have m2 := V3.c2
  have k0 := V7.c0; have k1 := V7.c1; have k2 := V7.c2
  go_wp2_with fail
  (with_reducible refine (Same_c M M _ _ _ V3.im.out V7.im.out).mono ?_)
  rintro e w7 ⟨rfl, hb⟩
  rw [sameB_self]
  replace V3 := V3.keep hb; replace V7 := V7.keep hb
  replace HC1 := Lib.hid (HC1.out.below hb); replace HB := below_step HB hb
  clear hb m0 m1 m2 k0 k1 k2
  have m0 := V3.c0; have m1 := V3.c1; have m2 := V3.c2
  go_wp2_with fail
  (with_reducible refine (MValid_c M _ _ V3.im.out).mono ?_)
  rintro e w8 ⟨he, hb⟩
  replace HC1 := Lib.hid (HC1.out.below hb); replace HB := below_step HB hb
  replace V3 := V3.keep hb
  clear hb
  obtain rfl : e = .returned (.bool true) := by rw [he, HOK.out] <;> rfl
  clear he
  clear m0 m1 m2
  go_wp2_with fail
  (with_reducible refine (Valid_c (tS z) _ hs).mono ?_)
  rintro e w9 ⟨rfl, rfl⟩
  rw [HV.out]
  go_wp2_with fail
  (with_reducible refine (Parse_c z _ (by have := HZ.out; omega)).mono ?_)
  rintro e w16 ⟨v, rfl, hv, hb⟩
  obtain ⟨n5, A5, m5, k5, rfl, H5⟩ := hv.form; clear hv
  replace V3 := V3.keep hb
  replace HC1 := Lib.hid (HC1.out.below hb); 
  replace HB := below_step HB hb
  clear hb
  go_wp2_with fail
  have VA := VX.new w16 37 H5.out
  have hb := below_alloc (Below.refl w16.heap.size w16) (Obj.cells #[Value.bool n5, Value.slice A5 m5 k5] 37)
  replace V3 := V3.keep hb
  replace HC1 := Lib.hid (HC1.out.below hb); 
  replace HB := below_step HB hb
  clear hb H5
  generalize hba : w16.heap.size = ba at *
  generalize hwa : w16.alloc (Obj.cells #[Value.bool n5, Value.slice A5 m5 k5] 37) = wa at *
  replace V3 := V3.drew; replace VA := VA.drew; replace HB := below_drew HB
  replace HC1 := Lib.hid (HC1.out.below (below_drew (Below.refl _ _))); 
  generalize hWd : wa.drew = wd at *
  clear hwa
  refine wp_region_F (fun w' => w'.cell? ⟨ba, 0, none⟩ = some (.bool n5) ∧ w'.cell? ⟨ba, 1, none⟩ = some (.slice A5 m5 k5)) [] (by kernel_rfl) (by rw [hWd]; exact ⟨VA.c0, VA.c1⟩) (fun hHeld => ?_)
  rw [hWd] at hHeld ⊢
  refine wpF_t (i := 0) (oi := opbb6fcaf2) (v := ?_) rfl (by kernel_rfl) (fun _ _ _ h => h) (Or.inl ⟨by rfl, ?_⟩) hHeld ?_; rotate_left
  · intro w_ hSw_; (try dsimp only at hSw_); go_simp; (try with_reducible rfl)
  try go_frame
  refine wpF_t (i := 1) (oi := op1367506b) (v := ?_) rfl (by kernel_rfl) (fun _ _ _ h => h) (Or.inl ⟨by rfl, ?_⟩) hHeld ?_; rotate_left
  · intro w_ hSw_; (try dsimp only at hSw_); go_simp; (try with_reducible rfl)
  try go_frame
  refine wpAnyF_one (i := 2) (by kernel_rfl) rfl (fun K hK => ?_)
  go_simp
  (go_at_call 15; (with_reducible refine (Of_c (count : Int) _ (by omega) (by omega)).mono ?_); rintro e w17 ⟨v, rfl, hv, hb⟩; obtain ⟨n7, A7, m7, k7, rfl, H7⟩ := hv.form; clear hv; replace V3 := V3.keep hb; replace VA := VA.keep hb; replace HC1 := Lib.hid (HC1.out.below hb); replace HB := below_step HB hb; clear hb)
  refine hK.out _ _ (by exact ⟨VA.c0, VA.c1⟩) (fun hHeld => ?_)
  clear hK K
  try go_frame
  refine wpAnyF_one (i := 3) (by kernel_rfl) rfl (fun K hK => ?_)
  go_simp
  (go_at_call 14; (with_reducible refine (Add_c z (count : Int) _ _ _ VA.iz.out H7.out (by have := HL4.out; omega) HLa.out).mono ?_); rintro e w18 ⟨v, rfl, hv, hb⟩; obtain ⟨n8, A8, m8, k8, rfl, H8⟩ := hv.form; clear hv; replace V3 := V3.keep hb; replace VA := VA.keep hb; replace HC1 := Lib.hid (HC1.out.below hb); replace HB := below_step HB hb; clear hb)
  refine hK.out _ _ (by exact ⟨VA.c0, VA.c1⟩) (fun hHeld => ?_)
  clear hK K
  try go_frame
  refine wpAnyF_one (i := 4) (by kernel_rfl) rfl (fun K hK => ?_)
  go_simp
  (go_at_call 13; (with_reducible refine (Fits_c (z + (count : Int)) _ _ H8.out (by have := HL8.out; omega)).mono ?_); rintro e w19 ⟨he, hb⟩; obtain rfl : e = .returned (.bool true) := (by rw [he, HF1.out] <;> rfl); clear he; replace V3 := V3.keep hb; replace VA := VA.keep hb; replace HC1 := Lib.hid (HC1.out.below hb); replace HB := below_step HB hb; clear hb)
  refine hK.out _ _ (by exact ⟨VA.c0, VA.c1⟩) (fun hHeld => ?_)
  clear hK K
  try go_frame
  refine wpF_t (i := 5) (oi := op6f8df99a) (v := ?_) rfl (by kernel_rfl) (fun _ _ _ h => h) (Or.inl ⟨by rfl, ?_⟩) hHeld ?_; rotate_left
  · intro w_ hSw_; (try dsimp only at hSw_); go_simp; (try with_reducible rfl)
  try go_frame
  refine wpAnyF_done (by kernel_rfl) ?_ _
  clear hHeld hWd
  have m0 := V3.c0; have m1 := V3.c1; have m2 := V3.c2
  have x0 := VA.c0; have x1 := VA.c1
  have hcl := HC1.out.2
  have HQ1 := Lib.hid hq1
  have HS1 := Lib.hid hs1
  clear hq1 hs1
  go_wp2_with fail
  (with_reducible refine (Survey5_c M z count most _ _ _ V3.im.out VA.iz.out HOKM.out HL4.out hco hmo).mono ?_)
  rintro e w20 ⟨L2, q2, A2, c2, rfl, hq2, hs2, HC2, hb⟩
  obtain rfl : L2 = L1 := hs2.uniq HS1.out
  obtain rfl : q2 = q1 := by have := HQ1.out; omega
  replace HC1 := Lib.hid (HC1.out.below hb)
  replace HB := below_step HB hb
  clear hb m0 m1 m2 x0 x1 V3 VA hs2 hq2
  go_wp2_with fail
  (with_reducible refine (counts_c A1 A2 c1 c2 (cnL L2 q2) _ HC1.out HC2.out).mono ?_)
  rintro e w21 ⟨rfl, hb⟩
  replace HB := below_step HB hb
  clear hb
  go_wp2_with fail
  (with_reducible refine (awake5_c _ (HT.out.below HB)).mono ?_)
  rintro e w20 ⟨he, hb⟩
  replace HB := below_step HB hb
  clear hb
  subst he
  go_wp2
  go_ret
  exact ⟨rfl, HB⟩
theorem FS_law (M : Mp) (s : ByteArray) (count most : Int) (v : Value) (w : World) (hM : IsM w v M) (hr : Rch M) (ht : Tb w) (hs : s.size ≤ 9223372036854775807) : Calls Tryz.prog 3 #[v, .string s, .int .i64 count, .int .i64 most] w fun e w' => e = .returned (.bool true) ∧ Below w.heap.size w w' := by
  by_cases hok : okB M = true
  · rcases vld_cases s with hv | ⟨z, rfl, hz⟩
    · exact FS_bad M s count most v w hM hr ht hs (.inr hv)
    · by_cases hb : count < 0 ∨ 20000 < count ∨ most < 0 ∨ 20000 < most
      · exact FS_arg M z count most v w hM hr ht (okB_iff.1 hok) hz hb
      · obtain ⟨k, rfl⟩ := Int.eq_ofNat_of_zero_le (show 0 ≤ most by omega)
        obtain ⟨j, rfl⟩ := Int.eq_ofNat_of_zero_le (show 0 ≤ count by omega)
        by_cases hl : j * (k + 1) ≤ 100000
        · by_cases hf : dl (z + (j : Int)) ≤ 2000
          · exact FS_ok M z j k v w hM hr ht (okB_iff.1 hok) hz (by omega) (by omega) hl (decide_eq_true hf)
          · exact FS_size M z j k v w hM hr ht (okB_iff.1 hok) hz (by omega) (by omega) hl (decide_eq_false hf)
        · exact FS_big M z j k v w hM hr ht (okB_iff.1 hok) hz (by omega) (by omega) hl
  · exact FS_bad M s count most v w hM hr ht hs (.inl (by revert hok; cases okB M <;> simp))
end Go.Proofs.YtiaeeclmlchpoaaGreatDoor
