/- What fate.follow does to memory and what it returns. No condition but that the library's table lies as it should. -/
import Derived.Test.YtiaeeclmlchpoaaGreatDoorZ6
import Derived.WalkMore
import Derived.Maps.RangeWalk
set_option linter.unusedVariables false
set_option linter.unusedSimpArgs false
namespace Go.Proofs.YtiaeeclmlchpoaaGreatDoor
open Go.RowKit Go.Shelf Go.Maps

attribute [local go_sem] Oper.semAt_some

theorem itZ_len {M : Mp} (hok : okM M) (z : Int) (k : Nat) : (dg B9 (itZ M z k)).length ≤ (dg B9 z).length + 4 * k := by
  induction k with
  | zero => exact Nat.le_refl _
  | succ k ih => have := step_len hok (itZ M z k); unfold itZ; omega
section
variable (w : World) (b5 b6 b7 b8 b9 b10 b11 bM D most : Nat) (M : Mp) (z : Int)
/-- What holds between two rounds: the call's own variables, the list and the table of the numbers met. -/
def FI (k : Nat) (W : World) : Prop :=
  Boxed W b5 3 (.int .i64 most) ∧ Boxed W b6 3 (.int .i64 0) ∧ Boxed W b7 63 (.slice none 0 0) ∧ Boxed W b8 32 (.int .i64 0) ∧ Boxed W b9 95 (.map (some bM)) ∧ Boxed W b11 3 (.int .i64 (-1)) ∧
  (∃ lv pre, Boxed W b10 63 lv ∧ OwZ B9 .u32 W D 57 lv pre ∧ W.ownsMap Tryz.prog 9 (plainElem (H := Unit) Tryz.prog 3) bM k (metD pre) ∧ pre.length = k ∧ k ≤ most + 1 ∧ pre.Nodup ∧ flwA M (most + 1) [] z = flwA M (most + 1 - k) pre (itZ M z k)) ∧
  Below w.heap.size w W ∧ D ≤ W.heap.size
/-- What holds when a round has left. -/
def FX (c : Code) (W : World) : Prop :=
  Below w.heap.size w W ∧
  ((c = .ret ∧ ∃ err, Boxed W b6 3 (.int .i64 0) ∧ Boxed W b7 63 (.slice none 0 0) ∧ Boxed W b8 32 (.int .i64 err) ∧ flwA M (most + 1) [] z = (err, 0, [])) ∨
   (c = .exit 0 ∧ ∃ (i : Nat) (lv : Value) (pre : List Int), Boxed W b6 3 (.int .i64 0) ∧ Boxed W b7 63 (.slice none 0 0) ∧ Boxed W b8 32 (.int .i64 0) ∧ Boxed W b11 3 (.int .i64 i) ∧ Boxed W b10 63 lv ∧
     OwZ B9 .u32 W D 57 lv pre ∧ i < pre.length ∧ pre.length ≤ most + 1 ∧ flwA M (most + 1) [] z = (0, i, turnL (pre.drop i))))
variable {w b5 b6 b7 b8 b9 b10 b11 bM D most M z}
theorem FI.kept {bn k : Nat} {A B : World} {row : Option Nat} (h : FI w b5 b6 b7 b8 b9 b10 b11 bM D most M z k A) (hg : A.grownBy B row) (hk : Kp A B) (hD : bn < D) (hw : w.heap.size ≤ bn)
    (h5 : b5 < bn) (h6 : b6 < bn) (h7 : b7 < bn) (h8 : b8 < bn) (h9 : b9 < bn) (h10 : b10 < bn) (h11 : b11 < bn) (hM : bM < bn)
    (hr : ∀ r, row = some r → r = bn ∨ (D ≤ r ∧ ∃ o : Obj, A.heap[r]? = some o ∧ o.isCells = false)) : FI w b5 b6 b7 b8 b9 b10 b11 bM D most M z k B := by
  have ne : ∀ b, b < bn → some b ≠ row := fun b hb e => by
    rcases hr b e.symm with h | ⟨h, -⟩ <;> omega
  have wr : ∀ r, row = some r → w.heap.size ≤ r := fun r e => by
    rcases hr r e with h | ⟨h, -⟩ <;> omega
  obtain ⟨c5, c6, c7, c8, c9, c11, ⟨lv, pre, c10, ho, hm, h1, h2, h3, h4⟩, hb, hsz⟩ := h
  have ro : lv.ownBlock = none ∨ lv.ownBlock ≠ row := by
    cases hrow : row with
    | none => cases lv.ownBlock <;> simp
    | some r =>
      rcases hr r hrow with rfl | ⟨-, ho2⟩
      · exact ho.row_ge hD
      · exact ho.row_cells (row := some r) (fun r' e => by cases e; exact ho2)
  exact ⟨c5.kept hg (ne _ h5), c6.kept hg (ne _ h6), c7.kept hg (ne _ h7), c8.kept hg (ne _ h8), c9.kept hg (ne _ h9), c11.kept hg (ne _ h11),
    ⟨lv, pre, c10.kept hg (ne _ h10), ho.grown hg ro hk, hm.kept hg (ne _ hM), h1, h2, h3, h4⟩, hb.grown hg hb.size wr, Nat.le_trans hsz hg.size⟩
theorem FI.below {k : Nat} {A B : World} (h : FI w b5 b6 b7 b8 b9 b10 b11 bM D most M z k A) (hb : Below A.heap.size A B) : FI w b5 b6 b7 b8 b9 b10 b11 bM D most M z k B := by
  have hg : A.grownBy B none := ⟨hb.os, hb.tape, hb.output, hb.size, fun i hi _ => hb.block i hi⟩
  obtain ⟨c5, c6, c7, c8, c9, c11, ⟨lv, pre, c10, ho, hm, h1, h2, h3, h4⟩, hb', hsz⟩ := h
  exact ⟨c5.kept hg (by simp), c6.kept hg (by simp), c7.kept hg (by simp), c8.kept hg (by simp), c9.kept hg (by simp), c11.kept hg (by simp),
    ⟨lv, pre, c10.kept hg (by simp), ho.below hb, hm.kept hg (by simp), h1, h2, h3, h4⟩, below_step hb' hb, Nat.le_trans hsz hb.size⟩
theorem FX.kept {c : Code} {A B : World} {row : Option Nat} (h : FX w b6 b7 b8 b10 b11 D most M z c A) (hg : A.grownBy B row) (hw : w.heap.size ≤ D)
    (hr : ∀ r, row = some r → D ≤ r ∧ ∃ o : Obj, A.heap[r]? = some o ∧ o.isCells = false) : FX w b6 b7 b8 b10 b11 D most M z c B := by
  have hr2 := fun r e => (hr r e).2
  have hk := Kp.own hg hr2
  have bk : ∀ {b t v}, Boxed A b t v → Boxed B b t v := fun hb => hb.kept hg (ne_of_cell hb.cell hr2)
  obtain ⟨hb, h⟩ := h
  refine ⟨hb.grown hg hb.size (fun r e => by have := (hr r e).1; omega), ?_⟩
  rcases h with ⟨h1, err, h2, h3, h4, h5⟩ | ⟨h1, i, lv, pre, h2, h3, h4, h5, h6, h7, h8⟩
  · exact .inl ⟨h1, err, bk h2, bk h3, bk h4, h5⟩
  · exact .inr ⟨h1, i, lv, pre, bk h2, bk h3, bk h4, bk h5, bk h6, h7.grown hg (h7.row_cells hr2) hk, h8⟩
theorem RW.kept {bm bn k : Nat} {x : XZ} {A B : World} {row : Option Nat} (h : RW M z bm bn k x A) (hg : A.grownBy B row) (hk : Kp A B) (hm : some bm ≠ row) (hn : some bn ≠ row) : RW M z bm bn k x B := by
  obtain ⟨⟨md, A1, n, c, A2, n', c', h1⟩, h2⟩ := h
  exact ⟨⟨md, A1, n, c, A2, n', c', h1.grown hg hm hk⟩, h2.grown hg hn hk⟩
theorem RW.own {bm bn k : Nat} {x : XZ} {A B : World} {row : Option Nat} (h : RW M z bm bn k x A) (hg : A.grownBy B row) (hr : ∀ r, row = some r → ∃ o : Obj, A.heap[r]? = some o ∧ o.isCells = false) : RW M z bm bn k x B := by
  have h' := h
  obtain ⟨⟨md, A1, n, c, A2, n', c', h1⟩, h2⟩ := h'
  exact h.kept hg (Kp.own hg hr) (ne_of_cell h1.c0 hr) (ne_of_cell h2.c0 hr)
theorem RW.below {bm bn k : Nat} {x : XZ} {A B : World} (h : RW M z bm bn k x A) (hb : Below A.heap.size A B) : RW M z bm bn k x B :=
  h.kept (row := none) ⟨hb.os, hb.tape, hb.output, hb.size, fun i hi _ => hb.block i hi⟩ (Kp.of hb) (by simp) (by simp)
end
theorem World.ownsMap_of_made {H : Type} {P : Program} {k : TypeId} {R : Value → Option (DataW H × List MemPlace)} {A B : World} {b n : Nat} (h : A.heap[b]? = some (.map #[] 0)) (hb : Below n A B) (hl : b < n) : B.ownsMap P k R b 0 (.map []) := by
  exact ⟨#[], 0, (hb.block b hl).trans h, ⟨by simp, MapKept.stamped_empty 0, by simp⟩, Nat.le_refl _, rfl⟩
theorem st3 {W : World} {n b6 b7 b8 : Nat} {t6 t7 t8 : TypeId} {v6 v7 v8 : Value} {w : World} (c6 : Boxed W b6 t6 v6) (c7 : Boxed W b7 t7 v7) (c8 : Boxed W b8 t8 v8) (h67 : b6 ≠ b7) (h68 : b6 ≠ b8) (h78 : b7 ≠ b8) (x6 x7 x8 : Value) (hb : Below n w W) (n6 : n ≤ b6) (n7 : n ≤ b7) (n8 : n ≤ b8) :
    Boxed (((W.setCell ⟨b6, 0, none⟩ x6).setCell ⟨b7, 0, none⟩ x7).setCell ⟨b8, 0, none⟩ x8) b6 t6 x6 ∧ Boxed (((W.setCell ⟨b6, 0, none⟩ x6).setCell ⟨b7, 0, none⟩ x7).setCell ⟨b8, 0, none⟩ x8) b7 t7 x7 ∧ Boxed (((W.setCell ⟨b6, 0, none⟩ x6).setCell ⟨b7, 0, none⟩ x7).setCell ⟨b8, 0, none⟩ x8) b8 t8 x8 ∧
    KeepsOthers W (((W.setCell ⟨b6, 0, none⟩ x6).setCell ⟨b7, 0, none⟩ x7).setCell ⟨b8, 0, none⟩ x8) ∧ Below n w (((W.setCell ⟨b6, 0, none⟩ x6).setCell ⟨b7, 0, none⟩ x7).setCell ⟨b8, 0, none⟩ x8) := by
  have d6 := ((c6.set x6).other h67 x7).other h68 x8
  have d7 := ((c7.other (Ne.symm h67) x6).set x7).other h78 x8
  have d8 := ((c8.other (Ne.symm h68) x6).other (Ne.symm h78) x7).set x8
  exact ⟨d6, d7, d8, ((KeepsOthers.setCell _ _ _).trans (KeepsOthers.setCell _ _ _)).trans (KeepsOthers.setCell _ _ _), ((hb.setCell (p := ⟨b6, 0, none⟩) n6 x6).setCell (p := ⟨b7, 0, none⟩) n7 x7).setCell (p := ⟨b8, 0, none⟩) n8 x8⟩
theorem IsZ.set64 {A : World} {b : Nat} {t : TypeId} {y : Int} {v : Value} {z : Int} (h : IsZ B9 .u32 A v z) (hb : Boxed A b t (.int .i64 y)) (x : Value) : IsZ B9 .u32 (A.setCell ⟨b, 0, none⟩ x) v z := by
  obtain ⟨Ad, c, e, hs⟩ := h
  exact ⟨Ad, c, e, hs.set hb.cell (fun n h => by cases h)⟩
/-- A store into a variable that holds an int leaves a list of the call's own. -/
theorem OwZ.set64 {A : World} {b base : Nat} {t e : TypeId} {y : Int} {v : Value} {l : List Int} (h : OwZ B9 .u32 A base e v l) (hb : Boxed A b t (.int .i64 y)) (hl : b < base) (x : Value) : OwZ B9 .u32 (A.setCell ⟨b, 0, none⟩ x) base e v l := by
  have hg := grownBy_setCell' A b x
  have hne := h.row_ge hl
  obtain ⟨xs, ⟨h1, h2⟩, h3⟩ := h
  refine ⟨xs, ⟨h1.kept hg hne, ?_⟩, ?_⟩
  · intro g cur e' fz hgo hcur
    have hlt := (h1.lt g hgo).2
    have hn : some g ≠ some b := by
      rcases hne with h | h
      · rw [h] at hgo; cases hgo
      · rw [hgo] at h; exact h
    rw [hg.block g hlt hn] at hcur
    exact h2 g cur e' fz hgo hcur
  · intro j z hj
    obtain ⟨nv, A', n, c, h5, h6, h7⟩ := h3 j z hj
    exact ⟨nv, A', n, c, h5, h6, h7.set64 hb x⟩
theorem ownsMap_at {H : Type} {P : Program} {k : TypeId} {R : Value → Option (DataW H × List MemPlace)} {A B : World} {b n : Nat} {D : DataW H} (h : A.ownsMap P k R b n D) (e : B.heap[b]? = A.heap[b]?) : B.ownsMap P k R b n D := by
  obtain ⟨es, ck, h1, h2⟩ := h
  exact ⟨es, ck, e.trans h1, h2⟩
theorem RW.keepB {M : Mp} {z : Int} {bm bn k base : Nat} {x : XZ} {A B : World} (h : RW M z bm bn k x A) (hb : Below base A B) (hm : bm < base) (hn : bn < base) (hk : Kp A B) : RW M z bm bn k x B := by
  obtain ⟨⟨md, A1, n, c, A2, n', c', h1⟩, h2⟩ := h
  exact ⟨⟨md, A1, n, c, A2, n', c', h1.keepB hb hm hk⟩, h2.keepB hb hn hk⟩
theorem KeepsFrom.below {D : Nat} {A B : World} (h : Below A.heap.size A B) : KeepsFrom D A B := ⟨h.size, fun k o _ hk _ => (h.block k (Array.getElem?_eq_some_iff.1 hk).1).trans hk⟩
theorem dl_dlN (z : Int) : dl z = dlN z.natAbs := by
  unfold dl dlN txN
  by_cases h : z = 0
  · subst h; rfl
  · rw [if_neg h, if_neg (by omega)]; simp
theorem zeroE_ (w : World) : (zeroValue 3).run Tryz.prog w = .ok (.int .i64 0) w := by kernel_rfl
/-- The blocks that the call lays ahead of the walk. -/
theorem startF (w : World) (o0 o1 o2 o3 o4 o5 o6 o7 o8 o9 : Obj) (W : World) (hW : ((((((((((w.alloc o0).alloc o1).alloc o2).alloc o3).alloc o4).alloc o5).alloc o6).alloc o7).alloc o8).alloc o9) = W) :
    W.heap[w.heap.size + 1 + 1]? = some o2 ∧ W.heap[w.heap.size + 1 + 1 + 1]? = some o3 ∧ W.heap[w.heap.size + 1 + 1 + 1 + 1]? = some o4 ∧ W.heap[w.heap.size + 1 + 1 + 1 + 1 + 1]? = some o5 ∧ W.heap[w.heap.size + 1 + 1 + 1 + 1 + 1 + 1]? = some o6 ∧
    W.heap[w.heap.size + 1 + 1 + 1 + 1 + 1 + 1 + 1]? = some o7 ∧ W.heap[w.heap.size + 1 + 1 + 1 + 1 + 1 + 1 + 1 + 1]? = some o8 ∧ W.heap[w.heap.size + 1 + 1 + 1 + 1 + 1 + 1 + 1 + 1 + 1]? = some o9 ∧ W.heap.size = w.heap.size + 10 ∧ Below w.heap.size w W := by
  subst hW
  have nw : ∀ (V : World) (o : Obj), (V.alloc o).heap[V.heap.size]? = some o := fun V o => heap_alloc_new V _
  have od : ∀ (V : World) (o : Obj) (k : Nat), k < V.heap.size → (V.alloc o).heap[k]? = V.heap[k]? := fun V o k h => Below.heap_alloc V _ k h
  refine ⟨?_, ?_, ?_, ?_, ?_, ?_, ?_, ?_, ?_, ?_⟩
  · exact ((od (((((((((w.alloc o0).alloc o1).alloc o2).alloc o3).alloc o4).alloc o5).alloc o6).alloc o7).alloc o8) o9 _ (by simp only [World.size_alloc]; omega)).trans ((od ((((((((w.alloc o0).alloc o1).alloc o2).alloc o3).alloc o4).alloc o5).alloc o6).alloc o7) o8 _ (by simp only [World.size_alloc]; omega)).trans ((od (((((((w.alloc o0).alloc o1).alloc o2).alloc o3).alloc o4).alloc o5).alloc o6) o7 _ (by simp only [World.size_alloc]; omega)).trans ((od ((((((w.alloc o0).alloc o1).alloc o2).alloc o3).alloc o4).alloc o5) o6 _ (by simp only [World.size_alloc]; omega)).trans ((od (((((w.alloc o0).alloc o1).alloc o2).alloc o3).alloc o4) o5 _ (by simp only [World.size_alloc]; omega)).trans ((od ((((w.alloc o0).alloc o1).alloc o2).alloc o3) o4 _ (by simp only [World.size_alloc]; omega)).trans ((od (((w.alloc o0).alloc o1).alloc o2) o3 _ (by simp only [World.size_alloc]; omega)).trans (by have h := nw ((w.alloc o0).alloc o1) o2; simpa only [World.size_alloc] using h))))))))
  · exact ((od (((((((((w.alloc o0).alloc o1).alloc o2).alloc o3).alloc o4).alloc o5).alloc o6).alloc o7).alloc o8) o9 _ (by simp only [World.size_alloc]; omega)).trans ((od ((((((((w.alloc o0).alloc o1).alloc o2).alloc o3).alloc o4).alloc o5).alloc o6).alloc o7) o8 _ (by simp only [World.size_alloc]; omega)).trans ((od (((((((w.alloc o0).alloc o1).alloc o2).alloc o3).alloc o4).alloc o5).alloc o6) o7 _ (by simp only [World.size_alloc]; omega)).trans ((od ((((((w.alloc o0).alloc o1).alloc o2).alloc o3).alloc o4).alloc o5) o6 _ (by simp only [World.size_alloc]; omega)).trans ((od (((((w.alloc o0).alloc o1).alloc o2).alloc o3).alloc o4) o5 _ (by simp only [World.size_alloc]; omega)).trans ((od ((((w.alloc o0).alloc o1).alloc o2).alloc o3) o4 _ (by simp only [World.size_alloc]; omega)).trans (by have h := nw (((w.alloc o0).alloc o1).alloc o2) o3; simpa only [World.size_alloc] using h)))))))
  · exact ((od (((((((((w.alloc o0).alloc o1).alloc o2).alloc o3).alloc o4).alloc o5).alloc o6).alloc o7).alloc o8) o9 _ (by simp only [World.size_alloc]; omega)).trans ((od ((((((((w.alloc o0).alloc o1).alloc o2).alloc o3).alloc o4).alloc o5).alloc o6).alloc o7) o8 _ (by simp only [World.size_alloc]; omega)).trans ((od (((((((w.alloc o0).alloc o1).alloc o2).alloc o3).alloc o4).alloc o5).alloc o6) o7 _ (by simp only [World.size_alloc]; omega)).trans ((od ((((((w.alloc o0).alloc o1).alloc o2).alloc o3).alloc o4).alloc o5) o6 _ (by simp only [World.size_alloc]; omega)).trans ((od (((((w.alloc o0).alloc o1).alloc o2).alloc o3).alloc o4) o5 _ (by simp only [World.size_alloc]; omega)).trans (by have h := nw ((((w.alloc o0).alloc o1).alloc o2).alloc o3) o4; simpa only [World.size_alloc] using h))))))
  · exact ((od (((((((((w.alloc o0).alloc o1).alloc o2).alloc o3).alloc o4).alloc o5).alloc o6).alloc o7).alloc o8) o9 _ (by simp only [World.size_alloc]; omega)).trans ((od ((((((((w.alloc o0).alloc o1).alloc o2).alloc o3).alloc o4).alloc o5).alloc o6).alloc o7) o8 _ (by simp only [World.size_alloc]; omega)).trans ((od (((((((w.alloc o0).alloc o1).alloc o2).alloc o3).alloc o4).alloc o5).alloc o6) o7 _ (by simp only [World.size_alloc]; omega)).trans ((od ((((((w.alloc o0).alloc o1).alloc o2).alloc o3).alloc o4).alloc o5) o6 _ (by simp only [World.size_alloc]; omega)).trans (by have h := nw (((((w.alloc o0).alloc o1).alloc o2).alloc o3).alloc o4) o5; simpa only [World.size_alloc] using h)))))
  · exact ((od (((((((((w.alloc o0).alloc o1).alloc o2).alloc o3).alloc o4).alloc o5).alloc o6).alloc o7).alloc o8) o9 _ (by simp only [World.size_alloc]; omega)).trans ((od ((((((((w.alloc o0).alloc o1).alloc o2).alloc o3).alloc o4).alloc o5).alloc o6).alloc o7) o8 _ (by simp only [World.size_alloc]; omega)).trans ((od (((((((w.alloc o0).alloc o1).alloc o2).alloc o3).alloc o4).alloc o5).alloc o6) o7 _ (by simp only [World.size_alloc]; omega)).trans (by have h := nw ((((((w.alloc o0).alloc o1).alloc o2).alloc o3).alloc o4).alloc o5) o6; simpa only [World.size_alloc] using h))))
  · exact ((od (((((((((w.alloc o0).alloc o1).alloc o2).alloc o3).alloc o4).alloc o5).alloc o6).alloc o7).alloc o8) o9 _ (by simp only [World.size_alloc]; omega)).trans ((od ((((((((w.alloc o0).alloc o1).alloc o2).alloc o3).alloc o4).alloc o5).alloc o6).alloc o7) o8 _ (by simp only [World.size_alloc]; omega)).trans (by have h := nw (((((((w.alloc o0).alloc o1).alloc o2).alloc o3).alloc o4).alloc o5).alloc o6) o7; simpa only [World.size_alloc] using h)))
  · exact ((od (((((((((w.alloc o0).alloc o1).alloc o2).alloc o3).alloc o4).alloc o5).alloc o6).alloc o7).alloc o8) o9 _ (by simp only [World.size_alloc]; omega)).trans (by have h := nw ((((((((w.alloc o0).alloc o1).alloc o2).alloc o3).alloc o4).alloc o5).alloc o6).alloc o7) o8; simpa only [World.size_alloc] using h))
  · exact (by have h := nw (((((((((w.alloc o0).alloc o1).alloc o2).alloc o3).alloc o4).alloc o5).alloc o6).alloc o7).alloc o8) o9; simpa only [World.size_alloc] using h)
  · simp only [World.size_alloc]
  · repeat (first | exact Below.refl _ _ | apply below_alloc)
set_option maxRecDepth 100000 in
set_option maxHeartbeats 8000000 in
theorem follow_c (M : Mp) (z : Int) (most : Nat) (v u : Value) (w : World) (hM : IsM w v M) (hz : IsH w u z) (hok : okM M) (sz : (dg B9 z).length ≤ 2100) (hmo : most ≤ 900000) (ht : Tb w) :
    Calls Tryz.prog 28 #[v, u, .int .i64 most] w fun e w' => ∃ A c, e = .returned (.tuple #[.int .i64 (flwA M (most + 1) [] z).2.1, .slice A (flwA M (most + 1) [] z).2.2.length c, .int .i64 (flwA M (most + 1) [] z).1]) ∧ Hid (LsZ B9 .u32 w' A c (flwA M (most + 1) [] z).2.2) ∧ Below w.heap.size w w' := by
  obtain ⟨md, A, n, c, A', n', c', rfl, HM⟩ := hM.form
  obtain ⟨nz, Az, mz, kz, rfl, HZ⟩ := hz.form
  have hmm := @run_makeMap Tryz.prog
  have HT := Lib.hid ht
  have HOK := Lib.hid hok
  have SZ : Hid (∀ k, k < most + 2 → (dg B9 (itZ M z k)).length ≤ 900000000) := fun k hk => by have := itZ_len hok z k; omega
  clear hM hz ht hok sz
  refine (callsIn_wide (n := 9)).1 (callsIn_of_wp_marks Tryz.func28 rfl trivial ?_ rfl)
  simp only [Tryz.ntmps28, List.size_toArray, List.length_cons, List.length_nil, Nat.reduceAdd, Nat.reduceSub, Array.replicate_succ, Array.replicate_zero, List.push_toArray, List.append_toArray, List.nil_append, List.cons_append]
  refine wpIn_wide.2 ?_
  go_wp2
  go_step3
  go_wp2
  go_step3
  go_wp2_with fail
  clear hmm
  generalize hW : (((((((((w.alloc (Obj.cells #[Value.int IntKind.i64 md, Value.slice A n c, Value.slice A' n' c'] 24)).alloc (Obj.cells #[Value.bool nz, Value.slice Az mz kz] 57)).alloc (Obj.cells #[Value.int IntKind.i64 ↑most] 3)).alloc (Obj.cells #[Value.int IntKind.i64 0] 3)).alloc (Obj.cells #[Value.slice none 0 0] 63)).alloc (Obj.cells #[Value.int IntKind.i64 0] 32)).alloc (Obj.map #[] 0)).alloc (Obj.cells #[Value.map (some (w.heap.size + 1 + 1 + 1 + 1 + 1 + 1))] 95)).alloc (Obj.cells #[Value.slice none 0 0] 63)).alloc (Obj.cells #[Value.int IntKind.i64 (-1)] 3) = W
  obtain ⟨c5, c6, c7, c8, cM, c9, c10, c11, hs, HB⟩ := startF w _ _ _ _ _ _ _ _ _ _ W hW
  clear hW
  have HMW := Lib.hid (HM.out.below HB)
  have HZW := Lib.hid (HZ.out.below HB)
  (with_reducible refine (Walk_c M z _ _ W HMW.out HZW.out).mono ?_)
  rintro e w1 ⟨rfl, ⟨md1, A1, n1, c1, A1', n1', c1', VM1⟩, ⟨nv1, Av1, mv1, kv1, VH1⟩, hb1⟩
  generalize hbm : W.heap.size = bm at *
  obtain ⟨b11, e11⟩ : ∃ b, w.heap.size + 1 + 1 + 1 + 1 + 1 + 1 + 1 + 1 + 1 = b := ⟨_, rfl⟩
  obtain ⟨b10, e10⟩ : ∃ b, w.heap.size + 1 + 1 + 1 + 1 + 1 + 1 + 1 + 1 = b := ⟨_, rfl⟩
  obtain ⟨b9, e9⟩ : ∃ b, w.heap.size + 1 + 1 + 1 + 1 + 1 + 1 + 1 = b := ⟨_, rfl⟩
  obtain ⟨bM, eM⟩ : ∃ b, w.heap.size + 1 + 1 + 1 + 1 + 1 + 1 = b := ⟨_, rfl⟩
  obtain ⟨b8, e8⟩ : ∃ b, w.heap.size + 1 + 1 + 1 + 1 + 1 = b := ⟨_, rfl⟩
  obtain ⟨b7, e7⟩ : ∃ b, w.heap.size + 1 + 1 + 1 + 1 = b := ⟨_, rfl⟩
  obtain ⟨b6, e6⟩ : ∃ b, w.heap.size + 1 + 1 + 1 = b := ⟨_, rfl⟩
  obtain ⟨b5, e5⟩ : ∃ b, w.heap.size + 1 + 1 = b := ⟨_, rfl⟩
  rw [e11] at c11 ⊢
  rw [e10] at c10 ⊢
  rw [e9] at c9 ⊢
  rw [eM] at cM c9 ⊢
  rw [e8] at c8 ⊢
  rw [e7] at c7 ⊢
  rw [e6] at c6 ⊢
  rw [e5] at c5 ⊢
  have l5 : b5 < bm := by omega
  have l6 : b6 < bm := by omega
  have l7 : b7 < bm := by omega
  have l8 : b8 < bm := by omega
  have l9 : b9 < bm := by omega
  have l10 : b10 < bm := by omega
  have l11 : b11 < bm := by omega
  have lM : bM < bm := by omega
  have lw : w.heap.size ≤ bm := by omega
  obtain ⟨bn, ebn⟩ : ∃ b, bm + 1 = b := ⟨_, rfl⟩
  rw [ebn] at VH1 ⊢
  have lbm : bm < bn := by omega
  have lbn : bn < w1.heap.size := VH1.lt
  have d5 : Boxed w1 b5 3 _ := (hb1.block b5 l5).trans c5
  have d6 : Boxed w1 b6 3 _ := (hb1.block b6 l6).trans c6
  have d7 : Boxed w1 b7 63 _ := (hb1.block b7 l7).trans c7
  have d8 : Boxed w1 b8 32 _ := (hb1.block b8 l8).trans c8
  have d9 : Boxed w1 b9 95 _ := (hb1.block b9 l9).trans c9
  have d10 : Boxed w1 b10 63 _ := (hb1.block b10 l10).trans c10
  have d11 : Boxed w1 b11 3 _ := (hb1.block b11 l11).trans c11
  have HB1 := HB.trans (hb1.mono lw)
  have o65 : b6 ≠ b7 := by omega
  have o68 : b6 ≠ b8 := by omega
  have o78 : b7 ≠ b8 := by omega
  have oX : b11 ≠ b6 ∧ b11 ≠ b7 ∧ b11 ≠ b8 ∧ b11 ≠ b10 ∧ b10 ≠ b5 ∧ b10 ≠ b6 ∧ b10 ≠ b7 ∧ b10 ≠ b8 ∧ b10 ≠ b9 := by omega
  have oM : bM ≠ b10 := by omega
  have n6 : w.heap.size ≤ b6 := by omega
  have n7 : w.heap.size ≤ b7 := by omega
  have n8 : w.heap.size ≤ b8 := by omega
  have n10 : w.heap.size ≤ b10 := by omega
  have n11 : w.heap.size ≤ b11 := by omega
  have nM : w.heap.size ≤ bM := by omega
  clear c5 c6 c7 c8 c9 c10 c11 e5 e6 e7 e8 e9 e10 e11 eM ebn hbm hs HM HZ HMW HZW
  go_wp2_with fail
  obtain ⟨D, hD⟩ : ∃ D, w1.heap.size = D := ⟨_, rfl⟩
  rw [hD] at lbn
  have HDw := Lib.hid hD
  have lwD : w.heap.size ≤ D := by omega
  have hFK : ∀ (k : Nat) (A B : World) (row : Option Nat), FI w b5 b6 b7 b8 b9 b10 b11 bM D most M z k A → A.grownBy B row → Kp A B → (∀ r, row = some r → r = bn ∨ (D ≤ r ∧ ∃ o : Obj, A.heap[r]? = some o ∧ o.isCells = false)) → FI w b5 b6 b7 b8 b9 b10 b11 bM D most M z k B :=
    fun k A B row h hg hk hr => h.kept hg hk lbn (by omega) (by omega) (by omega) (by omega) (by omega) (by omega) (by omega) (by omega) (by omega) hr
  have HFK := Lib.hid hFK
  clear hFK
  refine (wpIn_wide (n := 9)).1 (wpIn_rangeFunc_St (w := w1) (α := XZ) rfl (by omega) (gf := 59) (lb := #[.pointer (some ⟨bn, 0, none⟩), .pointer (some ⟨bm, 0, none⟩)]) rfl trivial (enters_of Tryz.func59 (by kernel_rfl) rfl) (bn := bn) (N := most + 2) (by rw [hD]; exact lbn)
    (Walk1_st M z bm bn (most + 2) _ (by omega) (by omega) HOK.out SZ.out (by omega)) (fun _ _ => rfl)
    (fun k x => by rw [hD]; exact fun _ A B row h hg hr => h.own hg (fun r e => (hr r e).2)) ⟨(nv1, Av1, mv1, kv1), ⟨_, _, _, _, _, _, _, VM1⟩, VH1⟩
    (FI w b5 b6 b7 b8 b9 b10 b11 bM D most M z) (FX w b6 b7 b8 b10 b11 D most M z)
    (by rw [hD]; exact fun k A B row h hg hr => HFK.out _ _ _ _ h hg (Kp.own hg (fun r e => (hr r e).2)) (fun r e => .inr (hr r e)))
    (by rw [hD]; exact fun c A B row h hg hr => h.kept hg lwD hr)
    (fun k A B h hst => HFK.out _ _ _ _ h hst.1 hst.2 (fun r e => by cases e; exact .inl rfl))
    (fun W h => by obtain ⟨_, _, _, _, _, _, ⟨_, _, _, _, _, _, h, _⟩, _⟩ := h; omega)
    ⟨d5, d6, d7, d8, d9, d11, ⟨_, [], d10, OwZ.nil _ _ _, (World.ownsMap_of_made cM hb1 lM), rfl, by omega, List.nodup_nil, rfl⟩, HB1, by omega⟩
    (fun k x a' W => ∃ Bx, D ≤ Bx ∧ VH W Bx x.1 x.2.1 x.2.2.1 x.2.2.2 (itZ M z k) ∧ a' = { tmps := #[Value.agg #[Value.int IntKind.i64 md, Value.slice A n c, Value.slice A' n' c'], Value.agg #[Value.bool nz, Value.slice Az mz kz], Value.int IntKind.i64 (most : Int), Value.pointer (some ⟨w.heap.size, 0, none⟩), Value.pointer (some ⟨w.heap.size + 1, 0, none⟩), Value.pointer (some ⟨b5, 0, none⟩), Value.pointer (some ⟨b6, 0, none⟩), Value.pointer (some ⟨b7, 0, none⟩), Value.pointer (some ⟨b8, 0, none⟩), Value.pointer (some ⟨b9, 0, none⟩), Value.pointer (some ⟨b10, 0, none⟩), Value.pointer (some ⟨b11, 0, none⟩), Value.int IntKind.i64 (k : Int), Value.pointer (some ⟨Bx, 0, none⟩), undef, undef, undef, Value.map (some bM), Value.agg #[Value.int IntKind.i64 md, Value.slice A n c, Value.slice A' n' c'], Value.agg #[Value.bool nz, Value.slice Az mz kz], Value.func (Fn.func 59) #[] #[Value.pointer (some ⟨bn, 0, none⟩), Value.pointer (some ⟨bm, 0, none⟩)], Value.int IntKind.i64 (k : Int), Value.agg #[Value.bool x.1, Value.slice x.2.1 x.2.2.1 x.2.2.2], undef, undef, undef, undef, undef, undef, undef, undef, undef, undef, undef, undef, undef, undef, undef, undef, undef, undef, undef, undef, undef, undef, undef, undef, undef, undef, undef, undef, undef, undef], defers := [] })
    (fun k x a' => by
      rw [hD]
      rintro _ A B row ⟨Bx, h1, h2, h3⟩ hg hr
      have hr2 := fun r e => (hr r e).2
      exact ⟨Bx, h1, h2.grown hg (ne_of_cell h2.c0 hr2) (Kp.own hg hr2), h3⟩)
    ?assign ?body ?stop)
  case assign =>
    intro l k x W K hi hr hK
    gi_wp2
    have hb := below_alloc (Below.refl W.heap.size W) (Obj.cells #[Value.bool x.1, Value.slice x.2.1 x.2.2.1 x.2.2.2] 57)
    exact hK _ _ (KeepsFrom.below hb) (hr.below hb) (hi.below hb) ⟨W.heap.size, hi.2.2.2.2.2.2.2.2, VX.new W _ hr.2.iz.out, rfl⟩
  case body =>
    rintro l k x a' W hfi hr ⟨Bx, hBx, VB, rfl⟩ hkN
    have hfi' := hfi
    obtain ⟨c5, c6, c7, c8, c9, c11, ⟨lv, pre, c10, ho, hm, h1, h2, h3, h4⟩, hb, hsz⟩ := hfi'
    have m5 := c5.cell
    by_cases hk : (most : Int) < (k : Int)
    · have m6 := c6.cell; have m7 := c7.cell; have m8 := c8.cell
      have f6 := c6.frozen; have f7 := c7.frozen; have f8 := c8.frozen
      gi_wp2
      obtain ⟨e6, e7, e8, eo, eb⟩ := st3 c6 c7 c8 o65 o68 o78 (.int .i64 0) (.slice none 0 0) (.int .i64 4) hb n6 n7 n8
      refine ⟨eo.from _, eb, .inl ⟨rfl, 4, e6, e7, e8, ?_⟩⟩
      rw [h4, show most + 1 - k = 0 by omega]
      rfl
    · have HT0 := Lib.hid (HT.out.below hb)
      have HSZ := Lib.hid (SZ.out k hkN)
      have v0 := VB.c0; have v1 := VB.c1
      have hFL : ∃ f, most + 1 - k = f + 1 := ⟨most - k, by omega⟩
      cases hd : decide (2000 < dl (itZ M z k)) with
      | true =>
        have hd1 := of_decide_eq_true hd
        have hd2 : (2000 : Int) < (dl (itZ M z k) : Int) := by omega
        have HRES : Hid (flwA M (most + 1) [] z = (3, 0, [])) := by
          obtain ⟨f, hf⟩ := hFL
          show _ = _
          rw [h4, hf, flwA, if_pos hd1]
        clear hd hd1 hFL h4
        gi_wp2_with (refine ⟨trivial, ?_⟩; gi_at_call 27; refine (CallsIn.inRound l (callsIn_wide.2 (hDigits_c (itZ M z k) _ _ VB.iz.out HT0.out (by have := HSZ.out; omega)))).mono ?_; rintro e w2 ⟨rfl, hb2⟩; have e6 := (hfi.below hb2).2.1; have e7 := (hfi.below hb2).2.2.1; have e8 := (hfi.below hb2).2.2.2.1; have m6 := e6.cell; have m7 := e7.cell; have m8 := e8.cell; have f6 := e6.frozen; have f7 := e7.frozen; have f8 := e8.frozen)
        obtain ⟨c5', c6', c7', c8', -, -, -, hb', -⟩ := hfi.below hb2
        obtain ⟨e6, e7, e8, eo, eb⟩ := st3 c6' c7' c8' o65 o68 o78 (.int .i64 0) (.slice none 0 0) (.int .i64 3) hb' n6 n7 n8
        exact ⟨(KeepsFrom.below hb2).trans (eo.from _), eb, .inl ⟨rfl, 3, e6, e7, e8, HRES.out⟩⟩
      | false =>
        have hd1 := of_decide_eq_false hd
        have hd2 : ¬ (2000 : Int) < (dl (itZ M z k) : Int) := by omega
        have hsz2 : (tS (itZ M z k)).size ≤ maxLen := by
          have h1 : dl (itZ M z k) = dlN (itZ M z k).natAbs := dl_dlN _
          rw [← codes_length, codes_tS]
          unfold tx
          unfold dlN at h1
          rw [List.length_append]
          simp only [maxLen]
          split <;> simp <;> omega
        have hkey : keyOf Tryz.prog 9 (.string (tS (itZ M z k))) = some (kL (itZ M z k)) := WideMaps.keyOf_string_mk Tryz.underlying9 hsz2
        have HKEY := Lib.hid hkey
        have HAS := Lib.hid (met_has pre (itZ M z k))
        have HSS := Lib.hid (show flwA M (most + 1) [] z = (if itZ M z k ∈ pre then (0, pre.idxOf (itZ M z k), turnL (pre.drop (pre.idxOf (itZ M z k)))) else flwA M (most - k) (pre ++ [itZ M z k]) (itZ M z (k + 1))) by
          rw [h4, show most + 1 - k = (most - k) + 1 by omega, flwA, if_neg hd1]; rfl)
        have H3 := Lib.hid h3
        clear hd hd1 hFL h4 hkey hsz2 h3
        by_cases hin : itZ M z k ∈ pre
        · have hhas : has (metD pre) (kL (itZ M z k)) = true := by rw [HAS.out]; exact decide_eq_true hin
          have HAT := Lib.hid (fun zd => met_at pre H3.out (itZ M z k) hin zd)
          have HRES : Hid (flwA M (most + 1) [] z = (0, pre.idxOf (itZ M z k), turnL (pre.drop (pre.idxOf (itZ M z k))))) := by show _ = _; rw [HSS.out, if_pos hin]
          have hix : pre.idxOf (itZ M z k) < pre.length := List.idxOf_lt_length_iff.2 hin
          have HIN := Lib.hid hin
          clear hin HAS HSS
          gi_wp2_with (first
            | (refine ⟨trivial, ?_⟩; gi_at_call 27; refine (CallsIn.inRound l (callsIn_wide.2 (hDigits_c (itZ M z k) _ _ VB.iz.out HT0.out (by have := HSZ.out; omega)))).mono ?_; rintro e w2 ⟨rfl, hb2⟩; have VB2 := VB.keep hb2; have q0 := VB2.c0; have q1 := VB2.c1; have HT2 := Lib.hid (HT0.out.below hb2))
            | (refine ⟨trivial, ?_⟩; gi_at_call 29; refine (CallsIn.inRound l (callsIn_wide.2 (hStr_c (itZ M z k) _ _ VB2.iz.out HT2.out (by have := HSZ.out; omega)))).mono ?_; rintro e w3 ⟨rfl, hb3⟩; have hb23 := below_step hb2 hb3; have hfi3 := hfi.below hb23; have m9 := hfi3.2.2.2.2.1.cell; have hm3 := hm.kept (row := none) ⟨hb23.os, hb23.tape, hb23.output, hb23.size, fun i hi _ => hb23.block i hi⟩ (by simp); have m11 := hfi3.2.2.2.2.2.1.cell; have f11 := hfi3.2.2.2.2.2.1.frozen; clear q0 q1)
            | (gi_at_lookup; refine wpListIn_lookup_own_ok_int _ rfl _ _ 95 rfl 9 3 .i64 (string_keyed Tryz.underlying9) Tryz.underlying95 Tryz.underlying3 (zeroE_ _) bM k (metD pre) rfl hm3 _ _ rfl HKEY.out ?_; intro cc hat hwc; rw [HAT.out] at hat; injection hat with hat; injection hat with hat1 hat; subst hat; clear hat1))
          obtain ⟨k5, k6, k7, k8, k9, k11, ⟨lv3, pre3, k10, ko, -, -, -, -, -⟩, kb, -⟩ := hfi3
          have k10' := (hfi.below hb23).2.2.2.2.2.2.1
          have c10b : Boxed w3 b10 63 lv := boxed_below c10 hb23 c10.lt
          have hob := ho.below hb23
          exact ⟨(KeepsFrom.below hb23).trans ((KeepsOthers.setCell _ _ _).from _), kb.setCell (p := ⟨b11, 0, none⟩) n11 _,
            .inr ⟨rfl, pre.idxOf (itZ M z k), lv, pre, k6.other (Ne.symm oX.1) _, k7.other (Ne.symm oX.2.1) _, k8.other (Ne.symm oX.2.2.1) _, k11.set _, c10b.other (Ne.symm oX.2.2.2.1) _, hob.set64 k11 (by omega) _, hix, by omega, HRES.out⟩⟩
        · have hhas : has (metD pre) (kL (itZ M z k)) = false := by rw [HAS.out]; exact decide_eq_false hin
          have HRES : Hid (flwA M (most + 1) [] z = flwA M (most - k) (pre ++ [itZ M z k]) (itZ M z (k + 1))) := by show _ = _; rw [HSS.out, if_neg hin]
          have HIN := Lib.hid hin
          have HLL : Hid ((pre.length + 1) * 32 ≤ 140737488355328) := by show _ ≤ _; omega
          have hkm : k < maxLen := by simp only [maxLen]; omega
          have hwf : (Lit.int .i64 (k : Int)).wf = true := WalkArith.wf_i64 (by omega)
          clear hin HAS HSS
          gi_wp2_with (first
            | (refine ⟨trivial, ?_⟩; gi_at_call 27; refine (CallsIn.inRound l (callsIn_wide.2 (hDigits_c (itZ M z k) _ _ VB.iz.out HT0.out (by have := HSZ.out; omega)))).mono ?_; rintro e w2 ⟨rfl, hb2⟩; have VB2 := VB.keep hb2; have q0 := VB2.c0; have q1 := VB2.c1; have HT2 := Lib.hid (HT0.out.below hb2))
            | (refine ⟨trivial, ?_⟩; gi_at_call 29; refine (CallsIn.inRound l (callsIn_wide.2 (hStr_c (itZ M z k) _ _ VB2.iz.out HT2.out (by have := HSZ.out; omega)))).mono ?_; rintro e w3 ⟨rfl, hb3⟩; have hb23 := below_step hb2 hb3; have hfi3 := hfi.below hb23; have m9 := hfi3.2.2.2.2.1.cell; have hm3 := hm.kept (row := none) ⟨hb23.os, hb23.tape, hb23.output, hb23.size, fun i hi _ => hb23.block i hi⟩ (by simp); have VB3 := VB2.keep hb3; clear q0 q1)
            | (gi_at_lookup; refine wpListIn_lookup_own_ok_int _ rfl _ _ 95 rfl 9 3 .i64 (string_keyed Tryz.underlying9) Tryz.underlying95 Tryz.underlying3 (zeroE_ _) bM k (metD pre) rfl hm3 _ _ rfl HKEY.out ?_; intro cc hat hwc; clear hat hwc)
            | (gi_at_mapUpdate; refine wpListIn_mapUpdate_own _ rfl _ _ _ 95 rfl 9 3 (string_keyed Tryz.underlying9) Tryz.underlying95 _ bM k (metD pre) rfl hm3 hkm _ _ (kL (itZ M z k)) rfl rfl HKEY.out _ [] (plainElem_int Tryz.underlying3 hwf) ?_; intro w4 hm4 hg4; have hcM : ∀ r, some bM = some r → ∃ o : Obj, w3.heap[r]? = some o ∧ o.isCells = false := (fun r e => by cases e; obtain ⟨es, ck, hh, -⟩ := hm3; exact ⟨_, hh, rfl⟩); have hk4 := Kp.own hg4 hcM; have VB4 := VB3.grown hg4 (ne_of_cell VB3.c0 hcM) hk4; have c10b := (boxed_below c10 hb23 c10.lt).kept hg4 (ne_of_cell (boxed_below c10 hb23 c10.lt).cell hcM); have hob4 := (ho.below hb23).grown hg4 ((ho.below hb23).row_cells hcM) hk4; have hsz4 : D ≤ w4.heap.size := Nat.le_trans hfi3.2.2.2.2.2.2.2.2 hg4.size; have m10 := c10b.cell; have q0 := VB4.c0; have q1 := VB4.c1)
            | (gi_at_builtin; refine appIn_Z D rfl _ _ 63 57 32 rfl Tryz.underlying63 info_H (by decide) lv pre _ _ _ _ (itZ M z k) hob4 VB4.iz.out rfl rfl hsz4 HLL.out ?_; intro v5 w5 HO5 HB5 HK5 HKO5 hb5; obtain ⟨A5, cc5, rfl, -⟩ := HO5.form; generalize (pre ++ [itZ M z k]).length = L5 at HO5 ⊢; have c10c := boxed_below c10b HB5 (by omega); have p10 := c10c.cell; have pf10 := c10c.frozen))
          obtain ⟨k5, k6, k7, k8, k9, k11, -, kb, -⟩ := hfi3
          have hr5 := ((hr.below hb23).kept hg4 hk4 (by simp; omega) (by simp; omega)).keepB HB5 (by omega) lbn HK5
          have hni : NoInt lv := by
            obtain ⟨A6, cc6, rfl, -⟩ := hob4.form
            exact fun _ _ h => by cases h
          have hkS := Kp.set c10c hni (.slice A5 L5 cc5)
          have hgS := grownBy_setCell' w5 b10 (.slice A5 L5 cc5)
          have bx : ∀ {b t v}, Boxed w3 b t v → b < D → b ≠ b10 → Boxed (w5.setCell ⟨b10, 0, none⟩ (.slice A5 L5 cc5)) b t v := fun h hl hne => ((boxed_below (h.kept hg4 (ne_of_cell h.cell hcM)) HB5 hl).other hne _)
          refine ⟨((KeepsFrom.below hb23).trans (KeepsFrom.of_grownBy hg4 (fun j e => by cases e; omega))).trans ((HKO5.from _).trans ((KeepsOthers.setCell _ _ _).from _)), hr5.kept hgS hkS (by simp; omega) (by simp; omega),
            bx k5 (by omega) (Ne.symm oX.2.2.2.2.1), bx k6 (by omega) (Ne.symm oX.2.2.2.2.2.1), bx k7 (by omega) (Ne.symm oX.2.2.2.2.2.2.1), bx k8 (by omega) (Ne.symm oX.2.2.2.2.2.2.2.1), bx k9 (by omega) (Ne.symm oX.2.2.2.2.2.2.2.2), bx k11 (by omega) oX.2.2.2.1,
            ⟨_, pre ++ [itZ M z k], c10c.set _, HO5.grown hgS (HO5.row_ge (by omega)) hkS, ?_, by rw [List.length_append, h1]; rfl, by omega, ?_, ?_⟩, ?_, ?_⟩
          · rw [metD_snoc, h1]
            exact ((ownsMap_at hm4 (HB5.block bM (by omega))).kept hgS (fun e => oM (by simpa using e)))
          · rw [List.nodup_append]
            exact ⟨H3.out, by simp, fun a ha b hb => by simp at hb; subst hb; exact fun e => HIN.out (e ▸ ha)⟩
          · rw [HRES.out, show most + 1 - (k + 1) = most - k by omega]
          · exact ((kb.grown hg4 kb.size (fun j e => by cases e; exact nM)).trans (HB5.mono lwD)).setCell (p := ⟨b10, 0, none⟩) n10 _
          · exact Nat.le_trans hb5 hgS.size
  case stop =>
    rintro D2 cd W hD2 ⟨hb, hx⟩ hK2
    rcases hx with ⟨rfl, err, c6, c7, c8, hres⟩ | ⟨rfl, i, lv, pre, c6, c7, c8, c11, c10, ho, hi, hpl, hres⟩
    · have HR := Lib.hid hres
      clear hres
      gi_wp2
      rw [Exit.noGoto_ret]
      have hr2 : ∀ r, some D2 = some r → ∃ o : Obj, W.heap[r]? = some o ∧ o.isCells = false := fun r e => by cases e; exact ⟨_, hK2, rfl⟩
      have hg2 := grownBy_putObj' W D2 (.deferred none)
      have m6 := cell_kept c6.cell hg2 hr2; have m7 := cell_kept c7.cell hg2 hr2; have m8 := cell_kept c8.cell hg2 hr2
      have hbb := hb.grown hg2 hb.size (fun r e => by cases e; rw [HDw.out] at hD2; omega)
      refine ⟨by simp, .inl ⟨_, _, rfl, run_takeDeferred hK2, ?_⟩⟩
      refine ⟨.tuple #[.int .i64 0, .slice none 0 0, .int .i64 err], ?_, none, 0, by rw [HR.out] <;> rfl, by rw [HR.out]; exact LsZ.nil _, hbb⟩
      simp [results, Tryz.results28, go_sem, m6, m7, m8]
    · refine wpIn_wide.2 ?_
      have HR := Lib.hid hres
      obtain ⟨Al, cl, rfl, hls⟩ := ho.form
      have hA : ∃ bl ol, Al = some ⟨bl, ol, none⟩ := by
        obtain ⟨b, off, _, _, _, _, e, _⟩ := hls.at (j := 0) (by omega)
        exact ⟨b, off, e⟩
      obtain ⟨bl, ol, rfl⟩ := hA
      have hcl : pre.length ≤ cl := by obtain ⟨_, _, h2, _⟩ := hls; exact h2
      have hplen : ∃ np, pre.length = np := ⟨_, rfl⟩
      obtain ⟨np, hnp⟩ := hplen
      have hic : i ≤ cl := by omega
      have hicl : ¬ cl = i := by omega
      have hil : i ≤ np := by omega
      have hlen : (pre.drop i).length = np - i := by rw [List.length_drop, hnp]
      have HTU : Hid (∀ V, LsZ B9 .u32 V (some ⟨bl, ol + i * 2, none⟩) (cl - i) (pre.drop i) → Calls Tryz.prog 49 #[.slice (some ⟨bl, ol + i * 2, none⟩) (np - i) (cl - i)] V fun e w' => ∃ v, e = .returned v ∧ OwZ B9 .u32 w' V.heap.size 57 v (turnL (pre.drop i)) ∧ Below V.heap.size V w') := by
        intro V hV
        rw [← hlen]
        exact turned_c _ _ _ V hV (List.length_pos_iff.1 (by omega)) (by omega)
      have LD : Hid (LsZ B9 .u32 W (some ⟨bl, ol + i * 2, none⟩) (cl - i) (pre.drop i)) := by
        have h := hls.drop (n := i) (by omega)
        rw [if_neg hicl, Option.map_some, plain_add] at h
        exact h
      rw [hnp] at c10
      have i0 : (0 : Int) ≤ (i : Int) := by omega
      have i1 : (i : Int) ≤ (np : Int) := by omega
      have szW : w1.heap.size < W.heap.size := by rw [HDw.out]; have := (Array.getElem?_eq_some_iff.1 hK2).1; rw [HDw.out] at hD2; omega
      rw [HDw.out] at szW
      clear hres hls hlen ho hi hpl
      have m11 := c11.cell; have m10 := c10.cell
      go_wp2_with fail
      clear m11 m10
      replace LD := Lib.hid (LD.out.below (below_drew (Below.refl _ _)))
      replace hb := below_drew hb
      replace c6 : Boxed W.drew b6 _ _ := c6
      replace c7 : Boxed W.drew b7 _ _ := c7
      replace c8 : Boxed W.drew b8 _ _ := c8
      replace c10 : Boxed W.drew b10 _ _ := c10
      replace c11 : Boxed W.drew b11 _ _ := c11
      replace hK2 : W.drew.heap[D2]? = _ := hK2
      replace szW : D < W.drew.heap.size := szW
      generalize hWd : W.drew = wd at *
      refine Code.wp_mono (Q := Exit.then _ (fun _ _ _ => False)) (fun e a w h => by cases e with | normal => exact h | _ => exact h.elim) ?_
      refine wp_region_held_drew (S := fun w' => w'.cell? ⟨b11, 0, none⟩ = some (.int .i64 (i : Int)) ∧ w'.cell? ⟨b10, 0, none⟩ = some (.slice (some ⟨bl, ol, none⟩) np cl)) (by kernel_rfl) (by rw [hWd]; exact ⟨c11.cell, c10.cell⟩) (fun hHeld => ?_)
      rw [hWd] at hHeld ⊢
      refine wpH_t (i := 0) (oi := { dst := some 48, op := Go.Op.load 3 (Go.Operand.tmp 11), type := 3, pos := "fate.go:34", after := #[], guard := none }) (v := ?_) rfl (by kernel_rfl) (fun _ _ _ h => h) (Or.inl ⟨by rfl, ?_⟩) hHeld ?_; rotate_left
      · intro w_ hSw_; (try dsimp only at hSw_); go_simp; (try with_reducible rfl)
      try go_frame
      refine wpH_t (i := 1) (oi := { dst := some 49, op := Go.Op.load 63 (Go.Operand.tmp 10), type := 63, pos := "fate.go:34", after := #[], guard := none }) (v := ?_) rfl (by kernel_rfl) (fun _ _ _ h => h) (Or.inl ⟨by rfl, ?_⟩) hHeld ?_; rotate_left
      · intro w_ hSw_; (try dsimp only at hSw_); go_simp; (try with_reducible rfl)
      try go_frame
      refine wpH_t (i := 2) (oi := { dst := some 50, op := Go.Op.load 3 (Go.Operand.tmp 11), type := 3, pos := "fate.go:34", after := #[], guard := none }) (v := ?_) rfl (by kernel_rfl) (fun _ _ _ h => h) (Or.inl ⟨by rfl, ?_⟩) hHeld ?_; rotate_left
      · intro w_ hSw_; (try dsimp only at hSw_); go_simp; (try with_reducible rfl)
      try go_frame
      refine wpH_t (i := 3) (oi := { dst := some 51, op := Go.Op.slice 63 (Go.Operand.tmp 49) (some (Go.Operand.tmp 50)) none none, type := 63, pos := "fate.go:34", after := #[{ on := 1, ground := Go.Ground.data }, { on := 2, ground := Go.Ground.data }], guard := none }) (v := ?_) rfl (by kernel_rfl) (fun _ _ _ h => h) (Or.inl ⟨by rfl, ?_⟩) hHeld ?_; rotate_left
      · intro w_ hSw_; (try dsimp only at hSw_); go_simp; (try with_reducible rfl)
      try go_frame
      refine wpAnyH_ready (rs := [4]) (by kernel_rfl) (by simp) ?_
      refine AllReadyH.cons (o := { dst := some 52, op := Go.Op.call { callee := Go.Callee.value (Go.Operand.func 49), args := #[Go.Operand.tmp 51], argTypes := #[63] }, type := 63, pos := "fate.go:34", after := #[{ on := 3, ground := Go.Ground.data }], guard := none }) rfl (fun K hK => ?_) AllReadyH.nil
      go_simp
      (go_at_call 49; (with_reducible refine (HTU.out _ LD.out).mono ?_); rintro e w7 ⟨v7, rfl, HO7, hb7⟩; replace hb := below_step hb hb7; replace c6 := boxed_below c6 hb7 c6.lt; replace c7 := boxed_below c7 hb7 c7.lt; replace c8 := boxed_below c8 hb7 c8.lt; replace c10 := boxed_below c10 hb7 c10.lt; replace c11 := boxed_below c11 hb7 c11.lt; replace hK2 := (hb7.block D2 (Array.getElem?_eq_some_iff.1 hK2).1).trans hK2; obtain ⟨A7, cc7, rfl, -⟩ := HO7.form; have m6 := c6.cell; have m7 := c7.cell; have m8 := c8.cell; have f6 := c6.frozen; have f7 := c7.frozen; have f8 := c8.frozen; clear HTU LD)
      refine hK.out _ _ (by exact ⟨c11.cell, c10.cell⟩) (fun hHeld => ?_)
      clear hK K
      try go_frame
      refine wpAnyH_ready (rs := [5]) (by kernel_rfl) (by simp) ?_
      refine AllReadyH.cons (o := { dst := none, op := Go.Op.store 3 (Go.Operand.tmp 6) (Go.Operand.tmp 48), type := 0, pos := "fate.go:34", after := #[{ on := 0, ground := Go.Ground.data }, { on := 4, ground := Go.Ground.chain }, { on := 0, ground := Go.Ground.phase }, { on := 1, ground := Go.Ground.textOnly Go.Departure.inlinedCapture }, { on := 2, ground := Go.Ground.textOnly Go.Departure.inlinedCapture }, { on := 3, ground := Go.Ground.textOnly Go.Departure.lateStoresUnsure }, { on := 4, ground := Go.Ground.textOnly Go.Departure.lateStoresUnsure }], guard := none }) rfl (fun K hK => ?_) AllReadyH.nil
      go_simp
      skip
      refine hK.out _ _ (by exact ⟨by rw [World.cell?_setCell_other _ _ _ _ (by intro h; injection h with h; omega)]; exact hHeld.1, by rw [World.cell?_setCell_other _ _ _ _ (by intro h; injection h with h; omega)]; exact hHeld.2⟩) (fun hHeld => ?_)
      clear hK K
      try go_frame
      refine wpAnyH_ready (rs := [6]) (by kernel_rfl) (by simp) ?_
      refine AllReadyH.cons (o := { dst := none, op := Go.Op.store 63 (Go.Operand.tmp 7) (Go.Operand.tmp 52), type := 0, pos := "fate.go:34", after := #[{ on := 4, ground := Go.Ground.data }, { on := 5, ground := Go.Ground.chain }, { on := 0, ground := Go.Ground.phase }, { on := 1, ground := Go.Ground.phase }, { on := 2, ground := Go.Ground.phase }, { on := 3, ground := Go.Ground.phase }, { on := 4, ground := Go.Ground.phase }, { on := 5, ground := Go.Ground.phase }], guard := none }) rfl (fun K hK => ?_) AllReadyH.nil
      go_simp
      skip
      refine hK.out _ _ (by exact ⟨by rw [World.cell?_setCell_other _ _ _ _ (by intro h; injection h with h; omega)]; exact hHeld.1, by rw [World.cell?_setCell_other _ _ _ _ (by intro h; injection h with h; omega)]; exact hHeld.2⟩) (fun hHeld => ?_)
      clear hK K
      try go_frame
      refine wpAnyH_ready (rs := [7]) (by kernel_rfl) (by simp) ?_
      refine AllReadyH.cons (o := { dst := none, op := Go.Op.store 32 (Go.Operand.tmp 8) (Go.Operand.const (Go.Value.int Go.IntKind.i64 0)), type := 0, pos := "fate.go:34", after := #[{ on := 6, ground := Go.Ground.chain }, { on := 0, ground := Go.Ground.phase }, { on := 1, ground := Go.Ground.phase }, { on := 2, ground := Go.Ground.phase }, { on := 3, ground := Go.Ground.phase }, { on := 4, ground := Go.Ground.phase }, { on := 5, ground := Go.Ground.phase }, { on := 6, ground := Go.Ground.phase }], guard := none }) rfl (fun K hK => ?_) AllReadyH.nil
      go_simp
      skip
      refine hK.out _ _ (by exact ⟨by rw [World.cell?_setCell_other _ _ _ _ (by intro h; injection h with h; omega)]; exact hHeld.1, by rw [World.cell?_setCell_other _ _ _ _ (by intro h; injection h with h; omega)]; exact hHeld.2⟩) (fun hHeld => ?_)
      clear hK K
      try go_frame
      refine wpAnyH_done (by kernel_rfl) ?_ _
      clear hHeld
      obtain ⟨e6, e7, e8, eo, eb⟩ := st3 c6 c7 c8 o65 o68 o78 (.int .i64 (i : Int)) (.slice A7 (turnL (List.drop i pre)).length cc7) (.int .i64 0) hb n6 n7 n8
      have g1 := HO7.set64 c6 (by omega) (.int .i64 (i : Int))
      have k7 := c7.other (Ne.symm o65) (.int .i64 (i : Int))
      have g2 := g1.grown (grownBy_setCell' _ b7 (.slice A7 (turnL (List.drop i pre)).length cc7)) (g1.row_ge (by omega)) (Kp.set k7 (fun _ _ h => by cases h) _)
      have k8 := (c8.other (Ne.symm o68) (.int .i64 (i : Int))).other (Ne.symm o78) (.slice A7 (turnL (List.drop i pre)).length cc7)
      have g3 := g2.set64 k8 (by omega) (.int .i64 0)
      have hK4 := (eo.from 0).same _ _ (Nat.zero_le _) hK2 rfl
      clear c6 c7 c8 k7 k8 g1 g2 HO7 m6 m7 m8 f6 f7 f8 c10 c11 hK2 eo hb szW
      generalize ((w7.setCell ⟨b6, 0, none⟩ (.int .i64 (i : Int))).setCell ⟨b7, 0, none⟩ (.slice A7 (turnL (List.drop i pre)).length cc7)).setCell ⟨b8, 0, none⟩ (.int .i64 0) = W4 at *
      go_wp2
      rw [Exit.noGoto_ret]
      have hr2 : ∀ r, some D2 = some r → ∃ o : Obj, W4.heap[r]? = some o ∧ o.isCells = false := fun r e => by cases e; exact ⟨_, hK4, rfl⟩
      have hg2 := grownBy_putObj' W4 D2 (.deferred none)
      have m6 := cell_kept e6.cell hg2 hr2; have m7 := cell_kept e7.cell hg2 hr2; have m8 := cell_kept e8.cell hg2 hr2
      have hbb := eb.grown hg2 eb.size (fun r e => by cases e; omega)
      have g4 := g3.grown hg2 (g3.row_cells hr2) (Kp.own hg2 hr2)
      obtain ⟨A9, c9', e9, hl9⟩ := g4.form
      injection e9 with e91 e92 e93
      subst e91 e93
      refine ⟨by simp, .inl ⟨_, _, rfl, run_takeDeferred hK4, ?_⟩⟩
      refine ⟨.tuple #[.int .i64 i, .slice A7 (turnL (List.drop i pre)).length cc7, .int .i64 0], ?_, A7, cc7, by rw [HR.out] <;> rfl, by rw [HR.out]; exact hl9, hbb⟩
      simp [results, Tryz.results28, go_sem, m6, m7, m8]
end Go.Proofs.YtiaeeclmlchpoaaGreatDoor
