/- What step.Run does to memory and what it returns. No condition but that the library's table lies as it should. -/
import Derived.Test.YtiaeeclmlchpoaaDoorZ9
import Derived.Test.YtiaeeclmlchpoaaDoorZC
import Derived.WalkMore
import Derived.Maps.RangeWalk
set_option linter.unusedVariables false
set_option linter.unusedSimpArgs false
namespace Go.Proofs.YtiaeeclmlchpoaaDoor
open Go.RowKit Go.Shelf Go.Maps

attribute [local go_sem] Oper.semAt_some

section
variable (w : World) (b5 b6 b7 D K : Nat) (M : Mp) (z : Int)
/-- What holds between two rounds of Run. -/
def RI (k : Nat) (W : World) : Prop :=
  Boxed W b5 3 (.int .i64 K) ∧ Boxed W b6 9 (.string ⟨#[]⟩) ∧ Boxed W b7 27 (.int .i64 0) ∧ (k ≤ K ∧ runF M K z = runF M (K - k) (itZ M z k)) ∧ Below w.heap.size w W ∧ D ≤ W.heap.size
/-- What holds when a round of Run has left. -/
def RX (c : Code) (W : World) : Prop :=
  Below w.heap.size w W ∧ c = .ret ∧ Boxed W b6 9 (.string (runF M K z).2) ∧ Boxed W b7 27 (.int .i64 (runF M K z).1)
variable {w b5 b6 b7 D K M z}
theorem RI.kept {bn k : Nat} {A B : World} {row : Option Nat} (h : RI w b5 b6 b7 D K M z k A) (hg : A.grownBy B row) (hD : bn < D) (hw : w.heap.size ≤ bn)
    (h5 : b5 < bn) (h6 : b6 < bn) (h7 : b7 < bn)
    (hr : ∀ r, row = some r → r = bn ∨ (D ≤ r ∧ ∃ o : Obj, A.heap[r]? = some o ∧ o.isCells = false)) : RI w b5 b6 b7 D K M z k B := by
  have ne : ∀ b, b < bn → some b ≠ row := fun b hb e => by
    rcases hr b e.symm with h | ⟨h, -⟩ <;> omega
  have wr : ∀ r, row = some r → w.heap.size ≤ r := fun r e => by
    rcases hr r e with h | ⟨h, -⟩ <;> omega
  obtain ⟨c5, c6, c7, h1, hb, hsz⟩ := h
  exact ⟨c5.kept hg (ne _ h5), c6.kept hg (ne _ h6), c7.kept hg (ne _ h7), h1, hb.grown hg hb.size wr, Nat.le_trans hsz hg.size⟩
theorem RI.below {k : Nat} {A B : World} (h : RI w b5 b6 b7 D K M z k A) (hb : Below A.heap.size A B) : RI w b5 b6 b7 D K M z k B := by
  have hg : A.grownBy B none := ⟨hb.os, hb.tape, hb.output, hb.size, fun i hi _ => hb.block i hi⟩
  obtain ⟨c5, c6, c7, h1, hb', hsz⟩ := h
  exact ⟨c5.kept hg (by simp), c6.kept hg (by simp), c7.kept hg (by simp), h1, below_step hb' hb, Nat.le_trans hsz hb.size⟩
theorem RX.kept {c : Code} {A B : World} {row : Option Nat} (h : RX w b6 b7 K M z c A) (hg : A.grownBy B row) (hw : w.heap.size ≤ D)
    (hr : ∀ r, row = some r → D ≤ r ∧ ∃ o : Obj, A.heap[r]? = some o ∧ o.isCells = false) : RX w b6 b7 K M z c B := by
  have hr2 := fun r e => (hr r e).2
  have bk : ∀ {b t v}, Boxed A b t v → Boxed B b t v := fun hb => hb.kept hg (ne_of_cell hb.cell hr2)
  obtain ⟨hb, h1, h2, h3⟩ := h
  exact ⟨hb.grown hg hb.size (fun r e => by have := (hr r e).1; omega), h1, bk h2, bk h3⟩
end
theorem startR (w : World) {md : Int} {A : Option Addr} {n c : Nat} {A' : Option Addr} {n' c' : Nat} {M : Mp} (t t1 t2 t3 : TypeId) (x1 x2 x3 : Value) (W : World) (hM : IsM w (.agg #[.int .i64 md, .slice A n c, .slice A' n' c']) M)
    (hW : (((w.alloc (.cells #[.int .i64 md, .slice A n c, .slice A' n' c'] t)).alloc (.cells #[x1] t1)).alloc (.cells #[x2] t2)).alloc (.cells #[x3] t3) = W) :
    VM W w.heap.size md A n c A' n' c' M ∧ Boxed W (w.heap.size + 1) t1 x1 ∧ Boxed W (w.heap.size + 1 + 1) t2 x2 ∧ Boxed W (w.heap.size + 1 + 1 + 1) t3 x3 ∧ W.heap.size = w.heap.size + 1 + 1 + 1 + 1 ∧ Below w.heap.size w W := by
  have v0 := VM.new w t hM
  have b1 := Boxed.new (w.alloc (.cells #[.int .i64 md, .slice A n c, .slice A' n' c'] t)) t1 x1
  have b2 := Boxed.new ((w.alloc (.cells #[.int .i64 md, .slice A n c, .slice A' n' c'] t)).alloc (.cells #[x1] t1)) t2 x2
  have b3 := Boxed.new (((w.alloc (.cells #[.int .i64 md, .slice A n c, .slice A' n' c'] t)).alloc (.cells #[x1] t1)).alloc (.cells #[x2] t2)) t3 x3
  simp only [World.size_alloc] at b1 b2 b3
  subst hW
  exact ⟨((v0.keep (below_alloc (Below.refl _ _) _)).keep (below_alloc (Below.refl _ _) _)).keep (below_alloc (Below.refl _ _) _), (b1.alloc _).alloc _, b2.alloc _, b3, by simp, below_alloc (below_alloc (below_alloc (below_alloc (Below.refl _ _) _) _) _) _⟩
theorem st2 {W : World} {n b6 b7 : Nat} {t6 t7 : TypeId} {v6 v7 : Value} {w : World} (c6 : Boxed W b6 t6 v6) (c7 : Boxed W b7 t7 v7) (h67 : b6 ≠ b7) (x6 x7 : Value) (hb : Below n w W) (n6 : n ≤ b6) (n7 : n ≤ b7) :
    Boxed ((W.setCell ⟨b6, 0, none⟩ x6).setCell ⟨b7, 0, none⟩ x7) b6 t6 x6 ∧ Boxed ((W.setCell ⟨b6, 0, none⟩ x6).setCell ⟨b7, 0, none⟩ x7) b7 t7 x7 ∧
    KeepsOthers W ((W.setCell ⟨b6, 0, none⟩ x6).setCell ⟨b7, 0, none⟩ x7) ∧ Below n w ((W.setCell ⟨b6, 0, none⟩ x6).setCell ⟨b7, 0, none⟩ x7) := by
  have d6 := (c6.set x6).other h67 x7
  have d7 := (c7.other (Ne.symm h67) x6).set x7
  exact ⟨d6, d7, (KeepsOthers.setCell _ _ _).trans (KeepsOthers.setCell _ _ _), (hb.setCell (p := ⟨b6, 0, none⟩) n6 x6).setCell (p := ⟨b7, 0, none⟩) n7 x7⟩
set_option maxRecDepth 100000 in
set_option maxHeartbeats 8000000 in
theorem Run_ok (M : Mp) (z : Int) (K : Nat) (v : Value) (w : World) (hM : IsM w v M) (hok : okM M) (hz : dlN z.natAbs ≤ 2000) (hK : K ≤ 20000) (ht : Tb w) :
    Calls Tryd.prog 24 #[v, .string (tS z), .int .i64 K] w fun e w' => e = .returned (.tuple #[.string (runF M K z).2, .int .i64 (runF M K z).1]) ∧ Below w.heap.size w w' := by
  obtain ⟨md, A, n, c, A', n', c', rfl, HM⟩ := hM.form
  have HT := Lib.hid ht
  have HOKM := Lib.hid hok
  have HOK : Hid (okB M = true) := okB_iff.2 hok
  have HV := Lib.hid (vld_tS hz)
  have hs := Lib.hid (tS_sz hz)
  have HZ := Lib.hid hz
  have hk0 : (0 : Int) ≤ (K : Int) := by omega
  have hk1 : (K : Int) ≤ 20000 := by omega
  have hkd1 : decide ((K : Int) < 0) = false := decide_eq_false (by omega)
  have hkd2 : decide ((20000 : Int) < (K : Int)) = false := decide_eq_false (by omega)
  have SZ : Hid (∀ k, k < K + 1 → (dg B9 (itZ M z k)).length ≤ 900000000) := fun k hk => by have := itZ_len hok z k; have := len_dlN hz; omega
  clear hM hz ht hok
  refine (callsIn_wide (n := 9)).1 (callsIn_of_wp_marks Tryd.func24 rfl trivial ?_ rfl)
  simp only [Tryd.ntmps24, List.size_toArray, List.length_cons, List.length_nil, Nat.reduceAdd, Nat.reduceSub, Array.replicate_succ, Array.replicate_zero, List.push_toArray, List.append_toArray, List.nil_append, List.cons_append]
  refine wpIn_wide.2 ?_
  go_wp2_with fail
  generalize hW : (((w.alloc (Obj.cells #[Value.int .i64 md, Value.slice A n c, Value.slice A' n' c'] 24)).alloc (Obj.cells #[Value.int .i64 (K : Int)] 3)).alloc (Obj.cells #[Value.string ⟨#[]⟩] 9)).alloc (Obj.cells #[Value.int .i64 0] 27) = W
  obtain ⟨V3, c5, c6, c7, hs4, HB⟩ := startR w _ _ _ _ _ _ _ W HM.out hW
  clear hW
  obtain ⟨b7, e7⟩ : ∃ b, w.heap.size + 1 + 1 + 1 = b := ⟨_, rfl⟩
  obtain ⟨b6, e6⟩ : ∃ b, w.heap.size + 1 + 1 = b := ⟨_, rfl⟩
  obtain ⟨b5, e5⟩ : ∃ b, w.heap.size + 1 = b := ⟨_, rfl⟩
  rw [e7] at c7 ⊢
  rw [e6] at c6 ⊢
  rw [e5] at c5 ⊢
  have n5 : w.heap.size ≤ b5 := by omega
  have n6 : w.heap.size ≤ b6 := by omega
  have n7 : w.heap.size ≤ b7 := by omega
  have o67 : b6 ≠ b7 := by omega
  have l7 : b7 < W.heap.size := by omega
  have l6 : b6 < W.heap.size := by omega
  have l5 : b5 < W.heap.size := by omega
  clear e5 e6 e7 hs4 HM
  (with_reducible refine (SValid_c M _ _ V3.im.out).mono ?_)
  rintro e w2 ⟨he, hb⟩
  replace V3 := V3.keep hb; replace c5 := boxed_below c5 hb c5.lt; replace c6 := boxed_below c6 hb c6.lt; replace c7 := boxed_below c7 hb c7.lt; have zz := hb.size; replace l5 := Nat.lt_of_lt_of_le l5 zz; replace l6 := Nat.lt_of_lt_of_le l6 zz; replace l7 := Nat.lt_of_lt_of_le l7 zz; clear zz
  replace HB := below_step HB hb
  clear hb
  obtain rfl : e = .returned (.bool true) := by rw [he, HOK.out] <;> rfl
  clear he
  go_wp2_with fail
  (with_reducible refine (nValid_c (tS z) _ hs.out).mono ?_)
  rintro e w3 ⟨he, hb⟩
  replace V3 := V3.keep hb; replace c5 := boxed_below c5 hb c5.lt; replace c6 := boxed_below c6 hb c6.lt; replace c7 := boxed_below c7 hb c7.lt; have zz := hb.size; replace l5 := Nat.lt_of_lt_of_le l5 zz; replace l6 := Nat.lt_of_lt_of_le l6 zz; replace l7 := Nat.lt_of_lt_of_le l7 zz; clear zz
  replace HB := below_step HB hb
  clear hb
  obtain rfl : e = .returned (.bool true) := by rw [he, HV.out] <;> rfl
  clear he
  have m5 := c5.cell
  have m0 := V3.c0; have m1 := V3.c1; have m2 := V3.c2
  go_wp2_with fail
  clear m0 m1 m2 m5
  have hb := below_drew (Below.refl w3.heap.size w3)
  replace V3 := V3.keep hb; replace c5 := boxed_below c5 hb c5.lt; replace c6 := boxed_below c6 hb c6.lt; replace c7 := boxed_below c7 hb c7.lt; have zz := hb.size; replace l5 := Nat.lt_of_lt_of_le l5 zz; replace l6 := Nat.lt_of_lt_of_le l6 zz; replace l7 := Nat.lt_of_lt_of_le l7 zz; clear zz
  replace HB := below_drew HB
  clear hb
  generalize hWd : w3.drew = wd at *
  refine Code.wp_mono (Q := Exit.then _ (fun _ _ _ => False)) (fun e a w h => by cases e with | normal => exact h | _ => exact h.elim) ?_
  refine wp_region_held_drew (S := fun w' => w'.cell? ⟨w.heap.size, 0, none⟩ = some (.int .i64 md) ∧ w'.cell? ⟨w.heap.size, 1, none⟩ = some (.slice A n c) ∧ w'.cell? ⟨w.heap.size, 2, none⟩ = some (.slice A' n' c')) (by kernel_rfl) (by rw [hWd]; exact ⟨V3.c0, V3.c1, V3.c2⟩) (fun hHeld => ?_)
  rw [hWd] at hHeld ⊢
  refine wpH_t (i := 0) (oi := { dst := some 26, op := Go.Op.load 24 (Go.Operand.tmp 3), type := 24, pos := "step.go:99", after := #[], guard := none }) (v := ?_) rfl (by kernel_rfl) (fun _ _ _ h => h) (Or.inl ⟨by rfl, ?_⟩) hHeld ?_; rotate_left
  · intro w_ hSw_; (try dsimp only at hSw_); go_simp; (try with_reducible rfl)
  try go_frame
  refine wpH_t (i := 1) (oi := { dst := some 27, op := Go.Op.move (Go.Operand.tmp 1), type := 9, pos := "step.go:99", after := #[], guard := none }) (v := ?_) rfl (by kernel_rfl) (fun _ _ _ h => h) (Or.inl ⟨by rfl, ?_⟩) hHeld ?_; rotate_left
  · intro w_ hSw_; (try dsimp only at hSw_); go_simp; (try with_reducible rfl)
  try go_frame
  refine wpAnyH_ready (rs := [2]) (by kernel_rfl) (by simp) ?_
  refine AllReadyH.cons (o := { dst := some 28, op := Go.Op.call { callee := Go.Callee.value (Go.Operand.func 37), args := #[Go.Operand.tmp 27], argTypes := #[9] }, type := 76, pos := "step.go:99", after := #[{ on := 1, ground := Go.Ground.data }], guard := none }) rfl (fun K hK => ?_) AllReadyH.nil
  go_simp
  (go_at_call 37; (with_reducible refine (hParse_c z _ (by have := HZ.out; omega)).mono ?_); rintro e w4 ⟨v, rfl, hv, hb⟩; obtain ⟨n4, A4, m4, k4, rfl, H4⟩ := hv.form; clear hv; replace V3 := V3.keep hb; replace c5 := boxed_below c5 hb c5.lt; replace c6 := boxed_below c6 hb c6.lt; replace c7 := boxed_below c7 hb c7.lt; have zz := hb.size; replace l5 := Nat.lt_of_lt_of_le l5 zz; replace l6 := Nat.lt_of_lt_of_le l6 zz; replace l7 := Nat.lt_of_lt_of_le l7 zz; clear zz; replace HB := below_step HB hb; clear hb)
  refine hK.out _ _ (by exact ⟨V3.c0, V3.c1, V3.c2⟩) (fun hHeld => ?_)
  clear hK K
  try go_frame
  refine wpAnyH_ready (rs := [3]) (by kernel_rfl) (by simp) ?_
  refine AllReadyH.cons (o := { dst := some 29, op := Go.Op.call { callee := Go.Callee.value (Go.Operand.func 44), args := #[Go.Operand.tmp 26, Go.Operand.tmp 28], argTypes := #[24, 76] }, type := 85, pos := "step.go:99", after := #[{ on := 0, ground := Go.Ground.data }, { on := 2, ground := Go.Ground.data }, { on := 2, ground := Go.Ground.chain }], guard := none }) rfl (fun K hK => ?_) AllReadyH.nil
  go_simp
  (go_at_call 44; (with_reducible refine (Walk_c M z _ _ _ V3.im.out H4.out).mono ?_); rintro e w1 ⟨rfl, ⟨md1, A1, n1, c1, A1', n1', c1', VM1⟩, ⟨nv1, Av1, mv1, kv1, VH1⟩, hb⟩; replace V3 := V3.keep hb; replace c5 := boxed_below c5 hb c5.lt; replace c6 := boxed_below c6 hb c6.lt; replace c7 := boxed_below c7 hb c7.lt; have lw := HB.size; replace HB := below_step HB hb; generalize hbm : w4.heap.size = bm at *)
  refine hK.out _ _ (by exact ⟨V3.c0, V3.c1, V3.c2⟩) (fun hHeld => ?_)
  clear hK K
  try go_frame
  refine wpAnyH_done (by kernel_rfl) ?_ _
  clear hHeld hWd H4
  obtain ⟨bn, ebn⟩ : ∃ b, bm + 1 = b := ⟨_, rfl⟩
  rw [ebn] at VH1 ⊢
  have lbm : bm < bn := by omega
  have lbn : bn < w1.heap.size := VH1.lt
  clear ebn V3
  go_wp2_with fail
  obtain ⟨D, hD⟩ : ∃ D, w1.heap.size = D := ⟨_, rfl⟩
  rw [hD] at lbn
  have HDw := Lib.hid hD
  have lwD : w.heap.size ≤ D := by omega
  have hFK : ∀ (k : Nat) (A B : World) (row : Option Nat), RI w b5 b6 b7 D K M z k A → A.grownBy B row → Kp A B → (∀ r, row = some r → r = bn ∨ (D ≤ r ∧ ∃ o : Obj, A.heap[r]? = some o ∧ o.isCells = false)) → RI w b5 b6 b7 D K M z k B :=
    fun k A B row h hg hk hr => h.kept hg lbn (by omega) (by omega) (by omega) (by omega) hr
  have HFK := Lib.hid hFK
  clear hFK
  refine (wpIn_wide (n := 9)).1 (wpIn_rangeFunc_St (w := w1) (α := XZ) rfl (by omega) (gf := 63) (lb := #[.pointer (some ⟨bn, 0, none⟩), .pointer (some ⟨bm, 0, none⟩)]) rfl trivial (enters_of Tryd.func63 (by kernel_rfl) rfl) (bn := bn) (N := K + 1) (by rw [hD]; exact lbn)
    (Walk1_st M z bm bn (K + 1) _ (by omega) (by omega) HOKM.out SZ.out (by omega)) (fun _ _ => rfl)
    (fun k x => by rw [hD]; exact fun _ A B row h hg hr => h.own hg (fun r e => (hr r e).2)) ⟨(nv1, Av1, mv1, kv1), ⟨_, _, _, _, _, _, _, VM1⟩, VH1⟩
    (RI w b5 b6 b7 D K M z) (RX w b6 b7 K M z)
    (by rw [hD]; exact fun k A B row h hg hr => HFK.out _ _ _ _ h hg (Kp.own hg (fun r e => (hr r e).2)) (fun r e => .inr (hr r e)))
    (by rw [hD]; exact fun c A B row h hg hr => h.kept hg lwD hr)
    (fun k A B h hst => HFK.out _ _ _ _ h hst.1 hst.2 (fun r e => by cases e; exact .inl rfl))
    (fun W h => by obtain ⟨_, _, _, ⟨h, _⟩, _⟩ := h; omega)
    ⟨c5, c6, c7, ⟨Nat.zero_le _, rfl⟩, HB, by omega⟩
    (fun k x a' W => ∃ Bx, D ≤ Bx ∧ VH W Bx x.1 x.2.1 x.2.2.1 x.2.2.2 (itZ M z k) ∧ a' = { tmps := #[Value.agg #[Value.int IntKind.i64 md, Value.slice A n c, Value.slice A' n' c'], Value.string (tS z), Value.int IntKind.i64 (K : Int), Value.pointer (some ⟨w.heap.size, 0, none⟩), undef, Value.pointer (some ⟨b5, 0, none⟩), Value.pointer (some ⟨b6, 0, none⟩), Value.pointer (some ⟨b7, 0, none⟩), Value.int IntKind.i64 (k : Int), Value.pointer (some ⟨Bx, 0, none⟩), Value.bool false, Value.agg #[Value.int IntKind.i64 md, Value.slice A n c, Value.slice A' n' c'], Value.bool true, Value.bool false, Value.bool false, Value.string (tS z), Value.bool true, Value.bool false, Value.bool false, Value.bool false, Value.int IntKind.i64 (K : Int), Value.bool false, Value.bool false, Value.int IntKind.i64 (K : Int), Value.bool false, Value.bool false, Value.agg #[Value.int IntKind.i64 md, Value.slice A n c, Value.slice A' n' c'], Value.string (tS z), Value.agg #[Value.bool n4, Value.slice A4 m4 k4], Value.func (Fn.func 63) #[] #[Value.pointer (some ⟨bn, 0, none⟩), Value.pointer (some ⟨bm, 0, none⟩)], Value.int IntKind.i64 (k : Int), Value.agg #[Value.bool x.1, Value.slice x.2.1 x.2.2.1 x.2.2.2], undef, undef, undef, undef, undef, undef, undef, undef, undef], defers := [] })
    (fun k x a' => by
      rw [hD]
      rintro _ A B row ⟨Bx, h1, h2, h3⟩ hg hr
      have hr2 := fun r e => (hr r e).2
      exact ⟨Bx, h1, h2.grown hg (ne_of_cell h2.c0 hr2) (Kp.own hg hr2), h3⟩)
    ?assign ?body ?stop)
  case assign =>
    intro l k x W K hi hr hK
    gi_wp2
    have hb := below_alloc (Below.refl W.heap.size W) (Obj.cells #[Value.bool x.1, Value.slice x.2.1 x.2.2.1 x.2.2.2] 76)
    exact hK _ _ (KeepsFrom.below hb) (hr.below hb) (hi.below hb) ⟨W.heap.size, hi.2.2.2.2.2, VX.new W _ hr.2.iz.out, rfl⟩
  case body =>
    rintro l k x a' W hfi hr ⟨Bx, hBx, VB, rfl⟩ hkN
    have hfi' := hfi
    obtain ⟨c5', c6', c7', ⟨h1, h2⟩, hb, hsz⟩ := hfi'
    have HT0 := Lib.hid (HT.out.below hb)
    have HSZ := Lib.hid (SZ.out k hkN)
    have v0 := VB.c0; have v1 := VB.c1
    have hlz : (dg B9 (itZ M z k)).length ≤ 1000000000 := by have := HSZ.out; omega
    cases hd : decide (2000 < dl (itZ M z k)) with
    | true =>
      have HD := Lib.hid hd
      have HRES : Hid (runF M K z = (3, ⟨#[]⟩)) := by
        show _ = _
        rw [h2]
        cases hkk : K - k with
        | zero => unfold runF; rw [if_pos (of_decide_eq_true hd)]
        | succ f => unfold runF; rw [if_pos (of_decide_eq_true hd)]
      clear hd h2
      gi_wp2_with (refine ⟨trivial, ?_⟩; gi_at_call 45; refine (CallsIn.inRound l (callsIn_wide.2 (long_c (itZ M z k) _ _ VB.iz.out HT0.out hlz))).mono ?_; rw [HD.out]; rintro e w2 ⟨rfl, hb2⟩; have e6 := (hfi.below hb2).2.1; have e7 := (hfi.below hb2).2.2.1; have m6 := e6.cell; have m7 := e7.cell; have f6 := e6.frozen; have f7 := e7.frozen)
      obtain ⟨c5', c6', c7', -, hb', -⟩ := hfi.below hb2
      obtain ⟨e6, e7, eo, eb⟩ := st2 c6' c7' o67 (.string ⟨#[]⟩) (.int .i64 3) hb' n6 n7
      exact ⟨(KeepsFrom.below hb2).trans (eo.from _), eb, rfl, by rw [HRES.out]; exact e6, by rw [HRES.out]; exact e7⟩
    | false =>
      have HD := Lib.hid hd
      have hd1 := of_decide_eq_false hd
      by_cases hkK : k = K
      · have HRES : Hid (runF M K z = (0, tS (itZ M z k))) := by
          show _ = _
          rw [h2, hkK, Nat.sub_self]; unfold runF; rw [hkK] at hd1; rw [if_neg hd1]
        have hkb : ((k : Int) == (K : Int)) = true := by simp; omega
        clear hd hd1 h2 hkK
        gi_wp2_with (first
          | (refine ⟨trivial, ?_⟩; gi_at_call 45; refine (CallsIn.inRound l (callsIn_wide.2 (long_c (itZ M z k) _ _ VB.iz.out HT0.out hlz))).mono ?_; rw [HD.out]; rintro e w2 ⟨rfl, hb2⟩; have e5 := (hfi.below hb2).1; have m5 := e5.cell; have VB2 := VB.keep hb2; have q0 := VB2.c0; have q1 := VB2.c1; have HT2 := Lib.hid (HT0.out.below hb2))
          | (refine ⟨trivial, ?_⟩; gi_at_call 38; refine (CallsIn.inRound l (callsIn_wide.2 (hStr_c (itZ M z k) _ _ VB2.iz.out HT2.out hlz))).mono ?_; rintro e w3 ⟨rfl, hb3⟩; have hb23 := below_step hb2 hb3; have e6 := (hfi.below hb23).2.1; have e7 := (hfi.below hb23).2.2.1; have m6 := e6.cell; have m7 := e7.cell; have f6 := e6.frozen; have f7 := e7.frozen; clear q0 q1 m5))
        obtain ⟨c5', c6', c7', -, hb', -⟩ := hfi.below hb23
        obtain ⟨e6, e7, eo, eb⟩ := st2 c6' c7' o67 (.string (tS (itZ M z k))) (.int .i64 0) hb' n6 n7
        exact ⟨(KeepsFrom.below hb23).trans (eo.from _), eb, rfl, by rw [HRES.out]; exact e6, by rw [HRES.out]; exact e7⟩
      · have HRES : Hid (runF M K z = runF M (K - (k + 1)) (itZ M z (k + 1))) := by
          show _ = _
          rw [h2, show K - k = (K - (k + 1)) + 1 by omega]
          conv => lhs; unfold runF
          rw [if_neg hd1]; rfl
        have hkb : ((k : Int) == (K : Int)) = false := by simp; omega
        have HKK : Hid (k + 1 ≤ K) := by show _ ≤ _; omega
        clear hd hd1 h2 hkK
        gi_wp2_with (refine ⟨trivial, ?_⟩; gi_at_call 45; refine (CallsIn.inRound l (callsIn_wide.2 (long_c (itZ M z k) _ _ VB.iz.out HT0.out hlz))).mono ?_; rw [HD.out]; rintro e w2 ⟨rfl, hb2⟩; have e5 := (hfi.below hb2).1; have m5 := e5.cell)
        obtain ⟨c5', c6', c7', -, hb', hsz'⟩ := hfi.below hb2
        exact ⟨KeepsFrom.below hb2, hr.below hb2, c5', c6', c7', ⟨HKK.out, HRES.out⟩, hb', hsz'⟩
  case stop =>
    rintro D2 cd W hD2 ⟨hb, rfl, c6, c7⟩ hK2
    gi_wp2
    have hr2 : ∀ r, some D2 = some r → ∃ o : Obj, W.heap[r]? = some o ∧ o.isCells = false := fun r e => by cases e; exact ⟨_, hK2, rfl⟩
    have hg2 := grownBy_putObj' W D2 (.deferred none)
    have m6 := cell_kept c6.cell hg2 hr2; have m7 := cell_kept c7.cell hg2 hr2
    have hbb := hb.grown hg2 hb.size (fun r e => by cases e; rw [HDw.out] at hD2; omega)
    refine ⟨by simp, .inl ⟨_, _, rfl, run_takeDeferred hK2, ?_⟩⟩
    refine ⟨.tuple #[.string (runF M K z).2, .int .i64 (runF M K z).1], ?_, rfl, hbb⟩
    simp [results, Tryd.results24, go_sem, m6, m7]
end Go.Proofs.YtiaeeclmlchpoaaDoor
