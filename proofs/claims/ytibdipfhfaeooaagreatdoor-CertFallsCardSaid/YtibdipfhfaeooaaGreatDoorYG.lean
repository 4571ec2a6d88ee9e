/- step.Falls, where the number falls below itself within the steps. No condition but that the library's table lies as it should. -/
import Derived.Test.YtibdipfhfaeooaaGreatDoorZD
import Derived.WalkMore
set_option linter.unusedVariables false
set_option linter.unusedSimpArgs false
namespace Go.Proofs.YtibdipfhfaeooaaGreatDoor
open Go.RowKit Go.Shelf Go.Maps

attribute [local go_sem] Oper.semAt_some
set_option maxRecDepth 100000 in
set_option maxHeartbeats 4000000 in
theorem longF_c (z : Int) (v : Value) (w : World) (h : IsH w v z) (ht : Tb w) (sz : (dg B9 z).length ≤ 1000000000) :
  Calls Tryz.prog 89 #[v] w fun e w' => e = .returned (.bool (decide (2000 < dl z))) ∧ Below w.heap.size w w' := by
 obtain ⟨na, A, n, c, rfl, H⟩ := h.form
 clear h
 have hd : decide ((2000 : Int) < (dl z : Int)) = decide (2000 < dl z) := by rw [decide_eq_decide]; omega
 have HD := Lib.hid hd
 have HT := Lib.hid ht
 clear hd ht
 go_enter Tryz.func89, Tryz.ntmps89
 go_wp2_with (go_at_call 127; (with_reducible refine (hDigits_c z _ _ (by exact H.out.below (by repeat (with_reducible first | assumption | exact Below.refl _ _ | apply below_drew | apply below_drewN | apply below_alloc | refine below_step ?_ (by assumption)))) (by exact HT.out.below (by repeat (with_reducible first | assumption | exact Below.refl _ _ | apply below_drew | apply below_drewN | apply below_alloc | refine below_step ?_ (by assumption)))) sz).mono ?_); rintro e w1 ⟨rfl, hb1⟩)
 go_ret
 exact ⟨by rw [← HD.out]; rfl, below_step (below_alloc (Below.refl _ _) _) hb1⟩
/-- What Falls tells. -/
def FallR (M : Mp) (z : Int) (K : Nat) (r0 : Int) (r1 : ByteArray) (r2 : Int) : Prop :=
 (r0 = 0 ∧ r1 = ⟨#[]⟩ ∧ r2 = 3) ∨ ∃ i : Nat, 1 ≤ i ∧ i ≤ K ∧ itZ M z i < z ∧ dl (itZ M z i) ≤ 2000 ∧ r0 = (i : Int) ∧ r1 = tS (itZ M z i) ∧ r2 = 0
section
variable (w : World) (b5 b6 b7 b8 b9 D K : Nat) (M : Mp) (z : Int) (n9 : Bool) (A9 : Option Addr) (m9 k9 : Nat)
/-- What holds between two rounds of Falls. -/
def LI (k : Nat) (W : World) : Prop :=
 Boxed W b5 3 (.int .i64 K) ∧ Boxed W b6 3 (.int .i64 0) ∧ Boxed W b7 9 (.string ⟨#[]⟩) ∧ Boxed W b8 31 (.int .i64 0) ∧ VH W b9 n9 A9 m9 k9 z ∧ (k ≤ K ∧ ∀ j, j < k → ¬ itZ M z j < z) ∧ Below w.heap.size w W ∧ D ≤ W.heap.size
/-- What holds when a round of Falls has left. -/
def LX (c : Code) (W : World) : Prop :=
 Below w.heap.size w W ∧ c = .ret ∧ ∃ r0 r1 r2, Boxed W b6 3 (.int .i64 r0) ∧ Boxed W b7 9 (.string r1) ∧ Boxed W b8 31 (.int .i64 r2) ∧ FallR M z K r0 r1 r2
variable {w b5 b6 b7 b8 b9 D K M z n9 A9 m9 k9}
theorem LI.kept {bn k : Nat} {A B : World} {row : Option Nat} (h : LI w b5 b6 b7 b8 b9 D K M z n9 A9 m9 k9 k A) (hg : A.grownBy B row) (hk : Kp A B) (hD : bn < D) (hw : w.heap.size ≤ bn)
  (h5 : b5 < bn) (h6 : b6 < bn) (h7 : b7 < bn) (h8 : b8 < bn) (h9 : b9 < bn)
  (hr : ∀ r, row = some r → r = bn ∨ (D ≤ r ∧ ∃ o : Obj, A.heap[r]? = some o ∧ o.isCells = false)) : LI w b5 b6 b7 b8 b9 D K M z n9 A9 m9 k9 k B := by
 have ne : ∀ b, b < bn → some b ≠ row := fun b hb e => by
  rcases hr b e.symm with h | ⟨h, -⟩ <;> omega
 have wr : ∀ r, row = some r → w.heap.size ≤ r := fun r e => by
  rcases hr r e with h | ⟨h, -⟩ <;> omega
 obtain ⟨c5, c6, c7, c8, c9, h1, hb, hsz⟩ := h
 exact ⟨c5.kept hg (ne _ h5), c6.kept hg (ne _ h6), c7.kept hg (ne _ h7), c8.kept hg (ne _ h8), c9.grown hg (ne _ h9) hk, h1, hb.grown hg hb.size wr, Nat.le_trans hsz hg.size⟩
theorem LI.below {k : Nat} {A B : World} (h : LI w b5 b6 b7 b8 b9 D K M z n9 A9 m9 k9 k A) (hb : Below A.heap.size A B) : LI w b5 b6 b7 b8 b9 D K M z n9 A9 m9 k9 k B := by
 have hg : A.grownBy B none := ⟨hb.os, hb.tape, hb.output, hb.size, fun i hi _ => hb.block i hi⟩
 obtain ⟨c5, c6, c7, c8, c9, h1, hb', hsz⟩ := h
 exact ⟨c5.kept hg (by simp), c6.kept hg (by simp), c7.kept hg (by simp), c8.kept hg (by simp), c9.keep hb, h1, below_step hb' hb, Nat.le_trans hsz hb.size⟩
theorem LX.kept {c : Code} {A B : World} {row : Option Nat} (h : LX w b6 b7 b8 K M z c A) (hg : A.grownBy B row) (hw : w.heap.size ≤ D)
  (hr : ∀ r, row = some r → D ≤ r ∧ ∃ o : Obj, A.heap[r]? = some o ∧ o.isCells = false) : LX w b6 b7 b8 K M z c B := by
 have hr2 := fun r e => (hr r e).2
 have bk : ∀ {b t v}, Boxed A b t v → Boxed B b t v := fun hb => hb.kept hg (ne_of_cell hb.cell hr2)
 obtain ⟨hb, h1, r0, r1, r2, h2, h3, h4, h5⟩ := h
 exact ⟨hb.grown hg hb.size (fun r e => by have := (hr r e).1; omega), h1, r0, r1, r2, bk h2, bk h3, bk h4, h5⟩
end
theorem startFl (w : World) {md : Int} {A : Option Addr} {n c : Nat} {A' : Option Addr} {n' c' : Nat} {M : Mp} (t t1 t2 t3 t4 : TypeId) (x1 x2 x3 x4 : Value) (W : World) (hM : IsM w (.agg #[.int .i64 md, .slice A n c, .slice A' n' c']) M)
  (hW : ((((w.alloc (.cells #[.int .i64 md, .slice A n c, .slice A' n' c'] t)).alloc (.cells #[x1] t1)).alloc (.cells #[x2] t2)).alloc (.cells #[x3] t3)).alloc (.cells #[x4] t4) = W) :
  VM W w.heap.size md A n c A' n' c' M ∧ Boxed W (w.heap.size + 1) t1 x1 ∧ Boxed W (w.heap.size + 1 + 1) t2 x2 ∧ Boxed W (w.heap.size + 1 + 1 + 1) t3 x3 ∧ Boxed W (w.heap.size + 1 + 1 + 1 + 1) t4 x4 ∧ W.heap.size = w.heap.size + 1 + 1 + 1 + 1 + 1 ∧ Below w.heap.size w W := by
 have v0 := VM.new w t hM
 have b1 := Boxed.new (w.alloc (.cells #[.int .i64 md, .slice A n c, .slice A' n' c'] t)) t1 x1
 have b2 := Boxed.new ((w.alloc (.cells #[.int .i64 md, .slice A n c, .slice A' n' c'] t)).alloc (.cells #[x1] t1)) t2 x2
 have b3 := Boxed.new (((w.alloc (.cells #[.int .i64 md, .slice A n c, .slice A' n' c'] t)).alloc (.cells #[x1] t1)).alloc (.cells #[x2] t2)) t3 x3
 have b4 := Boxed.new ((((w.alloc (.cells #[.int .i64 md, .slice A n c, .slice A' n' c'] t)).alloc (.cells #[x1] t1)).alloc (.cells #[x2] t2)).alloc (.cells #[x3] t3)) t4 x4
 simp only [World.size_alloc] at b1 b2 b3 b4
 subst hW
 exact ⟨(((v0.keep (below_alloc (Below.refl _ _) _)).keep (below_alloc (Below.refl _ _) _)).keep (below_alloc (Below.refl _ _) _)).keep (below_alloc (Below.refl _ _) _), ((b1.alloc _).alloc _).alloc _, (b2.alloc _).alloc _, b3.alloc _, b4, by simp, below_alloc (below_alloc (below_alloc (below_alloc (below_alloc (Below.refl _ _) _) _) _) _) _⟩
set_option maxRecDepth 100000 in
set_option maxHeartbeats 8000000 in
theorem Falls_ok (M : Mp) (z : Int) (K : Nat) (v : Value) (w : World) (hM : IsM w v M) (hok : okM M) (hz : dlN z.natAbs ≤ 2000) (hK1 : 1 ≤ K) (hK : K ≤ 20000) (hf : ∃ i, 1 ≤ i ∧ i ≤ K ∧ itZ M z i < z) (ht : Tb w) :
  Calls Tryz.prog 45 #[v, .string (tS z), .int .i64 K] w fun e w' => (∃ r0 r1 r2, e = .returned (.tuple #[.int .i64 r0, .string r1, .int .i64 r2]) ∧ FallR M z K r0 r1 r2) ∧ Below w.heap.size w w' := by
 obtain ⟨md, A, n, c, A', n', c', rfl, HM⟩ := hM.form
 have HT := Lib.hid ht
 have HOKM := Lib.hid hok
 have HOK : Hid (okB M = true) := okB_iff.2 hok
 have HV := Lib.hid (vld_tS hz)
 have hs := Lib.hid (tS_sz hz)
 have HZ := Lib.hid hz
 have HF := Lib.hid hf
 have hk0 : ¬ (K : Int) < 1 := by omega
 have hk1 : ¬ (20000 : Int) < (K : Int) := by omega
 have hkd1 : decide ((K : Int) < 1) = false := decide_eq_false hk0
 have hkd2 : decide ((20000 : Int) < (K : Int)) = false := decide_eq_false hk1
 have SZ : Hid (∀ k, k < K + 1 → (dg B9 (itZ M z k)).length ≤ 900000000) := fun k hk => by have := itZ_len hok z k; have := len_dlN hz; omega
 clear hM hz ht hok hf
 refine (callsIn_wide (n := 9)).1 (callsIn_of_wp_marks Tryz.func45 rfl trivial ?_ rfl)
 simp only [Tryz.ntmps45, List.size_toArray, List.length_cons, List.length_nil, Nat.reduceAdd, Nat.reduceSub, Array.replicate_succ, Array.replicate_zero, List.push_toArray, List.append_toArray, List.nil_append, List.cons_append]
 refine wpIn_wide.2 ?_
 go_wp2_with fail
 generalize hW : ((((w.alloc (Obj.cells #[Value.int .i64 md, Value.slice A n c, Value.slice A' n' c'] 24)).alloc (Obj.cells #[Value.int .i64 (K : Int)] 3)).alloc (Obj.cells #[Value.int .i64 0] 3)).alloc (Obj.cells #[Value.string ⟨#[]⟩] 9)).alloc (Obj.cells #[Value.int .i64 0] 31) = W
 obtain ⟨V3, c5, c6, c7, c8, hs4, HB⟩ := startFl w _ _ _ _ _ _ _ _ _ W HM.out hW
 clear hW
 obtain ⟨b8, e8⟩ : ∃ b, w.heap.size + 1 + 1 + 1 + 1 = b := ⟨_, rfl⟩
 obtain ⟨b7, e7⟩ : ∃ b, w.heap.size + 1 + 1 + 1 = b := ⟨_, rfl⟩
 obtain ⟨b6, e6⟩ : ∃ b, w.heap.size + 1 + 1 = b := ⟨_, rfl⟩
 obtain ⟨b5, e5⟩ : ∃ b, w.heap.size + 1 = b := ⟨_, rfl⟩
 rw [e8] at c8 ⊢
 rw [e7] at c7 ⊢
 rw [e6] at c6 ⊢
 rw [e5] at c5 ⊢
 have n5 : w.heap.size ≤ b5 := by omega
 have n6 : w.heap.size ≤ b6 := by omega
 have n7 : w.heap.size ≤ b7 := by omega
 have n8 : w.heap.size ≤ b8 := by omega
 have o67 : b6 ≠ b7 := by omega
 have o68 : b6 ≠ b8 := by omega
 have o78 : b7 ≠ b8 := by omega
 have l8 : b8 < W.heap.size := by omega
 have l57 : b5 < b8 ∧ b6 < b8 ∧ b7 < b8 := by omega
 clear e5 e6 e7 e8 hs4 HM
 (with_reducible refine (SValid_c M _ _ V3.im.out).mono ?_)
 rintro e w2 ⟨he, hb⟩
 replace V3 := V3.keep hb; replace c5 := boxed_below c5 hb c5.lt; replace c6 := boxed_below c6 hb c6.lt; replace c7 := boxed_below c7 hb c7.lt; replace c8 := boxed_below c8 hb c8.lt; replace l8 := Nat.lt_of_lt_of_le l8 hb.size
 replace HB := below_step HB hb
 clear hb
 obtain rfl : e = .returned (.bool true) := by rw [he, HOK.out] <;> rfl
 clear he
 go_wp2_with fail
 (with_reducible refine (nValid_c (tS z) _ hs.out).mono ?_)
 rintro e w3 ⟨he, hb⟩
 replace V3 := V3.keep hb; replace c5 := boxed_below c5 hb c5.lt; replace c6 := boxed_below c6 hb c6.lt; replace c7 := boxed_below c7 hb c7.lt; replace c8 := boxed_below c8 hb c8.lt; replace l8 := Nat.lt_of_lt_of_le l8 hb.size
 replace HB := below_step HB hb
 clear hb
 obtain rfl : e = .returned (.bool true) := by rw [he, HV.out] <;> rfl
 clear he
 have m5 := c5.cell
 go_wp2_with fail
 (with_reducible refine (hParse_c z _ (by have := HZ.out; omega)).mono ?_)
 rintro e w4 ⟨v, rfl, hv, hb⟩
 obtain ⟨n9, A9, m9, k9, rfl, H9⟩ := hv.form; clear hv
 replace V3 := V3.keep hb; replace c5 := boxed_below c5 hb c5.lt; replace c6 := boxed_below c6 hb c6.lt; replace c7 := boxed_below c7 hb c7.lt; replace c8 := boxed_below c8 hb c8.lt; replace l8 := Nat.lt_of_lt_of_le l8 hb.size
 replace HB := below_step HB hb
 clear hb m5
 go_upto_region 6 with fail
 have V9 := VX.new w4 118 H9.out
 have hb := below_alloc (Below.refl w4.heap.size w4) (Obj.cells #[Value.bool n9, Value.slice A9 m9 k9] 118)
 have l89 := l8
 replace V3 := V3.keep hb; replace c5 := boxed_below c5 hb c5.lt; replace c6 := boxed_below c6 hb c6.lt; replace c7 := boxed_below c7 hb c7.lt; replace c8 := boxed_below c8 hb c8.lt; replace l8 := Nat.lt_of_lt_of_le l8 hb.size
 replace HB := below_step HB hb
 generalize hWa : w4.alloc (Obj.cells #[Value.bool n9, Value.slice A9 m9 k9] 118) = w5 at *
 obtain ⟨b9, hb9⟩ : ∃ b, w4.heap.size = b := ⟨_, rfl⟩
 rw [hb9] at V9 l89 ⊢
 clear hWa hb hb9 H9
 have m0 := V3.c0; have m1 := V3.c1; have m2 := V3.c2; have x0 := V9.c0; have x1 := V9.c1
 refine Code.wp_mono (Q := Exit.then _ (fun _ _ _ => False)) (fun e a w h => by cases e with | normal => exact h | _ => exact h.elim) ?_
 go_wp2_with fail
 (with_reducible refine (Walk_c M z _ _ _ V3.im.out V9.iz.out).mono ?_)
 rintro e w1 ⟨rfl, ⟨md1, A1, n1, c1, A1', n1', c1', VM1⟩, ⟨nv1, Av1, mv1, kv1, VH1⟩, hb⟩
 have lb9 := V9.lt
 replace V9 := V9.keep hb
 replace V3 := V3.keep hb; replace c5 := boxed_below c5 hb c5.lt; replace c6 := boxed_below c6 hb c6.lt; replace c7 := boxed_below c7 hb c7.lt; replace c8 := boxed_below c8 hb c8.lt; replace l8 := Nat.lt_of_lt_of_le l8 hb.size
 have lw := HB.size
 replace HB := below_step HB hb
 generalize hbm : w5.heap.size = bm at *
 clear hb m0 m1 m2 x0 x1
 obtain ⟨bn, ebn⟩ : ∃ b, bm + 1 = b := ⟨_, rfl⟩
 rw [ebn] at VH1 ⊢
 have lbm : bm < bn := by omega
 have lbn : bn < w1.heap.size := VH1.lt
 clear ebn V3
 go_wp2_with fail
 obtain ⟨D, hD⟩ : ∃ D, w1.heap.size = D := ⟨_, rfl⟩
 rw [hD] at lbn
 have HDw := Lib.hid hD
 have lwD : w.heap.size ≤ D := by omega
 have hFK : ∀ (k : Nat) (A B : World) (row : Option Nat), LI w b5 b6 b7 b8 b9 D K M z n9 A9 m9 k9 k A → A.grownBy B row → Kp A B → (∀ r, row = some r → r = bn ∨ (D ≤ r ∧ ∃ o : Obj, A.heap[r]? = some o ∧ o.isCells = false)) → LI w b5 b6 b7 b8 b9 D K M z n9 A9 m9 k9 k B :=
  fun k A B row h hg hk hr => h.kept hg hk lbn (by omega) (by omega) (by omega) (by omega) (by omega) (by omega) hr
 have HFK := Lib.hid hFK
 clear hFK
 refine (wpIn_wide (n := 9)).1 (wpIn_rangeFunc_St (w := w1) (α := XZ) rfl (by omega) (gf := 129) (lb := #[.pointer (some ⟨bn, 0, none⟩), .pointer (some ⟨bm, 0, none⟩)]) rfl trivial (enters_of Tryz.func129 (by kernel_rfl) rfl) (bn := bn) (N := K + 1) (by rw [hD]; exact lbn)
  (Walk1_st M z bm bn (K + 1) _ (by omega) (by omega) HOKM.out SZ.out (by omega)) (fun _ _ => rfl)
  (fun k x => by rw [hD]; exact fun _ A B row h hg hr => h.own hg (fun r e => (hr r e).2)) ⟨(nv1, Av1, mv1, kv1), ⟨_, _, _, _, _, _, _, VM1⟩, VH1⟩
  (LI w b5 b6 b7 b8 b9 D K M z n9 A9 m9 k9) (LX w b6 b7 b8 K M z)
  (by rw [hD]; exact fun k A B row h hg hr => HFK.out _ _ _ _ h hg (Kp.own hg (fun r e => (hr r e).2)) (fun r e => .inr (hr r e)))
  (by rw [hD]; exact fun c A B row h hg hr => h.kept hg lwD hr)
  (fun k A B h hst => HFK.out _ _ _ _ h hst.1 hst.2 (fun r e => by cases e; exact .inl rfl))
  (fun W h => by obtain ⟨_, _, _, _, _, ⟨h, _⟩, _⟩ := h; omega)
  ⟨c5, c6, c7, c8, V9, ⟨Nat.zero_le _, fun j h => absurd h (by omega)⟩, HB, by omega⟩
  (fun k x a' W => ∃ Bx, D ≤ Bx ∧ VH W Bx x.1 x.2.1 x.2.2.1 x.2.2.2 (itZ M z k) ∧ a' = { tmps := #[Value.agg #[Value.int IntKind.i64 md, Value.slice A n c, Value.slice A' n' c'], Value.string (tS z), Value.int IntKind.i64 (K : Int), Value.pointer (some ⟨w.heap.size, 0, none⟩), undef, Value.pointer (some ⟨b5, 0, none⟩), Value.pointer (some ⟨b6, 0, none⟩), Value.pointer (some ⟨b7, 0, none⟩), Value.pointer (some ⟨b8, 0, none⟩), Value.pointer (some ⟨b9, 0, none⟩), Value.int IntKind.i64 (k : Int), Value.pointer (some ⟨Bx, 0, none⟩), Value.bool false, Value.agg #[Value.int IntKind.i64 md, Value.slice A n c, Value.slice A' n' c'], Value.bool true, Value.bool false, Value.bool false, Value.string (tS z), Value.bool true, Value.bool false, Value.bool false, Value.bool false, Value.int IntKind.i64 (K : Int), Value.bool false, Value.bool false, Value.int IntKind.i64 (K : Int), Value.bool false, Value.bool false, Value.string (tS z), Value.agg #[Value.bool n9, Value.slice A9 m9 k9], Value.agg #[Value.int IntKind.i64 md, Value.slice A n c, Value.slice A' n' c'], Value.agg #[Value.bool n9, Value.slice A9 m9 k9], Value.func (Fn.func 129) #[] #[Value.pointer (some ⟨bn, 0, none⟩), Value.pointer (some ⟨bm, 0, none⟩)], Value.int IntKind.i64 (k : Int), Value.agg #[Value.bool x.1, Value.slice x.2.1 x.2.2.1 x.2.2.2], undef, undef, undef, undef, undef, undef, undef, undef, undef, undef, undef, undef, undef, undef, undef], defers := [] })
  (fun k x a' => by
   rw [hD]
   rintro _ A B row ⟨Bx, h1, h2, h3⟩ hg hr
   have hr2 := fun r e => (hr r e).2
   exact ⟨Bx, h1, h2.grown hg (ne_of_cell h2.c0 hr2) (Kp.own hg hr2), h3⟩)
  ?assign ?body ?stop)
 case assign =>
  intro l k x W K hi hr hK
  gi_wp2
  have hb := below_alloc (Below.refl W.heap.size W) (Obj.cells #[Value.bool x.1, Value.slice x.2.1 x.2.2.1 x.2.2.2] 118)
  exact hK _ _ (KeepsFrom.below hb) (hr.below hb) (hi.below hb) ⟨W.heap.size, hi.2.2.2.2.2.2.2, VX.new W _ hr.2.iz.out, rfl⟩
 case body =>
  rintro l k x a' W hfi hr ⟨Bx, hBx, VB, rfl⟩ hkN
  have hfi' := hfi
  obtain ⟨c5', c6', c7', c8', V9', ⟨h1, h2⟩, hb, hsz⟩ := hfi'
  have HT0 := Lib.hid (HT.out.below hb)
  have HSZ := Lib.hid (SZ.out k hkN)
  have HNF := Lib.hid h2
  have v0 := VB.c0; have v1 := VB.c1
  have hlz : (dg B9 (itZ M z k)).length ≤ 1000000000 := by have := HSZ.out; omega
  have HLZ := Lib.hid hlz
  clear h2
  cases hd : decide (2000 < dl (itZ M z k)) with
  | true =>
   have HD := Lib.hid hd
   clear hd
   gi_wp2_with (refine ⟨trivial, ?_⟩; gi_at_call 89; refine (CallsIn.inRound l (callsIn_wide.2 (longF_c (itZ M z k) _ _ VB.iz.out HT0.out hlz))).mono ?_; rw [HD.out]; rintro e w2 ⟨rfl, hb2⟩; have e6 := (hfi.below hb2).2.1; have e7 := (hfi.below hb2).2.2.1; have e8 := (hfi.below hb2).2.2.2.1; have m6 := e6.cell; have m7 := e7.cell; have m8 := e8.cell; have f6 := e6.frozen; have f7 := e7.frozen; have f8 := e8.frozen)
   obtain ⟨c5', c6', c7', c8', -, -, hb', -⟩ := hfi.below hb2
   obtain ⟨e6, e7, e8, eo, eb⟩ := st3 c6' c7' c8' o67 o68 o78 (.int .i64 0) (.string ⟨#[]⟩) (.int .i64 3) hb' n6 n7 n8
   exact ⟨(KeepsFrom.below hb2).trans (eo.from _), eb, rfl, _, _, _, e6, e7, e8, .inl ⟨rfl, rfl, rfl⟩⟩
  | false =>
   have HD := Lib.hid hd
   have hd1 := of_decide_eq_false hd
   have HD1 := Lib.hid hd1
   clear hd hd1
   by_cases hlt : itZ M z k < z
   ·have hcm : icmp (itZ M z k) z < 0 := (icmp_lt' _ _).2 hlt
    have HLT := Lib.hid hlt
    have hkpos : Hid (1 ≤ k) := by
     show 1 ≤ k
     rcases Nat.eq_zero_or_pos k with e | e
     ·subst e
      exact absurd hlt (Int.lt_irrefl z)
     ·exact e
    have HKK : Hid (k ≤ K) := h1
    clear hlt
    gi_wp2_with (first
     | (refine ⟨trivial, ?_⟩; gi_at_call 89; refine (CallsIn.inRound l (callsIn_wide.2 (longF_c (itZ M z k) _ _ VB.iz.out HT0.out hlz))).mono ?_; rw [HD.out]; rintro e w2 ⟨rfl, hb2⟩; have VB2 := VB.keep hb2; have q0 := VB2.c0; have q1 := VB2.c1; have V92 := V9'.keep hb2; have y0 := V92.c0; have y1 := V92.c1; have HT2 := Lib.hid (HT0.out.below hb2))
     | (refine ⟨trivial, ?_⟩; gi_at_call 90; refine (CallsIn.inRound l (callsIn_wide.2 (hCmp_c (itZ M z k) z _ _ _ VB2.iz.out V92.iz.out))).mono ?_; rintro e w3 ⟨rfl, hb3⟩; have VB3 := VB2.keep hb3; clear q0 q1 y0 y1; have q0 := VB3.c0; have q1 := VB3.c1; have HT3 := Lib.hid (HT2.out.below hb3); have hb23 := below_step hb2 hb3)
     | (refine ⟨trivial, ?_⟩; gi_at_call 84; refine (CallsIn.inRound l (callsIn_wide.2 (hStr_c (itZ M z k) _ _ VB3.iz.out HT3.out HLZ.out))).mono ?_; rintro e w4 ⟨rfl, hb4⟩; have hb24 := below_step hb23 hb4; have e6 := (hfi.below hb24).2.1; have e7 := (hfi.below hb24).2.2.1; have e8 := (hfi.below hb24).2.2.2.1; have m6 := e6.cell; have m7 := e7.cell; have m8 := e8.cell; have f6 := e6.frozen; have f7 := e7.frozen; have f8 := e8.frozen; clear q0 q1))
    obtain ⟨c5', c6', c7', c8', -, -, hb', -⟩ := hfi.below hb24
    obtain ⟨e6, e7, e8, eo, eb⟩ := st3 c6' c7' c8' o67 o68 o78 (.int .i64 (k : Int)) (.string (tS (itZ M z k))) (.int .i64 0) hb' n6 n7 n8
    exact ⟨(KeepsFrom.below hb24).trans (eo.from _), eb, rfl, _, _, _, e6, e7, e8, .inr ⟨k, hkpos.out, HKK.out, HLT.out, by have := HD1.out; omega, rfl, rfl, rfl⟩⟩
   ·have hcm : ¬ icmp (itZ M z k) z < 0 := fun h => hlt ((icmp_lt' _ _).1 h)
    have hcmd : decide (icmp (itZ M z k) z < 0) = false := decide_eq_false hcm
    have HLT := Lib.hid hlt
    have hkK : k < K := by
     obtain ⟨i, g1, g2, g3⟩ := HF.out
     apply Classical.byContradiction
     intro h
     rcases Nat.lt_or_ge i k with h5 | h5
     ·exact HNF.out i h5 g3
     ·have e : i = k := by omega
      subst e
      exact hlt g3
    have hkb : ((k : Int) == (K : Int)) = false := by simp; omega
    have hkb2 : (k == K) = false := by simp; omega
    have HKK : Hid (k + 1 ≤ K ∧ ∀ j, j < k + 1 → ¬ itZ M z j < z) := ⟨by omega, fun j hj => by
     rcases Nat.lt_or_ge j k with h | h
     ·exact HNF.out j h
     ·have e : j = k := by omega
      rw [e]
      exact HLT.out⟩
    clear hlt hkK HNF
    gi_wp2_with (first
     | (refine ⟨trivial, ?_⟩; gi_at_call 89; refine (CallsIn.inRound l (callsIn_wide.2 (longF_c (itZ M z k) _ _ VB.iz.out HT0.out hlz))).mono ?_; rw [HD.out]; rintro e w2 ⟨rfl, hb2⟩; have VB2 := VB.keep hb2; have q0 := VB2.c0; have q1 := VB2.c1; have V92 := V9'.keep hb2; have y0 := V92.c0; have y1 := V92.c1)
     | (refine ⟨trivial, ?_⟩; gi_at_call 90; refine (CallsIn.inRound l (callsIn_wide.2 (hCmp_c (itZ M z k) z _ _ _ VB2.iz.out V92.iz.out))).mono ?_; rintro e w3 ⟨rfl, hb3⟩; clear q0 q1 y0 y1; have hb23 := below_step hb2 hb3; have e5 := (hfi.below hb23).1; have m5 := e5.cell))
    obtain ⟨c5', c6', c7', c8', V9', -, hb', hsz'⟩ := hfi.below hb23
    exact ⟨KeepsFrom.below hb23, hr.below hb23, c5', c6', c7', c8', V9', ⟨HKK.out.1, fun j hj => by have := HKK.out.2 j hj; omega⟩, hb', hsz'⟩
 case stop =>
  rintro D2 cd W hD2 ⟨hb, rfl, r0, r1, r2, c6, c7, c8, hR⟩ hK2
  gi_wp2
  have hr2 : ∀ r, some D2 = some r → ∃ o : Obj, W.heap[r]? = some o ∧ o.isCells = false := fun r e => by cases e; exact ⟨_, hK2, rfl⟩
  have hg2 := grownBy_putObj' W D2 (.deferred none)
  have m6 := cell_kept c6.cell hg2 hr2; have m7 := cell_kept c7.cell hg2 hr2; have m8 := cell_kept c8.cell hg2 hr2
  have hbb := hb.grown hg2 hb.size (fun r e => by cases e; rw [HDw.out] at hD2; omega)
  refine ⟨by simp, .inl ⟨_, _, rfl, run_takeDeferred hK2, ?_⟩⟩
  refine ⟨.tuple #[.int .i64 r0, .string r1, .int .i64 r2], ?_, ⟨r0, r1, r2, rfl, hR⟩, hbb⟩
  simp [results, Tryz.results45, go_sem, m6, m7, m8]
end Go.Proofs.YtibdipfhfaeooaaGreatDoor

