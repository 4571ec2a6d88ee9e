/- What ref05.Records does to memory and what it returns. No condition. -/
import Derived.Test.YtiaeeclmlchpoaaDoorZ9
import Derived.Maps.RangeWalk
import Derived.Test.YtiaeeclmlchpoaaDoorZA
set_option linter.unusedVariables false
set_option linter.unusedSimpArgs false
namespace Go.Proofs.YtiaeeclmlchpoaaDoor
open Go.RowKit

/-- The most steps so far. -/
def bestO (l : List (Nat × Nat)) : Int := if l.length = 0 then -1 else lastS l
set_option maxRecDepth 100000 in
set_option maxHeartbeats 8000000 in
theorem Recs5_c (M : Mp) (count most : Nat) (v : Value) (w : World) (hM : IsM w v M) (hok : okM M) (hco : count ≤ 20000) (hmo : most ≤ 20000) :
    Calls Tryd.prog 22 #[v, .int .i64 count, .int .i64 most] w fun e w' => ∃ A c, e = .returned (.slice A (recL M most count).length c) ∧ Hid (LsR w' A c (recL M most count)) ∧ Below w.heap.size w w' := by
  obtain ⟨md, A, n, c, A', n', c', rfl, HM⟩ := hM.form
  have V3 := VM.new w 24 HM.out
  have HB4 := below_alloc (Below.refl w.heap.size w) (Obj.cells #[Value.int .i64 md, Value.slice A n c, Value.slice A' n' c'] 24)
  have hm0 : (0 : Int) ≤ (most : Int) := by omega
  have hm1 : (most : Int) ≤ 20000 := by omega
  have hc0 : (0 : Int) ≤ (count : Int) := by omega
  have hc1 : (count : Int) ≤ 20000 := by omega
  have HF : Hid (∀ (z : Int) (u : Value) (W : World) (v : Value), IsM W v M → IsN W u z → (dg B9 z).length ≤ 2000 → Calls Tryd.prog 16 #[v, u, .int .i64 most] W fun e w' => ∃ A c, e = .returned (.tuple #[.int .i64 (flwA M (most + 1) [] z).2.1, .slice A (flwA M (most + 1) [] z).2.2.length c, .int .i64 (flwA M (most + 1) [] z).1]) ∧ Hid (LsZ B9 .i64 w' A c (flwA M (most + 1) [] z).2.2) ∧ Below W.heap.size W w') :=
    fun z u W v h1 h2 hl => by have := Fate5_c M z most v u W h1 h2 hok (by omega) (by omega); rw [← flwA_fateL] at this; exact this
  clear hok hM
  go_enter Tryd.func22, Tryd.ntmps22
  go_wp2_with fail
  generalize hW4 : w.alloc (Obj.cells #[Value.int .i64 md, Value.slice A n c, Value.slice A' n' c'] 24) = w4 at *
  clear hW4
  go_loopg [9, 8, 7] count (fun g nv bv ov wr => ∃ (m : Nat), g = count - m ∧ nv = .int .i64 ((m : Int) + 1) ∧ bv = .int .i64 (bestO (recL M most m)) ∧ m ≤ count ∧ Hid (OwR wr w4.heap.size 51 ov (recL M most m)) ∧ Below w4.heap.size w4 wr)
  case atStart => exact ⟨0, rfl, rfl, rfl, Nat.zero_le _, OwR.nil _ _ _, Below.refl _ _⟩
  case round =>
    obtain ⟨m, hgk, rfl, rfl, hm, HO, HB⟩ := hrel
    have VR := V3.keep HB
    by_cases hlt : m < count
    · have hi1 : (m : Int) + 1 ≤ (count : Int) := by omega
      obtain ⟨bo, hbo⟩ : ∃ b, bestO (recL M most m) = b := ⟨_, rfl⟩
      rw [hbo]
      have HBO := Lib.hid hbo
      clear hbo
      have m0 := VR.c0; have m1 := VR.c1; have m2 := VR.c2
      go_wp2_with fail
      clear m0 m1 m2
      replace VR := VR.drew
      replace HO := Lib.hid (HO.out.below (below_drew (Below.refl _ _)))
      replace HB := below_drew HB
      generalize hWd : wr.drew = wd at *
      refine wp_region_F (fun w' => w'.cell? ⟨w.heap.size, 0, none⟩ = some (.int .i64 md) ∧ w'.cell? ⟨w.heap.size, 1, none⟩ = some (.slice A n c) ∧ w'.cell? ⟨w.heap.size, 2, none⟩ = some (.slice A' n' c')) [] (by kernel_rfl) (by rw [hWd]; exact ⟨VR.c0, VR.c1, VR.c2⟩) (fun hHeld => ?_)
      rw [hWd] at hHeld ⊢
      refine wpF_t (i := 0) (oi := { dst := some 19, op := Go.Op.load 24 (Go.Operand.tmp 3), type := 24, pos := "ref.go:80", after := #[], guard := none }) (v := ?_) rfl (by kernel_rfl) (fun _ _ _ h => h) (Or.inl ⟨by rfl, ?_⟩) hHeld ?_; rotate_left
      · intro w_ hSw_; (try dsimp only at hSw_); go_simp; (try with_reducible rfl)
      try go_frame
      refine wpF_t (i := 1) (oi := { dst := some 20, op := Go.Op.move (Go.Operand.tmp 9), type := 3, pos := "ref.go:80", after := #[], guard := none }) (v := ?_) rfl (by kernel_rfl) (fun _ _ _ h => h) (Or.inl ⟨by rfl, ?_⟩) hHeld ?_; rotate_left
      · intro w_ hSw_; (try dsimp only at hSw_); go_simp; (try with_reducible rfl)
      try go_frame
      refine wpF_t (i := 3) (oi := { dst := some 22, op := Go.Op.move (Go.Operand.tmp 2), type := 3, pos := "ref.go:80", after := #[], guard := none }) (v := ?_) rfl (by kernel_rfl) (fun _ _ _ h => h) (Or.inl ⟨by rfl, ?_⟩) hHeld ?_; rotate_left
      · intro w_ hSw_; (try dsimp only at hSw_); go_simp; (try with_reducible rfl)
      try go_frame
      refine wpAnyF_one (i := 2) (by kernel_rfl) rfl (fun K hK => ?_)
      go_simp
      (go_at_call 23; (with_reducible refine (Of_c ((m : Int) + 1) _ (by omega) (by omega)).mono ?_); rintro e w6 ⟨v, rfl, hv, hb⟩; obtain ⟨n6, A6, m6, k6, rfl, H6⟩ := hv.form; clear hv; replace VR := VR.keep hb; replace HO := Lib.hid (HO.out.below hb); replace HB := below_step HB hb; clear hb)
      refine hK.out _ _ (by exact ⟨VR.c0, VR.c1, VR.c2⟩) (fun hHeld => ?_)
      clear hK K
      try go_frame
      refine wpAnyF_one (i := 4) (by kernel_rfl) rfl (fun K hK => ?_)
      go_simp
      (go_at_call 16; (with_reducible refine (HF.out _ _ _ _ VR.im.out H6.out (by have := len_small (z := (m : Int) + 1) (by omega) (by omega); omega)).mono ?_); rintro e w7 ⟨A7, c7, rfl, HL, hb⟩; replace VR := VR.keep hb; replace HO := Lib.hid (HO.out.below hb); replace HB := below_step HB hb; clear hb)
      refine hK.out _ _ (by exact ⟨VR.c0, VR.c1, VR.c2⟩) (fun hHeld => ?_)
      clear hK K
      try go_frame
      refine wpF_t (i := 5) (oi := { dst := some 18, op := Go.Op.move (Go.Operand.tmp 23), type := 36, pos := "ref.go:80", after := #[{ on := 4, ground := Go.Ground.data }], guard := none }) (v := ?_) rfl (by kernel_rfl) (fun _ _ _ h => h) (Or.inl ⟨by rfl, ?_⟩) hHeld ?_; rotate_left
      · intro w_ hSw_; (try dsimp only at hSw_); go_simp; (try with_reducible rfl)
      try go_frame
      refine wpF_t (i := 6) (oi := { dst := some 24, op := Go.Op.extract (Go.Operand.tmp 18) 0, type := 3, pos := "ref.go:80", after := #[{ on := 5, ground := Go.Ground.data }], guard := none }) (v := ?_) rfl (by kernel_rfl) (fun _ _ _ h => h) (Or.inl ⟨by rfl, ?_⟩) hHeld ?_; rotate_left
      · intro w_ hSw_; (try dsimp only at hSw_); go_simp; (try with_reducible rfl)
      try go_frame
      refine wpF_t (i := 7) (oi := { dst := some 25, op := Go.Op.extract (Go.Operand.tmp 18) 1, type := 35, pos := "ref.go:80", after := #[{ on := 5, ground := Go.Ground.data }, { on := 9, ground := Go.Ground.gcOnly Go.Departure.lateStores }], guard := none }) (v := ?_) rfl (by kernel_rfl) (fun _ _ _ h => h) (Or.inl ⟨by rfl, ?_⟩) hHeld ?_; rotate_left
      · intro w_ hSw_; (try dsimp only at hSw_); go_simp; (try with_reducible rfl)
      try go_frame
      refine wpF_t (i := 8) (oi := { dst := some 26, op := Go.Op.extract (Go.Operand.tmp 18) 2, type := 27, pos := "ref.go:80", after := #[{ on := 5, ground := Go.Ground.data }, { on := 10, ground := Go.Ground.gcOnly Go.Departure.lateStores }], guard := none }) (v := ?_) rfl (by kernel_rfl) (fun _ _ _ h => h) (Or.inl ⟨by rfl, ?_⟩) hHeld ?_; rotate_left
      · intro w_ hSw_; (try dsimp only at hSw_); go_simp; (try with_reducible rfl)
      try go_frame
      refine wpF_t (i := 9) (oi := { dst := some 10, op := Go.Op.assign (Go.Operand.tmp 24), type := 3, pos := "ref.go:80", after := #[{ on := 6, ground := Go.Ground.data }, { on := 4, ground := Go.Ground.chain }, { on := 0, ground := Go.Ground.phase }, { on := 1, ground := Go.Ground.phase }, { on := 2, ground := Go.Ground.phase }, { on := 3, ground := Go.Ground.phase }, { on := 4, ground := Go.Ground.phase }, { on := 5, ground := Go.Ground.phase }, { on := 6, ground := Go.Ground.phase }, { on := 7, ground := Go.Ground.textOnly Go.Departure.lateStores }, { on := 8, ground := Go.Ground.textOnly Go.Departure.lateStores }], guard := none }) (v := ?_) rfl (by kernel_rfl) (fun _ _ _ h => h) (Or.inl ⟨by rfl, ?_⟩) hHeld ?_; rotate_left
      · intro w_ hSw_; (try dsimp only at hSw_); go_simp; (try with_reducible rfl)
      try go_frame
      refine wpF_t (i := 10) (oi := { dst := some 11, op := Go.Op.assign (Go.Operand.tmp 25), type := 35, pos := "ref.go:80", after := #[{ on := 7, ground := Go.Ground.data }, { on := 9, ground := Go.Ground.chain }, { on := 0, ground := Go.Ground.phase }, { on := 1, ground := Go.Ground.phase }, { on := 2, ground := Go.Ground.phase }, { on := 3, ground := Go.Ground.phase }, { on := 4, ground := Go.Ground.phase }, { on := 5, ground := Go.Ground.phase }, { on := 6, ground := Go.Ground.phase }, { on := 7, ground := Go.Ground.phase }, { on := 8, ground := Go.Ground.textOnly Go.Departure.lateStores }, { on := 9, ground := Go.Ground.phase }], guard := none }) (v := ?_) rfl (by kernel_rfl) (fun _ _ _ h => h) (Or.inl ⟨by rfl, ?_⟩) hHeld ?_; rotate_left
      · intro w_ hSw_; (try dsimp only at hSw_); go_simp; (try with_reducible rfl)
      try go_frame
      refine wpF_t (i := 11) (oi := { dst := some 12, op := Go.Op.assign (Go.Operand.tmp 26), type := 27, pos := "ref.go:80", after := #[{ on := 8, ground := Go.Ground.data }, { on := 10, ground := Go.Ground.chain }, { on := 0, ground := Go.Ground.phase }, { on := 1, ground := Go.Ground.phase }, { on := 2, ground := Go.Ground.phase }, { on := 3, ground := Go.Ground.phase }, { on := 4, ground := Go.Ground.phase }, { on := 5, ground := Go.Ground.phase }, { on := 6, ground := Go.Ground.phase }, { on := 7, ground := Go.Ground.phase }, { on := 8, ground := Go.Ground.phase }, { on := 9, ground := Go.Ground.phase }, { on := 10, ground := Go.Ground.phase }], guard := none }) (v := ?_) rfl (by kernel_rfl) (fun _ _ _ h => h) (Or.inl ⟨by rfl, ?_⟩) hHeld ?_; rotate_left
      · intro w_ hSw_; (try dsimp only at hSw_); go_simp; (try with_reducible rfl)
      try go_frame
      refine wpAnyF_done (by kernel_rfl) ?_ _
      clear hHeld hWd HL VR
      have HRL : Hid (recL M most (m + 1) = recS M most (recL M most m) (m + 1)) := rfl
      have hfc := flw_cases M ((m : Int) + 1) most
      have HRS : Hid (∀ r, flwA M (most + 1) [] ((m : Int) + 1) = r → recS M most (recL M most m) (m + 1) = if r.1 = 0 ∧ ((recL M most m).length = 0 ∨ lastS (recL M most m) < r.2.1) then recL M most m ++ [(m + 1, r.2.1)] else recL M most m) := fun r h => by subst h; rfl
      have HLN := Lib.hid (recL_len M most m)
      generalize flwA M (most + 1) [] ((m : Int) + 1) = r at *
      generalize recL M most m = l at *
      have HRS2 := Lib.hid (HRS.out r rfl)
      clear HRS
      obtain ⟨A9, c9, rfl, -⟩ := HO.out.form
      rcases hfc with h | h | ⟨t, cy, h, h1, h2, h3, -⟩
      · subst h
        have HQ : Hid (recL M most (m + 1) = l) := by show _ = _; rw [HRL.out, HRS2.out, if_neg (by simp)]
        have HO2 : Hid (OwR w7 w4.heap.size 51 (.slice A9 l.length c9) (recL M most (m + 1))) := by show OwR _ _ _ _ _; rw [HQ.out]; exact HO.out
        have HB2 : Hid (bo = bestO (recL M most (m + 1))) := by show _ = _; rw [HQ.out, HBO.out]
        go_wp2
        go_roundg (count - (m + 1))
        case measure => omega
        case rel => exact ⟨m + 1, rfl, by go_num, by rw [HB2.out], by omega, HO2, HB⟩
      · subst h
        have HQ : Hid (recL M most (m + 1) = l) := by show _ = _; rw [HRL.out, HRS2.out, if_neg (by simp)]
        have HO2 : Hid (OwR w7 w4.heap.size 51 (.slice A9 l.length c9) (recL M most (m + 1))) := by show OwR _ _ _ _ _; rw [HQ.out]; exact HO.out
        have HB2 : Hid (bo = bestO (recL M most (m + 1))) := by show _ = _; rw [HQ.out, HBO.out]
        go_wp2
        go_roundg (count - (m + 1))
        case measure => omega
        case rel => exact ⟨m + 1, rfl, by go_num, by rw [HB2.out], by omega, HO2, HB⟩
      · subst h
        dsimp only at HRS2
        clear h1 h2 h3
        have hbs := HB.size
        have hlt : (l.length + 1) * 16 ≤ 140737488355328 := by have := HLN.out; omega
        have HIF : Hid (bo < (t : Int) ↔ (l.length = 0 ∨ lastS l < t)) := by
          show _ ↔ _
          rw [← HBO.out]; unfold bestO
          split
          · rename_i h; exact ⟨fun _ => .inl h, fun _ => by omega⟩
          · rename_i h; exact ⟨fun h2 => .inr (by omega), fun h2 => h2.elim (fun h3 => absurd h3 h) (fun h3 => by omega)⟩
        by_cases hst : bo < (t : Int)
        · have HAP : Hid (∀ v1 w1, w1.ownsRow w4.heap.size 51 2 v1 (l.length + 1) (prs l ++ [.int .i64 ((m : Int) + 1), .int .i64 t]) → OwR w1 w4.heap.size 51 v1 (recL M most (m + 1))) := fun v1 w1 h => by
            rw [HRL.out, HRS2.out, if_pos ⟨rfl, HIF.out.1 hst⟩]
            unfold OwR
            rw [List.length_append, prs_snoc]
            exact h
          have HB2 : Hid ((t : Int) = bestO (recL M most (m + 1))) := by
            show _ = _
            rw [HRL.out, HRS2.out, if_pos ⟨rfl, HIF.out.1 hst⟩]
            unfold bestO lastS
            rw [if_neg (by simp), gp_lt (by simp)]
            simp
          go_wp2_with (at_builtin; refine app_R w4.heap.size rfl _ _ 44 51 (.agg #[.int .i64 0, .int .i64 0]) 2 16 [.int .i64 ((m : Int) + 1), .int .i64 t] l.length (prs l) rfl Tryd.underlying44 info_R rfl (by decide) (by decide) rfl (by simp [Value.oneCell']) _ HO.out rfl rfl HB hbs hlt ?_; intro v1 w1 HO1 HB1 hb1)
          have HO2 := Lib.hid (HAP.out v1 w1 HO1)
          go_roundg (count - (m + 1))
          case measure => omega
          case rel => exact ⟨m + 1, rfl, by go_num, by rw [← HB2.out], by omega, HO2, HB1⟩
        · have HQ : Hid (recL M most (m + 1) = l) := by show _ = _; rw [HRL.out, HRS2.out, if_neg (fun h => hst (HIF.out.2 h.2))]
          have HO2 : Hid (OwR w7 w4.heap.size 51 (.slice A9 l.length c9) (recL M most (m + 1))) := by show OwR _ _ _ _ _; rw [HQ.out]; exact HO.out
          have HB2 : Hid (bo = bestO (recL M most (m + 1))) := by show _ = _; rw [HQ.out, HBO.out]
          go_wp2
          go_roundg (count - (m + 1))
          case measure => omega
          case rel => exact ⟨m + 1, rfl, by go_num, by rw [HB2.out], by omega, HO2, HB⟩
    · obtain rfl : m = count := by omega
      obtain ⟨A9, c9, rfl, hs9⟩ := HO.out.form
      have HS9 := Lib.hid hs9
      clear hs9 HO
      have hi1 : ¬ (m : Int) + 1 ≤ (m : Int) := by omega
      go_wp2
      go_ret
      exact ⟨A9, c9, rfl, HS9, HB4.trans (HB.mono HB4.size)⟩
end Go.Proofs.YtiaeeclmlchpoaaDoor

set_option linter.unusedVariables false
set_option linter.unusedSimpArgs false
namespace Go.Proofs.YtiaeeclmlchpoaaDoor
open Go.RowKit

theorem little_c (a b : Nat) (w : World) (h0 : a ≤ 20000) (h1 : b ≤ 20000) : Calls Tryd.prog 19 #[.int .i64 a, .int .i64 b] w fun e w' => e = .returned (.bool (decide (a * (b + 1) ≤ 100000))) ∧ Below w.heap.size w w' := by
  have hB := Below.refl w.heap.size w
  have hp : a * (b + 1) ≤ 20000 * 20001 := Nat.mul_le_mul h0 (by omega)
  have e1 : ((a : Int) * ((b : Int) + 1)) = ((a * (b + 1) : Nat) : Int) := by rw [Int.natCast_mul]; rfl
  have hb : (b : Int) ≤ 20000 := by omega
  have hb0 : (0 : Int) ≤ (b : Int) := by omega
  obtain ⟨p, hp2⟩ : ∃ p, a * (b + 1) = p := ⟨_, rfl⟩
  rw [hp2] at e1 hp ⊢
  clear hp2
  by_cases h : (p : Int) ≤ 100000
  · have HD : Hid (decide (p ≤ 100000) = true) := decide_eq_true (by omega)
    have h2 : (p : Int) ≤ 400020000 := by omega
    have h3 : (0 : Int) ≤ (p : Int) := by omega
    have hw : IntKind.i64.wrap (p : Int) = p := by rw [IntKind.wrap_i64]; omega
    go_enter Tryd.func19, Tryd.ntmps19
    go_wp2
    go_ret
    exact ⟨by rw [HD.out] <;> rfl, hB⟩
  · have HD : Hid (decide (p ≤ 100000) = false) := decide_eq_false (by omega)
    have h2 : (p : Int) ≤ 400020000 := by omega
    have h3 : (0 : Int) ≤ (p : Int) := by omega
    have hw : IntKind.i64.wrap (p : Int) = p := by rw [IntKind.wrap_i64]; omega
    go_enter Tryd.func19, Tryd.ntmps19
    go_wp2
    go_ret
    exact ⟨by rw [HD.out] <;> rfl, hB⟩
set_option maxRecDepth 100000 in
set_option maxHeartbeats 4000000 in
theorem FRecs_bad (M : Mp) (count most : Int) (v : Value) (w : World) (hM : IsM w v M) (hr : Rch M) (ht : Tb w) (hbad : okB M = false) : Calls Tryd.prog 4 #[v, .int .i64 count, .int .i64 most] w fun e w' => e = .returned (.bool true) ∧ Below w.heap.size w w' := by
  obtain ⟨md, A, n, c, A', n', c', rfl, HM⟩ := hM.form
  have V3 := VM.new w 24 HM.out
  have HB := below_alloc (Below.refl w.heap.size w) (Obj.cells #[Value.int .i64 md, Value.slice A n c, Value.slice A' n' c'] 24)
  have HT := Lib.hid ht
  have HOK := Lib.hid hbad
  have HR := Lib.hid hr
  clear hr ht hM hbad
  go_enter Tryd.func4, Tryd.ntmps4
  have m0 := V3.c0; have m1 := V3.c1; have m2 := V3.c2
  go_wp2_with fail
  (with_reducible refine (MValid_c M _ _ V3.im.out).mono ?_)
  rintro e w2 ⟨he, hb⟩
  replace HB := below_step HB hb
  replace V3 := V3.keep hb
  clear hb
  obtain rfl : e = .returned (.bool false) := by rw [he, HOK.out] <;> rfl
  clear he
  clear m0 m1 m2
  have m0 := V3.c0; have m1 := V3.c1; have m2 := V3.c2
  go_wp2_with fail
  (with_reducible refine (Twin_c M _ _ V3.im.out HR.out).mono ?_)
  rintro e w4 ⟨v, rfl, hM4, hb⟩
  obtain ⟨md4, A4, n4, c4, A4', n4', c4', rfl, HM4⟩ := hM4.form
  replace HB := below_step HB hb
  replace V3 := V3.keep hb
  clear hb hM4 m0 m1 m2
  have V7 := VM.new w4 24 HM4.out
  have hba := below_alloc (Below.refl w4.heap.size w4) (Obj.cells #[Value.int .i64 md4, Value.slice A4 n4 c4, Value.slice A4' n4' c4'] 24)
  replace V3 := V3.keep hba
  replace HB := below_step HB hba
  go_upto_region 5 with fail
  generalize hb7 : w4.heap.size = b7 at V7 ⊢
  generalize hW5 : w4.alloc (Obj.cells #[Value.int .i64 md4, Value.slice A4 n4 c4, Value.slice A4' n4' c4'] 24) = W5 at *
  clear hW5 hba HM4 hb7
  have m0 := V3.c0; have m1 := V3.c1; have m2 := V3.c2
  go_wp2_with fail
  (with_reducible refine (Recs_bad M count most _ _ V3.im.out HOK.out).mono ?_)
  rintro e w6 ⟨rfl, hb⟩
  replace V3 := V3.keep hb; replace V7 := V7.keep hb
  replace HB := below_step HB hb
  clear hb m0 m1 m2
  have m0 := V3.c0; have m1 := V3.c1; have m2 := V3.c2
  have k0 := V7.c0; have k1 := V7.c1; have k2 := V7.c2
  go_wp2_with fail
  (with_reducible refine (Same_c M M _ _ _ V3.im.out V7.im.out).mono ?_)
  rintro e w7 ⟨rfl, hb⟩
  rw [sameB_self]
  replace V3 := V3.keep hb; replace V7 := V7.keep hb
  replace HB := below_step HB hb
  clear hb m0 m1 m2 k0 k1 k2
  have m0 := V3.c0; have m1 := V3.c1; have m2 := V3.c2
  go_wp2_with fail
  (with_reducible refine (MValid_c M _ _ V3.im.out).mono ?_)
  rintro e w8 ⟨he, hb⟩
  replace HB := below_step HB hb
  replace V3 := V3.keep hb
  clear hb
  obtain rfl : e = .returned (.bool false) := by rw [he, HOK.out] <;> rfl
  clear he
  clear m0 m1 m2
  go_wp2_with fail
  (with_reducible refine (awake5_c _ (HT.out.below HB)).mono ?_)
  rintro e w20 ⟨he, hb⟩
  replace HB := below_step HB hb
  clear hb
  subst he
  go_wp2
  go_ret
  exact ⟨rfl, HB⟩
set_option maxRecDepth 100000 in
set_option maxHeartbeats 4000000 in
theorem FRecs_arg (M : Mp) (count most : Int) (v : Value) (w : World) (hM : IsM w v M) (hr : Rch M) (ht : Tb w) (hok : okM M) (hbad : count < 0 ∨ 20000 < count ∨ most < 0 ∨ 20000 < most) : Calls Tryd.prog 4 #[v, .int .i64 count, .int .i64 most] w fun e w' => e = .returned (.bool true) ∧ Below w.heap.size w w' := by
  obtain ⟨md, A, n, c, A', n', c', rfl, HM⟩ := hM.form
  have V3 := VM.new w 24 HM.out
  have HB := below_alloc (Below.refl w.heap.size w) (Obj.cells #[Value.int .i64 md, Value.slice A n c, Value.slice A' n' c'] 24)
  have HT := Lib.hid ht
  have HOK : Hid (okB M = true) := okB_iff.2 hok
  have HOKM := Lib.hid hok
  have HR := Lib.hid hr
  have HBAD := Lib.hid hbad
  clear hr ht hM hok
  by_cases h1 : count < 0
  · clear hbad
    go_enter Tryd.func4, Tryd.ntmps4
    have m0 := V3.c0; have m1 := V3.c1; have m2 := V3.c2
    go_wp2_with fail
    (with_reducible refine (MValid_c M _ _ V3.im.out).mono ?_)
    rintro e w2 ⟨he, hb⟩
    replace HB := below_step HB hb
    replace V3 := V3.keep hb
    clear hb
    obtain rfl : e = .returned (.bool true) := by rw [he, HOK.out] <;> rfl
    clear he
    clear m0 m1 m2
    have m0 := V3.c0; have m1 := V3.c1; have m2 := V3.c2
    go_wp2_with fail
    (with_reducible refine (Twin_c M _ _ V3.im.out HR.out).mono ?_)
    rintro e w4 ⟨v, rfl, hM4, hb⟩
    obtain ⟨md4, A4, n4, c4, A4', n4', c4', rfl, HM4⟩ := hM4.form
    replace HB := below_step HB hb
    replace V3 := V3.keep hb
    clear hb hM4 m0 m1 m2
    have V7 := VM.new w4 24 HM4.out
    have hba := below_alloc (Below.refl w4.heap.size w4) (Obj.cells #[Value.int .i64 md4, Value.slice A4 n4 c4, Value.slice A4' n4' c4'] 24)
    replace V3 := V3.keep hba
    replace HB := below_step HB hba
    go_upto_region 5 with fail
    generalize hb7 : w4.heap.size = b7 at V7 ⊢
    generalize hW5 : w4.alloc (Obj.cells #[Value.int .i64 md4, Value.slice A4 n4 c4, Value.slice A4' n4' c4'] 24) = W5 at *
    clear hW5 hba HM4 hb7
    have m0 := V3.c0; have m1 := V3.c1; have m2 := V3.c2
    go_wp2_with fail
    (with_reducible refine (Recs_arg M count most _ _ V3.im.out HOKM.out HBAD.out).mono ?_)
    rintro e w6 ⟨rfl, hb⟩
    replace V3 := V3.keep hb; replace V7 := V7.keep hb
    replace HB := below_step HB hb
    clear hb m0 m1 m2
    have m0 := V3.c0; have m1 := V3.c1; have m2 := V3.c2
    have k0 := V7.c0; have k1 := V7.c1; have k2 := V7.c2
    go_wp2_with fail
    (with_reducible refine (Same_c M M _ _ _ V3.im.out V7.im.out).mono ?_)
    rintro e w7 ⟨rfl, hb⟩
    rw [sameB_self]
    replace V3 := V3.keep hb; replace V7 := V7.keep hb
    replace HB := below_step HB hb
    clear hb m0 m1 m2 k0 k1 k2
    have m0 := V3.c0; have m1 := V3.c1; have m2 := V3.c2
    go_wp2_with fail
    (with_reducible refine (MValid_c M _ _ V3.im.out).mono ?_)
    rintro e w8 ⟨he, hb⟩
    replace HB := below_step HB hb
    replace V3 := V3.keep hb
    clear hb
    obtain rfl : e = .returned (.bool true) := by rw [he, HOK.out] <;> rfl
    clear he
    clear m0 m1 m2
    go_wp2_with fail
    (with_reducible refine (awake5_c _ (HT.out.below HB)).mono ?_)
    rintro e w20 ⟨he, hb⟩
    replace HB := below_step HB hb
    clear hb
    subst he
    go_wp2
    go_ret
    exact ⟨rfl, HB⟩
  · by_cases h2 : 20000 < count
    · clear hbad
      go_enter Tryd.func4, Tryd.ntmps4
      have m0 := V3.c0; have m1 := V3.c1; have m2 := V3.c2
      go_wp2_with fail
      (with_reducible refine (MValid_c M _ _ V3.im.out).mono ?_)
      rintro e w2 ⟨he, hb⟩
      replace HB := below_step HB hb
      replace V3 := V3.keep hb
      clear hb
      obtain rfl : e = .returned (.bool true) := by rw [he, HOK.out] <;> rfl
      clear he
      clear m0 m1 m2
      have m0 := V3.c0; have m1 := V3.c1; have m2 := V3.c2
      go_wp2_with fail
      (with_reducible refine (Twin_c M _ _ V3.im.out HR.out).mono ?_)
      rintro e w4 ⟨v, rfl, hM4, hb⟩
      obtain ⟨md4, A4, n4, c4, A4', n4', c4', rfl, HM4⟩ := hM4.form
      replace HB := below_step HB hb
      replace V3 := V3.keep hb
      clear hb hM4 m0 m1 m2
      have V7 := VM.new w4 24 HM4.out
      have hba := below_alloc (Below.refl w4.heap.size w4) (Obj.cells #[Value.int .i64 md4, Value.slice A4 n4 c4, Value.slice A4' n4' c4'] 24)
      replace V3 := V3.keep hba
      replace HB := below_step HB hba
      go_upto_region 5 with fail
      generalize hb7 : w4.heap.size = b7 at V7 ⊢
      generalize hW5 : w4.alloc (Obj.cells #[Value.int .i64 md4, Value.slice A4 n4 c4, Value.slice A4' n4' c4'] 24) = W5 at *
      clear hW5 hba HM4 hb7
      have m0 := V3.c0; have m1 := V3.c1; have m2 := V3.c2
      go_wp2_with fail
      (with_reducible refine (Recs_arg M count most _ _ V3.im.out HOKM.out HBAD.out).mono ?_)
      rintro e w6 ⟨rfl, hb⟩
      replace V3 := V3.keep hb; replace V7 := V7.keep hb
      replace HB := below_step HB hb
      clear hb m0 m1 m2
      have m0 := V3.c0; have m1 := V3.c1; have m2 := V3.c2
      have k0 := V7.c0; have k1 := V7.c1; have k2 := V7.c2
      go_wp2_with fail
      (with_reducible refine (Same_c M M _ _ _ V3.im.out V7.im.out).mono ?_)
      rintro e w7 ⟨rfl, hb⟩
      rw [sameB_self]
      replace V3 := V3.keep hb; replace V7 := V7.keep hb
      replace HB := below_step HB hb
      clear hb m0 m1 m2 k0 k1 k2
      have m0 := V3.c0; have m1 := V3.c1; have m2 := V3.c2
      go_wp2_with fail
      (with_reducible refine (MValid_c M _ _ V3.im.out).mono ?_)
      rintro e w8 ⟨he, hb⟩
      replace HB := below_step HB hb
      replace V3 := V3.keep hb
      clear hb
      obtain rfl : e = .returned (.bool true) := by rw [he, HOK.out] <;> rfl
      clear he
      clear m0 m1 m2
      go_wp2_with fail
      (with_reducible refine (awake5_c _ (HT.out.below HB)).mono ?_)
      rintro e w20 ⟨he, hb⟩
      replace HB := below_step HB hb
      clear hb
      subst he
      go_wp2
      go_ret
      exact ⟨rfl, HB⟩
    · have HW : Hid (most < 0 ∨ 20000 < most) := hbad.resolve_left h1 |>.resolve_left h2
      clear hbad
      go_enter Tryd.func4, Tryd.ntmps4
      have m0 := V3.c0; have m1 := V3.c1; have m2 := V3.c2
      go_wp2_with fail
      (with_reducible refine (MValid_c M _ _ V3.im.out).mono ?_)
      rintro e w2 ⟨he, hb⟩
      replace HB := below_step HB hb
      replace V3 := V3.keep hb
      clear hb
      obtain rfl : e = .returned (.bool true) := by rw [he, HOK.out] <;> rfl
      clear he
      clear m0 m1 m2
      go_wp2_with fail
      (with_reducible refine (within_no most _ HW.out).mono ?_)
      rintro e w3 ⟨he, hb⟩
      replace HB := below_step HB hb
      replace V3 := V3.keep hb
      clear hb
      subst he
      have m0 := V3.c0; have m1 := V3.c1; have m2 := V3.c2
      go_wp2_with fail
      (with_reducible refine (Twin_c M _ _ V3.im.out HR.out).mono ?_)
      rintro e w4 ⟨v, rfl, hM4, hb⟩
      obtain ⟨md4, A4, n4, c4, A4', n4', c4', rfl, HM4⟩ := hM4.form
      replace HB := below_step HB hb
      replace V3 := V3.keep hb
      clear hb hM4 m0 m1 m2
      have V7 := VM.new w4 24 HM4.out
      have hba := below_alloc (Below.refl w4.heap.size w4) (Obj.cells #[Value.int .i64 md4, Value.slice A4 n4 c4, Value.slice A4' n4' c4'] 24)
      replace V3 := V3.keep hba
      replace HB := below_step HB hba
      go_upto_region 5 with fail
      generalize hb7 : w4.heap.size = b7 at V7 ⊢
      generalize hW5 : w4.alloc (Obj.cells #[Value.int .i64 md4, Value.slice A4 n4 c4, Value.slice A4' n4' c4'] 24) = W5 at *
      clear hW5 hba HM4 hb7
      have m0 := V3.c0; have m1 := V3.c1; have m2 := V3.c2
      go_wp2_with fail
      (with_reducible refine (Recs_arg M count most _ _ V3.im.out HOKM.out HBAD.out).mono ?_)
      rintro e w6 ⟨rfl, hb⟩
      replace V3 := V3.keep hb; replace V7 := V7.keep hb
      replace HB := below_step HB hb
      clear hb m0 m1 m2
      have m0 := V3.c0; have m1 := V3.c1; have m2 := V3.c2
      have k0 := V7.c0; have k1 := V7.c1; have k2 := V7.c2
      go_wp2_with fail
      (with_reducible refine (Same_c M M _ _ _ V3.im.out V7.im.out).mono ?_)
      rintro e w7 ⟨rfl, hb⟩
      rw [sameB_self]
      replace V3 := V3.keep hb; replace V7 := V7.keep hb
      replace HB := below_step HB hb
      clear hb m0 m1 m2 k0 k1 k2
      have m0 := V3.c0; have m1 := V3.c1; have m2 := V3.c2
      go_wp2_with fail
      (with_reducible refine (MValid_c M _ _ V3.im.out).mono ?_)
      rintro e w8 ⟨he, hb⟩
      replace HB := below_step HB hb
      replace V3 := V3.keep hb
      clear hb
      obtain rfl : e = .returned (.bool true) := by rw [he, HOK.out] <;> rfl
      clear he
      clear m0 m1 m2
      go_wp2_with fail
      (with_reducible refine (awake5_c _ (HT.out.below HB)).mono ?_)
      rintro e w20 ⟨he, hb⟩
      replace HB := below_step HB hb
      clear hb
      subst he
      go_wp2
      go_ret
      exact ⟨rfl, HB⟩
set_option maxRecDepth 100000 in
set_option maxHeartbeats 4000000 in
theorem FRecs_big (M : Mp) (count most : Nat) (v : Value) (w : World) (hM : IsM w v M) (ht : Tb w) (hok : okM M) (hco : count ≤ 20000) (hmo : most ≤ 20000) (hl : ¬ count * (most + 1) ≤ 100000) : Calls Tryd.prog 4 #[v, .int .i64 count, .int .i64 most] w fun e w' => e = .returned (.bool true) ∧ Below w.heap.size w w' := by
  obtain ⟨md, A, n, c, A', n', c', rfl, HM⟩ := hM.form
  have V3 := VM.new w 24 HM.out
  have HB := below_alloc (Below.refl w.heap.size w) (Obj.cells #[Value.int .i64 md, Value.slice A n c, Value.slice A' n' c'] 24)
  have HT := Lib.hid ht
  have HOK : Hid (okB M = true) := okB_iff.2 hok
  have HOKM := Lib.hid hok
  have hm0 : (0 : Int) ≤ (most : Int) := by omega
  have hm1 : (most : Int) ≤ 20000 := by omega
  have hc0 : (0 : Int) ≤ (count : Int) := by omega
  have hc1 : (count : Int) ≤ 20000 := by omega
  have hd1 : decide ((count : Int) < 0) = false := decide_eq_false (by omega)
  have hd2 : decide ((20000 : Int) < (count : Int)) = false := decide_eq_false (by omega)
  have HLI : Hid (decide (count * (most + 1) ≤ 100000) = false) := decide_eq_false hl
  clear ht hM hok hl
  go_enter Tryd.func4, Tryd.ntmps4
  have m0 := V3.c0; have m1 := V3.c1; have m2 := V3.c2
  go_wp2_with fail
  (with_reducible refine (MValid_c M _ _ V3.im.out).mono ?_)
  rintro e w2 ⟨he, hb⟩
  replace HB := below_step HB hb
  replace V3 := V3.keep hb
  clear hb
  obtain rfl : e = .returned (.bool true) := by rw [he, HOK.out] <;> rfl
  clear he
  clear m0 m1 m2
  go_wp2_with fail
  (with_reducible refine (within_yes (most : Int) _ hm0 hm1).mono ?_)
  rintro e w3 ⟨he, hb⟩
  replace HB := below_step HB hb
  replace V3 := V3.keep hb
  clear hb
  subst he
  go_wp2_with fail
  (with_reducible refine (little_c count most _ hco hmo).mono ?_)
  rintro e w3b ⟨he, hb⟩
  replace HB := below_step HB hb
  replace V3 := V3.keep hb
  clear hb
  obtain rfl : e = .returned (.bool false) := by rw [he, HLI.out] <;> rfl
  clear he
  go_wp2_with fail
  (with_reducible refine (awake5_c _ (HT.out.below HB)).mono ?_)
  rintro e w20 ⟨he, hb⟩
  replace HB := below_step HB hb
  clear hb
  subst he
  go_wp2
  go_ret
  exact ⟨rfl, HB⟩
set_option maxRecDepth 100000 in
set_option maxHeartbeats 4000000 in
theorem FRecs_ok (M : Mp) (count most : Nat) (v : Value) (w : World) (hM : IsM w v M) (hr : Rch M) (ht : Tb w) (hok : okM M) (hco : count ≤ 20000) (hmo : most ≤ 20000) (hl : count * (most + 1) ≤ 100000) : Calls Tryd.prog 4 #[v, .int .i64 count, .int .i64 most] w fun e w' => e = .returned (.bool true) ∧ Below w.heap.size w w' := by
  obtain ⟨md, A, n, c, A', n', c', rfl, HM⟩ := hM.form
  have V3 := VM.new w 24 HM.out
  have HB := below_alloc (Below.refl w.heap.size w) (Obj.cells #[Value.int .i64 md, Value.slice A n c, Value.slice A' n' c'] 24)
  have HT := Lib.hid ht
  have HOK : Hid (okB M = true) := okB_iff.2 hok
  have HOKM := Lib.hid hok
  have hm0 : (0 : Int) ≤ (most : Int) := by omega
  have hm1 : (most : Int) ≤ 20000 := by omega
  have hc0 : (0 : Int) ≤ (count : Int) := by omega
  have hc1 : (count : Int) ≤ 20000 := by omega
  have hd1 : decide ((count : Int) < 0) = false := decide_eq_false (by omega)
  have hd2 : decide ((20000 : Int) < (count : Int)) = false := decide_eq_false (by omega)
  have HLI : Hid (decide (count * (most + 1) ≤ 100000) = true) := decide_eq_true hl
  have HR := Lib.hid hr
  clear hr ht hM hok hl
  go_enter Tryd.func4, Tryd.ntmps4
  have m0 := V3.c0; have m1 := V3.c1; have m2 := V3.c2
  go_wp2_with fail
  (with_reducible refine (MValid_c M _ _ V3.im.out).mono ?_)
  rintro e w2 ⟨he, hb⟩
  replace HB := below_step HB hb
  replace V3 := V3.keep hb
  clear hb
  obtain rfl : e = .returned (.bool true) := by rw [he, HOK.out] <;> rfl
  clear he
  clear m0 m1 m2
  go_wp2_with fail
  (with_reducible refine (within_yes (most : Int) _ hm0 hm1).mono ?_)
  rintro e w3 ⟨he, hb⟩
  replace HB := below_step HB hb
  replace V3 := V3.keep hb
  clear hb
  subst he
  go_wp2_with fail
  (with_reducible refine (little_c count most _ hco hmo).mono ?_)
  rintro e w3b ⟨he, hb⟩
  replace HB := below_step HB hb
  replace V3 := V3.keep hb
  clear hb
  obtain rfl : e = .returned (.bool true) := by rw [he, HLI.out] <;> rfl
  clear he
  have m0 := V3.c0; have m1 := V3.c1; have m2 := V3.c2
  go_wp2_with fail
  (with_reducible refine (Twin_c M _ _ V3.im.out HR.out).mono ?_)
  rintro e w4 ⟨v, rfl, hM4, hb⟩
  obtain ⟨md4, A4, n4, c4, A4', n4', c4', rfl, HM4⟩ := hM4.form
  replace HB := below_step HB hb
  replace V3 := V3.keep hb
  clear hb hM4 m0 m1 m2
  have V7 := VM.new w4 24 HM4.out
  have hba := below_alloc (Below.refl w4.heap.size w4) (Obj.cells #[Value.int .i64 md4, Value.slice A4 n4 c4, Value.slice A4' n4' c4'] 24)
  replace V3 := V3.keep hba
  replace HB := below_step HB hba
  go_upto_region 5 with fail
  generalize hb7 : w4.heap.size = b7 at V7 ⊢
  generalize hW5 : w4.alloc (Obj.cells #[Value.int .i64 md4, Value.slice A4 n4 c4, Value.slice A4' n4' c4'] 24) = W5 at *
  clear hW5 hba HM4 hb7
  have m0 := V3.c0; have m1 := V3.c1; have m2 := V3.c2
  go_wp2_with fail
  (with_reducible refine (Recs_ok M count most _ _ V3.im.out HOKM.out hco hmo (HT.out.below HB)).mono ?_)
  rintro e w6 ⟨A6, c6, rfl, HL, hb⟩
  replace V3 := V3.keep hb; replace V7 := V7.keep hb
  replace HB := below_step HB hb
  clear hb m0 m1 m2
  have m0 := V3.c0; have m1 := V3.c1; have m2 := V3.c2
  have k0 := V7.c0; have k1 := V7.c1; have k2 := V7.c2
  go_wp2_with fail
  (with_reducible refine (Same_c M M _ _ _ V3.im.out V7.im.out).mono ?_)
  rintro e w7 ⟨rfl, hb⟩
  rw [sameB_self]
  replace V3 := V3.keep hb; replace V7 := V7.keep hb
  replace HL := Lib.hid (HL.out.below hb); replace HB := below_step HB hb
  clear hb m0 m1 m2 k0 k1 k2
  have m0 := V3.c0; have m1 := V3.c1; have m2 := V3.c2
  go_wp2_with fail
  (with_reducible refine (MValid_c M _ _ V3.im.out).mono ?_)
  rintro e w8 ⟨he, hb⟩
  replace HL := Lib.hid (HL.out.below hb); replace HB := below_step HB hb
  replace V3 := V3.keep hb
  clear hb
  obtain rfl : e = .returned (.bool true) := by rw [he, HOK.out] <;> rfl
  clear he
  clear m0 m1 m2
  have m0 := V3.c0; have m1 := V3.c1; have m2 := V3.c2
  go_wp2_with fail
  (with_reducible refine (Recs5_c M count most _ _ V3.im.out HOKM.out hco hmo).mono ?_)
  rintro e w9 ⟨A9, c9, rfl, HL9, hb⟩
  replace HL := Lib.hid (HL.out.below hb)
  replace HB := below_step HB hb
  clear hb m0 m1 m2
  go_wp2_with fail
  (with_reducible refine (records_c _ _ _ _ _ _ _ HL.out HL9.out).mono ?_)
  rintro e w10 ⟨he, hb⟩
  replace HB := below_step HB hb
  obtain rfl : e = .returned (.bool true) := by rw [he, decide_eq_true rfl]
  clear he hb
  go_wp2_with fail
  (with_reducible refine (awake5_c _ (HT.out.below HB)).mono ?_)
  rintro e w20 ⟨he, hb⟩
  replace HB := below_step HB hb
  clear hb
  subst he
  go_wp2
  go_ret
  exact ⟨rfl, HB⟩
theorem FRecs_law (M : Mp) (count most : Int) (v : Value) (w : World) (hM : IsM w v M) (hr : Rch M) (ht : Tb w) : Calls Tryd.prog 4 #[v, .int .i64 count, .int .i64 most] w fun e w' => e = .returned (.bool true) ∧ Below w.heap.size w w' := by
  by_cases hok : okB M = true
  · by_cases hb : count < 0 ∨ 20000 < count ∨ most < 0 ∨ 20000 < most
    · exact FRecs_arg M count most v w hM hr ht (okB_iff.1 hok) hb
    · obtain ⟨k, rfl⟩ := Int.eq_ofNat_of_zero_le (show 0 ≤ most by omega)
      obtain ⟨j, rfl⟩ := Int.eq_ofNat_of_zero_le (show 0 ≤ count by omega)
      by_cases hl : j * (k + 1) ≤ 100000
      · exact FRecs_ok M j k v w hM hr ht (okB_iff.1 hok) (by omega) (by omega) hl
      · exact FRecs_big M j k v w hM ht (okB_iff.1 hok) (by omega) (by omega) hl
  · exact FRecs_bad M count most v w hM hr ht (by revert hok; cases okB M <;> simp)
end Go.Proofs.YtiaeeclmlchpoaaDoor
