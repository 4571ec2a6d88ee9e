/- What ref02.Rest, Step, Orbit do to memory and what they return. No condition. -/
import Derived.Test.YtiaeeclmlchpoaaZC
set_option linter.unusedVariables false
set_option linter.unusedSimpArgs false
namespace Go.Proofs.Ytiaeeclmlchpoaa
open Go.RowKit

theorem Res2.lt {W : World} {b : Nat} (h : Res2 W b) : b < W.heap.size := h.2.2.2.2
theorem IsM.sl {W : World} {md : Int} {A : Option Addr} {n c : Nat} {A' : Option Addr} {n' c' : Nat} {M : Mp} (h : IsM W (.agg #[.int .i64 md, .slice A n c, .slice A' n' c']) M) : md = M.mod ∧ n = M.mul.length ∧ n' = M.add.length ∧ SlI W .i64 A c M.mul ∧ SlI W .i64 A' c' M.add := by
  obtain ⟨A1, c1, A2, c2, e, h1, h2⟩ := h
  injection e with e
  simp only [Array.mk.injEq, List.cons.injEq, Value.int.injEq, Value.slice.injEq, and_true, true_and] at e
  obtain ⟨e0, ⟨rfl, e1, rfl⟩, rfl, e2, rfl⟩ := e
  exact ⟨e0, e1, e2, h1, h2⟩
/-- A cell and what it holds. -/
structure CL (W : World) (b o : Nat) (u : Value) : Prop where
  c : W.cell? ⟨b, o, none⟩ = some u
  lt : b < W.heap.size
theorem CL.keep {W w1 : World} {b o : Nat} {u : Value} (h : CL W b o u) (hb : Below W.heap.size W w1) : CL w1 b o u := ⟨kcell hb h.lt h.c, Nat.lt_of_lt_of_le h.lt hb.size⟩
theorem CL.drew {W : World} {b o : Nat} {u : Value} (h : CL W b o u) : CL W.drew b o u := h.keep (below_drew (Below.refl _ _))
/-- A map and a number come in: their blocks. -/
theorem startM (w : World) {md : Int} {A : Option Addr} {n c : Nat} {A' : Option Addr} {n' c' : Nat} {M : Mp} {nz : Bool} {Az : Option Addr} {mz kz : Nat} {z : Int} (t t' : TypeId) (W : World)
    (hM : IsM w (.agg #[.int .i64 md, .slice A n c, .slice A' n' c']) M) (hz : IsN w (.agg #[.bool nz, .slice Az mz kz]) z)
    (hW : (w.alloc (.cells #[.int .i64 md, .slice A n c, .slice A' n' c'] t)).alloc (.cells #[.bool nz, .slice Az mz kz] t') = W) :
    VM W w.heap.size md A n c A' n' c' M ∧ VN W (w.heap.size + 1) nz Az mz kz z ∧ W.heap.size = w.heap.size + 2 ∧ Below w.heap.size w W := by
  have h1 := VM.new w t hM
  have h2 := VX.new (w.alloc (.cells #[.int .i64 md, .slice A n c, .slice A' n' c'] t)) t' (hz.below (below_alloc (Below.refl _ _) _))
  have e : (w.alloc (.cells #[.int .i64 md, .slice A n c, .slice A' n' c'] t)).heap.size = w.heap.size + 1 := by simp
  rw [e] at h2
  subst hW
  exact ⟨h1.keep (below_alloc (Below.refl _ _) _), h2, by simp, below_alloc (below_alloc (Below.refl _ _) _) _⟩

set_option maxRecDepth 100000 in
set_option maxHeartbeats 4000000 in
theorem Rest_c (M : Mp) (z : Int) (v u : Value) (w : World) (hM : IsM w v M) (hz : IsN w u z) (h1 : 1 ≤ M.mod) (h2 : M.mod ≤ 2147483647) (sz : (dg B9 z).length ≤ 1000000000) :
    Calls Try.prog 85 #[v, u] w fun e w' => e = .returned (.int .i64 (z % M.mod)) ∧ Below w.heap.size w w' := by
  obtain ⟨md, A, n, c, A', n', c', rfl, HM⟩ := hM.form
  obtain ⟨nz, Az, mz, kz, rfl, HZ⟩ := hz.form
  have emd : md = M.mod := (VM.new w 0 HM.out).sl.1
  subst emd
  clear hM hz
  go_enter Try.func85, Try.ntmps85
  go_wp2_with fail
  generalize hW : (w.alloc (Obj.cells #[Value.int .i64 M.mod, Value.slice A n c, Value.slice A' n' c'] 55)).alloc (Obj.cells #[Value.bool nz, Value.slice Az mz kz] 28) = W at *
  obtain ⟨VM_, VZ, hs, HB⟩ := startM w _ _ W HM.out HZ.out hW
  clear hW
  (with_reducible refine (Part_c z M.mod _ _ VZ.iz.out h1 h2 sz).mono ?_)
  rintro e w1 ⟨v, rfl, hv, hb1⟩
  obtain ⟨n1, A1, m1, k1, rfl, H1⟩ := hv.form
  clear hv
  replace HB := below_step HB hb1
  obtain ⟨r, hr⟩ : ∃ r, z % M.mod = r := ⟨_, rfl⟩
  have HR := Lib.hid hr
  rw [hr]
  clear hr
  go_wp2
  go_ret
  exact ⟨by rw [HR.out] <;> rfl, below_alloc HB _⟩

/-- The number to which a number is mapped. -/
def stepZ (M : Mp) (z : Int) : Int := (gd M.mul (z % M.mod).toNat * z + gd M.add (z % M.mod).toNat) / M.mod
theorem len_small {z : Int} (h0 : -1000000000000000000 < z) (h1 : z < 1000000000000000000) : (dg B9 z).length ≤ 2 := len_int h0 h1
set_option maxRecDepth 100000 in
set_option maxHeartbeats 8000000 in
theorem Step_c (M : Mp) (z : Int) (v u : Value) (w : World) (hM : IsM w v M) (hz : IsN w u z) (hok : okM M) (sz : (dg B9 z).length ≤ 900000000) :
    Calls Try.prog 77 #[v, u] w fun e w' => ∃ v, e = .returned v ∧ IsN w' v (stepZ M z) ∧ Below w.heap.size w w' := by
  obtain ⟨md, A, n, c, A', n', c', rfl, HM⟩ := hM.form
  obtain ⟨nz, Az, mz, kz, rfl, HZ⟩ := hz.form
  obtain ⟨emd, en, en', s1, s2⟩ := HM.out.sl
  have hok' := hok
  obtain ⟨m2, m12, hl1, hl2, hrow⟩ := hok
  rw [← emd] at m2 m12 hl1 hl2 hrow
  obtain ⟨r, hr⟩ : ∃ r : Nat, z % md = r := ⟨(z % md).toNat, by have := Int.emod_nonneg z (show md ≠ 0 by omega); omega⟩
  have hrl : (r : Int) < md := by have := Int.emod_lt_of_pos z (show 0 < md by omega); omega
  have hrow := hrow r hrl
  obtain ⟨bA, oA, rfl, hlA, cA⟩ := s1.cell (j := r) (by omega)
  obtain ⟨bB, oB, rfl, hlB, cB⟩ := s2.cell (j := r) (by omega)
  have HST : Hid (stepZ M z = (gd M.mul r * z + gd M.add r) / md) := by show _ = _; unfold stepZ; rw [← emd, hr, Int.toNat_natCast]
  obtain ⟨x, hx⟩ : ∃ x, gd M.mul r = x := ⟨_, rfl⟩
  obtain ⟨y, hy⟩ : ∃ y, gd M.add r = y := ⟨_, rfl⟩
  obtain ⟨x1, x2, y1, y2, -⟩ := hrow
  rw [hx] at cA HST x1 x2
  rw [hy] at cB HST y1 y2
  have CA : CL w bA (oA + r) (.int .i64 x) := ⟨cA, hlA⟩
  have CB : CL w bB (oB + r) (.int .i64 y) := ⟨cB, hlB⟩
  have RC := Lib.hid (fun v u w hM hz => Rest_c M z v u w hM hz (by rw [← emd]; omega) (by rw [← emd]; omega) (by omega))
  have LX : Hid ((dg B9 x).length ≤ 2) := len_small (by omega) (by omega)
  have LY : Hid ((dg B9 y).length ≤ 2) := len_small (by omega) (by omega)
  have LXZ : Hid ((dg B9 (x * z)).length ≤ 900000002) := by have := len_mul B9two x z; have := LX.out; show _ ≤ _; omega
  have LS : Hid ((dg B9 (x * z + y)).length ≤ 1000000000) := by have := len_add B9two (x * z) y; have := LXZ.out; have := LY.out; show _ ≤ _; omega
  have LZ : Hid ((dg B9 z).length ≤ 900000000) := sz
  have hi0 : (0 : Int) ≤ (r : Int) := by omega
  have hrn : (r : Int) < (n : Int) := by omega
  have hrn' : (r : Int) < (n' : Int) := by omega
  have HRZ : Hid (z % M.mod = r) := by show _ = _; rw [← emd]; exact hr
  clear hx hy cA cB hM hz s1 s2 hlA hlB hl1 hl2 en en' emd hr sz hok' hrl
  go_enter Try.func77, Try.ntmps77
  go_wp2_with fail
  generalize hW : (w.alloc (Obj.cells #[Value.int .i64 md, Value.slice (some ⟨bA, oA, none⟩) n c, Value.slice (some ⟨bB, oB, none⟩) n' c'] 55)).alloc (Obj.cells #[Value.bool nz, Value.slice Az mz kz] 28) = W at *
  obtain ⟨VM_, VZ, hs, HB⟩ := startM w _ _ W HM.out HZ.out hW
  replace CA := CA.keep HB
  replace CB := CB.keep HB
  have RR := newRes W 28
  replace VM_ := VM_.keep (below_alloc (Below.refl W.heap.size W) (Obj.cells #[Value.bool false, Value.slice none 0 0] 28)); replace VZ := VZ.keep (below_alloc (Below.refl W.heap.size W) (Obj.cells #[Value.bool false, Value.slice none 0 0] 28)); replace CA := CA.keep (below_alloc (Below.refl W.heap.size W) (Obj.cells #[Value.bool false, Value.slice none 0 0] 28)); replace CB := CB.keep (below_alloc (Below.refl W.heap.size W) (Obj.cells #[Value.bool false, Value.slice none 0 0] 28))
  replace HB := below_alloc HB (Obj.cells #[Value.bool false, Value.slice none 0 0] 28)
  clear hW
  generalize hW : W.alloc (Obj.cells #[Value.bool false, Value.slice none 0 0] 28) = W1 at *
  clear hW HM HZ
  rw [show W.heap.size = w.heap.size + 1 + 1 from hs] at RR
  clear hs
  (with_reducible refine (RC.out _ _ _ VM_.im.out VZ.iz.out).mono ?_)
  rintro e w1 ⟨rfl, hb1⟩
  replace VM_ := VM_.keep hb1; replace VZ := VZ.keep hb1; replace CA := CA.keep hb1; replace CB := CB.keep hb1; replace RR := RR.keep hb1; replace HB := below_step HB hb1
  clear hb1
  rw [HRZ.out]
  go_wp2_with fail
  replace VM_ := VM_.drew; replace VZ := VZ.drew; replace CA := CA.drew; replace CB := CB.drew; replace RR := RR.drew
  replace HB := below_drew HB
  generalize hWd : w1.drew = wd at *
  refine wp_region_F (fun w' => w'.cell? ⟨w.heap.size, 0, none⟩ = some (.int .i64 md) ∧ w'.cell? ⟨w.heap.size, 1, none⟩ = some (.slice (some ⟨bA, oA, none⟩) n c) ∧ w'.cell? ⟨w.heap.size, 2, none⟩ = some (.slice (some ⟨bB, oB, none⟩) n' c') ∧ w'.cell? ⟨(w.heap.size + 1), 0, none⟩ = some (.bool nz) ∧ w'.cell? ⟨(w.heap.size + 1), 1, none⟩ = some (.slice Az mz kz) ∧ w'.cell? ⟨bA, oA + r, none⟩ = some (.int .i64 x) ∧ w'.cell? ⟨bB, oB + r, none⟩ = some (.int .i64 y)) [22, 23] (by kernel_rfl) (by rw [hWd]; exact ⟨VM_.c0, VM_.c1, VM_.c2, VZ.c0, VZ.c1, CA.c, CB.c⟩) (fun hHeld => ?_)
  rw [hWd] at hHeld ⊢
  refine wpAnyF_take (i := 0) (oi := { dst := some 12, op := Go.Op.fieldAddr 55 (Go.Operand.tmp 2) 1, type := 0, pos := "ref.go:83", after := #[], guard := none }) (v := ?_) rfl (by kernel_rfl) (by kernel_rfl) (by kernel_rfl) (by kernel_rfl) (fun _ _ _ h => h) (Or.inl ⟨by rfl, ?_⟩) hHeld ?_
  rotate_left
  · intro w_ hSw_; (try dsimp only at hSw_); go_simp; (try with_reducible rfl)
  (try simp only [Act.put, List.setIfInBounds_toArray, List.set_cons_zero, List.set_cons_succ])
  refine wpAnyF_take (i := 1) (oi := { dst := some 13, op := Go.Op.load 26 (Go.Operand.tmp 12), type := 26, pos := "ref.go:83", after := #[{ on := 0, ground := Go.Ground.data }], guard := none }) (v := ?_) rfl (by kernel_rfl) (by kernel_rfl) (by kernel_rfl) (by kernel_rfl) (fun _ _ _ h => h) (Or.inl ⟨by rfl, ?_⟩) hHeld ?_
  rotate_left
  · intro w_ hSw_; (try dsimp only at hSw_); go_simp; (try with_reducible rfl)
  (try simp only [Act.put, List.setIfInBounds_toArray, List.set_cons_zero, List.set_cons_succ])
  refine wpAnyF_take (i := 2) (oi := { dst := some 14, op := Go.Op.move (Go.Operand.tmp 5), type := 3, pos := "ref.go:83", after := #[], guard := none }) (v := ?_) rfl (by kernel_rfl) (by kernel_rfl) (by kernel_rfl) (by kernel_rfl) (fun _ _ _ h => h) (Or.inl ⟨by rfl, ?_⟩) hHeld ?_
  rotate_left
  · intro w_ hSw_; (try dsimp only at hSw_); go_simp; (try with_reducible rfl)
  (try simp only [Act.put, List.setIfInBounds_toArray, List.set_cons_zero, List.set_cons_succ])
  refine wpAnyF_take (i := 3) (oi := { dst := some 15, op := Go.Op.indexAddr 26 (Go.Operand.tmp 13) (Go.Operand.tmp 14), type := 0, pos := "ref.go:83", after := #[{ on := 1, ground := Go.Ground.data }, { on := 2, ground := Go.Ground.data }], guard := none }) (v := ?_) rfl (by kernel_rfl) (by kernel_rfl) (by kernel_rfl) (by kernel_rfl) (fun _ _ _ h => h) (Or.inl ⟨by rfl, ?_⟩) hHeld ?_
  rotate_left
  · intro w_ hSw_; (try dsimp only at hSw_); go_simp; (try with_reducible rfl)
  (try simp only [Act.put, List.setIfInBounds_toArray, List.set_cons_zero, List.set_cons_succ])
  refine wpAnyF_take (i := 4) (oi := { dst := some 16, op := Go.Op.load 3 (Go.Operand.tmp 15), type := 3, pos := "ref.go:83", after := #[{ on := 3, ground := Go.Ground.data }], guard := none }) (v := ?_) rfl (by kernel_rfl) (by kernel_rfl) (by kernel_rfl) (by kernel_rfl) (fun _ _ _ h => h) (Or.inl ⟨by rfl, ?_⟩) hHeld ?_
  rotate_left
  · intro w_ hSw_; (try dsimp only at hSw_); go_simp; (try with_reducible rfl)
  (try simp only [Act.put, List.setIfInBounds_toArray, List.set_cons_zero, List.set_cons_succ])
  refine wpAnyF_take (i := 6) (oi := { dst := some 18, op := Go.Op.load 28 (Go.Operand.tmp 3), type := 28, pos := "ref.go:83", after := #[], guard := none }) (v := ?_) rfl (by kernel_rfl) (by kernel_rfl) (by kernel_rfl) (by kernel_rfl) (fun _ _ _ h => h) (Or.inl ⟨by rfl, ?_⟩) hHeld ?_
  rotate_left
  · intro w_ hSw_; (try dsimp only at hSw_); go_simp; (try with_reducible rfl)
  (try simp only [Act.put, List.setIfInBounds_toArray, List.set_cons_zero, List.set_cons_succ])
  refine wpAnyF_take (i := 8) (oi := { dst := some 20, op := Go.Op.fieldAddr 55 (Go.Operand.tmp 2) 2, type := 0, pos := "ref.go:83", after := #[], guard := none }) (v := ?_) rfl (by kernel_rfl) (by kernel_rfl) (by kernel_rfl) (by kernel_rfl) (fun _ _ _ h => h) (Or.inl ⟨by rfl, ?_⟩) hHeld ?_
  rotate_left
  · intro w_ hSw_; (try dsimp only at hSw_); go_simp; (try with_reducible rfl)
  (try simp only [Act.put, List.setIfInBounds_toArray, List.set_cons_zero, List.set_cons_succ])
  refine wpAnyF_take (i := 9) (oi := { dst := some 21, op := Go.Op.load 26 (Go.Operand.tmp 20), type := 26, pos := "ref.go:83", after := #[{ on := 8, ground := Go.Ground.data }], guard := none }) (v := ?_) rfl (by kernel_rfl) (by kernel_rfl) (by kernel_rfl) (by kernel_rfl) (fun _ _ _ h => h) (Or.inl ⟨by rfl, ?_⟩) hHeld ?_
  rotate_left
  · intro w_ hSw_; (try dsimp only at hSw_); go_simp; (try with_reducible rfl)
  (try simp only [Act.put, List.setIfInBounds_toArray, List.set_cons_zero, List.set_cons_succ])
  refine wpAnyF_take (i := 10) (oi := { dst := some 22, op := Go.Op.move (Go.Operand.tmp 5), type := 3, pos := "ref.go:83", after := #[], guard := none }) (v := ?_) rfl (by kernel_rfl) (by kernel_rfl) (by kernel_rfl) (by kernel_rfl) (fun _ _ _ h => h) (Or.inl ⟨by rfl, ?_⟩) hHeld ?_
  rotate_left
  · intro w_ hSw_; (try dsimp only at hSw_); go_simp; (try with_reducible rfl)
  (try simp only [Act.put, List.setIfInBounds_toArray, List.set_cons_zero, List.set_cons_succ])
  refine wpAnyF_take (i := 11) (oi := { dst := some 23, op := Go.Op.indexAddr 26 (Go.Operand.tmp 21) (Go.Operand.tmp 22), type := 0, pos := "ref.go:83", after := #[{ on := 9, ground := Go.Ground.data }, { on := 10, ground := Go.Ground.data }], guard := none }) (v := ?_) rfl (by kernel_rfl) (by kernel_rfl) (by kernel_rfl) (by kernel_rfl) (fun _ _ _ h => h) (Or.inl ⟨by rfl, ?_⟩) hHeld ?_
  rotate_left
  · intro w_ hSw_; (try dsimp only at hSw_); go_simp; (try with_reducible rfl)
  (try simp only [Act.put, List.setIfInBounds_toArray, List.set_cons_zero, List.set_cons_succ])
  refine wpAnyF_take (i := 12) (oi := { dst := some 24, op := Go.Op.load 3 (Go.Operand.tmp 23), type := 3, pos := "ref.go:83", after := #[{ on := 11, ground := Go.Ground.data }], guard := none }) (v := ?_) rfl (by kernel_rfl) (by kernel_rfl) (by kernel_rfl) (by kernel_rfl) (fun _ _ _ h => h) (Or.inl ⟨by rfl, ?_⟩) hHeld ?_
  rotate_left
  · intro w_ hSw_; (try dsimp only at hSw_); go_simp; (try with_reducible rfl)
  (try simp only [Act.put, List.setIfInBounds_toArray, List.set_cons_zero, List.set_cons_succ])
  refine wpAnyF_take (i := 15) (oi := { dst := some 27, op := Go.Op.fieldAddr 55 (Go.Operand.tmp 2) 0, type := 0, pos := "ref.go:83", after := #[], guard := none }) (v := ?_) rfl (by kernel_rfl) (by kernel_rfl) (by kernel_rfl) (by kernel_rfl) (fun _ _ _ h => h) (Or.inl ⟨by rfl, ?_⟩) hHeld ?_
  rotate_left
  · intro w_ hSw_; (try dsimp only at hSw_); go_simp; (try with_reducible rfl)
  (try simp only [Act.put, List.setIfInBounds_toArray, List.set_cons_zero, List.set_cons_succ])
  refine wpAnyF_take (i := 16) (oi := { dst := some 28, op := Go.Op.load 3 (Go.Operand.tmp 27), type := 3, pos := "ref.go:83", after := #[{ on := 15, ground := Go.Ground.data }], guard := none }) (v := ?_) rfl (by kernel_rfl) (by kernel_rfl) (by kernel_rfl) (by kernel_rfl) (fun _ _ _ h => h) (Or.inl ⟨by rfl, ?_⟩) hHeld ?_
  rotate_left
  · intro w_ hSw_; (try dsimp only at hSw_); go_simp; (try with_reducible rfl)
  (try simp only [Act.put, List.setIfInBounds_toArray, List.set_cons_zero, List.set_cons_succ])
  refine wpAnyF_two (i := 5) (j := 21) (by kernel_rfl) rfl rfl (fun K hK => ?_) (fun K hK => ?_)
  · go_simp
    (go_at_call 28; (with_reducible refine (Of_c x _ (by omega) (by omega)).mono ?_); rintro e w5 ⟨v, rfl, hv, hb5⟩; obtain ⟨n5, A5, m5, k5, rfl, H5⟩ := hv.form; clear hv; replace VM_ := VM_.keep hb5; replace VZ := VZ.keep hb5; replace CA := CA.keep hb5; replace CB := CB.keep hb5; replace RR := RR.keep hb5; replace HB := below_step HB hb5)
    clear hb5
    refine hK.out _ _ (by exact ⟨VM_.c0, VM_.c1, VM_.c2, VZ.c0, VZ.c1, CA.c, CB.c⟩) (fun hHeld => ?_)
    clear hK K
    (try simp only [Act.put, List.setIfInBounds_toArray, List.set_cons_zero, List.set_cons_succ])
    refine wpAnyF_two (i := 7) (j := 21) (by kernel_rfl) rfl rfl (fun K hK => ?_) (fun K hK => ?_)
    · go_simp
      (go_at_call 38; (with_reducible refine (Mul_c x z _ _ _ H5.out (by exact VZ.iz.out) (by have := LX.out; omega) (by have := LZ.out; omega)).mono ?_); rintro e w7 ⟨v, rfl, hv, hb7⟩; obtain ⟨n7, A7, m7, k7, rfl, H7⟩ := hv.form; clear hv; replace VM_ := VM_.keep hb7; replace VZ := VZ.keep hb7; replace CA := CA.keep hb7; replace CB := CB.keep hb7; replace RR := RR.keep hb7; replace HB := below_step HB hb7)
      clear hb7
      refine hK.out _ _ (by exact ⟨VM_.c0, VM_.c1, VM_.c2, VZ.c0, VZ.c1, CA.c, CB.c⟩) (fun hHeld => ?_)
      clear hK K
      (try simp only [Act.put, List.setIfInBounds_toArray, List.set_cons_zero, List.set_cons_succ])
      refine wpAnyF_two (i := 13) (j := 21) (by kernel_rfl) rfl rfl (fun K hK => ?_) (fun K hK => ?_)
      · go_simp
        (go_at_call 28; (with_reducible refine (Of_c y _ (by omega) (by omega)).mono ?_); rintro e w13 ⟨v, rfl, hv, hb13⟩; obtain ⟨n13, A13, m13, k13, rfl, H13⟩ := hv.form; clear hv; replace VM_ := VM_.keep hb13; replace VZ := VZ.keep hb13; replace CA := CA.keep hb13; replace CB := CB.keep hb13; replace RR := RR.keep hb13; replace HB := below_step HB hb13; replace H7 := Lib.hid (H7.out.below hb13))
        clear hb13
        refine hK.out _ _ (by exact ⟨VM_.c0, VM_.c1, VM_.c2, VZ.c0, VZ.c1, CA.c, CB.c⟩) (fun hHeld => ?_)
        clear hK K
        (try simp only [Act.put, List.setIfInBounds_toArray, List.set_cons_zero, List.set_cons_succ])
        refine wpAnyF_two (i := 14) (j := 21) (by kernel_rfl) rfl rfl (fun K hK => ?_) (fun K hK => ?_)
        · go_simp
          (go_at_call 27; (with_reducible refine (Add_c (x * z) y _ _ _ H7.out H13.out (by have := LXZ.out; omega) (by have := LY.out; omega)).mono ?_); rintro e w14 ⟨v, rfl, hv, hb14⟩; obtain ⟨n14, A14, m14, k14, rfl, H14⟩ := hv.form; clear hv; replace VM_ := VM_.keep hb14; replace VZ := VZ.keep hb14; replace CA := CA.keep hb14; replace CB := CB.keep hb14; replace RR := RR.keep hb14; replace HB := below_step HB hb14)
          clear hb14
          refine hK.out _ _ (by exact ⟨VM_.c0, VM_.c1, VM_.c2, VZ.c0, VZ.c1, CA.c, CB.c⟩) (fun hHeld => ?_)
          clear hK K
          (try simp only [Act.put, List.setIfInBounds_toArray, List.set_cons_zero, List.set_cons_succ])
          refine wpAnyF_two (i := 17) (j := 21) (by kernel_rfl) rfl rfl (fun K hK => ?_) (fun K hK => ?_)
          · go_simp
            (go_at_call 47; (with_reducible refine (Part_c (x * z + y) md _ _ H14.out (by omega) (by omega) LS.out).mono ?_); rintro e w17 ⟨v, rfl, hv, hb17⟩; generalize (x * z + y) % md = rr at *; obtain ⟨n17, A17, m17, k17, rfl, H17⟩ := hv.form; clear hv; replace VM_ := VM_.keep hb17; replace VZ := VZ.keep hb17; replace CA := CA.keep hb17; replace CB := CB.keep hb17; replace RR := RR.keep hb17; replace HB := below_step HB hb17)
            clear hb17
            refine hK.out _ _ (by exact ⟨VM_.c0, VM_.c1, VM_.c2, VZ.c0, VZ.c1, CA.c, CB.c⟩) (fun hHeld => ?_)
            clear hK K
            (try simp only [Act.put, List.setIfInBounds_toArray, List.set_cons_zero, List.set_cons_succ])
            refine wpAnyF_take (i := 18) (oi := { dst := some 11, op := Go.Op.move (Go.Operand.tmp 29), type := 81, pos := "ref.go:83", after := #[{ on := 17, ground := Go.Ground.data }], guard := none }) (v := ?_) rfl (by kernel_rfl) (by kernel_rfl) (by kernel_rfl) (by kernel_rfl) (fun _ _ _ h => h) (Or.inl ⟨by rfl, ?_⟩) hHeld ?_
            rotate_left
            · intro w_ hSw_; (try dsimp only at hSw_); go_simp; (try with_reducible rfl)
            (try simp only [Act.put, List.setIfInBounds_toArray, List.set_cons_zero, List.set_cons_succ])
            refine wpAnyF_take (i := 19) (oi := { dst := some 30, op := Go.Op.extract (Go.Operand.tmp 11) 0, type := 28, pos := "ref.go:83", after := #[{ on := 18, ground := Go.Ground.data }], guard := none }) (v := ?_) rfl (by kernel_rfl) (by kernel_rfl) (by kernel_rfl) (by kernel_rfl) (fun _ _ _ h => h) (Or.inl ⟨by rfl, ?_⟩) hHeld ?_
            rotate_left
            · intro w_ hSw_; (try dsimp only at hSw_); go_simp; (try with_reducible rfl)
            (try simp only [Act.put, List.setIfInBounds_toArray, List.set_cons_zero, List.set_cons_succ])
            refine wpAnyF_pure (i := 20) (oi := { dst := some 31, op := Go.Op.extract (Go.Operand.tmp 11) 1, type := 3, pos := "ref.go:83", after := #[{ on := 18, ground := Go.Ground.data }, { on := 22, ground := Go.Ground.gcOnly Go.Departure.lateStores }], guard := none }) (v := ?_) rfl (by kernel_rfl) (by kernel_rfl) (by kernel_rfl) (by kernel_rfl) (fun _ _ _ h => h) (Or.inl ⟨by rfl, ?_⟩) hHeld ?_
            rotate_left
            · intro w_ hSw_; (try dsimp only at hSw_); go_simp; (try with_reducible rfl)
            (try simp only [Act.put, List.setIfInBounds_toArray, List.set_cons_zero, List.set_cons_succ])
            refine wpAnyF_one (i := 21) (by kernel_rfl) rfl (fun K hK => ?_)
            go_simp
            refine hK.out _ _ (by replace VM_ := VM_.keep (below_alloc (Below.refl w17.heap.size w17) (Obj.cells #[Value.bool false, Value.slice none 0 0] 28)); replace VZ := VZ.keep (below_alloc (Below.refl w17.heap.size w17) (Obj.cells #[Value.bool false, Value.slice none 0 0] 28)); replace CA := CA.keep (below_alloc (Below.refl w17.heap.size w17) (Obj.cells #[Value.bool false, Value.slice none 0 0] 28)); replace CB := CB.keep (below_alloc (Below.refl w17.heap.size w17) (Obj.cells #[Value.bool false, Value.slice none 0 0] 28)); replace RR := RR.keep (below_alloc (Below.refl w17.heap.size w17) (Obj.cells #[Value.bool false, Value.slice none 0 0] 28)); exact ⟨VM_.c0, VM_.c1, VM_.c2, VZ.c0, VZ.c1, CA.c, CB.c⟩) (fun hHeld => ?_)
            clear hK K
            (try simp only [Act.put, List.setIfInBounds_toArray, List.set_cons_zero, List.set_cons_succ])
            have hba1 := HB.size
            have ltVM_ := VM_.lt
            have ltVZ := VZ.lt
            have ltCA := CA.lt
            have ltCB := CB.lt
            have ltRR := RR.lt
            have RA := newRes w17 28
            replace VM_ := VM_.keep (below_alloc (Below.refl w17.heap.size w17) (Obj.cells #[Value.bool false, Value.slice none 0 0] 28)); replace VZ := VZ.keep (below_alloc (Below.refl w17.heap.size w17) (Obj.cells #[Value.bool false, Value.slice none 0 0] 28)); replace CA := CA.keep (below_alloc (Below.refl w17.heap.size w17) (Obj.cells #[Value.bool false, Value.slice none 0 0] 28)); replace CB := CB.keep (below_alloc (Below.refl w17.heap.size w17) (Obj.cells #[Value.bool false, Value.slice none 0 0] 28)); replace RR := RR.keep (below_alloc (Below.refl w17.heap.size w17) (Obj.cells #[Value.bool false, Value.slice none 0 0] 28))
            replace HB := below_alloc HB (Obj.cells #[Value.bool false, Value.slice none 0 0] 28)
            replace H17 := Lib.hid (H17.out.below (below_alloc (Below.refl w17.heap.size w17) (Obj.cells #[Value.bool false, Value.slice none 0 0] 28)))
            generalize hWa : w17.alloc (Obj.cells #[Value.bool false, Value.slice none 0 0] 28) = wa at *
            generalize hba : w17.heap.size = ba at *
            refine wpAnyF_st (i := 22) (by kernel_rfl) (by kernel_rfl) rfl (fun K hK => ?_)
            obtain ⟨⟨u1_, r1_⟩, ⟨u2_, u3_, u4_, r2_⟩, r3_, r4_, r5_⟩ := RA
            have RA : Res2 _ ba := ⟨⟨u1_, r1_⟩, ⟨u2_, u3_, u4_, r2_⟩, r3_, r4_, r5_⟩
            go_simp
            refine hK.out _ _ ?_
            clear hK K r1_ r2_ r3_ r4_ r5_
            (try simp only [Act.put, List.setIfInBounds_toArray, List.set_cons_zero, List.set_cons_succ])
            refine wpAnyF_st (i := 23) (by kernel_rfl) (by kernel_rfl) rfl (fun K hK => ?_)
            obtain ⟨⟨u1_, r1_⟩, ⟨u2_, u3_, u4_, r2_⟩, r3_, r4_, r5_⟩ := RA
            have RA : Res2 _ ba := ⟨⟨u1_, r1_⟩, ⟨u2_, u3_, u4_, r2_⟩, r3_, r4_, r5_⟩
            go_simp
            refine hK.out _ _ ?_
            clear hK K r1_ r2_ r3_ r4_ r5_
            (try simp only [Act.put, List.setIfInBounds_toArray, List.set_cons_zero, List.set_cons_succ])
            refine wpAnyF_done (by kernel_rfl) ?_ _
            clear hHeld
            have V6 := VX.store RA H17.out
            have hne : ba ≠ w.heap.size + 1 + 1 := by omega
            replace RR := RR.far (x := .bool n17) (y := .slice A17 m17 k17) hne
            replace HB := below_set2 (b := ba) HB (by omega) (.bool n17) (.slice A17 m17 k17)
            generalize hW9 : (wa.setCell ⟨ba, 0, none⟩ (.bool n17)).setCell ⟨ba, 1, none⟩ (.slice A17 m17 k17) = W9 at *
            clear hW9 RA CA CB VM_ VZ
            have vs0 := V6.c0; have vs1 := V6.c1; have vsf := V6.f0; have vsg := V6.f1; have vsl := V6.lt
            have RRh := RR
            obtain ⟨⟨u1, r1⟩, ⟨u2, u3, u4, r2⟩, r3, r4, r5⟩ := RR
            go_wp2
            refine bodyPost_ret (v := .agg #[.bool n17, .slice A17 m17 k17]) (by simp [results, Try.results77, go_sem, r1, r2, r5]) rfl ⟨_, rfl, by rw [HST.out]; exact V6.iz.out.res2 RRh _ _, below_set2 HB (by omega) _ _⟩
          · go_simp
            refine hK.out _ _ (by replace VM_ := VM_.keep (below_alloc (Below.refl w14.heap.size w14) (Obj.cells #[Value.bool false, Value.slice none 0 0] 28)); replace VZ := VZ.keep (below_alloc (Below.refl w14.heap.size w14) (Obj.cells #[Value.bool false, Value.slice none 0 0] 28)); replace CA := CA.keep (below_alloc (Below.refl w14.heap.size w14) (Obj.cells #[Value.bool false, Value.slice none 0 0] 28)); replace CB := CB.keep (below_alloc (Below.refl w14.heap.size w14) (Obj.cells #[Value.bool false, Value.slice none 0 0] 28)); replace RR := RR.keep (below_alloc (Below.refl w14.heap.size w14) (Obj.cells #[Value.bool false, Value.slice none 0 0] 28)); exact ⟨VM_.c0, VM_.c1, VM_.c2, VZ.c0, VZ.c1, CA.c, CB.c⟩) (fun hHeld => ?_)
            clear hK K
            (try simp only [Act.put, List.setIfInBounds_toArray, List.set_cons_zero, List.set_cons_succ])
            have hba1 := HB.size
            have ltVM_ := VM_.lt
            have ltVZ := VZ.lt
            have ltCA := CA.lt
            have ltCB := CB.lt
            have ltRR := RR.lt
            have RA := newRes w14 28
            replace VM_ := VM_.keep (below_alloc (Below.refl w14.heap.size w14) (Obj.cells #[Value.bool false, Value.slice none 0 0] 28)); replace VZ := VZ.keep (below_alloc (Below.refl w14.heap.size w14) (Obj.cells #[Value.bool false, Value.slice none 0 0] 28)); replace CA := CA.keep (below_alloc (Below.refl w14.heap.size w14) (Obj.cells #[Value.bool false, Value.slice none 0 0] 28)); replace CB := CB.keep (below_alloc (Below.refl w14.heap.size w14) (Obj.cells #[Value.bool false, Value.slice none 0 0] 28)); replace RR := RR.keep (below_alloc (Below.refl w14.heap.size w14) (Obj.cells #[Value.bool false, Value.slice none 0 0] 28))
            replace HB := below_alloc HB (Obj.cells #[Value.bool false, Value.slice none 0 0] 28)
            replace H14 := Lib.hid (H14.out.below (below_alloc (Below.refl w14.heap.size w14) (Obj.cells #[Value.bool false, Value.slice none 0 0] 28)))
            generalize hWa : w14.alloc (Obj.cells #[Value.bool false, Value.slice none 0 0] 28) = wa at *
            generalize hba : w14.heap.size = ba at *
            refine wpAnyF_one (i := 17) (by kernel_rfl) rfl (fun K hK => ?_)
            go_simp
            (go_at_call 47; (with_reducible refine (Part_c (x * z + y) md _ _ H14.out (by omega) (by omega) LS.out).mono ?_); rintro e w17 ⟨v, rfl, hv, hb17⟩; generalize (x * z + y) % md = rr at *; obtain ⟨n17, A17, m17, k17, rfl, H17⟩ := hv.form; clear hv; replace VM_ := VM_.keep hb17; replace VZ := VZ.keep hb17; replace CA := CA.keep hb17; replace CB := CB.keep hb17; replace RR := RR.keep hb17; replace HB := below_step HB hb17)
            replace RA := RA.keep hb17
            clear hb17
            refine hK.out _ _ (by exact ⟨VM_.c0, VM_.c1, VM_.c2, VZ.c0, VZ.c1, CA.c, CB.c⟩) (fun hHeld => ?_)
            clear hK K
            (try simp only [Act.put, List.setIfInBounds_toArray, List.set_cons_zero, List.set_cons_succ])
            refine wpAnyF_take (i := 18) (oi := { dst := some 11, op := Go.Op.move (Go.Operand.tmp 29), type := 81, pos := "ref.go:83", after := #[{ on := 17, ground := Go.Ground.data }], guard := none }) (v := ?_) rfl (by kernel_rfl) (by kernel_rfl) (by kernel_rfl) (by kernel_rfl) (fun _ _ _ h => h) (Or.inl ⟨by rfl, ?_⟩) hHeld ?_
            rotate_left
            · intro w_ hSw_; (try dsimp only at hSw_); go_simp; (try with_reducible rfl)
            (try simp only [Act.put, List.setIfInBounds_toArray, List.set_cons_zero, List.set_cons_succ])
            refine wpAnyF_take (i := 19) (oi := { dst := some 30, op := Go.Op.extract (Go.Operand.tmp 11) 0, type := 28, pos := "ref.go:83", after := #[{ on := 18, ground := Go.Ground.data }], guard := none }) (v := ?_) rfl (by kernel_rfl) (by kernel_rfl) (by kernel_rfl) (by kernel_rfl) (fun _ _ _ h => h) (Or.inl ⟨by rfl, ?_⟩) hHeld ?_
            rotate_left
            · intro w_ hSw_; (try dsimp only at hSw_); go_simp; (try with_reducible rfl)
            (try simp only [Act.put, List.setIfInBounds_toArray, List.set_cons_zero, List.set_cons_succ])
            refine wpAnyF_pure (i := 20) (oi := { dst := some 31, op := Go.Op.extract (Go.Operand.tmp 11) 1, type := 3, pos := "ref.go:83", after := #[{ on := 18, ground := Go.Ground.data }, { on := 22, ground := Go.Ground.gcOnly Go.Departure.lateStores }], guard := none }) (v := ?_) rfl (by kernel_rfl) (by kernel_rfl) (by kernel_rfl) (by kernel_rfl) (fun _ _ _ h => h) (Or.inl ⟨by rfl, ?_⟩) hHeld ?_
            rotate_left
            · intro w_ hSw_; (try dsimp only at hSw_); go_simp; (try with_reducible rfl)
            (try simp only [Act.put, List.setIfInBounds_toArray, List.set_cons_zero, List.set_cons_succ])
            refine wpAnyF_st (i := 22) (by kernel_rfl) (by kernel_rfl) rfl (fun K hK => ?_)
            obtain ⟨⟨u1_, r1_⟩, ⟨u2_, u3_, u4_, r2_⟩, r3_, r4_, r5_⟩ := RA
            have RA : Res2 _ ba := ⟨⟨u1_, r1_⟩, ⟨u2_, u3_, u4_, r2_⟩, r3_, r4_, r5_⟩
            go_simp
            refine hK.out _ _ ?_
            clear hK K r1_ r2_ r3_ r4_ r5_
            (try simp only [Act.put, List.setIfInBounds_toArray, List.set_cons_zero, List.set_cons_succ])
            refine wpAnyF_st (i := 23) (by kernel_rfl) (by kernel_rfl) rfl (fun K hK => ?_)
            obtain ⟨⟨u1_, r1_⟩, ⟨u2_, u3_, u4_, r2_⟩, r3_, r4_, r5_⟩ := RA
            have RA : Res2 _ ba := ⟨⟨u1_, r1_⟩, ⟨u2_, u3_, u4_, r2_⟩, r3_, r4_, r5_⟩
            go_simp
            refine hK.out _ _ ?_
            clear hK K r1_ r2_ r3_ r4_ r5_
            (try simp only [Act.put, List.setIfInBounds_toArray, List.set_cons_zero, List.set_cons_succ])
            refine wpAnyF_done (by kernel_rfl) ?_ _
            clear hHeld
            have V6 := VX.store RA H17.out
            have hne : ba ≠ w.heap.size + 1 + 1 := by omega
            replace RR := RR.far (x := .bool n17) (y := .slice A17 m17 k17) hne
            replace HB := below_set2 (b := ba) HB (by omega) (.bool n17) (.slice A17 m17 k17)
            generalize hW9 : (w17.setCell ⟨ba, 0, none⟩ (.bool n17)).setCell ⟨ba, 1, none⟩ (.slice A17 m17 k17) = W9 at *
            clear hW9 RA CA CB VM_ VZ
            have vs0 := V6.c0; have vs1 := V6.c1; have vsf := V6.f0; have vsg := V6.f1; have vsl := V6.lt
            have RRh := RR
            obtain ⟨⟨u1, r1⟩, ⟨u2, u3, u4, r2⟩, r3, r4, r5⟩ := RR
            go_wp2
            refine bodyPost_ret (v := .agg #[.bool n17, .slice A17 m17 k17]) (by simp [results, Try.results77, go_sem, r1, r2, r5]) rfl ⟨_, rfl, by rw [HST.out]; exact V6.iz.out.res2 RRh _ _, below_set2 HB (by omega) _ _⟩
        · go_simp
          refine hK.out _ _ (by replace VM_ := VM_.keep (below_alloc (Below.refl w13.heap.size w13) (Obj.cells #[Value.bool false, Value.slice none 0 0] 28)); replace VZ := VZ.keep (below_alloc (Below.refl w13.heap.size w13) (Obj.cells #[Value.bool false, Value.slice none 0 0] 28)); replace CA := CA.keep (below_alloc (Below.refl w13.heap.size w13) (Obj.cells #[Value.bool false, Value.slice none 0 0] 28)); replace CB := CB.keep (below_alloc (Below.refl w13.heap.size w13) (Obj.cells #[Value.bool false, Value.slice none 0 0] 28)); replace RR := RR.keep (below_alloc (Below.refl w13.heap.size w13) (Obj.cells #[Value.bool false, Value.slice none 0 0] 28)); exact ⟨VM_.c0, VM_.c1, VM_.c2, VZ.c0, VZ.c1, CA.c, CB.c⟩) (fun hHeld => ?_)
          clear hK K
          (try simp only [Act.put, List.setIfInBounds_toArray, List.set_cons_zero, List.set_cons_succ])
          have hba1 := HB.size
          have ltVM_ := VM_.lt
          have ltVZ := VZ.lt
          have ltCA := CA.lt
          have ltCB := CB.lt
          have ltRR := RR.lt
          have RA := newRes w13 28
          replace VM_ := VM_.keep (below_alloc (Below.refl w13.heap.size w13) (Obj.cells #[Value.bool false, Value.slice none 0 0] 28)); replace VZ := VZ.keep (below_alloc (Below.refl w13.heap.size w13) (Obj.cells #[Value.bool false, Value.slice none 0 0] 28)); replace CA := CA.keep (below_alloc (Below.refl w13.heap.size w13) (Obj.cells #[Value.bool false, Value.slice none 0 0] 28)); replace CB := CB.keep (below_alloc (Below.refl w13.heap.size w13) (Obj.cells #[Value.bool false, Value.slice none 0 0] 28)); replace RR := RR.keep (below_alloc (Below.refl w13.heap.size w13) (Obj.cells #[Value.bool false, Value.slice none 0 0] 28))
          replace HB := below_alloc HB (Obj.cells #[Value.bool false, Value.slice none 0 0] 28)
          replace H7 := Lib.hid (H7.out.below (below_alloc (Below.refl w13.heap.size w13) (Obj.cells #[Value.bool false, Value.slice none 0 0] 28)))
          replace H13 := Lib.hid (H13.out.below (below_alloc (Below.refl w13.heap.size w13) (Obj.cells #[Value.bool false, Value.slice none 0 0] 28)))
          generalize hWa : w13.alloc (Obj.cells #[Value.bool false, Value.slice none 0 0] 28) = wa at *
          generalize hba : w13.heap.size = ba at *
          refine wpAnyF_one (i := 14) (by kernel_rfl) rfl (fun K hK => ?_)
          go_simp
          (go_at_call 27; (with_reducible refine (Add_c (x * z) y _ _ _ H7.out H13.out (by have := LXZ.out; omega) (by have := LY.out; omega)).mono ?_); rintro e w14 ⟨v, rfl, hv, hb14⟩; obtain ⟨n14, A14, m14, k14, rfl, H14⟩ := hv.form; clear hv; replace VM_ := VM_.keep hb14; replace VZ := VZ.keep hb14; replace CA := CA.keep hb14; replace CB := CB.keep hb14; replace RR := RR.keep hb14; replace HB := below_step HB hb14)
          replace RA := RA.keep hb14
          clear hb14
          refine hK.out _ _ (by exact ⟨VM_.c0, VM_.c1, VM_.c2, VZ.c0, VZ.c1, CA.c, CB.c⟩) (fun hHeld => ?_)
          clear hK K
          (try simp only [Act.put, List.setIfInBounds_toArray, List.set_cons_zero, List.set_cons_succ])
          refine wpAnyF_one (i := 17) (by kernel_rfl) rfl (fun K hK => ?_)
          go_simp
          (go_at_call 47; (with_reducible refine (Part_c (x * z + y) md _ _ H14.out (by omega) (by omega) LS.out).mono ?_); rintro e w17 ⟨v, rfl, hv, hb17⟩; generalize (x * z + y) % md = rr at *; obtain ⟨n17, A17, m17, k17, rfl, H17⟩ := hv.form; clear hv; replace VM_ := VM_.keep hb17; replace VZ := VZ.keep hb17; replace CA := CA.keep hb17; replace CB := CB.keep hb17; replace RR := RR.keep hb17; replace HB := below_step HB hb17)
          replace RA := RA.keep hb17
          clear hb17
          refine hK.out _ _ (by exact ⟨VM_.c0, VM_.c1, VM_.c2, VZ.c0, VZ.c1, CA.c, CB.c⟩) (fun hHeld => ?_)
          clear hK K
          (try simp only [Act.put, List.setIfInBounds_toArray, List.set_cons_zero, List.set_cons_succ])
          refine wpAnyF_take (i := 18) (oi := { dst := some 11, op := Go.Op.move (Go.Operand.tmp 29), type := 81, pos := "ref.go:83", after := #[{ on := 17, ground := Go.Ground.data }], guard := none }) (v := ?_) rfl (by kernel_rfl) (by kernel_rfl) (by kernel_rfl) (by kernel_rfl) (fun _ _ _ h => h) (Or.inl ⟨by rfl, ?_⟩) hHeld ?_
          rotate_left
          · intro w_ hSw_; (try dsimp only at hSw_); go_simp; (try with_reducible rfl)
          (try simp only [Act.put, List.setIfInBounds_toArray, List.set_cons_zero, List.set_cons_succ])
          refine wpAnyF_take (i := 19) (oi := { dst := some 30, op := Go.Op.extract (Go.Operand.tmp 11) 0, type := 28, pos := "ref.go:83", after := #[{ on := 18, ground := Go.Ground.data }], guard := none }) (v := ?_) rfl (by kernel_rfl) (by kernel_rfl) (by kernel_rfl) (by kernel_rfl) (fun _ _ _ h => h) (Or.inl ⟨by rfl, ?_⟩) hHeld ?_
          rotate_left
          · intro w_ hSw_; (try dsimp only at hSw_); go_simp; (try with_reducible rfl)
          (try simp only [Act.put, List.setIfInBounds_toArray, List.set_cons_zero, List.set_cons_succ])
          refine wpAnyF_pure (i := 20) (oi := { dst := some 31, op := Go.Op.extract (Go.Operand.tmp 11) 1, type := 3, pos := "ref.go:83", after := #[{ on := 18, ground := Go.Ground.data }, { on := 22, ground := Go.Ground.gcOnly Go.Departure.lateStores }], guard := none }) (v := ?_) rfl (by kernel_rfl) (by kernel_rfl) (by kernel_rfl) (by kernel_rfl) (fun _ _ _ h => h) (Or.inl ⟨by rfl, ?_⟩) hHeld ?_
          rotate_left
          · intro w_ hSw_; (try dsimp only at hSw_); go_simp; (try with_reducible rfl)
          (try simp only [Act.put, List.setIfInBounds_toArray, List.set_cons_zero, List.set_cons_succ])
          refine wpAnyF_st (i := 22) (by kernel_rfl) (by kernel_rfl) rfl (fun K hK => ?_)
          obtain ⟨⟨u1_, r1_⟩, ⟨u2_, u3_, u4_, r2_⟩, r3_, r4_, r5_⟩ := RA
          have RA : Res2 _ ba := ⟨⟨u1_, r1_⟩, ⟨u2_, u3_, u4_, r2_⟩, r3_, r4_, r5_⟩
          go_simp
          refine hK.out _ _ ?_
          clear hK K r1_ r2_ r3_ r4_ r5_
          (try simp only [Act.put, List.setIfInBounds_toArray, List.set_cons_zero, List.set_cons_succ])
          refine wpAnyF_st (i := 23) (by kernel_rfl) (by kernel_rfl) rfl (fun K hK => ?_)
          obtain ⟨⟨u1_, r1_⟩, ⟨u2_, u3_, u4_, r2_⟩, r3_, r4_, r5_⟩ := RA
          have RA : Res2 _ ba := ⟨⟨u1_, r1_⟩, ⟨u2_, u3_, u4_, r2_⟩, r3_, r4_, r5_⟩
          go_simp
          refine hK.out _ _ ?_
          clear hK K r1_ r2_ r3_ r4_ r5_
          (try simp only [Act.put, List.setIfInBounds_toArray, List.set_cons_zero, List.set_cons_succ])
          refine wpAnyF_done (by kernel_rfl) ?_ _
          clear hHeld
          have V6 := VX.store RA H17.out
          have hne : ba ≠ w.heap.size + 1 + 1 := by omega
          replace RR := RR.far (x := .bool n17) (y := .slice A17 m17 k17) hne
          replace HB := below_set2 (b := ba) HB (by omega) (.bool n17) (.slice A17 m17 k17)
          generalize hW9 : (w17.setCell ⟨ba, 0, none⟩ (.bool n17)).setCell ⟨ba, 1, none⟩ (.slice A17 m17 k17) = W9 at *
          clear hW9 RA CA CB VM_ VZ
          have vs0 := V6.c0; have vs1 := V6.c1; have vsf := V6.f0; have vsg := V6.f1; have vsl := V6.lt
          have RRh := RR
          obtain ⟨⟨u1, r1⟩, ⟨u2, u3, u4, r2⟩, r3, r4, r5⟩ := RR
          go_wp2
          refine bodyPost_ret (v := .agg #[.bool n17, .slice A17 m17 k17]) (by simp [results, Try.results77, go_sem, r1, r2, r5]) rfl ⟨_, rfl, by rw [HST.out]; exact V6.iz.out.res2 RRh _ _, below_set2 HB (by omega) _ _⟩
      · go_simp
        refine hK.out _ _ (by replace VM_ := VM_.keep (below_alloc (Below.refl w7.heap.size w7) (Obj.cells #[Value.bool false, Value.slice none 0 0] 28)); replace VZ := VZ.keep (below_alloc (Below.refl w7.heap.size w7) (Obj.cells #[Value.bool false, Value.slice none 0 0] 28)); replace CA := CA.keep (below_alloc (Below.refl w7.heap.size w7) (Obj.cells #[Value.bool false, Value.slice none 0 0] 28)); replace CB := CB.keep (below_alloc (Below.refl w7.heap.size w7) (Obj.cells #[Value.bool false, Value.slice none 0 0] 28)); replace RR := RR.keep (below_alloc (Below.refl w7.heap.size w7) (Obj.cells #[Value.bool false, Value.slice none 0 0] 28)); exact ⟨VM_.c0, VM_.c1, VM_.c2, VZ.c0, VZ.c1, CA.c, CB.c⟩) (fun hHeld => ?_)
        clear hK K
        (try simp only [Act.put, List.setIfInBounds_toArray, List.set_cons_zero, List.set_cons_succ])
        have hba1 := HB.size
        have ltVM_ := VM_.lt
        have ltVZ := VZ.lt
        have ltCA := CA.lt
        have ltCB := CB.lt
        have ltRR := RR.lt
        have RA := newRes w7 28
        replace VM_ := VM_.keep (below_alloc (Below.refl w7.heap.size w7) (Obj.cells #[Value.bool false, Value.slice none 0 0] 28)); replace VZ := VZ.keep (below_alloc (Below.refl w7.heap.size w7) (Obj.cells #[Value.bool false, Value.slice none 0 0] 28)); replace CA := CA.keep (below_alloc (Below.refl w7.heap.size w7) (Obj.cells #[Value.bool false, Value.slice none 0 0] 28)); replace CB := CB.keep (below_alloc (Below.refl w7.heap.size w7) (Obj.cells #[Value.bool false, Value.slice none 0 0] 28)); replace RR := RR.keep (below_alloc (Below.refl w7.heap.size w7) (Obj.cells #[Value.bool false, Value.slice none 0 0] 28))
        replace HB := below_alloc HB (Obj.cells #[Value.bool false, Value.slice none 0 0] 28)
        replace H7 := Lib.hid (H7.out.below (below_alloc (Below.refl w7.heap.size w7) (Obj.cells #[Value.bool false, Value.slice none 0 0] 28)))
        generalize hWa : w7.alloc (Obj.cells #[Value.bool false, Value.slice none 0 0] 28) = wa at *
        generalize hba : w7.heap.size = ba at *
        refine wpAnyF_one (i := 13) (by kernel_rfl) rfl (fun K hK => ?_)
        go_simp
        (go_at_call 28; (with_reducible refine (Of_c y _ (by omega) (by omega)).mono ?_); rintro e w13 ⟨v, rfl, hv, hb13⟩; obtain ⟨n13, A13, m13, k13, rfl, H13⟩ := hv.form; clear hv; replace VM_ := VM_.keep hb13; replace VZ := VZ.keep hb13; replace CA := CA.keep hb13; replace CB := CB.keep hb13; replace RR := RR.keep hb13; replace HB := below_step HB hb13; replace H7 := Lib.hid (H7.out.below hb13))
        replace RA := RA.keep hb13
        clear hb13
        refine hK.out _ _ (by exact ⟨VM_.c0, VM_.c1, VM_.c2, VZ.c0, VZ.c1, CA.c, CB.c⟩) (fun hHeld => ?_)
        clear hK K
        (try simp only [Act.put, List.setIfInBounds_toArray, List.set_cons_zero, List.set_cons_succ])
        refine wpAnyF_one (i := 14) (by kernel_rfl) rfl (fun K hK => ?_)
        go_simp
        (go_at_call 27; (with_reducible refine (Add_c (x * z) y _ _ _ H7.out H13.out (by have := LXZ.out; omega) (by have := LY.out; omega)).mono ?_); rintro e w14 ⟨v, rfl, hv, hb14⟩; obtain ⟨n14, A14, m14, k14, rfl, H14⟩ := hv.form; clear hv; replace VM_ := VM_.keep hb14; replace VZ := VZ.keep hb14; replace CA := CA.keep hb14; replace CB := CB.keep hb14; replace RR := RR.keep hb14; replace HB := below_step HB hb14)
        replace RA := RA.keep hb14
        clear hb14
        refine hK.out _ _ (by exact ⟨VM_.c0, VM_.c1, VM_.c2, VZ.c0, VZ.c1, CA.c, CB.c⟩) (fun hHeld => ?_)
        clear hK K
        (try simp only [Act.put, List.setIfInBounds_toArray, List.set_cons_zero, List.set_cons_succ])
        refine wpAnyF_one (i := 17) (by kernel_rfl) rfl (fun K hK => ?_)
        go_simp
        (go_at_call 47; (with_reducible refine (Part_c (x * z + y) md _ _ H14.out (by omega) (by omega) LS.out).mono ?_); rintro e w17 ⟨v, rfl, hv, hb17⟩; generalize (x * z + y) % md = rr at *; obtain ⟨n17, A17, m17, k17, rfl, H17⟩ := hv.form; clear hv; replace VM_ := VM_.keep hb17; replace VZ := VZ.keep hb17; replace CA := CA.keep hb17; replace CB := CB.keep hb17; replace RR := RR.keep hb17; replace HB := below_step HB hb17)
        replace RA := RA.keep hb17
        clear hb17
        refine hK.out _ _ (by exact ⟨VM_.c0, VM_.c1, VM_.c2, VZ.c0, VZ.c1, CA.c, CB.c⟩) (fun hHeld => ?_)
        clear hK K
        (try simp only [Act.put, List.setIfInBounds_toArray, List.set_cons_zero, List.set_cons_succ])
        refine wpAnyF_take (i := 18) (oi := { dst := some 11, op := Go.Op.move (Go.Operand.tmp 29), type := 81, pos := "ref.go:83", after := #[{ on := 17, ground := Go.Ground.data }], guard := none }) (v := ?_) rfl (by kernel_rfl) (by kernel_rfl) (by kernel_rfl) (by kernel_rfl) (fun _ _ _ h => h) (Or.inl ⟨by rfl, ?_⟩) hHeld ?_
        rotate_left
        · intro w_ hSw_; (try dsimp only at hSw_); go_simp; (try with_reducible rfl)
        (try simp only [Act.put, List.setIfInBounds_toArray, List.set_cons_zero, List.set_cons_succ])
        refine wpAnyF_take (i := 19) (oi := { dst := some 30, op := Go.Op.extract (Go.Operand.tmp 11) 0, type := 28, pos := "ref.go:83", after := #[{ on := 18, ground := Go.Ground.data }], guard := none }) (v := ?_) rfl (by kernel_rfl) (by kernel_rfl) (by kernel_rfl) (by kernel_rfl) (fun _ _ _ h => h) (Or.inl ⟨by rfl, ?_⟩) hHeld ?_
        rotate_left
        · intro w_ hSw_; (try dsimp only at hSw_); go_simp; (try with_reducible rfl)
        (try simp only [Act.put, List.setIfInBounds_toArray, List.set_cons_zero, List.set_cons_succ])
        refine wpAnyF_pure (i := 20) (oi := { dst := some 31, op := Go.Op.extract (Go.Operand.tmp 11) 1, type := 3, pos := "ref.go:83", after := #[{ on := 18, ground := Go.Ground.data }, { on := 22, ground := Go.Ground.gcOnly Go.Departure.lateStores }], guard := none }) (v := ?_) rfl (by kernel_rfl) (by kernel_rfl) (by kernel_rfl) (by kernel_rfl) (fun _ _ _ h => h) (Or.inl ⟨by rfl, ?_⟩) hHeld ?_
        rotate_left
        · intro w_ hSw_; (try dsimp only at hSw_); go_simp; (try with_reducible rfl)
        (try simp only [Act.put, List.setIfInBounds_toArray, List.set_cons_zero, List.set_cons_succ])
        refine wpAnyF_st (i := 22) (by kernel_rfl) (by kernel_rfl) rfl (fun K hK => ?_)
        obtain ⟨⟨u1_, r1_⟩, ⟨u2_, u3_, u4_, r2_⟩, r3_, r4_, r5_⟩ := RA
        have RA : Res2 _ ba := ⟨⟨u1_, r1_⟩, ⟨u2_, u3_, u4_, r2_⟩, r3_, r4_, r5_⟩
        go_simp
        refine hK.out _ _ ?_
        clear hK K r1_ r2_ r3_ r4_ r5_
        (try simp only [Act.put, List.setIfInBounds_toArray, List.set_cons_zero, List.set_cons_succ])
        refine wpAnyF_st (i := 23) (by kernel_rfl) (by kernel_rfl) rfl (fun K hK => ?_)
        obtain ⟨⟨u1_, r1_⟩, ⟨u2_, u3_, u4_, r2_⟩, r3_, r4_, r5_⟩ := RA
        have RA : Res2 _ ba := ⟨⟨u1_, r1_⟩, ⟨u2_, u3_, u4_, r2_⟩, r3_, r4_, r5_⟩
        go_simp
        refine hK.out _ _ ?_
        clear hK K r1_ r2_ r3_ r4_ r5_
        (try simp only [Act.put, List.setIfInBounds_toArray, List.set_cons_zero, List.set_cons_succ])
        refine wpAnyF_done (by kernel_rfl) ?_ _
        clear hHeld
        have V6 := VX.store RA H17.out
        have hne : ba ≠ w.heap.size + 1 + 1 := by omega
        replace RR := RR.far (x := .bool n17) (y := .slice A17 m17 k17) hne
        replace HB := below_set2 (b := ba) HB (by omega) (.bool n17) (.slice A17 m17 k17)
        generalize hW9 : (w17.setCell ⟨ba, 0, none⟩ (.bool n17)).setCell ⟨ba, 1, none⟩ (.slice A17 m17 k17) = W9 at *
        clear hW9 RA CA CB VM_ VZ
        have vs0 := V6.c0; have vs1 := V6.c1; have vsf := V6.f0; have vsg := V6.f1; have vsl := V6.lt
        have RRh := RR
        obtain ⟨⟨u1, r1⟩, ⟨u2, u3, u4, r2⟩, r3, r4, r5⟩ := RR
        go_wp2
        refine bodyPost_ret (v := .agg #[.bool n17, .slice A17 m17 k17]) (by simp [results, Try.results77, go_sem, r1, r2, r5]) rfl ⟨_, rfl, by rw [HST.out]; exact V6.iz.out.res2 RRh _ _, below_set2 HB (by omega) _ _⟩
    · go_simp
      refine hK.out _ _ (by replace VM_ := VM_.keep (below_alloc (Below.refl w5.heap.size w5) (Obj.cells #[Value.bool false, Value.slice none 0 0] 28)); replace VZ := VZ.keep (below_alloc (Below.refl w5.heap.size w5) (Obj.cells #[Value.bool false, Value.slice none 0 0] 28)); replace CA := CA.keep (below_alloc (Below.refl w5.heap.size w5) (Obj.cells #[Value.bool false, Value.slice none 0 0] 28)); replace CB := CB.keep (below_alloc (Below.refl w5.heap.size w5) (Obj.cells #[Value.bool false, Value.slice none 0 0] 28)); replace RR := RR.keep (below_alloc (Below.refl w5.heap.size w5) (Obj.cells #[Value.bool false, Value.slice none 0 0] 28)); exact ⟨VM_.c0, VM_.c1, VM_.c2, VZ.c0, VZ.c1, CA.c, CB.c⟩) (fun hHeld => ?_)
      clear hK K
      (try simp only [Act.put, List.setIfInBounds_toArray, List.set_cons_zero, List.set_cons_succ])
      have hba1 := HB.size
      have ltVM_ := VM_.lt
      have ltVZ := VZ.lt
      have ltCA := CA.lt
      have ltCB := CB.lt
      have ltRR := RR.lt
      have RA := newRes w5 28
      replace VM_ := VM_.keep (below_alloc (Below.refl w5.heap.size w5) (Obj.cells #[Value.bool false, Value.slice none 0 0] 28)); replace VZ := VZ.keep (below_alloc (Below.refl w5.heap.size w5) (Obj.cells #[Value.bool false, Value.slice none 0 0] 28)); replace CA := CA.keep (below_alloc (Below.refl w5.heap.size w5) (Obj.cells #[Value.bool false, Value.slice none 0 0] 28)); replace CB := CB.keep (below_alloc (Below.refl w5.heap.size w5) (Obj.cells #[Value.bool false, Value.slice none 0 0] 28)); replace RR := RR.keep (below_alloc (Below.refl w5.heap.size w5) (Obj.cells #[Value.bool false, Value.slice none 0 0] 28))
      replace HB := below_alloc HB (Obj.cells #[Value.bool false, Value.slice none 0 0] 28)
      replace H5 := Lib.hid (H5.out.below (below_alloc (Below.refl w5.heap.size w5) (Obj.cells #[Value.bool false, Value.slice none 0 0] 28)))
      generalize hWa : w5.alloc (Obj.cells #[Value.bool false, Value.slice none 0 0] 28) = wa at *
      generalize hba : w5.heap.size = ba at *
      refine wpAnyF_one (i := 7) (by kernel_rfl) rfl (fun K hK => ?_)
      go_simp
      (go_at_call 38; (with_reducible refine (Mul_c x z _ _ _ H5.out (by exact VZ.iz.out) (by have := LX.out; omega) (by have := LZ.out; omega)).mono ?_); rintro e w7 ⟨v, rfl, hv, hb7⟩; obtain ⟨n7, A7, m7, k7, rfl, H7⟩ := hv.form; clear hv; replace VM_ := VM_.keep hb7; replace VZ := VZ.keep hb7; replace CA := CA.keep hb7; replace CB := CB.keep hb7; replace RR := RR.keep hb7; replace HB := below_step HB hb7)
      replace RA := RA.keep hb7
      clear hb7
      refine hK.out _ _ (by exact ⟨VM_.c0, VM_.c1, VM_.c2, VZ.c0, VZ.c1, CA.c, CB.c⟩) (fun hHeld => ?_)
      clear hK K
      (try simp only [Act.put, List.setIfInBounds_toArray, List.set_cons_zero, List.set_cons_succ])
      refine wpAnyF_one (i := 13) (by kernel_rfl) rfl (fun K hK => ?_)
      go_simp
      (go_at_call 28; (with_reducible refine (Of_c y _ (by omega) (by omega)).mono ?_); rintro e w13 ⟨v, rfl, hv, hb13⟩; obtain ⟨n13, A13, m13, k13, rfl, H13⟩ := hv.form; clear hv; replace VM_ := VM_.keep hb13; replace VZ := VZ.keep hb13; replace CA := CA.keep hb13; replace CB := CB.keep hb13; replace RR := RR.keep hb13; replace HB := below_step HB hb13; replace H7 := Lib.hid (H7.out.below hb13))
      replace RA := RA.keep hb13
      clear hb13
      refine hK.out _ _ (by exact ⟨VM_.c0, VM_.c1, VM_.c2, VZ.c0, VZ.c1, CA.c, CB.c⟩) (fun hHeld => ?_)
      clear hK K
      (try simp only [Act.put, List.setIfInBounds_toArray, List.set_cons_zero, List.set_cons_succ])
      refine wpAnyF_one (i := 14) (by kernel_rfl) rfl (fun K hK => ?_)
      go_simp
      (go_at_call 27; (with_reducible refine (Add_c (x * z) y _ _ _ H7.out H13.out (by have := LXZ.out; omega) (by have := LY.out; omega)).mono ?_); rintro e w14 ⟨v, rfl, hv, hb14⟩; obtain ⟨n14, A14, m14, k14, rfl, H14⟩ := hv.form; clear hv; replace VM_ := VM_.keep hb14; replace VZ := VZ.keep hb14; replace CA := CA.keep hb14; replace CB := CB.keep hb14; replace RR := RR.keep hb14; replace HB := below_step HB hb14)
      replace RA := RA.keep hb14
      clear hb14
      refine hK.out _ _ (by exact ⟨VM_.c0, VM_.c1, VM_.c2, VZ.c0, VZ.c1, CA.c, CB.c⟩) (fun hHeld => ?_)
      clear hK K
      (try simp only [Act.put, List.setIfInBounds_toArray, List.set_cons_zero, List.set_cons_succ])
      refine wpAnyF_one (i := 17) (by kernel_rfl) rfl (fun K hK => ?_)
      go_simp
      (go_at_call 47; (with_reducible refine (Part_c (x * z + y) md _ _ H14.out (by omega) (by omega) LS.out).mono ?_); rintro e w17 ⟨v, rfl, hv, hb17⟩; generalize (x * z + y) % md = rr at *; obtain ⟨n17, A17, m17, k17, rfl, H17⟩ := hv.form; clear hv; replace VM_ := VM_.keep hb17; replace VZ := VZ.keep hb17; replace CA := CA.keep hb17; replace CB := CB.keep hb17; replace RR := RR.keep hb17; replace HB := below_step HB hb17)
      replace RA := RA.keep hb17
      clear hb17
      refine hK.out _ _ (by exact ⟨VM_.c0, VM_.c1, VM_.c2, VZ.c0, VZ.c1, CA.c, CB.c⟩) (fun hHeld => ?_)
      clear hK K
      (try simp only [Act.put, List.setIfInBounds_toArray, List.set_cons_zero, List.set_cons_succ])
      refine wpAnyF_take (i := 18) (oi := { dst := some 11, op := Go.Op.move (Go.Operand.tmp 29), type := 81, pos := "ref.go:83", after := #[{ on := 17, ground := Go.Ground.data }], guard := none }) (v := ?_) rfl (by kernel_rfl) (by kernel_rfl) (by kernel_rfl) (by kernel_rfl) (fun _ _ _ h => h) (Or.inl ⟨by rfl, ?_⟩) hHeld ?_
      rotate_left
      · intro w_ hSw_; (try dsimp only at hSw_); go_simp; (try with_reducible rfl)
      (try simp only [Act.put, List.setIfInBounds_toArray, List.set_cons_zero, List.set_cons_succ])
      refine wpAnyF_take (i := 19) (oi := { dst := some 30, op := Go.Op.extract (Go.Operand.tmp 11) 0, type := 28, pos := "ref.go:83", after := #[{ on := 18, ground := Go.Ground.data }], guard := none }) (v := ?_) rfl (by kernel_rfl) (by kernel_rfl) (by kernel_rfl) (by kernel_rfl) (fun _ _ _ h => h) (Or.inl ⟨by rfl, ?_⟩) hHeld ?_
      rotate_left
      · intro w_ hSw_; (try dsimp only at hSw_); go_simp; (try with_reducible rfl)
      (try simp only [Act.put, List.setIfInBounds_toArray, List.set_cons_zero, List.set_cons_succ])
      refine wpAnyF_pure (i := 20) (oi := { dst := some 31, op := Go.Op.extract (Go.Operand.tmp 11) 1, type := 3, pos := "ref.go:83", after := #[{ on := 18, ground := Go.Ground.data }, { on := 22, ground := Go.Ground.gcOnly Go.Departure.lateStores }], guard := none }) (v := ?_) rfl (by kernel_rfl) (by kernel_rfl) (by kernel_rfl) (by kernel_rfl) (fun _ _ _ h => h) (Or.inl ⟨by rfl, ?_⟩) hHeld ?_
      rotate_left
      · intro w_ hSw_; (try dsimp only at hSw_); go_simp; (try with_reducible rfl)
      (try simp only [Act.put, List.setIfInBounds_toArray, List.set_cons_zero, List.set_cons_succ])
      refine wpAnyF_st (i := 22) (by kernel_rfl) (by kernel_rfl) rfl (fun K hK => ?_)
      obtain ⟨⟨u1_, r1_⟩, ⟨u2_, u3_, u4_, r2_⟩, r3_, r4_, r5_⟩ := RA
      have RA : Res2 _ ba := ⟨⟨u1_, r1_⟩, ⟨u2_, u3_, u4_, r2_⟩, r3_, r4_, r5_⟩
      go_simp
      refine hK.out _ _ ?_
      clear hK K r1_ r2_ r3_ r4_ r5_
      (try simp only [Act.put, List.setIfInBounds_toArray, List.set_cons_zero, List.set_cons_succ])
      refine wpAnyF_st (i := 23) (by kernel_rfl) (by kernel_rfl) rfl (fun K hK => ?_)
      obtain ⟨⟨u1_, r1_⟩, ⟨u2_, u3_, u4_, r2_⟩, r3_, r4_, r5_⟩ := RA
      have RA : Res2 _ ba := ⟨⟨u1_, r1_⟩, ⟨u2_, u3_, u4_, r2_⟩, r3_, r4_, r5_⟩
      go_simp
      refine hK.out _ _ ?_
      clear hK K r1_ r2_ r3_ r4_ r5_
      (try simp only [Act.put, List.setIfInBounds_toArray, List.set_cons_zero, List.set_cons_succ])
      refine wpAnyF_done (by kernel_rfl) ?_ _
      clear hHeld
      have V6 := VX.store RA H17.out
      have hne : ba ≠ w.heap.size + 1 + 1 := by omega
      replace RR := RR.far (x := .bool n17) (y := .slice A17 m17 k17) hne
      replace HB := below_set2 (b := ba) HB (by omega) (.bool n17) (.slice A17 m17 k17)
      generalize hW9 : (w17.setCell ⟨ba, 0, none⟩ (.bool n17)).setCell ⟨ba, 1, none⟩ (.slice A17 m17 k17) = W9 at *
      clear hW9 RA CA CB VM_ VZ
      have vs0 := V6.c0; have vs1 := V6.c1; have vsf := V6.f0; have vsg := V6.f1; have vsl := V6.lt
      have RRh := RR
      obtain ⟨⟨u1, r1⟩, ⟨u2, u3, u4, r2⟩, r3, r4, r5⟩ := RR
      go_wp2
      refine bodyPost_ret (v := .agg #[.bool n17, .slice A17 m17 k17]) (by simp [results, Try.results77, go_sem, r1, r2, r5]) rfl ⟨_, rfl, by rw [HST.out]; exact V6.iz.out.res2 RRh _ _, below_set2 HB (by omega) _ _⟩
  · go_simp
    refine hK.out _ _ (by replace VM_ := VM_.keep (below_alloc (Below.refl wd.heap.size wd) (Obj.cells #[Value.bool false, Value.slice none 0 0] 28)); replace VZ := VZ.keep (below_alloc (Below.refl wd.heap.size wd) (Obj.cells #[Value.bool false, Value.slice none 0 0] 28)); replace CA := CA.keep (below_alloc (Below.refl wd.heap.size wd) (Obj.cells #[Value.bool false, Value.slice none 0 0] 28)); replace CB := CB.keep (below_alloc (Below.refl wd.heap.size wd) (Obj.cells #[Value.bool false, Value.slice none 0 0] 28)); replace RR := RR.keep (below_alloc (Below.refl wd.heap.size wd) (Obj.cells #[Value.bool false, Value.slice none 0 0] 28)); exact ⟨VM_.c0, VM_.c1, VM_.c2, VZ.c0, VZ.c1, CA.c, CB.c⟩) (fun hHeld => ?_)
    clear hK K
    (try simp only [Act.put, List.setIfInBounds_toArray, List.set_cons_zero, List.set_cons_succ])
    have hba1 := HB.size
    have ltVM_ := VM_.lt
    have ltVZ := VZ.lt
    have ltCA := CA.lt
    have ltCB := CB.lt
    have ltRR := RR.lt
    have RA := newRes wd 28
    replace VM_ := VM_.keep (below_alloc (Below.refl wd.heap.size wd) (Obj.cells #[Value.bool false, Value.slice none 0 0] 28)); replace VZ := VZ.keep (below_alloc (Below.refl wd.heap.size wd) (Obj.cells #[Value.bool false, Value.slice none 0 0] 28)); replace CA := CA.keep (below_alloc (Below.refl wd.heap.size wd) (Obj.cells #[Value.bool false, Value.slice none 0 0] 28)); replace CB := CB.keep (below_alloc (Below.refl wd.heap.size wd) (Obj.cells #[Value.bool false, Value.slice none 0 0] 28)); replace RR := RR.keep (below_alloc (Below.refl wd.heap.size wd) (Obj.cells #[Value.bool false, Value.slice none 0 0] 28))
    replace HB := below_alloc HB (Obj.cells #[Value.bool false, Value.slice none 0 0] 28)
    generalize hWa : wd.alloc (Obj.cells #[Value.bool false, Value.slice none 0 0] 28) = wa at *
    generalize hba : wd.heap.size = ba at *
    refine wpAnyF_one (i := 5) (by kernel_rfl) rfl (fun K hK => ?_)
    go_simp
    (go_at_call 28; (with_reducible refine (Of_c x _ (by omega) (by omega)).mono ?_); rintro e w5 ⟨v, rfl, hv, hb5⟩; obtain ⟨n5, A5, m5, k5, rfl, H5⟩ := hv.form; clear hv; replace VM_ := VM_.keep hb5; replace VZ := VZ.keep hb5; replace CA := CA.keep hb5; replace CB := CB.keep hb5; replace RR := RR.keep hb5; replace HB := below_step HB hb5)
    replace RA := RA.keep hb5
    clear hb5
    refine hK.out _ _ (by exact ⟨VM_.c0, VM_.c1, VM_.c2, VZ.c0, VZ.c1, CA.c, CB.c⟩) (fun hHeld => ?_)
    clear hK K
    (try simp only [Act.put, List.setIfInBounds_toArray, List.set_cons_zero, List.set_cons_succ])
    refine wpAnyF_one (i := 7) (by kernel_rfl) rfl (fun K hK => ?_)
    go_simp
    (go_at_call 38; (with_reducible refine (Mul_c x z _ _ _ H5.out (by exact VZ.iz.out) (by have := LX.out; omega) (by have := LZ.out; omega)).mono ?_); rintro e w7 ⟨v, rfl, hv, hb7⟩; obtain ⟨n7, A7, m7, k7, rfl, H7⟩ := hv.form; clear hv; replace VM_ := VM_.keep hb7; replace VZ := VZ.keep hb7; replace CA := CA.keep hb7; replace CB := CB.keep hb7; replace RR := RR.keep hb7; replace HB := below_step HB hb7)
    replace RA := RA.keep hb7
    clear hb7
    refine hK.out _ _ (by exact ⟨VM_.c0, VM_.c1, VM_.c2, VZ.c0, VZ.c1, CA.c, CB.c⟩) (fun hHeld => ?_)
    clear hK K
    (try simp only [Act.put, List.setIfInBounds_toArray, List.set_cons_zero, List.set_cons_succ])
    refine wpAnyF_one (i := 13) (by kernel_rfl) rfl (fun K hK => ?_)
    go_simp
    (go_at_call 28; (with_reducible refine (Of_c y _ (by omega) (by omega)).mono ?_); rintro e w13 ⟨v, rfl, hv, hb13⟩; obtain ⟨n13, A13, m13, k13, rfl, H13⟩ := hv.form; clear hv; replace VM_ := VM_.keep hb13; replace VZ := VZ.keep hb13; replace CA := CA.keep hb13; replace CB := CB.keep hb13; replace RR := RR.keep hb13; replace HB := below_step HB hb13; replace H7 := Lib.hid (H7.out.below hb13))
    replace RA := RA.keep hb13
    clear hb13
    refine hK.out _ _ (by exact ⟨VM_.c0, VM_.c1, VM_.c2, VZ.c0, VZ.c1, CA.c, CB.c⟩) (fun hHeld => ?_)
    clear hK K
    (try simp only [Act.put, List.setIfInBounds_toArray, List.set_cons_zero, List.set_cons_succ])
    refine wpAnyF_one (i := 14) (by kernel_rfl) rfl (fun K hK => ?_)
    go_simp
    (go_at_call 27; (with_reducible refine (Add_c (x * z) y _ _ _ H7.out H13.out (by have := LXZ.out; omega) (by have := LY.out; omega)).mono ?_); rintro e w14 ⟨v, rfl, hv, hb14⟩; obtain ⟨n14, A14, m14, k14, rfl, H14⟩ := hv.form; clear hv; replace VM_ := VM_.keep hb14; replace VZ := VZ.keep hb14; replace CA := CA.keep hb14; replace CB := CB.keep hb14; replace RR := RR.keep hb14; replace HB := below_step HB hb14)
    replace RA := RA.keep hb14
    clear hb14
    refine hK.out _ _ (by exact ⟨VM_.c0, VM_.c1, VM_.c2, VZ.c0, VZ.c1, CA.c, CB.c⟩) (fun hHeld => ?_)
    clear hK K
    (try simp only [Act.put, List.setIfInBounds_toArray, List.set_cons_zero, List.set_cons_succ])
    refine wpAnyF_one (i := 17) (by kernel_rfl) rfl (fun K hK => ?_)
    go_simp
    (go_at_call 47; (with_reducible refine (Part_c (x * z + y) md _ _ H14.out (by omega) (by omega) LS.out).mono ?_); rintro e w17 ⟨v, rfl, hv, hb17⟩; generalize (x * z + y) % md = rr at *; obtain ⟨n17, A17, m17, k17, rfl, H17⟩ := hv.form; clear hv; replace VM_ := VM_.keep hb17; replace VZ := VZ.keep hb17; replace CA := CA.keep hb17; replace CB := CB.keep hb17; replace RR := RR.keep hb17; replace HB := below_step HB hb17)
    replace RA := RA.keep hb17
    clear hb17
    refine hK.out _ _ (by exact ⟨VM_.c0, VM_.c1, VM_.c2, VZ.c0, VZ.c1, CA.c, CB.c⟩) (fun hHeld => ?_)
    clear hK K
    (try simp only [Act.put, List.setIfInBounds_toArray, List.set_cons_zero, List.set_cons_succ])
    refine wpAnyF_take (i := 18) (oi := { dst := some 11, op := Go.Op.move (Go.Operand.tmp 29), type := 81, pos := "ref.go:83", after := #[{ on := 17, ground := Go.Ground.data }], guard := none }) (v := ?_) rfl (by kernel_rfl) (by kernel_rfl) (by kernel_rfl) (by kernel_rfl) (fun _ _ _ h => h) (Or.inl ⟨by rfl, ?_⟩) hHeld ?_
    rotate_left
    · intro w_ hSw_; (try dsimp only at hSw_); go_simp; (try with_reducible rfl)
    (try simp only [Act.put, List.setIfInBounds_toArray, List.set_cons_zero, List.set_cons_succ])
    refine wpAnyF_take (i := 19) (oi := { dst := some 30, op := Go.Op.extract (Go.Operand.tmp 11) 0, type := 28, pos := "ref.go:83", after := #[{ on := 18, ground := Go.Ground.data }], guard := none }) (v := ?_) rfl (by kernel_rfl) (by kernel_rfl) (by kernel_rfl) (by kernel_rfl) (fun _ _ _ h => h) (Or.inl ⟨by rfl, ?_⟩) hHeld ?_
    rotate_left
    · intro w_ hSw_; (try dsimp only at hSw_); go_simp; (try with_reducible rfl)
    (try simp only [Act.put, List.setIfInBounds_toArray, List.set_cons_zero, List.set_cons_succ])
    refine wpAnyF_pure (i := 20) (oi := { dst := some 31, op := Go.Op.extract (Go.Operand.tmp 11) 1, type := 3, pos := "ref.go:83", after := #[{ on := 18, ground := Go.Ground.data }, { on := 22, ground := Go.Ground.gcOnly Go.Departure.lateStores }], guard := none }) (v := ?_) rfl (by kernel_rfl) (by kernel_rfl) (by kernel_rfl) (by kernel_rfl) (fun _ _ _ h => h) (Or.inl ⟨by rfl, ?_⟩) hHeld ?_
    rotate_left
    · intro w_ hSw_; (try dsimp only at hSw_); go_simp; (try with_reducible rfl)
    (try simp only [Act.put, List.setIfInBounds_toArray, List.set_cons_zero, List.set_cons_succ])
    refine wpAnyF_st (i := 22) (by kernel_rfl) (by kernel_rfl) rfl (fun K hK => ?_)
    obtain ⟨⟨u1_, r1_⟩, ⟨u2_, u3_, u4_, r2_⟩, r3_, r4_, r5_⟩ := RA
    have RA : Res2 _ ba := ⟨⟨u1_, r1_⟩, ⟨u2_, u3_, u4_, r2_⟩, r3_, r4_, r5_⟩
    go_simp
    refine hK.out _ _ ?_
    clear hK K r1_ r2_ r3_ r4_ r5_
    (try simp only [Act.put, List.setIfInBounds_toArray, List.set_cons_zero, List.set_cons_succ])
    refine wpAnyF_st (i := 23) (by kernel_rfl) (by kernel_rfl) rfl (fun K hK => ?_)
    obtain ⟨⟨u1_, r1_⟩, ⟨u2_, u3_, u4_, r2_⟩, r3_, r4_, r5_⟩ := RA
    have RA : Res2 _ ba := ⟨⟨u1_, r1_⟩, ⟨u2_, u3_, u4_, r2_⟩, r3_, r4_, r5_⟩
    go_simp
    refine hK.out _ _ ?_
    clear hK K r1_ r2_ r3_ r4_ r5_
    (try simp only [Act.put, List.setIfInBounds_toArray, List.set_cons_zero, List.set_cons_succ])
    refine wpAnyF_done (by kernel_rfl) ?_ _
    clear hHeld
    have V6 := VX.store RA H17.out
    have hne : ba ≠ w.heap.size + 1 + 1 := by omega
    replace RR := RR.far (x := .bool n17) (y := .slice A17 m17 k17) hne
    replace HB := below_set2 (b := ba) HB (by omega) (.bool n17) (.slice A17 m17 k17)
    generalize hW9 : (w17.setCell ⟨ba, 0, none⟩ (.bool n17)).setCell ⟨ba, 1, none⟩ (.slice A17 m17 k17) = W9 at *
    clear hW9 RA CA CB VM_ VZ
    have vs0 := V6.c0; have vs1 := V6.c1; have vsf := V6.f0; have vsg := V6.f1; have vsl := V6.lt
    have RRh := RR
    obtain ⟨⟨u1, r1⟩, ⟨u2, u3, u4, r2⟩, r3, r4, r5⟩ := RR
    go_wp2
    refine bodyPost_ret (v := .agg #[.bool n17, .slice A17 m17 k17]) (by simp [results, Try.results77, go_sem, r1, r2, r5]) rfl ⟨_, rfl, by rw [HST.out]; exact V6.iz.out.res2 RRh _ _, below_set2 HB (by omega) _ _⟩
end Go.Proofs.Ytiaeeclmlchpoaa
