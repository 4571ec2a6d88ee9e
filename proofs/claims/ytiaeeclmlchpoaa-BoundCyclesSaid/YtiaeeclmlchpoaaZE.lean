/- What ref02.Orbit does to memory and what it returns. No condition. -/
import Derived.Test.YtiaeeclmlchpoaaZD
import Derived.Deep.CutRange
set_option linter.unusedVariables false
set_option linter.unusedSimpArgs false
namespace Go.Proofs.Ytiaeeclmlchpoaa
open Go.RowKit

theorem info_N : (Try.prog.info? 28).map (fun i => (i.zero, i.size, i.bytes)) = some (some (.agg #[.bool false, .slice none 0 0]), 2, 32) := by kernel_rfl
theorem heap_set2 (w : World) (b g : Nat) (x y : Value) (h : g ≠ b) : ((w.setCell ⟨b, 0, none⟩ x).setCell ⟨b, 1, none⟩ y).heap[g]? = w.heap[g]? := by
  simp [World.setCell, Array.getElem?_modify, Ne.symm h]
theorem OwZ.res2 {B : Nat} {k : IntKind} {w : World} {base : Nat} {e : TypeId} {v : Value} {l : List Int} {b : Nat} (h : OwZ B k w base e v l) (hr : Res2 w b) (hb : b < base) (x y : Value) : OwZ B k ((w.setCell ⟨b, 0, none⟩ x).setCell ⟨b, 1, none⟩ y) base e v l := by
  obtain ⟨xs, ⟨h1, h2⟩, h3⟩ := h
  refine ⟨xs, ⟨⟨h1.1, ?_⟩, ?_⟩, h3.kp (Kp.res2 hr x y)⟩
  · rcases h1.2 with hn | ⟨g, cap, cur, rfl, hg, hgg, rest⟩
    · exact .inl hn
    · exact .inr ⟨g, cap, cur, rfl, hg, by rw [heap_set2 w b g x y (by omega)]; exact hgg, rest⟩
  · intro g cur e' fz hg hcur
    have hge := (h1.lt g hg).1
    rw [heap_set2 w b g x y (by omega)] at hcur
    exact h2 g cur e' fz hg hcur
theorem natAbs_div_le {a m : Int} (h : 1 ≤ m) : (a / m).natAbs ≤ a.natAbs := Int.natAbs_ediv_le_natAbs a m
theorem step_len {M : Mp} (hok : okM M) (z : Int) : (dg B9 (stepZ M z)).length ≤ (dg B9 z).length + 4 := by
  obtain ⟨m2, m12, hl1, hl2, hrow⟩ := hok
  have h0 := Int.emod_nonneg z (show M.mod ≠ 0 by omega)
  have h1 := Int.emod_lt_of_pos z (show 0 < M.mod by omega)
  have h2 := hrow (z % M.mod).toNat (by omega)
  obtain ⟨x1, x2, y1, y2, -⟩ := h2
  unfold stepZ
  generalize gd M.mul (z % M.mod).toNat = x at *
  generalize gd M.add (z % M.mod).toNat = y at *
  have e1 := len_mul B9two x z
  have e2 := len_add B9two (x * z) y
  have e3 : (dg B9 x).length ≤ 2 := len_small (by omega) (by omega)
  have e4 : (dg B9 y).length ≤ 2 := len_small (by omega) (by omega)
  have e5 : (dg B9 ((x * z + y) / M.mod)).length ≤ (dg B9 (x * z + y)).length := digs_len_mono B9two (natAbs_div_le (by omega))
  omega
/-- The first numbers of an orbit, up to one that is too long. -/
def orbL (M : Mp) : Int → Nat → List Int
  | z, 0 => [z]
  | z, k + 1 => if dl z ≤ 2000 then z :: orbL M (stepZ M z) k else [z]
theorem len_of_dl {z : Int} (h : dl z ≤ 2000) : (dg B9 z).length ≤ 2000 := by
  unfold dl at h
  rcases Nat.eq_zero_or_pos z.natAbs with h0 | h0
  · unfold dg; rw [h0, digs_zero]; simp
  · rw [if_neg (by omega)] at h
    have h1 := digs_len_lt (B := 10) (by omega) z.natAbs
    have h2 : (10 : Nat) ^ (digs 10 z.natAbs).length ≤ B9 ^ (digs 10 z.natAbs).length := Nat.pow_le_pow_left (by decide) _
    have := digs_len_le B9two (Nat.lt_of_lt_of_le h1 h2)
    unfold dg
    omega
set_option maxRecDepth 100000 in
set_option maxHeartbeats 8000000 in
theorem Orbit_c (M : Mp) (z : Int) (k : Nat) (v u : Value) (w : World) (hM : IsM w v M) (hz : IsN w u z) (hok : okM M) (sz : (dg B9 z).length ≤ 2100) (hk : k ≤ 1000000) :
    Calls Try.prog 60 #[v, u, .int .i64 k] w fun e w' => ∃ A c, e = .returned (.slice A (orbL M z k).length c) ∧ Hid (LsZ B9 .i64 w' A c (orbL M z k)) ∧ Below w.heap.size w w' := by
  obtain ⟨md, A, n, c, A', n', c', rfl, HM⟩ := hM.form
  obtain ⟨nz, Az, mz, kz, rfl, HZ⟩ := hz.form
  have HOK := Lib.hid hok
  have SZ : Hid ((dg B9 z).length ≤ 2100) := sz
  clear hM hz hok sz
  go_enter Try.func60, Try.ntmps60
  go_wp2_with fail
  generalize hW : (w.alloc (Obj.cells #[Value.int .i64 md, Value.slice A n c, Value.slice A' n' c'] 55)).alloc (Obj.cells #[Value.bool nz, Value.slice Az mz kz] 28) = W at *
  obtain ⟨VM_, VZ, hs, HB⟩ := startM w _ _ W HM.out HZ.out hW
  clear hW HM HZ
  have hs : W.heap.size = w.heap.size + 1 + 1 := hs
  have HO0 : Hid (OwZ B9 .i64 (W.alloc (Obj.cells #[Value.bool nz, Value.slice Az mz kz] 28)) (w.heap.size + 1 + 1) 28 (.slice (some ⟨w.heap.size + 1 + 1, 0, none⟩) 1 1) ([] ++ [z])) := by
    show OwZ _ _ _ _ _ _ _
    rw [← hs]; exact OwZ.one (Nat.le_refl _) VZ.iz.out
  have hsz := hs
  replace VM_ := VM_.keep (below_alloc (Below.refl W.heap.size W) (Obj.cells #[Value.bool nz, Value.slice Az mz kz] 28)); replace VZ := VZ.keep (below_alloc (Below.refl W.heap.size W) (Obj.cells #[Value.bool nz, Value.slice Az mz kz] 28))
  replace HB := below_alloc HB (Obj.cells #[Value.bool nz, Value.slice Az mz kz] 28)
  generalize hW : W.alloc (Obj.cells #[Value.bool nz, Value.slice Az mz kz] 28) = W1 at *
  clear hW
  generalize W.heap.size = bl at *
  go_loopg [7, 8] k (fun g lv iv wr => ∃ (i : Nat) (pre : List Int) (z' : Int) (nz : Bool) (Az : Option Addr) (mz kz : Nat), g = k - i ∧ iv = .int .i64 i ∧ i ≤ k ∧ Hid (OwZ B9 .i64 wr (w.heap.size + 1 + 1) 28 lv (pre ++ [z'])) ∧ VM wr w.heap.size md A n c A' n' c' M ∧ VN wr (w.heap.size + 1) nz Az mz kz (z') ∧ Below w.heap.size w wr ∧ pre.length ≤ i ∧ Hid (orbL M z k = pre ++ orbL M z' (k - i)) ∧ Hid ((dg B9 z').length ≤ 2100))
  case atStart => exact ⟨0, [], z, _, _, _, _, rfl, rfl, by omega, HO0, VM_, VZ, HB, by simp, by show _ = _; rw [List.nil_append, Nat.sub_zero], SZ⟩
  case round =>
    clear VM_ VZ HB HO0 SZ
    obtain ⟨i, pre, z', nz, Az, mz, kz, hgk, rfl, hi, HO, VM_, VZ, HB, hpl, HI, SZ'⟩ := hrel
    by_cases hik : i < k
    · cases hf : decide (dl z' ≤ 2000) with
      | false =>
        have HR : Hid (orbL M z k = pre ++ [z']) := by
          show _ = _
          rw [HI.out, show k - i = (k - (i + 1)) + 1 by omega, orbL, if_neg (of_decide_eq_false hf)]
        have HF := Lib.hid hf
        clear hf
        have vz0 := VZ.c0; have vz1 := VZ.c1; have vzf := VZ.f0; have vzg := VZ.f1; have vzl := VZ.lt
        go_wp2_with fail
        (with_reducible refine (Fits_c z' _ _ VZ.iz.out (by have := SZ'.out; omega)).mono ?_)
        rintro e w1 ⟨rfl, hb1⟩
        replace VM_ := VM_.keep hb1; replace VZ := VZ.keep hb1; replace HO := Lib.hid (HO.out.below hb1); replace HB := below_step HB hb1; clear hb1
        clear vz0 vz1 vzf vzg vzl
        rw [HF.out]
        obtain ⟨A2, c2, rfl, hs⟩ := HO.out.form
        have HS := Lib.hid hs
        clear HO hs
        go_wp2
        refine bodyPost_ret (v := .slice A2 (pre ++ [z']).length c2) (by simp [results, Try.results60, go_sem]) rfl ⟨A2, c2, by rw [HR.out], by rw [HR.out]; exact HS, HB⟩
      | true =>
        have HI2 : Hid (orbL M z k = (pre ++ [z']) ++ orbL M (stepZ M z') (k - (i + 1))) := by
          show _ = _
          rw [HI.out, show k - i = (k - (i + 1)) + 1 by omega, orbL, if_pos (of_decide_eq_true hf), List.append_assoc]; rfl
        have SZ2 : Hid ((dg B9 (stepZ M z')).length ≤ 2100) := by
          have h1 := step_len HOK.out z'
          have h2 := len_of_dl (of_decide_eq_true hf)
          show _ ≤ _; omega
        have HF := Lib.hid hf
        clear hf
        have vz0 := VZ.c0; have vz1 := VZ.c1; have vzf := VZ.f0; have vzg := VZ.f1; have vzl := VZ.lt
        go_wp2_with fail
        (with_reducible refine (Fits_c z' _ _ VZ.iz.out (by have := SZ'.out; omega)).mono ?_)
        rintro e w1 ⟨rfl, hb1⟩
        replace VM_ := VM_.keep hb1; replace VZ := VZ.keep hb1; replace HO := Lib.hid (HO.out.below hb1); replace HB := below_step HB hb1; clear hb1
        clear vz0 vz1 vzf vzg vzl
        rw [HF.out]
        have vm0 := VM_.c0; have vm1 := VM_.c1; have vm2 := VM_.c2
        have vz0 := VZ.c0; have vz1 := VZ.c1; have vzf := VZ.f0; have vzg := VZ.f1; have vzl := VZ.lt
        go_wp2_with fail
        (with_reducible refine (Step_c M z' _ _ _ VM_.im.out VZ.iz.out HOK.out (by have := SZ'.out; omega)).mono ?_)
        rintro e w2 ⟨v, rfl, hv, hb2⟩
        obtain ⟨n2, A2, m2, k2, rfl, H2⟩ := hv.form; clear hv
        replace VM_ := VM_.keep hb2; replace VZ := VZ.keep hb2; replace HO := Lib.hid (HO.out.below hb2); replace HB := below_step HB hb2; clear hb2
        clear vm0 vm1 vm2
        clear vz0 vz1 vzf vzg vzl
        have vz0 := VZ.c0; have vz1 := VZ.c1; have vzf := VZ.f0; have vzg := VZ.f1; have vzl := VZ.lt
        go_upto_region 6 with fail
        clear vz0 vz1 vzf vzg vzl
        have RZ := VZ.res
        replace HO := Lib.hid (HO.out.res2 RZ (by omega) (.bool n2) (.slice A2 m2 k2))
        replace VM_ := VM_.far (x := .bool n2) (y := .slice A2 m2 k2) RZ (by omega)
        replace VZ := VX.store RZ H2.out
        replace HB := below_set2 (b := w.heap.size + 1) HB (by omega) (.bool n2) (.slice A2 m2 k2)
        clear RZ H2
        generalize hW : (w2.setCell ⟨(w.heap.size + 1), 0, none⟩ (.bool n2)).setCell ⟨(w.heap.size + 1), 1, none⟩ (.slice A2 m2 k2) = W3 at *
        clear hW
        have hb3 : w.heap.size + 1 + 1 ≤ W3.heap.size := VZ.lt
        have vz0 := VZ.c0; have vz1 := VZ.c1; have vzf := VZ.f0; have vzg := VZ.f1; have vzl := VZ.lt
        go_wp2_with (at_builtin; refine app_Z (w.heap.size + 1 + 1) rfl _ _ 59 28 32 rfl Try.underlying59 info_N (by decide) _ (pre ++ [z']) _ _ _ _ (stepZ M z') HO.out VZ.iz.out rfl rfl hb3 (by rw [List.length_append, List.length_singleton]; omega) ?_; intro v1 w4 HO1 HBB HK hb4)
        clear hb3
        replace VM_ := VM_.keepB HBB (by omega) HK
        replace VZ := VZ.keepB HBB (by omega) HK
        replace HB := HB.trans (HBB.mono (by omega))
        clear HBB HK hb4
        clear vz0 vz1 vzf vzg vzl
        go_wp2
        go_roundg (k - (i + 1))
        case measure => omega
        case rel => exact ⟨i + 1, pre ++ [z'], stepZ M z', _, _, _, _, rfl, by go_num, by omega, HO1, VM_, VZ, HB, by rw [List.length_append, List.length_singleton]; omega, HI2, SZ2⟩
    · have HR : Hid (orbL M z k = pre ++ [z']) := by
        show _ = _
        rw [HI.out, show k - i = 0 by omega]; rfl
      obtain ⟨A2, c2, rfl, hs⟩ := HO.out.form
      have HS := Lib.hid hs
      clear HO hs
      go_wp2
      refine bodyPost_ret (v := .slice A2 (pre ++ [z']).length c2) (by simp [results, Try.results60, go_sem]) rfl ⟨A2, c2, by rw [HR.out], by rw [HR.out]; exact HS, HB⟩
end Go.Proofs.Ytiaeeclmlchpoaa

set_option linter.unusedVariables false
set_option linter.unusedSimpArgs false
namespace Go.Proofs.Ytiaeeclmlchpoaa
open Go.RowKit

theorem orbL_len (M : Mp) (k : Nat) : ∀ z, 0 < (orbL M z k).length ∧ (orbL M z k).length ≤ k + 1 := by
  induction k with
  | zero => intro z; simp [orbL]
  | succ k ih =>
    intro z
    unfold orbL
    split
    · have := ih (stepZ M z); simp; omega
    · simp
theorem orbL_size (M : Mp) (hok : okM M) (k : Nat) : ∀ z, (dg B9 z).length ≤ 2100 → ∀ j, j < (orbL M z k).length → (dg B9 (gd (orbL M z k) j)).length ≤ 2100 := by
  induction k with
  | zero =>
    intro z hz j hj
    have : j = 0 := by simp [orbL] at hj; omega
    subst this
    simpa [orbL, gd] using hz
  | succ k ih =>
    intro z hz j hj
    unfold orbL at hj ⊢
    split at hj
    · rename_i hd
      rw [if_pos hd]
      cases j with
      | zero => simpa [gd] using hz
      | succ j =>
        have h1 := step_len hok z
        have h2 := len_of_dl hd
        have := ih (stepZ M z) (by omega) j (by simpa using hj)
        simpa [gd] using this
    · rename_i hd
      rw [if_neg hd]
      have : j = 0 := by simp at hj; omega
      subst this
      simpa [gd] using hz
theorem LsZ.el {B : Nat} {k : IntKind} {w : World} {b off c : Nat} {l : List Int} (h : LsZ B k w (some ⟨b, off, none⟩) c l) {j : Nat} (hj : j < l.length) :
    ∃ nv A' n' c', CL w b (off + j * 2) (.bool nv) ∧ CL w b (off + j * 2 + 1) (.slice A' n' c') ∧ Hid (IsZ B k w (.agg #[.bool nv, .slice A' n' c']) (gd l j)) := by
  obtain ⟨b', off', nv, A', n', c', e, hlt, h1, h2, h3⟩ := h.at hj
  injection e with e
  injection e with e1 e2
  subst e1 e2
  exact ⟨nv, A', n', c', ⟨h1, hlt⟩, ⟨h2, hlt⟩, h3⟩
theorem LsZ.keepB {B : Nat} {k : IntKind} {w w' : World} {b off c base : Nat} {l : List Int} (h : LsZ B k w (some ⟨b, off, none⟩) c l) (hb : Below base w w') (hlt : b < base) (hk : Kp w w') : LsZ B k w' (some ⟨b, off, none⟩) c l := by
  obtain ⟨xs, h1, h2, h3, h4⟩ := h
  refine ⟨xs, ⟨h1.1, fun hn => ?_⟩, h2, h3, h4.kp hk⟩
  obtain ⟨b', off', e, hl, hc⟩ := h1.2 hn
  injection e with e
  injection e with e1 e2
  subst e1 e2
  exact ⟨b, off, rfl, Nat.lt_of_lt_of_le hl hb.size, fun j u hu => kcellB hb hlt (hc j u hu)⟩

theorem LsZ.nil {B : Nat} {k : IntKind} (w : World) : LsZ B k w none 0 [] := ⟨[], Rd.nil, Nat.le_refl _, by omega, fun j z h => by simp at h⟩
theorem icmp_lt' (x y : Int) : icmp x y < 0 ↔ x < y := by unfold icmp; split <;> (try split) <;> omega
theorem icmp_eq (x y : Int) : icmp x y = 0 ↔ x = y := by unfold icmp; split <;> (try split) <;> omega
/-- The distance from the last number back to the same one; 0: there is none. -/
def perF (l : List Int) (last : Nat) : Nat → Nat
  | 0 => 0
  | i + 1 => if gd l i = gd l last then last - i else perF l last i
def atF (l : List Int) (len : Nat) : Nat → Nat → Nat
  | 0, a => a
  | f + 1, a => if gd l a = gd l (a + len) then a else atF l len f (a + 1)
def leastF (l : List Int) : Nat → Nat → Nat → Nat
  | 0, _, m => m
  | f + 1, i, m => leastF l f (i + 1) (if gd l i < gd l m then i else m)
theorem atF_stop {l : List Int} {len f a : Nat} (h : gd l a = gd l (a + len)) : atF l len f a = a := by
  cases f with
  | zero => rfl
  | succ f => unfold atF; rw [if_pos h]
/-- The error, the steps and the cycle. -/
def fateL (l : List Int) : Int × Nat × List Int :=
  if 2000 < dl (gd l (l.length - 1)) then (3, 0, [])
  else if perF l (l.length - 1) (l.length - 1) = 0 then (4, 0, [])
  else
    let len := perF l (l.length - 1) (l.length - 1)
    let at_ := atF l len (l.length - 1 - len) 0
    let m := leastF l len at_ at_
    (0, at_, (List.range len).map fun i => gd l (at_ + (m - at_ + i) % len))
theorem perF_le (l : List Int) (last : Nat) : ∀ i, i ≤ last → perF l last i ≤ last := by
  intro i
  induction i with
  | zero => intro _; exact Nat.zero_le _
  | succ i ih =>
    intro h
    unfold perF
    split
    · omega
    · exact ih (by omega)
theorem perF_eq {l : List Int} {last : Nat} : ∀ i, i ≤ last → 0 < perF l last i → gd l (last - perF l last i) = gd l last := by
  intro i
  induction i with
  | zero => intro _ h; exact absurd h (by simp [perF])
  | succ i ih =>
    intro h hp
    unfold perF at hp ⊢
    split
    · rename_i he
      rw [show last - (last - i) = i by omega]; exact he
    · rename_i he
      rw [if_neg he] at hp
      exact ih (by omega) hp
set_option maxRecDepth 100000 in
set_option maxHeartbeats 8000000 in
theorem Fate5_c (M : Mp) (z : Int) (k : Nat) (v u : Value) (w : World) (hM : IsM w v M) (hz : IsN w u z) (hok : okM M) (sz : (dg B9 z).length ≤ 2100) (hk : k ≤ 1000000) :
    Calls Try.prog 31 #[v, u, .int .i64 k] w fun e w' => ∃ A c, e = .returned (.tuple #[.int .i64 (fateL (orbL M z k)).2.1, .slice A (fateL (orbL M z k)).2.2.length c, .int .i64 (fateL (orbL M z k)).1]) ∧ Hid (LsZ B9 .i64 w' A c (fateL (orbL M z k)).2.2) ∧ Below w.heap.size w w' := by
  obtain ⟨md, A, n, c, A', n', c', rfl, HM⟩ := hM.form
  obtain ⟨nz, Az, mz, kz, rfl, HZ⟩ := hz.form
  have HOC := Lib.hid (fun v u w hM hz => Orbit_c M z k v u w hM hz hok sz hk)
  obtain ⟨ol1, ol2⟩ := orbL_len M k z
  have HSZ := Lib.hid (orbL_size M hok k z sz)
  clear hM hz hok sz
  go_enter Try.func31, Try.ntmps31
  go_wp2_with fail
  generalize hW : (w.alloc (Obj.cells #[Value.int .i64 md, Value.slice A n c, Value.slice A' n' c'] 55)).alloc (Obj.cells #[Value.bool nz, Value.slice Az mz kz] 28) = W at *
  obtain ⟨VM_, VZ, hs, HB⟩ := startM w _ _ W HM.out HZ.out hW
  clear hW HM HZ hs
  (with_reducible refine (HOC.out _ _ _ VM_.im.out VZ.iz.out).mono ?_)
  rintro e w1 ⟨AL, cL, rfl, LL, hb1⟩
  replace HB := below_step HB hb1
  clear hb1 VM_ VZ HOC
  generalize hl : orbL M z k = l at *
  generalize hN : l.length = N at *
  obtain ⟨last, hlast⟩ : ∃ last, N = last + 1 := ⟨N - 1, by omega⟩
  have hbl : ∃ bL oL, AL = some ⟨bL, oL, none⟩ := by
    obtain ⟨b, off, _, _, _, _, e, _⟩ := LL.out.at (j := 0) (by omega)
    exact ⟨b, off, e⟩
  obtain ⟨bL, oL, rfl⟩ := hbl
  have HLN := Lib.hid hN
  have HLL := Lib.hid hl
  subst hlast
  clear hN hl
  obtain ⟨nq, Aq, mq, kq, q0, q1, HQ⟩ := LL.out.el (j := last) (by have := HLN.out; omega)
  have qc0 := q0.c
  have qc1 := q1.c
  have hil : (last : Int) < (last : Int) + 1 := by omega
  have hil0 : (0 : Int) ≤ (last : Int) := by omega
  go_wp2_with fail
  (with_reducible refine (Fits_c (gd l last) _ _ HQ.out (by have := HSZ.out last (by omega); omega)).mono ?_)
  rintro e w2 ⟨rfl, hb2⟩
  replace LL := Lib.hid (LL.out.below hb2)
  replace HB := below_step HB hb2
  clear hb2 qc0 qc1 q0 q1 HQ
  cases hf : decide (dl (gd l last) ≤ 2000) with
  | false =>
    have HR : Hid (fateL l = (3, 0, [])) := by show _ = _; unfold fateL; rw [HLN.out, if_pos (by have := of_decide_eq_false hf; simp only [Nat.add_sub_cancel]; omega)]
    clear hf
    go_wp2
    refine bodyPost_ret (v := .tuple #[.int .i64 0, .slice none 0 0, .int .i64 3]) (by simp [results, Try.results31, go_sem]) rfl ⟨none, 0, by rw [HLL.out, HR.out] <;> rfl, by rw [HLL.out, HR.out]; exact LsZ.nil _, HB⟩
  | true =>
    have HF1 : Hid (∀ x y : Int × Nat × List Int, (if 2000 < dl (gd l (l.length - 1)) then x else y) = y) := fun x y => by rw [HLN.out, if_neg (by have := of_decide_eq_true hf; simp only [Nat.add_sub_cancel]; omega)]
    clear hf
    go_wp2_with fail
    go_loopg [11, 12] (last + 1) (fun g lv iv wr => ∃ (j v : Nat), lv = .int .i64 v ∧ iv = .int .i64 ((j : Int) - 1) ∧ j ≤ last ∧ g = (if v = 0 then j + 1 else 0) ∧ Hid (LsZ B9 .i64 wr (some ⟨bL, oL, none⟩) cL l) ∧ Below w.heap.size w wr ∧ Hid ((v = 0 ∧ perF l last last = perF l last j) ∨ (0 < v ∧ perF l last last = v)))
    case atStart => exact ⟨last, 0, rfl, rfl, by omega, rfl, LL, HB, .inl ⟨rfl, rfl⟩⟩
    case round =>
      clear LL HB
      obtain ⟨j, v, rfl, rfl, hj, hgk, LL, HB, HP0⟩ := hrel
      by_cases hv : v = 0
      · subst hv
        have hP : perF l last last = perF l last j := by
          rcases HP0.out with h | h
          · exact h.2
          · omega
        clear HP0
        cases j with
        | zero =>
          have HR : Hid (fateL l = (4, 0, [])) := by show _ = _; unfold fateL; rw [HF1.out, HLN.out, if_pos (by simp only [Nat.add_sub_cancel]; rw [hP]; rfl)]
          clear hP
          go_wp2
          refine bodyPost_ret (v := .tuple #[.int .i64 0, .slice none 0 0, .int .i64 4]) (by simp [results, Try.results31, go_sem]) rfl ⟨none, 0, by rw [HLL.out, HR.out] <;> rfl, by rw [HLL.out, HR.out]; exact LsZ.nil _, HB⟩
        | succ j =>
          have HPP := Lib.hid hP
          clear hP
          have hj0 : (0 : Int) ≤ (j : Int) := by omega
          have hjl : (j : Int) < (last : Int) + 1 := by omega
          rw [show (((j + 1 : Nat) : Int) - 1) = (j : Int) by omega]
          obtain ⟨np, Ap, mp, kp, p0, p1, HP⟩ := LL.out.el (j := j) (by have := HLN.out; omega)
          obtain ⟨nq, Aq, mq, kq, q0, q1, HQ⟩ := LL.out.el (j := last) (by have := HLN.out; omega)
          go_wp2_with fail
          replace p0 := p0.drew; replace p1 := p1.drew; replace q0 := q0.drew; replace q1 := q1.drew
          replace LL := Lib.hid (LL.out.below (below_drew (Below.refl _ _)))
          replace HP := Lib.hid (HP.out.below (below_drew (Below.refl _ _)))
          replace HQ := Lib.hid (HQ.out.below (below_drew (Below.refl _ _)))
          replace HB := below_drew HB
          generalize hWd : wr.drew = wd at *
          refine wp_region_F (fun w' => w'.cell? ⟨bL, oL + (j) * 2, none⟩ = some (.bool np) ∧ w'.cell? ⟨bL, oL + (j) * 2 + 1, none⟩ = some (.slice Ap mp kp) ∧ w'.cell? ⟨bL, oL + (last) * 2, none⟩ = some (.bool nq) ∧ w'.cell? ⟨bL, oL + (last) * 2 + 1, none⟩ = some (.slice Aq mq kq)) [] (by kernel_rfl) (by rw [hWd]; exact ⟨p0.c, p1.c, q0.c, q1.c⟩) (fun hHeld => ?_)
          rw [hWd] at hHeld ⊢
          refine wpAnyF_take (i := 0) (oi := { dst := some 41, op := Go.Op.move (Go.Operand.tmp 9), type := 59, pos := "ref.go:20", after := #[], guard := none }) (v := ?_) rfl (by kernel_rfl) (by kernel_rfl) (by kernel_rfl) (by kernel_rfl) (fun _ _ _ h => h) (Or.inl ⟨by rfl, ?_⟩) hHeld ?_
          rotate_left
          · intro w_ hSw_; (try dsimp only at hSw_); go_simp; (try with_reducible rfl)
          (try simp only [Act.put, List.setIfInBounds_toArray, List.set_cons_zero, List.set_cons_succ])
          refine wpAnyF_take (i := 1) (oi := { dst := some 42, op := Go.Op.move (Go.Operand.tmp 12), type := 3, pos := "ref.go:20", after := #[], guard := none }) (v := ?_) rfl (by kernel_rfl) (by kernel_rfl) (by kernel_rfl) (by kernel_rfl) (fun _ _ _ h => h) (Or.inl ⟨by rfl, ?_⟩) hHeld ?_
          rotate_left
          · intro w_ hSw_; (try dsimp only at hSw_); go_simp; (try with_reducible rfl)
          (try simp only [Act.put, List.setIfInBounds_toArray, List.set_cons_zero, List.set_cons_succ])
          refine wpAnyF_take (i := 2) (oi := { dst := some 43, op := Go.Op.indexAddr 59 (Go.Operand.tmp 41) (Go.Operand.tmp 42), type := 0, pos := "ref.go:20", after := #[{ on := 0, ground := Go.Ground.data }, { on := 1, ground := Go.Ground.data }], guard := none }) (v := ?_) rfl (by kernel_rfl) (by kernel_rfl) (by kernel_rfl) (by kernel_rfl) (fun _ _ _ h => h) (Or.inl ⟨by rfl, ?_⟩) hHeld ?_
          rotate_left
          · intro w_ hSw_; (try dsimp only at hSw_); go_simp; (try with_reducible rfl)
          (try simp only [Act.put, List.setIfInBounds_toArray, List.set_cons_zero, List.set_cons_succ])
          refine wpAnyF_take (i := 3) (oi := { dst := some 44, op := Go.Op.load 28 (Go.Operand.tmp 43), type := 28, pos := "ref.go:20", after := #[{ on := 2, ground := Go.Ground.data }], guard := none }) (v := ?_) rfl (by kernel_rfl) (by kernel_rfl) (by kernel_rfl) (by kernel_rfl) (fun _ _ _ h => h) (Or.inl ⟨by rfl, ?_⟩) hHeld ?_
          rotate_left
          · intro w_ hSw_; (try dsimp only at hSw_); go_simp; (try with_reducible rfl)
          (try simp only [Act.put, List.setIfInBounds_toArray, List.set_cons_zero, List.set_cons_succ])
          refine wpAnyF_take (i := 4) (oi := { dst := some 45, op := Go.Op.move (Go.Operand.tmp 9), type := 59, pos := "ref.go:20", after := #[], guard := none }) (v := ?_) rfl (by kernel_rfl) (by kernel_rfl) (by kernel_rfl) (by kernel_rfl) (fun _ _ _ h => h) (Or.inl ⟨by rfl, ?_⟩) hHeld ?_
          rotate_left
          · intro w_ hSw_; (try dsimp only at hSw_); go_simp; (try with_reducible rfl)
          (try simp only [Act.put, List.setIfInBounds_toArray, List.set_cons_zero, List.set_cons_succ])
          refine wpAnyF_take (i := 5) (oi := { dst := some 46, op := Go.Op.move (Go.Operand.tmp 10), type := 3, pos := "ref.go:20", after := #[], guard := none }) (v := ?_) rfl (by kernel_rfl) (by kernel_rfl) (by kernel_rfl) (by kernel_rfl) (fun _ _ _ h => h) (Or.inl ⟨by rfl, ?_⟩) hHeld ?_
          rotate_left
          · intro w_ hSw_; (try dsimp only at hSw_); go_simp; (try with_reducible rfl)
          (try simp only [Act.put, List.setIfInBounds_toArray, List.set_cons_zero, List.set_cons_succ])
          refine wpAnyF_take (i := 6) (oi := { dst := some 47, op := Go.Op.indexAddr 59 (Go.Operand.tmp 45) (Go.Operand.tmp 46), type := 0, pos := "ref.go:20", after := #[{ on := 4, ground := Go.Ground.data }, { on := 5, ground := Go.Ground.data }], guard := none }) (v := ?_) rfl (by kernel_rfl) (by kernel_rfl) (by kernel_rfl) (by kernel_rfl) (fun _ _ _ h => h) (Or.inl ⟨by rfl, ?_⟩) hHeld ?_
          rotate_left
          · intro w_ hSw_; (try dsimp only at hSw_); go_simp; (try with_reducible rfl)
          (try simp only [Act.put, List.setIfInBounds_toArray, List.set_cons_zero, List.set_cons_succ])
          refine wpAnyF_take (i := 7) (oi := { dst := some 48, op := Go.Op.load 28 (Go.Operand.tmp 47), type := 28, pos := "ref.go:20", after := #[{ on := 6, ground := Go.Ground.data }], guard := none }) (v := ?_) rfl (by kernel_rfl) (by kernel_rfl) (by kernel_rfl) (by kernel_rfl) (fun _ _ _ h => h) (Or.inl ⟨by rfl, ?_⟩) hHeld ?_
          rotate_left
          · intro w_ hSw_; (try dsimp only at hSw_); go_simp; (try with_reducible rfl)
          (try simp only [Act.put, List.setIfInBounds_toArray, List.set_cons_zero, List.set_cons_succ])
          refine wpAnyF_one (i := 8) (by kernel_rfl) rfl (fun K hK => ?_)
          go_simp
          (go_at_call 23; (with_reducible refine (Cmp_c (gd l (j)) (gd l (last)) _ _ _ HP.out HQ.out).mono ?_); rintro e w5 ⟨rfl, hb5⟩; replace LL := Lib.hid (LL.out.below hb5); replace p0 := p0.keep hb5; replace p1 := p1.keep hb5; replace q0 := q0.keep hb5; replace q1 := q1.keep hb5; replace HB := below_step HB hb5; clear hb5)
          refine hK.out _ _ (by exact ⟨p0.c, p1.c, q0.c, q1.c⟩) (fun hHeld => ?_)
          clear hK K
          (try simp only [Act.put, List.setIfInBounds_toArray, List.set_cons_zero, List.set_cons_succ])
          refine wpAnyF_take (i := 9) (oi := { dst := some 50, op := Go.Op.binOp Go.BinOp.eql 3 (Go.Operand.tmp 49) (Go.Operand.const (Go.Value.int Go.IntKind.i64 0)) 3, type := 4, pos := "ref.go:20", after := #[{ on := 8, ground := Go.Ground.data }], guard := none }) (v := ?_) rfl (by kernel_rfl) (by kernel_rfl) (by kernel_rfl) (by kernel_rfl) (fun _ _ _ h => h) (Or.inl ⟨by rfl, ?_⟩) hHeld ?_
          rotate_left
          · intro w_ hSw_; (try dsimp only at hSw_); go_simp; (try with_reducible rfl)
          (try simp only [Act.put, List.setIfInBounds_toArray, List.set_cons_zero, List.set_cons_succ])
          refine wpAnyF_done (by kernel_rfl) ?_ _
          clear hHeld hWd HP HQ p0 p1 q0 q1
          by_cases he : gd l j = gd l last
          · have HV : Hid (perF l last last = last - j) := by show _ = _; rw [HPP.out, perF, if_pos he]
            have hc : icmp (gd l j) (gd l last) = 0 := (icmp_eq _ _).2 he
            clear he
            go_wp2
            go_roundg 0
            case measure => rw [hgk]; simp
            case rel => exact ⟨j, last - j, by rw [Int.natCast_sub (by omega)], by go_num, by omega, by rw [if_neg (by omega)], LL, HB, .inr ⟨by omega, HV.out⟩⟩
          · have HV : Hid (perF l last last = perF l last j) := by show _ = _; rw [HPP.out, perF, if_neg he]
            have hc : (icmp (gd l j) (gd l last) == 0) = false := by
              have := mt (icmp_eq (gd l j) (gd l last)).1 he
              simpa using this
            clear he
            go_wp2
            go_roundg (j + 1)
            case measure => rw [hgk]; simp
            case rel => exact ⟨j, 0, rfl, by go_num, by omega, by simp, LL, HB, .inl ⟨rfl, HV.out⟩⟩
      · have hvp : perF l last last = v := by
          rcases HP0.out with h | h
          · omega
          · exact h.2
        have hvl : v ≤ last := by rw [← hvp]; exact perF_le l last last (Nat.le_refl _)
        have HEQ : Hid (gd l (last - v) = gd l last) := by show _ = _; rw [← hvp]; exact perF_eq last (Nat.le_refl _) (by omega)
        have HF2 : Hid (fateL l = (0, atF l v (last - v) 0, (List.range v).map fun i => gd l (atF l v (last - v) 0 + (leastF l v (atF l v (last - v) 0) (atF l v (last - v) 0) - atF l v (last - v) 0 + i) % v))) := by
          show _ = _; unfold fateL; rw [HF1.out, HLN.out]; simp only [Nat.add_sub_cancel]; rw [hvp, if_neg hv]
        have hvb : ((v : Int) == 0) = false := by simp; omega
        have hv1 : 0 < v := by omega
        clear HP0 hv hvp hgk HF1
        rcases (show j = 0 ∨ 0 < j by omega) with rfl | hj0
        · clear hj
          go_wp2_with fail
          go_loopg [13] last (fun g av wr => ∃ (a : Nat), av = .int .i64 a ∧ g = last - a ∧ a ≤ last - v ∧ Hid (LsZ B9 .i64 wr (some ⟨bL, oL, none⟩) cL l) ∧ Below w.heap.size w wr ∧ Hid (atF l v (last - v) 0 = atF l v (last - v - a) a))
          case atStart => exact ⟨0, rfl, rfl, by omega, LL, HB, rfl⟩
          case round =>
            clear LL HB
            obtain ⟨a, rfl, hgk, ha, LL, HB, HA⟩ := hrel
            have ha0 : (0 : Int) ≤ (a : Int) := by omega
            have hal : (a : Int) < (last : Int) + 1 := by omega
            have hav0 : (0 : Int) ≤ (a : Int) + (v : Int) := by omega
            have havl : (a : Int) + (v : Int) < (last : Int) + 1 := by omega
            have hav : ((a : Int) + (v : Int)).toNat = a + v := by omega
            have haw : IntKind.i64.wrap ((a : Int) + (v : Int)) = (a : Int) + (v : Int) := by rw [IntKind.wrap_i64]; omega
            obtain ⟨np, Ap, mp, kp, p0, p1, HP⟩ := LL.out.el (j := a) (by have := HLN.out; omega)
            obtain ⟨nq, Aq, mq, kq, q0, q1, HQ⟩ := LL.out.el (j := (a + v)) (by have := HLN.out; omega)
            go_wp2_with fail
            replace p0 := p0.drew; replace p1 := p1.drew; replace q0 := q0.drew; replace q1 := q1.drew
            replace LL := Lib.hid (LL.out.below (below_drew (Below.refl _ _)))
            replace HP := Lib.hid (HP.out.below (below_drew (Below.refl _ _)))
            replace HQ := Lib.hid (HQ.out.below (below_drew (Below.refl _ _)))
            replace HB := below_drew HB
            generalize hWd : wr.drew = wd at *
            refine wp_region_F (fun w' => w'.cell? ⟨bL, oL + (a) * 2, none⟩ = some (.bool np) ∧ w'.cell? ⟨bL, oL + (a) * 2 + 1, none⟩ = some (.slice Ap mp kp) ∧ w'.cell? ⟨bL, oL + ((a + v)) * 2, none⟩ = some (.bool nq) ∧ w'.cell? ⟨bL, oL + ((a + v)) * 2 + 1, none⟩ = some (.slice Aq mq kq)) [] (by kernel_rfl) (by rw [hWd]; exact ⟨p0.c, p1.c, q0.c, q1.c⟩) (fun hHeld => ?_)
            rw [hWd] at hHeld ⊢
            refine wpAnyF_take (i := 0) (oi := { dst := some 56, op := Go.Op.move (Go.Operand.tmp 9), type := 59, pos := "ref.go:28", after := #[], guard := none }) (v := ?_) rfl (by kernel_rfl) (by kernel_rfl) (by kernel_rfl) (by kernel_rfl) (fun _ _ _ h => h) (Or.inl ⟨by rfl, ?_⟩) hHeld ?_
            rotate_left
            · intro w_ hSw_; (try dsimp only at hSw_); go_simp; (try with_reducible rfl)
            (try simp only [Act.put, List.setIfInBounds_toArray, List.set_cons_zero, List.set_cons_succ])
            refine wpAnyF_take (i := 1) (oi := { dst := some 57, op := Go.Op.move (Go.Operand.tmp 13), type := 3, pos := "ref.go:28", after := #[], guard := none }) (v := ?_) rfl (by kernel_rfl) (by kernel_rfl) (by kernel_rfl) (by kernel_rfl) (fun _ _ _ h => h) (Or.inl ⟨by rfl, ?_⟩) hHeld ?_
            rotate_left
            · intro w_ hSw_; (try dsimp only at hSw_); go_simp; (try with_reducible rfl)
            (try simp only [Act.put, List.setIfInBounds_toArray, List.set_cons_zero, List.set_cons_succ])
            refine wpAnyF_take (i := 2) (oi := { dst := some 58, op := Go.Op.indexAddr 59 (Go.Operand.tmp 56) (Go.Operand.tmp 57), type := 0, pos := "ref.go:28", after := #[{ on := 0, ground := Go.Ground.data }, { on := 1, ground := Go.Ground.data }], guard := none }) (v := ?_) rfl (by kernel_rfl) (by kernel_rfl) (by kernel_rfl) (by kernel_rfl) (fun _ _ _ h => h) (Or.inl ⟨by rfl, ?_⟩) hHeld ?_
            rotate_left
            · intro w_ hSw_; (try dsimp only at hSw_); go_simp; (try with_reducible rfl)
            (try simp only [Act.put, List.setIfInBounds_toArray, List.set_cons_zero, List.set_cons_succ])
            refine wpAnyF_take (i := 3) (oi := { dst := some 59, op := Go.Op.load 28 (Go.Operand.tmp 58), type := 28, pos := "ref.go:28", after := #[{ on := 2, ground := Go.Ground.data }], guard := none }) (v := ?_) rfl (by kernel_rfl) (by kernel_rfl) (by kernel_rfl) (by kernel_rfl) (fun _ _ _ h => h) (Or.inl ⟨by rfl, ?_⟩) hHeld ?_
            rotate_left
            · intro w_ hSw_; (try dsimp only at hSw_); go_simp; (try with_reducible rfl)
            (try simp only [Act.put, List.setIfInBounds_toArray, List.set_cons_zero, List.set_cons_succ])
            refine wpAnyF_take (i := 4) (oi := { dst := some 60, op := Go.Op.move (Go.Operand.tmp 9), type := 59, pos := "ref.go:28", after := #[], guard := none }) (v := ?_) rfl (by kernel_rfl) (by kernel_rfl) (by kernel_rfl) (by kernel_rfl) (fun _ _ _ h => h) (Or.inl ⟨by rfl, ?_⟩) hHeld ?_
            rotate_left
            · intro w_ hSw_; (try dsimp only at hSw_); go_simp; (try with_reducible rfl)
            (try simp only [Act.put, List.setIfInBounds_toArray, List.set_cons_zero, List.set_cons_succ])
            refine wpAnyF_take (i := 5) (oi := { dst := some 61, op := Go.Op.move (Go.Operand.tmp 13), type := 3, pos := "ref.go:28", after := #[], guard := none }) (v := ?_) rfl (by kernel_rfl) (by kernel_rfl) (by kernel_rfl) (by kernel_rfl) (fun _ _ _ h => h) (Or.inl ⟨by rfl, ?_⟩) hHeld ?_
            rotate_left
            · intro w_ hSw_; (try dsimp only at hSw_); go_simp; (try with_reducible rfl)
            (try simp only [Act.put, List.setIfInBounds_toArray, List.set_cons_zero, List.set_cons_succ])
            refine wpAnyF_take (i := 6) (oi := { dst := some 62, op := Go.Op.move (Go.Operand.tmp 11), type := 3, pos := "ref.go:28", after := #[], guard := none }) (v := ?_) rfl (by kernel_rfl) (by kernel_rfl) (by kernel_rfl) (by kernel_rfl) (fun _ _ _ h => h) (Or.inl ⟨by rfl, ?_⟩) hHeld ?_
            rotate_left
            · intro w_ hSw_; (try dsimp only at hSw_); go_simp; (try with_reducible rfl)
            (try simp only [Act.put, List.setIfInBounds_toArray, List.set_cons_zero, List.set_cons_succ])
            refine wpAnyF_take (i := 7) (oi := { dst := some 63, op := Go.Op.binOp Go.BinOp.add 3 (Go.Operand.tmp 61) (Go.Operand.tmp 62) 3, type := 3, pos := "ref.go:28", after := #[{ on := 5, ground := Go.Ground.data }, { on := 6, ground := Go.Ground.data }], guard := none }) (v := ?_) rfl (by kernel_rfl) (by kernel_rfl) (by kernel_rfl) (by kernel_rfl) (fun _ _ _ h => h) (Or.inl ⟨by rfl, ?_⟩) hHeld ?_
            rotate_left
            · intro w_ hSw_; (try dsimp only at hSw_); go_simp; (try with_reducible rfl)
            (try simp only [Act.put, List.setIfInBounds_toArray, List.set_cons_zero, List.set_cons_succ])
            refine wpAnyF_take (i := 8) (oi := { dst := some 64, op := Go.Op.indexAddr 59 (Go.Operand.tmp 60) (Go.Operand.tmp 63), type := 0, pos := "ref.go:28", after := #[{ on := 4, ground := Go.Ground.data }, { on := 7, ground := Go.Ground.data }], guard := none }) (v := ?_) rfl (by kernel_rfl) (by kernel_rfl) (by kernel_rfl) (by kernel_rfl) (fun _ _ _ h => h) (Or.inl ⟨by rfl, ?_⟩) hHeld ?_
            rotate_left
            · intro w_ hSw_; (try dsimp only at hSw_); go_simp; (try with_reducible rfl)
            (try simp only [Act.put, List.setIfInBounds_toArray, List.set_cons_zero, List.set_cons_succ])
            refine wpAnyF_take (i := 9) (oi := { dst := some 65, op := Go.Op.load 28 (Go.Operand.tmp 64), type := 28, pos := "ref.go:28", after := #[{ on := 8, ground := Go.Ground.data }], guard := none }) (v := ?_) rfl (by kernel_rfl) (by kernel_rfl) (by kernel_rfl) (by kernel_rfl) (fun _ _ _ h => h) (Or.inl ⟨by rfl, ?_⟩) hHeld ?_
            rotate_left
            · intro w_ hSw_; (try dsimp only at hSw_); go_simp; (try with_reducible rfl)
            (try simp only [Act.put, List.setIfInBounds_toArray, List.set_cons_zero, List.set_cons_succ])
            refine wpAnyF_one (i := 10) (by kernel_rfl) rfl (fun K hK => ?_)
            go_simp
            (go_at_call 23; (with_reducible refine (Cmp_c (gd l (a)) (gd l ((a + v))) _ _ _ HP.out HQ.out).mono ?_); rintro e w5 ⟨rfl, hb5⟩; replace LL := Lib.hid (LL.out.below hb5); replace p0 := p0.keep hb5; replace p1 := p1.keep hb5; replace q0 := q0.keep hb5; replace q1 := q1.keep hb5; replace HB := below_step HB hb5; clear hb5)
            refine hK.out _ _ (by exact ⟨p0.c, p1.c, q0.c, q1.c⟩) (fun hHeld => ?_)
            clear hK K
            (try simp only [Act.put, List.setIfInBounds_toArray, List.set_cons_zero, List.set_cons_succ])
            refine wpAnyF_take (i := 11) (oi := { dst := some 67, op := Go.Op.binOp Go.BinOp.neq 3 (Go.Operand.tmp 66) (Go.Operand.const (Go.Value.int Go.IntKind.i64 0)) 3, type := 4, pos := "ref.go:28", after := #[{ on := 10, ground := Go.Ground.data }], guard := none }) (v := ?_) rfl (by kernel_rfl) (by kernel_rfl) (by kernel_rfl) (by kernel_rfl) (fun _ _ _ h => h) (Or.inl ⟨by rfl, ?_⟩) hHeld ?_
            rotate_left
            · intro w_ hSw_; (try dsimp only at hSw_); go_simp; (try with_reducible rfl)
            (try simp only [Act.put, List.setIfInBounds_toArray, List.set_cons_zero, List.set_cons_succ])
            refine wpAnyF_done (by kernel_rfl) ?_ _
            clear hHeld hWd HP HQ p0 p1 q0 q1
            by_cases he : gd l a = gd l (a + v)
            · have HAT : Hid (atF l v (last - v) 0 = a) := by show _ = _; rw [HA.out]; exact atF_stop he
              have hc : icmp (gd l a) (gd l (a + v)) = 0 := (icmp_eq _ _).2 he
              clear he HA HEQ hgk
              rw [hc]
              clear hc
              go_wp2_with fail
              go_loopg [14, 15] v (fun g mv iv wr => ∃ (d m : Nat), mv = .int .i64 m ∧ iv = .int .i64 ((a + d : Nat) : Int) ∧ g = v - d ∧ d ≤ v ∧ a ≤ m ∧ m ≤ last ∧ Hid (LsZ B9 .i64 wr (some ⟨bL, oL, none⟩) cL l) ∧ Below w.heap.size w wr ∧ Hid (leastF l v a a = leastF l (v - d) (a + d) m))
              case atStart => exact ⟨0, a, rfl, rfl, by omega, by omega, by omega, by omega, LL, HB, rfl⟩
              case round =>
                clear LL HB
                obtain ⟨d, m, rfl, rfl, hgk, hd, hm0, hm1, LL, HB, HM⟩ := hrel
                obtain ⟨id, hid⟩ : ∃ id, a + d = id := ⟨_, rfl⟩
                rw [hid] at HM ⊢
                by_cases hdv : d < v
                · have hi0 : (0 : Int) ≤ (id : Int) := by omega
                  have hm2 : (0 : Int) ≤ (m : Int) := by omega
                  have hm3 : (m : Int) < (last : Int) + 1 := by omega
                  have hil2 : (id : Int) < (last : Int) + 1 := by omega
                  have hida : (id : Int) < (a : Int) + (v : Int) := by omega
                  obtain ⟨np, Ap, mp, kp, p0, p1, HP⟩ := LL.out.el (j := id) (by have := HLN.out; omega)
                  obtain ⟨nq, Aq, mq, kq, q0, q1, HQ⟩ := LL.out.el (j := m) (by have := HLN.out; omega)
                  go_wp2_with fail
                  replace p0 := p0.drew; replace p1 := p1.drew; replace q0 := q0.drew; replace q1 := q1.drew
                  replace LL := Lib.hid (LL.out.below (below_drew (Below.refl _ _)))
                  replace HP := Lib.hid (HP.out.below (below_drew (Below.refl _ _)))
                  replace HQ := Lib.hid (HQ.out.below (below_drew (Below.refl _ _)))
                  replace HB := below_drew HB
                  generalize hWd : wr.drew = wd at *
                  refine wp_region_F (fun w' => w'.cell? ⟨bL, oL + (id) * 2, none⟩ = some (.bool np) ∧ w'.cell? ⟨bL, oL + (id) * 2 + 1, none⟩ = some (.slice Ap mp kp) ∧ w'.cell? ⟨bL, oL + (m) * 2, none⟩ = some (.bool nq) ∧ w'.cell? ⟨bL, oL + (m) * 2 + 1, none⟩ = some (.slice Aq mq kq)) [] (by kernel_rfl) (by rw [hWd]; exact ⟨p0.c, p1.c, q0.c, q1.c⟩) (fun hHeld => ?_)
                  rw [hWd] at hHeld ⊢
                  refine wpAnyF_take (i := 0) (oi := { dst := some 79, op := Go.Op.move (Go.Operand.tmp 9), type := 59, pos := "ref.go:33", after := #[], guard := none }) (v := ?_) rfl (by kernel_rfl) (by kernel_rfl) (by kernel_rfl) (by kernel_rfl) (fun _ _ _ h => h) (Or.inl ⟨by rfl, ?_⟩) hHeld ?_
                  rotate_left
                  · intro w_ hSw_; (try dsimp only at hSw_); go_simp; (try with_reducible rfl)
                  (try simp only [Act.put, List.setIfInBounds_toArray, List.set_cons_zero, List.set_cons_succ])
                  refine wpAnyF_take (i := 1) (oi := { dst := some 80, op := Go.Op.move (Go.Operand.tmp 15), type := 3, pos := "ref.go:33", after := #[], guard := none }) (v := ?_) rfl (by kernel_rfl) (by kernel_rfl) (by kernel_rfl) (by kernel_rfl) (fun _ _ _ h => h) (Or.inl ⟨by rfl, ?_⟩) hHeld ?_
                  rotate_left
                  · intro w_ hSw_; (try dsimp only at hSw_); go_simp; (try with_reducible rfl)
                  (try simp only [Act.put, List.setIfInBounds_toArray, List.set_cons_zero, List.set_cons_succ])
                  refine wpAnyF_take (i := 2) (oi := { dst := some 81, op := Go.Op.indexAddr 59 (Go.Operand.tmp 79) (Go.Operand.tmp 80), type := 0, pos := "ref.go:33", after := #[{ on := 0, ground := Go.Ground.data }, { on := 1, ground := Go.Ground.data }], guard := none }) (v := ?_) rfl (by kernel_rfl) (by kernel_rfl) (by kernel_rfl) (by kernel_rfl) (fun _ _ _ h => h) (Or.inl ⟨by rfl, ?_⟩) hHeld ?_
                  rotate_left
                  · intro w_ hSw_; (try dsimp only at hSw_); go_simp; (try with_reducible rfl)
                  (try simp only [Act.put, List.setIfInBounds_toArray, List.set_cons_zero, List.set_cons_succ])
                  refine wpAnyF_take (i := 3) (oi := { dst := some 82, op := Go.Op.load 28 (Go.Operand.tmp 81), type := 28, pos := "ref.go:33", after := #[{ on := 2, ground := Go.Ground.data }], guard := none }) (v := ?_) rfl (by kernel_rfl) (by kernel_rfl) (by kernel_rfl) (by kernel_rfl) (fun _ _ _ h => h) (Or.inl ⟨by rfl, ?_⟩) hHeld ?_
                  rotate_left
                  · intro w_ hSw_; (try dsimp only at hSw_); go_simp; (try with_reducible rfl)
                  (try simp only [Act.put, List.setIfInBounds_toArray, List.set_cons_zero, List.set_cons_succ])
                  refine wpAnyF_take (i := 4) (oi := { dst := some 83, op := Go.Op.move (Go.Operand.tmp 9), type := 59, pos := "ref.go:33", after := #[], guard := none }) (v := ?_) rfl (by kernel_rfl) (by kernel_rfl) (by kernel_rfl) (by kernel_rfl) (fun _ _ _ h => h) (Or.inl ⟨by rfl, ?_⟩) hHeld ?_
                  rotate_left
                  · intro w_ hSw_; (try dsimp only at hSw_); go_simp; (try with_reducible rfl)
                  (try simp only [Act.put, List.setIfInBounds_toArray, List.set_cons_zero, List.set_cons_succ])
                  refine wpAnyF_take (i := 5) (oi := { dst := some 84, op := Go.Op.move (Go.Operand.tmp 14), type := 3, pos := "ref.go:33", after := #[], guard := none }) (v := ?_) rfl (by kernel_rfl) (by kernel_rfl) (by kernel_rfl) (by kernel_rfl) (fun _ _ _ h => h) (Or.inl ⟨by rfl, ?_⟩) hHeld ?_
                  rotate_left
                  · intro w_ hSw_; (try dsimp only at hSw_); go_simp; (try with_reducible rfl)
                  (try simp only [Act.put, List.setIfInBounds_toArray, List.set_cons_zero, List.set_cons_succ])
                  refine wpAnyF_take (i := 6) (oi := { dst := some 85, op := Go.Op.indexAddr 59 (Go.Operand.tmp 83) (Go.Operand.tmp 84), type := 0, pos := "ref.go:33", after := #[{ on := 4, ground := Go.Ground.data }, { on := 5, ground := Go.Ground.data }], guard := none }) (v := ?_) rfl (by kernel_rfl) (by kernel_rfl) (by kernel_rfl) (by kernel_rfl) (fun _ _ _ h => h) (Or.inl ⟨by rfl, ?_⟩) hHeld ?_
                  rotate_left
                  · intro w_ hSw_; (try dsimp only at hSw_); go_simp; (try with_reducible rfl)
                  (try simp only [Act.put, List.setIfInBounds_toArray, List.set_cons_zero, List.set_cons_succ])
                  refine wpAnyF_take (i := 7) (oi := { dst := some 86, op := Go.Op.load 28 (Go.Operand.tmp 85), type := 28, pos := "ref.go:33", after := #[{ on := 6, ground := Go.Ground.data }], guard := none }) (v := ?_) rfl (by kernel_rfl) (by kernel_rfl) (by kernel_rfl) (by kernel_rfl) (fun _ _ _ h => h) (Or.inl ⟨by rfl, ?_⟩) hHeld ?_
                  rotate_left
                  · intro w_ hSw_; (try dsimp only at hSw_); go_simp; (try with_reducible rfl)
                  (try simp only [Act.put, List.setIfInBounds_toArray, List.set_cons_zero, List.set_cons_succ])
                  refine wpAnyF_one (i := 8) (by kernel_rfl) rfl (fun K hK => ?_)
                  go_simp
                  (go_at_call 23; (with_reducible refine (Cmp_c (gd l (id)) (gd l (m)) _ _ _ HP.out HQ.out).mono ?_); rintro e w6 ⟨rfl, hb5⟩; replace LL := Lib.hid (LL.out.below hb5); replace p0 := p0.keep hb5; replace p1 := p1.keep hb5; replace q0 := q0.keep hb5; replace q1 := q1.keep hb5; replace HB := below_step HB hb5; clear hb5)
                  refine hK.out _ _ (by exact ⟨p0.c, p1.c, q0.c, q1.c⟩) (fun hHeld => ?_)
                  clear hK K
                  (try simp only [Act.put, List.setIfInBounds_toArray, List.set_cons_zero, List.set_cons_succ])
                  refine wpAnyF_take (i := 9) (oi := { dst := some 88, op := Go.Op.binOp Go.BinOp.lss 3 (Go.Operand.tmp 87) (Go.Operand.const (Go.Value.int Go.IntKind.i64 0)) 3, type := 4, pos := "ref.go:33", after := #[{ on := 8, ground := Go.Ground.data }], guard := none }) (v := ?_) rfl (by kernel_rfl) (by kernel_rfl) (by kernel_rfl) (by kernel_rfl) (fun _ _ _ h => h) (Or.inl ⟨by rfl, ?_⟩) hHeld ?_
                  rotate_left
                  · intro w_ hSw_; (try dsimp only at hSw_); go_simp; (try with_reducible rfl)
                  (try simp only [Act.put, List.setIfInBounds_toArray, List.set_cons_zero, List.set_cons_succ])
                  refine wpAnyF_done (by kernel_rfl) ?_ _
                  clear hHeld hWd HP HQ p0 p1 q0 q1
                  by_cases hlt : gd l id < gd l m
                  · have HM2 : Hid (leastF l v a a = leastF l (v - (d + 1)) (a + (d + 1)) id) := by
                      show _ = _
                      rw [HM.out, show v - d = (v - (d + 1)) + 1 by omega, leastF, if_pos hlt, ← hid]; rfl
                    have hc : icmp (gd l id) (gd l m) < 0 := (icmp_lt' _ _).2 hlt
                    clear hlt HM
                    go_wp2
                    go_roundg (v - (d + 1))
                    case measure => omega
                    case rel => exact ⟨d + 1, id, rfl, by rw [← hid]; go_num, rfl, by omega, by omega, by omega, LL, HB, HM2⟩
                  · have HM2 : Hid (leastF l v a a = leastF l (v - (d + 1)) (a + (d + 1)) m) := by
                      show _ = _
                      rw [HM.out, show v - d = (v - (d + 1)) + 1 by omega, leastF, if_neg hlt, ← hid]; rfl
                    have hc : ¬ icmp (gd l id) (gd l m) < 0 := fun h => hlt ((icmp_lt' _ _).1 h)
                    clear hlt HM
                    go_wp2
                    go_roundg (v - (d + 1))
                    case measure => omega
                    case rel => exact ⟨d + 1, m, rfl, by rw [← hid]; go_num, rfl, by omega, by omega, by omega, LL, HB, HM2⟩
                · have hdv2 : d = v := by omega
                  subst hdv2
                  have hidg : ¬ (id : Int) < (a : Int) + (d : Int) := by omega
                  have HMM : Hid (leastF l d a a = m) := by show _ = _; rw [HM.out, Nat.sub_self]; rfl
                  clear HM hgk hd hdv
                  have HFF : Hid (fateL l = (0, a, (List.range d).map fun i => gd l (a + (m - a + i) % d))) := by show _ = _; rw [HF2.out, HAT.out, HMM.out]
                  clear HMM HF2 HAT hid
                  go_wp2_with fail
                  clear hidg
                  have HO0 : Hid (OwZ B9 .i64 wr wr.heap.size 28 (.slice none 0 0) ((List.range 0).map fun i => gd l (a + (m - a + i) % d))) := OwZ.nil _ _ _
                  have hbL : bL < wr.heap.size := by
                    obtain ⟨_, _, _, _, p0, _, _⟩ := LL.out.el (j := 0) (by have := HLN.out; omega)
                    exact p0.lt
                  have hbase : wr.heap.size ≤ wr.heap.size := Nat.le_refl _
                  have hwb : w.heap.size ≤ wr.heap.size := HB.size
                  obtain ⟨base, hbe⟩ : ∃ base, wr.heap.size = base := ⟨_, rfl⟩
                  obtain ⟨D, hD⟩ : ∃ D, m - a = D := ⟨_, rfl⟩
                  have hDi : (m : Int) - (a : Int) = (D : Int) := by omega
                  rw [hbe] at HO0 hbL hwb
                  have hb0 : base ≤ wr.heap.size := by omega
                  rw [hD] at HO0 HFF
                  clear hbe hbase hD
                  go_loopg [16, 17] d (fun g cv iv wr => ∃ (i : Nat), iv = .int .i64 i ∧ g = d - i ∧ i ≤ d ∧ Hid (LsZ B9 .i64 wr (some ⟨bL, oL, none⟩) cL l) ∧ Below w.heap.size w wr ∧ base ≤ wr.heap.size ∧ Hid (OwZ B9 .i64 wr base 28 cv ((List.range i).map fun i => gd l (a + (D + i) % d))))
                  case atStart => exact ⟨0, rfl, rfl, by omega, LL, HB, hb0, HO0⟩
                  case round =>
                    clear LL HB HO0 hb0
                    obtain ⟨i, rfl, hgk, hi, LL, HB, hb0, HO⟩ := hrel
                    by_cases hid : i < d
                    · have hX := Nat.mod_lt (D + i) (show 0 < d by omega)
                      have hq0 : (0 : Int) ≤ (D : Int) + (i : Int) := by omega
                      have hq1 : ((D : Int) + (i : Int)).tmod (d : Int) = (((D + i) % d : Nat) : Int) := by rw [Int.tmod_eq_emod_of_nonneg hq0, Int.natCast_emod, Int.natCast_add]
                      have hq2 : ((D : Int) + (i : Int)) % (d : Int) = (((D + i) % d : Nat) : Int) := by rw [Int.natCast_emod, Int.natCast_add]
                      have HO2 : Hid ((List.range (i + 1)).map (fun i => gd l (a + (D + i) % d)) = (List.range i).map (fun i => gd l (a + (D + i) % d)) ++ [gd l (a + (D + i) % d)]) := by show _ = _; rw [List.range_succ, List.map_append]; rfl
                      obtain ⟨X, hXe⟩ : ∃ X, (D + i) % d = X := ⟨_, rfl⟩
                      rw [hXe] at hX hq1 hq2 HO2
                      clear hXe
                      obtain ⟨np, Ap, mp, kp, p0, p1, HP⟩ := LL.out.el (j := a + X) (by have := HLN.out; omega)
                      have pc0 := p0.c
                      have pc1 := p1.c
                      have hai0 : (0 : Int) ≤ (a : Int) + (X : Int) := by omega
                      have hail : (a : Int) + (X : Int) < (last : Int) + 1 := by omega
                      have haX : ((a : Int) + (X : Int)).toNat = a + X := by omega
                      have hd0 : ((d : Int) == 0) = false := hvb
                      have hd1 : ¬ d = 0 := by omega
                      clear hq0
                      have hw1 : IntKind.i64.wrap ((m : Int) - (a : Int)) = (D : Int) := by rw [IntKind.wrap_i64]; omega
                      have hw2 : IntKind.i64.wrap ((D : Int) + (i : Int)) = (D : Int) + (i : Int) := by rw [IntKind.wrap_i64]; omega
                      have hw3 : IntKind.i64.wrap ((a : Int) + (X : Int)) = (a : Int) + (X : Int) := by rw [IntKind.wrap_i64]; omega
                      go_wp2_with (at_builtin; refine app_Z base rfl _ _ 59 28 32 rfl Try.underlying59 info_N (by decide) _ ((List.range i).map fun i => gd l (a + (D + i) % d)) _ _ _ _ (gd l (a + X)) HO.out HP.out rfl rfl hb0 (by rw [List.length_map, List.length_range]; omega) ?_; intro v1 w4 HO1 HBB HK hb4)
                      replace LL := Lib.hid (LL.out.keepB HBB hbL HK)
                      replace HB := HB.trans (HBB.mono hwb)
                      clear HBB HK pc0 pc1 p0 p1 HP
                      rw [← HO2.out] at HO1
                      go_wp2
                      go_roundg (d - (i + 1))
                      case measure => omega
                      case rel => exact ⟨i + 1, by go_num, rfl, by omega, LL, HB, hb4, HO1⟩
                    · have hid2 : i = d := by omega
                      subst hid2
                      obtain ⟨A2, c2, rfl, hs⟩ := HO.out.form
                      have HS := Lib.hid hs
                      clear HO hs hgk hid
                      rw [List.length_map, List.length_range] at *
                      go_wp2
                      refine bodyPost_ret (v := .tuple #[.int .i64 a, .slice A2 i c2, .int .i64 0]) (by simp [results, Try.results31, go_sem]) rfl ⟨A2, c2, by rw [HLL.out, HFF.out]; simp, by rw [HLL.out, HFF.out]; exact HS, HB⟩
            · have hav2 : a < last - v := by
                rcases Nat.lt_or_ge a (last - v) with h | h
                · exact h
                · exfalso
                  have h2 : a = last - v := by omega
                  apply he
                  rw [h2, HEQ.out, show last - v + v = last by omega]
              have HA2 : Hid (atF l v (last - v) 0 = atF l v (last - v - (a + 1)) (a + 1)) := by
                show _ = _
                rw [HA.out, show last - v - a = (last - v - (a + 1)) + 1 by omega, atF, if_neg he]
              have hc : (icmp (gd l a) (gd l (a + v)) == 0) = false := by
                have := mt (icmp_eq (gd l a) (gd l (a + v))).1 he
                simpa using this
              clear he HA
              go_wp2
              go_roundg (last - (a + 1))
              case measure => omega
              case rel => exact ⟨a + 1, by go_num, rfl, by omega, LL, HB, HA2⟩
        · have hj1 : 0 ≤ (j : Int) - 1 := by omega
          clear hj0
          generalize (j : Int) - 1 = jz at *
          go_wp2_with fail
          go_loopg [13] last (fun g av wr => ∃ (a : Nat), av = .int .i64 a ∧ g = last - a ∧ a ≤ last - v ∧ Hid (LsZ B9 .i64 wr (some ⟨bL, oL, none⟩) cL l) ∧ Below w.heap.size w wr ∧ Hid (atF l v (last - v) 0 = atF l v (last - v - a) a))
          case atStart => exact ⟨0, rfl, rfl, by omega, LL, HB, rfl⟩
          case round =>
            clear LL HB
            obtain ⟨a, rfl, hgk, ha, LL, HB, HA⟩ := hrel
            have ha0 : (0 : Int) ≤ (a : Int) := by omega
            have hal : (a : Int) < (last : Int) + 1 := by omega
            have hav0 : (0 : Int) ≤ (a : Int) + (v : Int) := by omega
            have havl : (a : Int) + (v : Int) < (last : Int) + 1 := by omega
            have hav : ((a : Int) + (v : Int)).toNat = a + v := by omega
            have haw : IntKind.i64.wrap ((a : Int) + (v : Int)) = (a : Int) + (v : Int) := by rw [IntKind.wrap_i64]; omega
            obtain ⟨np, Ap, mp, kp, p0, p1, HP⟩ := LL.out.el (j := a) (by have := HLN.out; omega)
            obtain ⟨nq, Aq, mq, kq, q0, q1, HQ⟩ := LL.out.el (j := (a + v)) (by have := HLN.out; omega)
            go_wp2_with fail
            replace p0 := p0.drew; replace p1 := p1.drew; replace q0 := q0.drew; replace q1 := q1.drew
            replace LL := Lib.hid (LL.out.below (below_drew (Below.refl _ _)))
            replace HP := Lib.hid (HP.out.below (below_drew (Below.refl _ _)))
            replace HQ := Lib.hid (HQ.out.below (below_drew (Below.refl _ _)))
            replace HB := below_drew HB
            generalize hWd : wr.drew = wd at *
            refine wp_region_F (fun w' => w'.cell? ⟨bL, oL + (a) * 2, none⟩ = some (.bool np) ∧ w'.cell? ⟨bL, oL + (a) * 2 + 1, none⟩ = some (.slice Ap mp kp) ∧ w'.cell? ⟨bL, oL + ((a + v)) * 2, none⟩ = some (.bool nq) ∧ w'.cell? ⟨bL, oL + ((a + v)) * 2 + 1, none⟩ = some (.slice Aq mq kq)) [] (by kernel_rfl) (by rw [hWd]; exact ⟨p0.c, p1.c, q0.c, q1.c⟩) (fun hHeld => ?_)
            rw [hWd] at hHeld ⊢
            refine wpAnyF_take (i := 0) (oi := { dst := some 56, op := Go.Op.move (Go.Operand.tmp 9), type := 59, pos := "ref.go:28", after := #[], guard := none }) (v := ?_) rfl (by kernel_rfl) (by kernel_rfl) (by kernel_rfl) (by kernel_rfl) (fun _ _ _ h => h) (Or.inl ⟨by rfl, ?_⟩) hHeld ?_
            rotate_left
            · intro w_ hSw_; (try dsimp only at hSw_); go_simp; (try with_reducible rfl)
            (try simp only [Act.put, List.setIfInBounds_toArray, List.set_cons_zero, List.set_cons_succ])
            refine wpAnyF_take (i := 1) (oi := { dst := some 57, op := Go.Op.move (Go.Operand.tmp 13), type := 3, pos := "ref.go:28", after := #[], guard := none }) (v := ?_) rfl (by kernel_rfl) (by kernel_rfl) (by kernel_rfl) (by kernel_rfl) (fun _ _ _ h => h) (Or.inl ⟨by rfl, ?_⟩) hHeld ?_
            rotate_left
            · intro w_ hSw_; (try dsimp only at hSw_); go_simp; (try with_reducible rfl)
            (try simp only [Act.put, List.setIfInBounds_toArray, List.set_cons_zero, List.set_cons_succ])
            refine wpAnyF_take (i := 2) (oi := { dst := some 58, op := Go.Op.indexAddr 59 (Go.Operand.tmp 56) (Go.Operand.tmp 57), type := 0, pos := "ref.go:28", after := #[{ on := 0, ground := Go.Ground.data }, { on := 1, ground := Go.Ground.data }], guard := none }) (v := ?_) rfl (by kernel_rfl) (by kernel_rfl) (by kernel_rfl) (by kernel_rfl) (fun _ _ _ h => h) (Or.inl ⟨by rfl, ?_⟩) hHeld ?_
            rotate_left
            · intro w_ hSw_; (try dsimp only at hSw_); go_simp; (try with_reducible rfl)
            (try simp only [Act.put, List.setIfInBounds_toArray, List.set_cons_zero, List.set_cons_succ])
            refine wpAnyF_take (i := 3) (oi := { dst := some 59, op := Go.Op.load 28 (Go.Operand.tmp 58), type := 28, pos := "ref.go:28", after := #[{ on := 2, ground := Go.Ground.data }], guard := none }) (v := ?_) rfl (by kernel_rfl) (by kernel_rfl) (by kernel_rfl) (by kernel_rfl) (fun _ _ _ h => h) (Or.inl ⟨by rfl, ?_⟩) hHeld ?_
            rotate_left
            · intro w_ hSw_; (try dsimp only at hSw_); go_simp; (try with_reducible rfl)
            (try simp only [Act.put, List.setIfInBounds_toArray, List.set_cons_zero, List.set_cons_succ])
            refine wpAnyF_take (i := 4) (oi := { dst := some 60, op := Go.Op.move (Go.Operand.tmp 9), type := 59, pos := "ref.go:28", after := #[], guard := none }) (v := ?_) rfl (by kernel_rfl) (by kernel_rfl) (by kernel_rfl) (by kernel_rfl) (fun _ _ _ h => h) (Or.inl ⟨by rfl, ?_⟩) hHeld ?_
            rotate_left
            · intro w_ hSw_; (try dsimp only at hSw_); go_simp; (try with_reducible rfl)
            (try simp only [Act.put, List.setIfInBounds_toArray, List.set_cons_zero, List.set_cons_succ])
            refine wpAnyF_take (i := 5) (oi := { dst := some 61, op := Go.Op.move (Go.Operand.tmp 13), type := 3, pos := "ref.go:28", after := #[], guard := none }) (v := ?_) rfl (by kernel_rfl) (by kernel_rfl) (by kernel_rfl) (by kernel_rfl) (fun _ _ _ h => h) (Or.inl ⟨by rfl, ?_⟩) hHeld ?_
            rotate_left
            · intro w_ hSw_; (try dsimp only at hSw_); go_simp; (try with_reducible rfl)
            (try simp only [Act.put, List.setIfInBounds_toArray, List.set_cons_zero, List.set_cons_succ])
            refine wpAnyF_take (i := 6) (oi := { dst := some 62, op := Go.Op.move (Go.Operand.tmp 11), type := 3, pos := "ref.go:28", after := #[], guard := none }) (v := ?_) rfl (by kernel_rfl) (by kernel_rfl) (by kernel_rfl) (by kernel_rfl) (fun _ _ _ h => h) (Or.inl ⟨by rfl, ?_⟩) hHeld ?_
            rotate_left
            · intro w_ hSw_; (try dsimp only at hSw_); go_simp; (try with_reducible rfl)
            (try simp only [Act.put, List.setIfInBounds_toArray, List.set_cons_zero, List.set_cons_succ])
            refine wpAnyF_take (i := 7) (oi := { dst := some 63, op := Go.Op.binOp Go.BinOp.add 3 (Go.Operand.tmp 61) (Go.Operand.tmp 62) 3, type := 3, pos := "ref.go:28", after := #[{ on := 5, ground := Go.Ground.data }, { on := 6, ground := Go.Ground.data }], guard := none }) (v := ?_) rfl (by kernel_rfl) (by kernel_rfl) (by kernel_rfl) (by kernel_rfl) (fun _ _ _ h => h) (Or.inl ⟨by rfl, ?_⟩) hHeld ?_
            rotate_left
            · intro w_ hSw_; (try dsimp only at hSw_); go_simp; (try with_reducible rfl)
            (try simp only [Act.put, List.setIfInBounds_toArray, List.set_cons_zero, List.set_cons_succ])
            refine wpAnyF_take (i := 8) (oi := { dst := some 64, op := Go.Op.indexAddr 59 (Go.Operand.tmp 60) (Go.Operand.tmp 63), type := 0, pos := "ref.go:28", after := #[{ on := 4, ground := Go.Ground.data }, { on := 7, ground := Go.Ground.data }], guard := none }) (v := ?_) rfl (by kernel_rfl) (by kernel_rfl) (by kernel_rfl) (by kernel_rfl) (fun _ _ _ h => h) (Or.inl ⟨by rfl, ?_⟩) hHeld ?_
            rotate_left
            · intro w_ hSw_; (try dsimp only at hSw_); go_simp; (try with_reducible rfl)
            (try simp only [Act.put, List.setIfInBounds_toArray, List.set_cons_zero, List.set_cons_succ])
            refine wpAnyF_take (i := 9) (oi := { dst := some 65, op := Go.Op.load 28 (Go.Operand.tmp 64), type := 28, pos := "ref.go:28", after := #[{ on := 8, ground := Go.Ground.data }], guard := none }) (v := ?_) rfl (by kernel_rfl) (by kernel_rfl) (by kernel_rfl) (by kernel_rfl) (fun _ _ _ h => h) (Or.inl ⟨by rfl, ?_⟩) hHeld ?_
            rotate_left
            · intro w_ hSw_; (try dsimp only at hSw_); go_simp; (try with_reducible rfl)
            (try simp only [Act.put, List.setIfInBounds_toArray, List.set_cons_zero, List.set_cons_succ])
            refine wpAnyF_one (i := 10) (by kernel_rfl) rfl (fun K hK => ?_)
            go_simp
            (go_at_call 23; (with_reducible refine (Cmp_c (gd l (a)) (gd l ((a + v))) _ _ _ HP.out HQ.out).mono ?_); rintro e w5 ⟨rfl, hb5⟩; replace LL := Lib.hid (LL.out.below hb5); replace p0 := p0.keep hb5; replace p1 := p1.keep hb5; replace q0 := q0.keep hb5; replace q1 := q1.keep hb5; replace HB := below_step HB hb5; clear hb5)
            refine hK.out _ _ (by exact ⟨p0.c, p1.c, q0.c, q1.c⟩) (fun hHeld => ?_)
            clear hK K
            (try simp only [Act.put, List.setIfInBounds_toArray, List.set_cons_zero, List.set_cons_succ])
            refine wpAnyF_take (i := 11) (oi := { dst := some 67, op := Go.Op.binOp Go.BinOp.neq 3 (Go.Operand.tmp 66) (Go.Operand.const (Go.Value.int Go.IntKind.i64 0)) 3, type := 4, pos := "ref.go:28", after := #[{ on := 10, ground := Go.Ground.data }], guard := none }) (v := ?_) rfl (by kernel_rfl) (by kernel_rfl) (by kernel_rfl) (by kernel_rfl) (fun _ _ _ h => h) (Or.inl ⟨by rfl, ?_⟩) hHeld ?_
            rotate_left
            · intro w_ hSw_; (try dsimp only at hSw_); go_simp; (try with_reducible rfl)
            (try simp only [Act.put, List.setIfInBounds_toArray, List.set_cons_zero, List.set_cons_succ])
            refine wpAnyF_done (by kernel_rfl) ?_ _
            clear hHeld hWd HP HQ p0 p1 q0 q1
            by_cases he : gd l a = gd l (a + v)
            · have HAT : Hid (atF l v (last - v) 0 = a) := by show _ = _; rw [HA.out]; exact atF_stop he
              have hc : icmp (gd l a) (gd l (a + v)) = 0 := (icmp_eq _ _).2 he
              clear he HA HEQ hgk
              rw [hc]
              clear hc
              go_wp2_with fail
              go_loopg [14, 15] v (fun g mv iv wr => ∃ (d m : Nat), mv = .int .i64 m ∧ iv = .int .i64 ((a + d : Nat) : Int) ∧ g = v - d ∧ d ≤ v ∧ a ≤ m ∧ m ≤ last ∧ Hid (LsZ B9 .i64 wr (some ⟨bL, oL, none⟩) cL l) ∧ Below w.heap.size w wr ∧ Hid (leastF l v a a = leastF l (v - d) (a + d) m))
              case atStart => exact ⟨0, a, rfl, rfl, by omega, by omega, by omega, by omega, LL, HB, rfl⟩
              case round =>
                clear LL HB
                obtain ⟨d, m, rfl, rfl, hgk, hd, hm0, hm1, LL, HB, HM⟩ := hrel
                obtain ⟨id, hid⟩ : ∃ id, a + d = id := ⟨_, rfl⟩
                rw [hid] at HM ⊢
                by_cases hdv : d < v
                · have hi0 : (0 : Int) ≤ (id : Int) := by omega
                  have hm2 : (0 : Int) ≤ (m : Int) := by omega
                  have hm3 : (m : Int) < (last : Int) + 1 := by omega
                  have hil2 : (id : Int) < (last : Int) + 1 := by omega
                  have hida : (id : Int) < (a : Int) + (v : Int) := by omega
                  obtain ⟨np, Ap, mp, kp, p0, p1, HP⟩ := LL.out.el (j := id) (by have := HLN.out; omega)
                  obtain ⟨nq, Aq, mq, kq, q0, q1, HQ⟩ := LL.out.el (j := m) (by have := HLN.out; omega)
                  go_wp2_with fail
                  replace p0 := p0.drew; replace p1 := p1.drew; replace q0 := q0.drew; replace q1 := q1.drew
                  replace LL := Lib.hid (LL.out.below (below_drew (Below.refl _ _)))
                  replace HP := Lib.hid (HP.out.below (below_drew (Below.refl _ _)))
                  replace HQ := Lib.hid (HQ.out.below (below_drew (Below.refl _ _)))
                  replace HB := below_drew HB
                  generalize hWd : wr.drew = wd at *
                  refine wp_region_F (fun w' => w'.cell? ⟨bL, oL + (id) * 2, none⟩ = some (.bool np) ∧ w'.cell? ⟨bL, oL + (id) * 2 + 1, none⟩ = some (.slice Ap mp kp) ∧ w'.cell? ⟨bL, oL + (m) * 2, none⟩ = some (.bool nq) ∧ w'.cell? ⟨bL, oL + (m) * 2 + 1, none⟩ = some (.slice Aq mq kq)) [] (by kernel_rfl) (by rw [hWd]; exact ⟨p0.c, p1.c, q0.c, q1.c⟩) (fun hHeld => ?_)
                  rw [hWd] at hHeld ⊢
                  refine wpAnyF_take (i := 0) (oi := { dst := some 79, op := Go.Op.move (Go.Operand.tmp 9), type := 59, pos := "ref.go:33", after := #[], guard := none }) (v := ?_) rfl (by kernel_rfl) (by kernel_rfl) (by kernel_rfl) (by kernel_rfl) (fun _ _ _ h => h) (Or.inl ⟨by rfl, ?_⟩) hHeld ?_
                  rotate_left
                  · intro w_ hSw_; (try dsimp only at hSw_); go_simp; (try with_reducible rfl)
                  (try simp only [Act.put, List.setIfInBounds_toArray, List.set_cons_zero, List.set_cons_succ])
                  refine wpAnyF_take (i := 1) (oi := { dst := some 80, op := Go.Op.move (Go.Operand.tmp 15), type := 3, pos := "ref.go:33", after := #[], guard := none }) (v := ?_) rfl (by kernel_rfl) (by kernel_rfl) (by kernel_rfl) (by kernel_rfl) (fun _ _ _ h => h) (Or.inl ⟨by rfl, ?_⟩) hHeld ?_
                  rotate_left
                  · intro w_ hSw_; (try dsimp only at hSw_); go_simp; (try with_reducible rfl)
                  (try simp only [Act.put, List.setIfInBounds_toArray, List.set_cons_zero, List.set_cons_succ])
                  refine wpAnyF_take (i := 2) (oi := { dst := some 81, op := Go.Op.indexAddr 59 (Go.Operand.tmp 79) (Go.Operand.tmp 80), type := 0, pos := "ref.go:33", after := #[{ on := 0, ground := Go.Ground.data }, { on := 1, ground := Go.Ground.data }], guard := none }) (v := ?_) rfl (by kernel_rfl) (by kernel_rfl) (by kernel_rfl) (by kernel_rfl) (fun _ _ _ h => h) (Or.inl ⟨by rfl, ?_⟩) hHeld ?_
                  rotate_left
                  · intro w_ hSw_; (try dsimp only at hSw_); go_simp; (try with_reducible rfl)
                  (try simp only [Act.put, List.setIfInBounds_toArray, List.set_cons_zero, List.set_cons_succ])
                  refine wpAnyF_take (i := 3) (oi := { dst := some 82, op := Go.Op.load 28 (Go.Operand.tmp 81), type := 28, pos := "ref.go:33", after := #[{ on := 2, ground := Go.Ground.data }], guard := none }) (v := ?_) rfl (by kernel_rfl) (by kernel_rfl) (by kernel_rfl) (by kernel_rfl) (fun _ _ _ h => h) (Or.inl ⟨by rfl, ?_⟩) hHeld ?_
                  rotate_left
                  · intro w_ hSw_; (try dsimp only at hSw_); go_simp; (try with_reducible rfl)
                  (try simp only [Act.put, List.setIfInBounds_toArray, List.set_cons_zero, List.set_cons_succ])
                  refine wpAnyF_take (i := 4) (oi := { dst := some 83, op := Go.Op.move (Go.Operand.tmp 9), type := 59, pos := "ref.go:33", after := #[], guard := none }) (v := ?_) rfl (by kernel_rfl) (by kernel_rfl) (by kernel_rfl) (by kernel_rfl) (fun _ _ _ h => h) (Or.inl ⟨by rfl, ?_⟩) hHeld ?_
                  rotate_left
                  · intro w_ hSw_; (try dsimp only at hSw_); go_simp; (try with_reducible rfl)
                  (try simp only [Act.put, List.setIfInBounds_toArray, List.set_cons_zero, List.set_cons_succ])
                  refine wpAnyF_take (i := 5) (oi := { dst := some 84, op := Go.Op.move (Go.Operand.tmp 14), type := 3, pos := "ref.go:33", after := #[], guard := none }) (v := ?_) rfl (by kernel_rfl) (by kernel_rfl) (by kernel_rfl) (by kernel_rfl) (fun _ _ _ h => h) (Or.inl ⟨by rfl, ?_⟩) hHeld ?_
                  rotate_left
                  · intro w_ hSw_; (try dsimp only at hSw_); go_simp; (try with_reducible rfl)
                  (try simp only [Act.put, List.setIfInBounds_toArray, List.set_cons_zero, List.set_cons_succ])
                  refine wpAnyF_take (i := 6) (oi := { dst := some 85, op := Go.Op.indexAddr 59 (Go.Operand.tmp 83) (Go.Operand.tmp 84), type := 0, pos := "ref.go:33", after := #[{ on := 4, ground := Go.Ground.data }, { on := 5, ground := Go.Ground.data }], guard := none }) (v := ?_) rfl (by kernel_rfl) (by kernel_rfl) (by kernel_rfl) (by kernel_rfl) (fun _ _ _ h => h) (Or.inl ⟨by rfl, ?_⟩) hHeld ?_
                  rotate_left
                  · intro w_ hSw_; (try dsimp only at hSw_); go_simp; (try with_reducible rfl)
                  (try simp only [Act.put, List.setIfInBounds_toArray, List.set_cons_zero, List.set_cons_succ])
                  refine wpAnyF_take (i := 7) (oi := { dst := some 86, op := Go.Op.load 28 (Go.Operand.tmp 85), type := 28, pos := "ref.go:33", after := #[{ on := 6, ground := Go.Ground.data }], guard := none }) (v := ?_) rfl (by kernel_rfl) (by kernel_rfl) (by kernel_rfl) (by kernel_rfl) (fun _ _ _ h => h) (Or.inl ⟨by rfl, ?_⟩) hHeld ?_
                  rotate_left
                  · intro w_ hSw_; (try dsimp only at hSw_); go_simp; (try with_reducible rfl)
                  (try simp only [Act.put, List.setIfInBounds_toArray, List.set_cons_zero, List.set_cons_succ])
                  refine wpAnyF_one (i := 8) (by kernel_rfl) rfl (fun K hK => ?_)
                  go_simp
                  (go_at_call 23; (with_reducible refine (Cmp_c (gd l (id)) (gd l (m)) _ _ _ HP.out HQ.out).mono ?_); rintro e w6 ⟨rfl, hb5⟩; replace LL := Lib.hid (LL.out.below hb5); replace p0 := p0.keep hb5; replace p1 := p1.keep hb5; replace q0 := q0.keep hb5; replace q1 := q1.keep hb5; replace HB := below_step HB hb5; clear hb5)
                  refine hK.out _ _ (by exact ⟨p0.c, p1.c, q0.c, q1.c⟩) (fun hHeld => ?_)
                  clear hK K
                  (try simp only [Act.put, List.setIfInBounds_toArray, List.set_cons_zero, List.set_cons_succ])
                  refine wpAnyF_take (i := 9) (oi := { dst := some 88, op := Go.Op.binOp Go.BinOp.lss 3 (Go.Operand.tmp 87) (Go.Operand.const (Go.Value.int Go.IntKind.i64 0)) 3, type := 4, pos := "ref.go:33", after := #[{ on := 8, ground := Go.Ground.data }], guard := none }) (v := ?_) rfl (by kernel_rfl) (by kernel_rfl) (by kernel_rfl) (by kernel_rfl) (fun _ _ _ h => h) (Or.inl ⟨by rfl, ?_⟩) hHeld ?_
                  rotate_left
                  · intro w_ hSw_; (try dsimp only at hSw_); go_simp; (try with_reducible rfl)
                  (try simp only [Act.put, List.setIfInBounds_toArray, List.set_cons_zero, List.set_cons_succ])
                  refine wpAnyF_done (by kernel_rfl) ?_ _
                  clear hHeld hWd HP HQ p0 p1 q0 q1
                  by_cases hlt : gd l id < gd l m
                  · have HM2 : Hid (leastF l v a a = leastF l (v - (d + 1)) (a + (d + 1)) id) := by
                      show _ = _
                      rw [HM.out, show v - d = (v - (d + 1)) + 1 by omega, leastF, if_pos hlt, ← hid]; rfl
                    have hc : icmp (gd l id) (gd l m) < 0 := (icmp_lt' _ _).2 hlt
                    clear hlt HM
                    go_wp2
                    go_roundg (v - (d + 1))
                    case measure => omega
                    case rel => exact ⟨d + 1, id, rfl, by rw [← hid]; go_num, rfl, by omega, by omega, by omega, LL, HB, HM2⟩
                  · have HM2 : Hid (leastF l v a a = leastF l (v - (d + 1)) (a + (d + 1)) m) := by
                      show _ = _
                      rw [HM.out, show v - d = (v - (d + 1)) + 1 by omega, leastF, if_neg hlt, ← hid]; rfl
                    have hc : ¬ icmp (gd l id) (gd l m) < 0 := fun h => hlt ((icmp_lt' _ _).1 h)
                    clear hlt HM
                    go_wp2
                    go_roundg (v - (d + 1))
                    case measure => omega
                    case rel => exact ⟨d + 1, m, rfl, by rw [← hid]; go_num, rfl, by omega, by omega, by omega, LL, HB, HM2⟩
                · have hdv2 : d = v := by omega
                  subst hdv2
                  have hidg : ¬ (id : Int) < (a : Int) + (d : Int) := by omega
                  have HMM : Hid (leastF l d a a = m) := by show _ = _; rw [HM.out, Nat.sub_self]; rfl
                  clear HM hgk hd hdv
                  have HFF : Hid (fateL l = (0, a, (List.range d).map fun i => gd l (a + (m - a + i) % d))) := by show _ = _; rw [HF2.out, HAT.out, HMM.out]
                  clear HMM HF2 HAT hid
                  go_wp2_with fail
                  clear hidg
                  have HO0 : Hid (OwZ B9 .i64 wr wr.heap.size 28 (.slice none 0 0) ((List.range 0).map fun i => gd l (a + (m - a + i) % d))) := OwZ.nil _ _ _
                  have hbL : bL < wr.heap.size := by
                    obtain ⟨_, _, _, _, p0, _, _⟩ := LL.out.el (j := 0) (by have := HLN.out; omega)
                    exact p0.lt
                  have hbase : wr.heap.size ≤ wr.heap.size := Nat.le_refl _
                  have hwb : w.heap.size ≤ wr.heap.size := HB.size
                  obtain ⟨base, hbe⟩ : ∃ base, wr.heap.size = base := ⟨_, rfl⟩
                  obtain ⟨D, hD⟩ : ∃ D, m - a = D := ⟨_, rfl⟩
                  have hDi : (m : Int) - (a : Int) = (D : Int) := by omega
                  rw [hbe] at HO0 hbL hwb
                  have hb0 : base ≤ wr.heap.size := by omega
                  rw [hD] at HO0 HFF
                  clear hbe hbase hD
                  go_loopg [16, 17] d (fun g cv iv wr => ∃ (i : Nat), iv = .int .i64 i ∧ g = d - i ∧ i ≤ d ∧ Hid (LsZ B9 .i64 wr (some ⟨bL, oL, none⟩) cL l) ∧ Below w.heap.size w wr ∧ base ≤ wr.heap.size ∧ Hid (OwZ B9 .i64 wr base 28 cv ((List.range i).map fun i => gd l (a + (D + i) % d))))
                  case atStart => exact ⟨0, rfl, rfl, by omega, LL, HB, hb0, HO0⟩
                  case round =>
                    clear LL HB HO0 hb0
                    obtain ⟨i, rfl, hgk, hi, LL, HB, hb0, HO⟩ := hrel
                    by_cases hid : i < d
                    · have hX := Nat.mod_lt (D + i) (show 0 < d by omega)
                      have hq0 : (0 : Int) ≤ (D : Int) + (i : Int) := by omega
                      have hq1 : ((D : Int) + (i : Int)).tmod (d : Int) = (((D + i) % d : Nat) : Int) := by rw [Int.tmod_eq_emod_of_nonneg hq0, Int.natCast_emod, Int.natCast_add]
                      have hq2 : ((D : Int) + (i : Int)) % (d : Int) = (((D + i) % d : Nat) : Int) := by rw [Int.natCast_emod, Int.natCast_add]
                      have HO2 : Hid ((List.range (i + 1)).map (fun i => gd l (a + (D + i) % d)) = (List.range i).map (fun i => gd l (a + (D + i) % d)) ++ [gd l (a + (D + i) % d)]) := by show _ = _; rw [List.range_succ, List.map_append]; rfl
                      obtain ⟨X, hXe⟩ : ∃ X, (D + i) % d = X := ⟨_, rfl⟩
                      rw [hXe] at hX hq1 hq2 HO2
                      clear hXe
                      obtain ⟨np, Ap, mp, kp, p0, p1, HP⟩ := LL.out.el (j := a + X) (by have := HLN.out; omega)
                      have pc0 := p0.c
                      have pc1 := p1.c
                      have hai0 : (0 : Int) ≤ (a : Int) + (X : Int) := by omega
                      have hail : (a : Int) + (X : Int) < (last : Int) + 1 := by omega
                      have haX : ((a : Int) + (X : Int)).toNat = a + X := by omega
                      have hd0 : ((d : Int) == 0) = false := hvb
                      have hd1 : ¬ d = 0 := by omega
                      clear hq0
                      have hw1 : IntKind.i64.wrap ((m : Int) - (a : Int)) = (D : Int) := by rw [IntKind.wrap_i64]; omega
                      have hw2 : IntKind.i64.wrap ((D : Int) + (i : Int)) = (D : Int) + (i : Int) := by rw [IntKind.wrap_i64]; omega
                      have hw3 : IntKind.i64.wrap ((a : Int) + (X : Int)) = (a : Int) + (X : Int) := by rw [IntKind.wrap_i64]; omega
                      go_wp2_with (at_builtin; refine app_Z base rfl _ _ 59 28 32 rfl Try.underlying59 info_N (by decide) _ ((List.range i).map fun i => gd l (a + (D + i) % d)) _ _ _ _ (gd l (a + X)) HO.out HP.out rfl rfl hb0 (by rw [List.length_map, List.length_range]; omega) ?_; intro v1 w4 HO1 HBB HK hb4)
                      replace LL := Lib.hid (LL.out.keepB HBB hbL HK)
                      replace HB := HB.trans (HBB.mono hwb)
                      clear HBB HK pc0 pc1 p0 p1 HP
                      rw [← HO2.out] at HO1
                      go_wp2
                      go_roundg (d - (i + 1))
                      case measure => omega
                      case rel => exact ⟨i + 1, by go_num, rfl, by omega, LL, HB, hb4, HO1⟩
                    · have hid2 : i = d := by omega
                      subst hid2
                      obtain ⟨A2, c2, rfl, hs⟩ := HO.out.form
                      have HS := Lib.hid hs
                      clear HO hs hgk hid
                      rw [List.length_map, List.length_range] at *
                      go_wp2
                      refine bodyPost_ret (v := .tuple #[.int .i64 a, .slice A2 i c2, .int .i64 0]) (by simp [results, Try.results31, go_sem]) rfl ⟨A2, c2, by rw [HLL.out, HFF.out]; simp, by rw [HLL.out, HFF.out]; exact HS, HB⟩
            · have hav2 : a < last - v := by
                rcases Nat.lt_or_ge a (last - v) with h | h
                · exact h
                · exfalso
                  have h2 : a = last - v := by omega
                  apply he
                  rw [h2, HEQ.out, show last - v + v = last by omega]
              have HA2 : Hid (atF l v (last - v) 0 = atF l v (last - v - (a + 1)) (a + 1)) := by
                show _ = _
                rw [HA.out, show last - v - a = (last - v - (a + 1)) + 1 by omega, atF, if_neg he]
              have hc : (icmp (gd l a) (gd l (a + v)) == 0) = false := by
                have := mt (icmp_eq (gd l a) (gd l (a + v))).1 he
                simpa using this
              clear he HA
              go_wp2
              go_roundg (last - (a + 1))
              case measure => omega
              case rel => exact ⟨a + 1, by go_num, rfl, by omega, LL, HB, HA2⟩
end Go.Proofs.Ytiaeeclmlchpoaa
