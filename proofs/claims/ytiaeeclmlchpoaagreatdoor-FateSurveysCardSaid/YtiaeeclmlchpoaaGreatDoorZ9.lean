/- Strings that are valid numbers. No condition. -/
import Derived.Test.YtiaeeclmlchpoaaGreatDoorZ1
import Derived.Test.YtiaeeclmlchpoaaGreatDoorZ2
import Derived.Test.YtiaeeclmlchpoaaGreatDoorZ7
import Derived.Test.YtiaeeclmlchpoaaGreatDoorZ6
import Derived.Test.YtiaeeclmlchpoaaGreatDoorZ8
import Derived.Maps.RangeWalk
import Derived.Test.YtiaeeclmlchpoaaGreatDoorZ3
set_option linter.unusedVariables false
set_option linter.unusedSimpArgs false
namespace Go.Proofs.YtiaeeclmlchpoaaGreatDoor
open Go.RowKit

theorem dig_of_valid {s : ByteArray} (h : vldL (codes s) = true) : ∃ z : Int, s = tS z ∧ dlN z.natAbs ≤ 2000 := by
  obtain ⟨z, hz, hd⟩ := vld_num h
  exact ⟨z, codes_inj (by rw [codes_tS]; exact hz), hd⟩
theorem tS_sz {z : Int} (h : dlN z.natAbs ≤ 2000) : (tS z).size ≤ 9223372036854775807 := by
  unfold tS; rw [mkS_size]; unfold tx
  have : (txN z.natAbs).length ≤ 2000 := h
  split <;> simp <;> omega
theorem vld_tS {z : Int} (h : dlN z.natAbs ≤ 2000) : vldL (codes (tS z)) = true := by rw [codes_tS]; exact vld_tx z h
theorem vld_cases (s : ByteArray) : vldL (codes s) = false ∨ ∃ z : Int, s = tS z ∧ dlN z.natAbs ≤ 2000 := by
  rcases Bool.eq_false_or_eq_true (vldL (codes s)) with h | h
  · exact .inr (dig_of_valid h)
  · exact .inl h
end Go.Proofs.YtiaeeclmlchpoaaGreatDoor

set_option linter.unusedVariables false
set_option linter.unusedSimpArgs false
namespace Go.Proofs.YtiaeeclmlchpoaaGreatDoor
open Go.RowKit

def strs (l : List ByteArray) : List Value := l.map Value.string
theorem strs_length (l : List ByteArray) : (strs l).length = l.length := by simp [strs]
theorem strs_append (l m : List ByteArray) : strs (l ++ m) = strs l ++ strs m := by simp [strs]
def gs (l : List ByteArray) (i : Nat) : ByteArray := l.getD i ByteArray.empty
theorem gs_lt {l : List ByteArray} {i : Nat} (h : i < l.length) : gs l i = l[i] := by simp [gs, h]
/-- A slice of strings. -/
def LsS (w : World) (A : Option Addr) (c : Nat) (l : List ByteArray) : Prop := Rd w 1 A l.length (strs l) ∧ l.length ≤ c ∧ c ≤ 9223372036854775807
/-- A list of strings of the call's own. -/
def OwS (w : World) (base : Nat) (e : TypeId) (v : Value) (l : List ByteArray) : Prop := OwP w base e 1 v l.length (strs l)
section
variable {w w' : World} {base : Nat} {e : TypeId} {v : Value} {l : List ByteArray} {A : Option Addr} {c : Nat}
theorem LsS.below (h : LsS w A c l) (hb : Below w.heap.size w w') : LsS w' A c l := ⟨h.1.below hb, h.2⟩
theorem LsS.nil (w : World) : LsS w none 0 [] := ⟨Rd.nil, Nat.le_refl _, by omega⟩
theorem LsS.cell (h : LsS w A c l) {j : Nat} (hj : j < l.length) : ∃ b off, A = some ⟨b, off, none⟩ ∧ b < w.heap.size ∧ w.cell? ⟨b, off + j, none⟩ = some (.string (gs l j)) := by
  obtain ⟨b, off, e, hl, u, hu, hc⟩ := h.1.at_ hj
  refine ⟨b, off, e, hl, hc.trans ?_⟩
  rw [← hu, gs_lt hj]
  simp [strs, hj]
theorem OwS.nil (w : World) (base : Nat) (e : TypeId) : OwS w base e (.slice none 0 0) [] := ⟨World.ownsRow_nil _ _ _ _, fun g _ _ _ hg => by simp [Value.ownBlock] at hg⟩
theorem OwS.below (h : OwS w base e v l) (hb : Below w.heap.size w w') : OwS w' base e v l := OwP.below h hb
theorem OwS.form (h : OwS w base e v l) : ∃ A c, v = .slice A l.length c ∧ LsS w A c l := by
  have hh := h.1
  rcases h.1.2 with ⟨rfl, h0⟩ | ⟨g, cap, cur, rfl, hb, hg, hnc, hm, _⟩
  · have : l = [] := List.eq_nil_of_length_eq_zero h0
    subst this
    exact ⟨none, 0, rfl, ⟨hh.1, fun h => absurd h (by simp)⟩, Nat.le_refl _, by omega⟩
  · refine ⟨some ⟨g, 0, none⟩, cap, rfl, Rd.of_own hh, hnc, ?_⟩
    simp only [maxLen] at hm
    omega
end
section
variable {P : Program} {ops : Array Oper} {rest : List Oper} {o : Oper} {a : Act} {Q : Exit → Act → World → Prop}
/-- One string more at the end of a list of the call's own. -/
theorem app_T {W : World} (base : Nat) (hgd : o.guard = none) (s x : Operand) (t e : TypeId) (bytes : Nat)
    (ho : o.op = .call { callee := .builtin .append, args := #[s, x], argTypes := #[t, t] })
    (ht : P.underlying t = some (.slice e)) (hinfo : (P.info? e).map (fun i => (i.zero, i.size, i.bytes)) = some (some (.string ByteArray.empty), 1, bytes)) (hb0 : 0 < bytes)
    (v : Value) (l : List ByteArray) (y : ByteArray) (HO : OwS W base e v l) (hs : a.eval s = v) (hx : a.eval x = .slice (some ⟨W.heap.size, 0, none⟩) 1 1) (hbase : base ≤ W.heap.size) (hl : (l.length + 1) * bytes ≤ 140737488355328)
    (h : ∀ v1 w1, OwS w1 base e v1 (l ++ [y]) → Below base W w1 → Kp W w1 → base ≤ w1.heap.size → wpList P ops Q rest (a.put o.dst v1) w1) :
    wpList P ops Q (o :: rest) a (W.alloc (.cells #[.string y] e)) := by
  obtain ⟨i0, hi, hzz⟩ := Option.map_eq_some_iff.1 hinfo
  simp only [Prod.mk.injEq] at hzz
  obtain ⟨hz0, hz1, hz2⟩ := hzz
  have hlen : l.length + 1 ≤ 140737488355328 := Nat.le_trans (Nat.le_mul_of_pos_right _ hb0) hl
  have hba : Below W.heap.size W (W.alloc (.cells #[.string y] e)) := below_alloc (Below.refl _ _) _
  have hP2 : OwP (W.alloc (.cells #[.string y] e)) base e 1 v l.length (strs l) := OwP.below HO hba
  refine wp_append_P (w := W.alloc (.cells #[.string y] e)) hgd s x t ho base e i0 (.string ByteArray.empty) 1 bytes ht hi hz0 hz1 hz2 rfl (by omega) (by
    intro u hu
    simp [Value.cells] at hu
    subst hu
    exact fun _ _ h => by cases h) v l.length (strs l) hs hP2 ⟨W.heap.size, 0, none⟩ 1 1 [.string y] hx rfl (cell_one_new _ _ _) (by simp [Value.oneCell']) (by
    intro u hu
    simp at hu
    subst hu
    exact fun _ _ h => by cases h) (by omega) (by simp only [maxLen]; omega) hl (by simp; omega) ?_
  intro v1 w1 hown hg
  have hk : Kp W w1 := (Kp.of hba).trans (Kp.grown hg hP2.2 (own_cells hP2.1))
  refine h v1 w1 ?_ (((Below.refl base W).alloc hbase _).grown hg (by simp; omega) (ownsRow_base hP2.1)) hk (by have := hg.size; simp at this; omega)
  unfold OwS
  rw [strs_append, List.length_append]
  exact hown
/-- One element more at the end of a row of the call's own, whatever its cells. -/
theorem app_R {w0 W : World} (base : Nat) (hgd : o.guard = none) (s x : Operand) (t e : TypeId) (z : Value) (size bytes : Nat) (news : List Value) (n : Nat) (xs : List Value)
    (ho : o.op = .call { callee := .builtin .append, args := #[s, x], argTypes := #[t, t] })
    (ht : P.underlying t = some (.slice e)) (hinfo : (P.info? e).map (fun i => (i.zero, i.size, i.bytes)) = some (some z, size, bytes)) (hzs : z.cells.size = size) (hsz : 0 < size) (hb0 : 0 < bytes) (hnl : news.length = size) (hn1 : ∀ u ∈ news, u.oneCell' = true)
    (v : Value) (HO : W.ownsRow base e size v n xs) (hs : a.eval s = v) (hx : a.eval x = .slice (some ⟨W.heap.size, 0, none⟩) 1 1) (HB : Below base w0 W) (hbase : base ≤ W.heap.size) (hl : (n + 1) * bytes ≤ 140737488355328)
    (h : ∀ v1 w1, w1.ownsRow base e size v1 (n + 1) (xs ++ news) → Below base w0 w1 → base ≤ w1.heap.size → wpList P ops Q rest (a.put o.dst v1) w1) :
    wpList P ops Q (o :: rest) a (W.alloc (.cells news.toArray e)) := by
  obtain ⟨i0, hi, hzz⟩ := Option.map_eq_some_iff.1 hinfo
  simp only [Prod.mk.injEq] at hzz
  obtain ⟨hz0, hz1, hz2⟩ := hzz
  have hlen : n + 1 ≤ 140737488355328 := Nat.le_trans (Nat.le_mul_of_pos_right _ hb0) hl
  refine wpList_append_own (w := W.alloc (.cells news.toArray e)) hgd s x t ho base e i0 z size bytes ht hi hz0 hz1 hz2 hzs hsz v n xs hs (HO.alloc _) ⟨W.heap.size, 0, none⟩ 1 1 news hx (by omega)
    (fun j u hu => by rw [plain_add]; simp only [World.cell?, heap_alloc_new]; simpa using hu) hn1 (by simp only [maxLen]; omega) hl (by simp; omega) ?_
  intro v1 w1 hown hg _
  exact h v1 w1 hown ((HB.alloc hbase _).grown hg (by simp; omega) (ownsRow_base HO)) (by have := hg.size; simp at this; omega)
end
end Go.Proofs.YtiaeeclmlchpoaaGreatDoor

set_option linter.unusedVariables false
set_option linter.unusedSimpArgs false
namespace Go.Proofs.YtiaeeclmlchpoaaGreatDoor
open Go.RowKit

theorem dl_dlN' (z : Int) : dl z = dlN z.natAbs := dl_dlN z
theorem len_dlN {z : Int} (h : dlN z.natAbs ≤ 2000) : (dg B9 z).length ≤ 2000 := len_of_dl (by rw [dl_dlN]; exact h)
/-- What Fate returns: the error, the steps, the cycle. -/
def fateR (M : Mp) (z : Int) (most : Int) : Int × Nat × List Int := if most < 0 ∨ 20000 < most then (2, 0, []) else flwA M (most.toNat + 1) [] z
/-- The cases of what follow returns. -/
theorem flw_cases (M : Mp) (z : Int) (most : Nat) : flwA M (most + 1) [] z = (3, 0, []) ∨ flwA M (most + 1) [] z = (4, 0, []) ∨ ∃ t l, flwA M (most + 1) [] z = (0, t, l) ∧ 0 < l.length ∧ l.length ≤ most ∧ t + l.length ≤ most ∧ ∀ x, x ∈ l → dl x ≤ 2000 := by
  rcases flwA_FS M z most with ⟨h, -⟩ | ⟨h, -⟩ | ⟨t, s, L, h, h1, h2, h3, h4, h5, -⟩
  · exact .inl h
  · exact .inr (.inl h)
  · refine .inr (.inr ⟨t, _, h, by simpa using h1, by simp; omega, by simpa using h2, fun x hx => ?_⟩)
    obtain ⟨i, -, rfl⟩ := List.mem_map.1 hx
    exact h5 _
theorem info_S : (Tryz.prog.info? 9).map (fun i => (i.zero, i.size, i.bytes)) = some (some (.string ByteArray.empty), 1, 16) := by kernel_rfl
theorem gd_mem {l : List Int} {i : Nat} (h : i < l.length) : gd l i ∈ l := by rw [gd_lt h]; exact List.getElem_mem h
theorem take_snoc_gd {l : List Int} {i : Nat} (h : i < l.length) : (l.take (i + 1)).map tS = (l.take i).map tS ++ [tS (gd l i)] := by
  rw [List.take_succ_eq_append_getElem h, List.map_append, gd_lt h]; rfl
set_option maxRecDepth 100000 in
set_option maxHeartbeats 4000000 in
theorem Fate_bad (M : Mp) (s : ByteArray) (most : Int) (v : Value) (w : World) (hM : IsM w v M) (hs : s.size ≤ 9223372036854775807) (hbad : okB M = false ∨ vldL (codes s) = false) :
    Calls Tryz.prog 19 #[v, .string s, .int .i64 most] w fun e w' => e = .returned (.tuple #[.int .i64 0, .slice none 0 0, .int .i64 1]) ∧ Below w.heap.size w w' := by
  obtain ⟨md, A, n, c, A', n', c', rfl, HM⟩ := hM.form
  have V3 := VM.new w 24 HM.out
  have HB := below_alloc (Below.refl w.heap.size w) (Obj.cells #[Value.int .i64 md, Value.slice A n c, Value.slice A' n' c'] 24)
  by_cases hok : okB M = true
  · have hv := hbad.resolve_left (by rw [hok]; simp)
    have HOK := Lib.hid hok
    have HV := Lib.hid hv
    clear hok hv hbad hM
    go_enter Tryz.func19, Tryz.ntmps19
    go_wp2_with fail
    (with_reducible refine (SValid_c M _ _ V3.im.out).mono ?_)
    rintro e w4 ⟨he, hb⟩
    replace HB := below_step HB hb
    replace V3 := V3.keep hb
    clear hb
    obtain rfl : e = .returned (.bool true) := by rw [he, HOK.out] <;> rfl
    clear he

    go_wp2_with fail
    (with_reducible refine (nValid_c s _ hs).mono ?_)
    rintro e w5 ⟨he, hb⟩
    replace HB := below_step HB hb
    replace V3 := V3.keep hb
    clear hb
    obtain rfl : e = .returned (.bool false) := by rw [he, HV.out] <;> rfl
    clear he

    go_wp2
    go_ret3
    exact ⟨rfl, HB⟩
  · have HOK : Hid (okB M = false) := by show _ = _; revert hok; cases okB M <;> simp
    clear hok hbad hM
    go_enter Tryz.func19, Tryz.ntmps19
    go_wp2_with fail
    (with_reducible refine (SValid_c M _ _ V3.im.out).mono ?_)
    rintro e w4 ⟨he, hb⟩
    replace HB := below_step HB hb
    replace V3 := V3.keep hb
    clear hb
    obtain rfl : e = .returned (.bool false) := by rw [he, HOK.out] <;> rfl
    clear he

    go_wp2
    go_ret3
    exact ⟨rfl, HB⟩
set_option maxRecDepth 100000 in
set_option maxHeartbeats 4000000 in
theorem Fate_arg (M : Mp) (z most : Int) (v : Value) (w : World) (hM : IsM w v M) (hok : okM M) (hz : dlN z.natAbs ≤ 2000) (hbad : most < 0 ∨ 20000 < most) :
    Calls Tryz.prog 19 #[v, .string (tS z), .int .i64 most] w fun e w' => e = .returned (.tuple #[.int .i64 0, .slice none 0 0, .int .i64 2]) ∧ Below w.heap.size w w' := by
  obtain ⟨md, A, n, c, A', n', c', rfl, HM⟩ := hM.form
  have V3 := VM.new w 24 HM.out
  have HB := below_alloc (Below.refl w.heap.size w) (Obj.cells #[Value.int .i64 md, Value.slice A n c, Value.slice A' n' c'] 24)
  have HOK : Hid (okB M = true) := okB_iff.2 hok
  have HV := Lib.hid (vld_tS hz)
  have hs := tS_sz hz
  generalize tS z = s at *
  clear hok hM
  rcases hbad with hlo | hhi
  all_goals
    go_enter Tryz.func19, Tryz.ntmps19
    go_wp2_with fail
    (with_reducible refine (SValid_c M _ _ V3.im.out).mono ?_)
    rintro e w4 ⟨he, hb⟩
    replace HB := below_step HB hb
    replace V3 := V3.keep hb
    clear hb
    obtain rfl : e = .returned (.bool true) := by rw [he, HOK.out] <;> rfl
    clear he

    go_wp2_with fail
    (with_reducible refine (nValid_c s _ hs).mono ?_)
    rintro e w5 ⟨he, hb⟩
    replace HB := below_step HB hb
    replace V3 := V3.keep hb
    clear hb
    obtain rfl : e = .returned (.bool true) := by rw [he, HV.out] <;> rfl
    clear he

    go_wp2
    go_ret3
    exact ⟨rfl, HB⟩
set_option maxRecDepth 100000 in
set_option maxHeartbeats 8000000 in
theorem Fate_ok (M : Mp) (z : Int) (most : Nat) (v : Value) (w : World) (hM : IsM w v M) (hok : okM M) (hz : dlN z.natAbs ≤ 2000) (hmo : most ≤ 20000) (ht : Tb w) :
    Calls Tryz.prog 19 #[v, .string (tS z), .int .i64 most] w fun e w' => ∃ A c, e = .returned (.tuple #[.int .i64 (flwA M (most + 1) [] z).2.1, .slice A (flwA M (most + 1) [] z).2.2.length c, .int .i64 (flwA M (most + 1) [] z).1]) ∧ Hid (LsS w' A c ((flwA M (most + 1) [] z).2.2.map tS)) ∧ Below w.heap.size w w' := by
  obtain ⟨md, A, n, c, A', n', c', rfl, HM⟩ := hM.form
  have V3 := VM.new w 24 HM.out
  have HB := below_alloc (Below.refl w.heap.size w) (Obj.cells #[Value.int .i64 md, Value.slice A n c, Value.slice A' n' c'] 24)
  have HOK : Hid (okB M = true) := okB_iff.2 hok
  have HV := Lib.hid (vld_tS hz)
  have hs := Lib.hid (tS_sz hz)
  have HT := Lib.hid ht
  have HOKM := Lib.hid hok
  have HZ := Lib.hid hz
  have HLZ := Lib.hid (len_dlN hz)
  have hm0 : (0 : Int) ≤ (most : Int) := by omega
  have hm1 : (most : Int) ≤ 20000 := by omega
  obtain ⟨Rr, hRr⟩ : ∃ R, flwA M (most + 1) [] z = R := ⟨_, rfl⟩
  have HC : Hid (Rr = (3, 0, []) ∨ Rr = (4, 0, []) ∨ ∃ t l, Rr = (0, t, l) ∧ 0 < l.length ∧ l.length ≤ most ∧ t + l.length ≤ most ∧ ∀ x, x ∈ l → dl x ≤ 2000) := by have := flw_cases M z most; rw [hRr] at this; exact this
  have HF : Hid (∀ (u : Value) (W : World) (v : Value), IsM W v M → IsH W u z → Tb W → Calls Tryz.prog 28 #[v, u, .int .i64 most] W fun e w' => ∃ A c, e = .returned (.tuple #[.int .i64 Rr.2.1, .slice A Rr.2.2.length c, .int .i64 Rr.1]) ∧ Hid (LsZ B9 .u32 w' A c Rr.2.2) ∧ Below W.heap.size W w') :=
    fun u W v h1 h2 h3 => by have := follow_c M z most v u W h1 h2 hok (by have := HLZ.out; omega) (by omega) h3; rw [hRr] at this; exact this
  rw [hRr]
  clear hRr hok hM hz ht
  go_enter Tryz.func19, Tryz.ntmps19
  go_wp2_with fail
  (with_reducible refine (SValid_c M _ _ V3.im.out).mono ?_)
  rintro e w4 ⟨he, hb⟩
  replace HB := below_step HB hb
  replace V3 := V3.keep hb
  clear hb
  obtain rfl : e = .returned (.bool true) := by rw [he, HOK.out] <;> rfl
  clear he

  go_wp2_with fail
  (with_reducible refine (nValid_c (tS z) _ hs.out).mono ?_)
  rintro e w5 ⟨he, hb⟩
  replace HB := below_step HB hb
  replace V3 := V3.keep hb
  clear hb
  obtain rfl : e = .returned (.bool true) := by rw [he, HV.out] <;> rfl
  clear he

  have m0 := V3.c0; have m1 := V3.c1; have m2 := V3.c2
  go_wp2_with fail
  clear m0 m1 m2
  replace V3 := V3.drew
  replace HB := below_drew HB
  generalize hWd : w5.drew = wd at *

  refine wp_region_F (fun w' => w'.cell? ⟨w.heap.size, 0, none⟩ = some (.int .i64 md) ∧ w'.cell? ⟨w.heap.size, 1, none⟩ = some (.slice A n c) ∧ w'.cell? ⟨w.heap.size, 2, none⟩ = some (.slice A' n' c')) [] (by kernel_rfl) (by rw [hWd]; exact ⟨V3.c0, V3.c1, V3.c2⟩) (fun hHeld => ?_)
  rw [hWd] at hHeld ⊢
  refine wpF_t (i := 0) (oi := { dst := some 32, op := Go.Op.load 24 (Go.Operand.tmp 3), type := 24, pos := "fate.go:56", after := #[], guard := none }) (v := ?_) rfl (by kernel_rfl) (fun _ _ _ h => h) (Or.inl ⟨by rfl, ?_⟩) hHeld ?_; rotate_left
  · intro w_ hSw_; (try dsimp only at hSw_); go_simp; (try with_reducible rfl)
  try go_frame
  refine wpF_t (i := 1) (oi := { dst := some 33, op := Go.Op.move (Go.Operand.tmp 1), type := 9, pos := "fate.go:56", after := #[], guard := none }) (v := ?_) rfl (by kernel_rfl) (fun _ _ _ h => h) (Or.inl ⟨by rfl, ?_⟩) hHeld ?_; rotate_left
  · intro w_ hSw_; (try dsimp only at hSw_); go_simp; (try with_reducible rfl)
  try go_frame
  refine wpF_t (i := 3) (oi := { dst := some 35, op := Go.Op.move (Go.Operand.tmp 2), type := 3, pos := "fate.go:56", after := #[], guard := none }) (v := ?_) rfl (by kernel_rfl) (fun _ _ _ h => h) (Or.inl ⟨by rfl, ?_⟩) hHeld ?_; rotate_left
  · intro w_ hSw_; (try dsimp only at hSw_); go_simp; (try with_reducible rfl)
  try go_frame
  refine wpAnyF_one (i := 2) (by kernel_rfl) rfl (fun K hK => ?_)
  go_simp
  (go_at_call 24; (with_reducible refine (hParse_c z _ (by have := HZ.out; omega)).mono ?_); rintro e w6 ⟨v, rfl, hv, hb⟩; obtain ⟨n6, A6, m6, k6, rfl, H6⟩ := hv.form; clear hv; replace V3 := V3.keep hb; replace HB := below_step HB hb; clear hb)
  refine hK.out _ _ (by exact ⟨V3.c0, V3.c1, V3.c2⟩) (fun hHeld => ?_)
  clear hK K
  try go_frame
  refine wpAnyF_one (i := 4) (by kernel_rfl) rfl (fun K hK => ?_)
  go_simp
  (go_at_call 28; (with_reducible refine (HF.out _ _ _ V3.im.out H6.out (HT.out.below HB)).mono ?_); rintro e w7 ⟨A7, c7, rfl, HL, hb⟩; replace V3 := V3.keep hb; replace HB := below_step HB hb; clear hb)
  refine hK.out _ _ (by exact ⟨V3.c0, V3.c1, V3.c2⟩) (fun hHeld => ?_)
  clear hK K
  try go_frame
  refine wpF_t (i := 5) (oi := { dst := some 31, op := Go.Op.move (Go.Operand.tmp 36), type := 64, pos := "fate.go:56", after := #[{ on := 4, ground := Go.Ground.data }], guard := none }) (v := ?_) rfl (by kernel_rfl) (fun _ _ _ h => h) (Or.inl ⟨by rfl, ?_⟩) hHeld ?_; rotate_left
  · intro w_ hSw_; (try dsimp only at hSw_); go_simp; (try with_reducible rfl)
  try go_frame
  refine wpF_t (i := 6) (oi := { dst := some 37, op := Go.Op.extract (Go.Operand.tmp 31) 0, type := 3, pos := "fate.go:56", after := #[{ on := 5, ground := Go.Ground.data }], guard := none }) (v := ?_) rfl (by kernel_rfl) (fun _ _ _ h => h) (Or.inl ⟨by rfl, ?_⟩) hHeld ?_; rotate_left
  · intro w_ hSw_; (try dsimp only at hSw_); go_simp; (try with_reducible rfl)
  try go_frame
  refine wpF_t (i := 7) (oi := { dst := some 38, op := Go.Op.extract (Go.Operand.tmp 31) 1, type := 63, pos := "fate.go:56", after := #[{ on := 5, ground := Go.Ground.data }, { on := 9, ground := Go.Ground.gcOnly Go.Departure.lateStores }], guard := none }) (v := ?_) rfl (by kernel_rfl) (fun _ _ _ h => h) (Or.inl ⟨by rfl, ?_⟩) hHeld ?_; rotate_left
  · intro w_ hSw_; (try dsimp only at hSw_); go_simp; (try with_reducible rfl)
  try go_frame
  refine wpF_t (i := 8) (oi := { dst := some 39, op := Go.Op.extract (Go.Operand.tmp 31) 2, type := 32, pos := "fate.go:56", after := #[{ on := 5, ground := Go.Ground.data }, { on := 10, ground := Go.Ground.gcOnly Go.Departure.lateStores }], guard := none }) (v := ?_) rfl (by kernel_rfl) (fun _ _ _ h => h) (Or.inl ⟨by rfl, ?_⟩) hHeld ?_; rotate_left
  · intro w_ hSw_; (try dsimp only at hSw_); go_simp; (try with_reducible rfl)
  try go_frame
  refine wpF_t (i := 9) (oi := { dst := some 9, op := Go.Op.assign (Go.Operand.tmp 37), type := 3, pos := "fate.go:56", after := #[{ on := 6, ground := Go.Ground.data }, { on := 4, ground := Go.Ground.chain }, { on := 0, ground := Go.Ground.phase }, { on := 1, ground := Go.Ground.phase }, { on := 2, ground := Go.Ground.phase }, { on := 3, ground := Go.Ground.phase }, { on := 4, ground := Go.Ground.phase }, { on := 5, ground := Go.Ground.phase }, { on := 6, ground := Go.Ground.phase }, { on := 7, ground := Go.Ground.textOnly Go.Departure.lateStores }, { on := 8, ground := Go.Ground.textOnly Go.Departure.lateStores }], guard := none }) (v := ?_) rfl (by kernel_rfl) (fun _ _ _ h => h) (Or.inl ⟨by rfl, ?_⟩) hHeld ?_; rotate_left
  · intro w_ hSw_; (try dsimp only at hSw_); go_simp; (try with_reducible rfl)
  try go_frame
  refine wpF_t (i := 10) (oi := { dst := some 10, op := Go.Op.assign (Go.Operand.tmp 38), type := 63, pos := "fate.go:56", after := #[{ on := 7, ground := Go.Ground.data }, { on := 9, ground := Go.Ground.chain }, { on := 0, ground := Go.Ground.phase }, { on := 1, ground := Go.Ground.phase }, { on := 2, ground := Go.Ground.phase }, { on := 3, ground := Go.Ground.phase }, { on := 4, ground := Go.Ground.phase }, { on := 5, ground := Go.Ground.phase }, { on := 6, ground := Go.Ground.phase }, { on := 7, ground := Go.Ground.phase }, { on := 8, ground := Go.Ground.textOnly Go.Departure.lateStores }, { on := 9, ground := Go.Ground.phase }], guard := none }) (v := ?_) rfl (by kernel_rfl) (fun _ _ _ h => h) (Or.inl ⟨by rfl, ?_⟩) hHeld ?_; rotate_left
  · intro w_ hSw_; (try dsimp only at hSw_); go_simp; (try with_reducible rfl)
  try go_frame
  refine wpF_t (i := 11) (oi := { dst := some 11, op := Go.Op.assign (Go.Operand.tmp 39), type := 32, pos := "fate.go:56", after := #[{ on := 8, ground := Go.Ground.data }, { on := 10, ground := Go.Ground.chain }, { on := 0, ground := Go.Ground.phase }, { on := 1, ground := Go.Ground.phase }, { on := 2, ground := Go.Ground.phase }, { on := 3, ground := Go.Ground.phase }, { on := 4, ground := Go.Ground.phase }, { on := 5, ground := Go.Ground.phase }, { on := 6, ground := Go.Ground.phase }, { on := 7, ground := Go.Ground.phase }, { on := 8, ground := Go.Ground.phase }, { on := 9, ground := Go.Ground.phase }, { on := 10, ground := Go.Ground.phase }], guard := none }) (v := ?_) rfl (by kernel_rfl) (fun _ _ _ h => h) (Or.inl ⟨by rfl, ?_⟩) hHeld ?_; rotate_left
  · intro w_ hSw_; (try dsimp only at hSw_); go_simp; (try with_reducible rfl)
  try go_frame
  refine wpAnyF_done (by kernel_rfl) ?_ _
  clear hHeld hWd HF
  rcases HC.out with h | h | ⟨t, l, h, h1, h2, h3, h4⟩
  · subst h
    clear HC
    go_wp2
    go_ret3
    exact ⟨none, 0, rfl, LsS.nil _, HB⟩
  · subst h
    clear HC
    go_wp2
    go_ret3
    exact ⟨none, 0, rfl, LsS.nil _, HB⟩
  · subst h
    clear HC
    dsimp only at HL ⊢
    obtain ⟨bl, ol, _, _, _, _, rfl, _⟩ := HL.out.at (j := 0) h1
    have H4 := Lib.hid h4
    have HLL : Hid ((l.length + 1) * 16 ≤ 140737488355328) := by show _ ≤ _; omega
    clear h3 h4
    have hll : (0 : Int) < (l.length : Int) := by omega
    go_wp2_with fail
    have HLL0 := Lib.hid HT.out
    have HB7 := HB
    have HT7 := Lib.hid (HT.out.below HB)
    clear HB V3 H6
    go_loopg [45, 12] l.length (fun g iv ov wr => ∃ (i : Nat), g = l.length - i ∧ iv = .int .i64 i ∧ i ≤ l.length ∧ Hid (OwS wr w7.heap.size 9 ov ((l.take i).map tS)) ∧ Below w7.heap.size w7 wr)
    case atStart => exact ⟨0, rfl, rfl, Nat.zero_le _, OwS.nil _ _ _, Below.refl _ _⟩
    case round =>
      obtain ⟨i, hgk, rfl, hi, HO, HB⟩ := hrel
      by_cases hil : i < l.length
      · obtain ⟨nv, A8, n8, c8, c0, c1, hz8⟩ := (HL.out.below HB).el hil
        have hi0 : (0 : Int) ≤ (i : Int) := by omega
        have hi1 : (i : Int) < (l.length : Int) := by omega
        have hd8 := H4.out _ (gd_mem hil)
        have HTK := Lib.hid (take_snoc_gd hil)
        have q0 := c0.c
        have q1 := c1.c
        go_upto_region 12 with fail
        clear q0 q1
        have hba := below_alloc (Below.refl wr.heap.size wr) (Obj.cells #[Value.bool nv, Value.slice A8 n8 c8] 57)
        have V14 := VX.new wr 57 hz8.out
        replace HO := Lib.hid (HO.out.below hba)
        replace HB := below_step HB hba
        generalize hW : wr.alloc (Obj.cells #[Value.bool nv, Value.slice A8 n8 c8] 57) = W14 at *
        clear hW c0 c1 hz8 hba
        have m0 := V14.c0; have m1 := V14.c1
        go_wp2_with fail
        (with_reducible refine (hStr_c (gd l i) _ _ V14.iz.out (HT7.out.below HB) (by have := len_of_dl hd8; omega)).mono ?_)
        rintro e w15 ⟨rfl, hb⟩
        replace HO := Lib.hid (HO.out.below hb)
        replace HB := below_step HB hb
        clear hb m0 m1 V14
        have hbs := HB.size
        have hlt : ((List.map tS (List.take i l)).length + 1) * 16 ≤ 140737488355328 := by rw [List.length_map, List.length_take]; have := HLL.out; omega
        go_wp2_with (at_builtin; refine app_T w7.heap.size rfl _ _ 46 9 16 rfl Tryz.underlying46 info_S (by decide) _ _ (tS (gd l i)) HO.out rfl rfl hbs hlt ?_; intro v1 w1 HO1 HB1 HK1 hb1)
        replace HO1 := Lib.hid HO1
        rw [← HTK.out] at HO1
        go_roundg (l.length - (i + 1))
        case measure => omega
        case rel => exact ⟨i + 1, rfl, by go_num, by omega, HO1, HB.trans HB1⟩
      · obtain rfl : i = l.length := by omega
        rw [List.take_length] at HO
        obtain ⟨A9, c9, rfl, hs9⟩ := HO.out.form
        rw [List.length_map] at *
        have HS9 := Lib.hid hs9
        clear hs9 HO
        go_wp2
        go_ret3
        exact ⟨A9, c9, rfl, HS9, HB7.trans (HB.mono HB7.size)⟩
end Go.Proofs.YtiaeeclmlchpoaaGreatDoor

set_option linter.unusedVariables false
set_option linter.unusedSimpArgs false
namespace Go.Proofs.YtiaeeclmlchpoaaGreatDoor
open Go.RowKit

def prs (l : List (Nat × Nat)) : List Value := l.flatMap fun p => [.int .i64 p.1, .int .i64 p.2]
theorem prs_length (l : List (Nat × Nat)) : (prs l).length = l.length * 2 := by
  induction l with
  | nil => rfl
  | cons a t ih => unfold prs at ih ⊢; rw [List.flatMap_cons, List.length_append, ih, List.length_cons]; simp; omega
theorem prs_snoc (l : List (Nat × Nat)) (a b : Nat) : prs (l ++ [(a, b)]) = prs l ++ [.int .i64 a, .int .i64 b] := by
  unfold prs; rw [List.flatMap_append]; rfl
def gp (l : List (Nat × Nat)) (i : Nat) : Nat × Nat := l.getD i (0, 0)
theorem gp_lt {l : List (Nat × Nat)} {i : Nat} (h : i < l.length) : gp l i = l[i] := by simp [gp, h]
theorem prs_at (l : List (Nat × Nat)) : ∀ i, i < l.length → (prs l)[i * 2]? = some (.int .i64 (gp l i).1) ∧ (prs l)[i * 2 + 1]? = some (.int .i64 (gp l i).2) := by
  induction l with
  | nil => intro i h; cases h
  | cons a t ih =>
    intro i h
    have e : prs (a :: t) = .int .i64 a.1 :: .int .i64 a.2 :: prs t := rfl
    rw [e]
    cases i with
    | zero => exact ⟨rfl, rfl⟩
    | succ i =>
      obtain ⟨h1, h2⟩ := ih i (by simpa using h)
      have eg : gp (a :: t) (i + 1) = gp t i := by simp [gp]
      rw [eg, show (i + 1) * 2 = i * 2 + 1 + 1 by omega]
      exact ⟨by simpa using h1, by simpa using h2⟩
/-- A slice of pairs. -/
def LsR (w : World) (A : Option Addr) (c : Nat) (l : List (Nat × Nat)) : Prop := Rd w 2 A l.length (prs l) ∧ l.length ≤ c ∧ c ≤ 9223372036854775807
/-- A row of pairs of the call's own. -/
def OwR (w : World) (base : Nat) (e : TypeId) (v : Value) (l : List (Nat × Nat)) : Prop := w.ownsRow base e 2 v l.length (prs l)
section
variable {w w' : World} {base : Nat} {e : TypeId} {v : Value} {l : List (Nat × Nat)} {A : Option Addr} {c : Nat}
theorem LsR.below (h : LsR w A c l) (hb : Below w.heap.size w w') : LsR w' A c l := ⟨h.1.below hb, h.2⟩
theorem LsR.nil (w : World) : LsR w none 0 [] := ⟨Rd.nil, Nat.le_refl _, by omega⟩
theorem LsR.el (h : LsR w A c l) {j : Nat} (hj : j < l.length) : ∃ b off, A = some ⟨b, off, none⟩ ∧ CL w b (off + j * 2) (.int .i64 (gp l j).1) ∧ CL w b (off + j * 2 + 1) (.int .i64 (gp l j).2) := by
  obtain ⟨b, off, e, hl, hc⟩ := h.1.2 (by omega)
  obtain ⟨h1, h2⟩ := prs_at l j hj
  exact ⟨b, off, e, ⟨hc _ _ h1, hl⟩, ⟨by rw [Nat.add_assoc]; exact hc _ _ h2, hl⟩⟩
theorem OwR.nil (w : World) (base : Nat) (e : TypeId) : OwR w base e (.slice none 0 0) [] := World.ownsRow_nil _ _ _ _
theorem OwR.below (h : OwR w base e v l) (hb : Below w.heap.size w w') : OwR w' base e v l :=
  World.ownsRow.kept (row := none) h ⟨hb.os, hb.tape, hb.output, hb.size, fun i hi _ => hb.block i hi⟩ (by cases v.ownBlock <;> simp)
theorem OwR.form (h : OwR w base e v l) : ∃ A c, v = .slice A l.length c ∧ LsR w A c l := by
  have hh : w.ownsRow base e 2 v l.length (prs l) := h
  have h2 := hh.2
  rcases h2 with ⟨rfl, h0⟩ | ⟨g, cap, cur, rfl, hb, hg, hnc, hm, _⟩
  · have : l = [] := List.eq_nil_of_length_eq_zero h0
    subst this
    exact ⟨none, 0, rfl, ⟨hh.1, fun h => absurd h (by simp)⟩, Nat.le_refl _, by omega⟩
  · refine ⟨some ⟨g, 0, none⟩, cap, rfl, Rd.of_own hh, hnc, ?_⟩
    simp only [maxLen] at hm
    omega
end
/-- The last record's steps. -/
def lastS (l : List (Nat × Nat)) : Nat := (gp l (l.length - 1)).2
def recS (M : Mp) (most : Nat) (l : List (Nat × Nat)) (n : Nat) : List (Nat × Nat) :=
  if (flwA M (most + 1) [] (n : Int)).1 = 0 ∧ (l.length = 0 ∨ lastS l < (flwA M (most + 1) [] (n : Int)).2.1) then l ++ [(n, (flwA M (most + 1) [] (n : Int)).2.1)] else l
/-- The records up to a number. -/
def recL (M : Mp) (most : Nat) : Nat → List (Nat × Nat)
  | 0 => []
  | n + 1 => recS M most (recL M most n) (n + 1)
theorem recL_len (M : Mp) (most : Nat) (n : Nat) : (recL M most n).length ≤ n := by
  induction n with
  | zero => exact Nat.le_refl _
  | succ n ih => 
    unfold recL recS
    split
    · rw [List.length_append]; exact Nat.succ_le_succ ih
    · omega
theorem recL_el (M : Mp) (most : Nat) (n : Nat) : ∀ i, i < (recL M most n).length → (gp (recL M most n) i).1 ≤ n ∧ 1 ≤ (gp (recL M most n) i).1 ∧ (gp (recL M most n) i).2 ≤ most ∧ (flwA M (most + 1) [] ((gp (recL M most n) i).1 : Int)).1 = 0 ∧ (flwA M (most + 1) [] ((gp (recL M most n) i).1 : Int)).2.1 = (gp (recL M most n) i).2 := by
  induction n with
  | zero => intro i h; cases h
  | succ n ih =>
    intro i
    unfold recL recS
    split
    · rename_i hc
      intro h
      rcases Nat.lt_or_ge i (recL M most n).length with h1 | h1
      · have e : gp (recL M most n ++ [(n + 1, (flwA M (most + 1) [] ((n + 1 : Nat) : Int)).2.1)]) i = gp (recL M most n) i := by
          rw [gp_lt h, gp_lt h1, List.getElem_append_left h1]
        rw [e]
        have := ih i h1
        exact ⟨by omega, this.2⟩
      · have hi : i = (recL M most n).length := by simp at h; omega
        have e : gp (recL M most n ++ [(n + 1, (flwA M (most + 1) [] ((n + 1 : Nat) : Int)).2.1)]) i = (n + 1, (flwA M (most + 1) [] ((n + 1 : Nat) : Int)).2.1) := by
          rw [gp_lt h]; subst hi; simp
        rw [e]
        refine ⟨Nat.le_refl _, Nat.succ_le_succ (Nat.zero_le _), ?_, hc.1, rfl⟩
        rcases flw_cases M ((n + 1 : Nat) : Int) most with h' | h' | ⟨t, l, h', h2, h3, h4, -⟩ <;> rw [h']
        · exact Nat.zero_le _
        · exact Nat.zero_le _
        · show t ≤ most; omega
    · intro h
      have := ih i h
      exact ⟨by omega, this.2⟩
end Go.Proofs.YtiaeeclmlchpoaaGreatDoor

set_option linter.unusedVariables false
set_option linter.unusedSimpArgs false
namespace Go.Proofs.YtiaeeclmlchpoaaGreatDoor
open Go.RowKit

abbrev op5f2ec00a : Oper := { dst := some 17, op := Go.Op.move (Go.Operand.tmp 0), type := 49, pos := "law.go:35", after := #[], guard := none }
abbrev opc30c7e52 : Oper := { dst := some 18, op := Go.Op.move (Go.Operand.tmp 5), type := 3, pos := "law.go:35", after := #[], guard := none }
abbrev op20ff1bd8 : Oper := { dst := some 19, op := Go.Op.indexAddr 49 (Go.Operand.tmp 17) (Go.Operand.tmp 18), type := 0, pos := "law.go:35", after := #[{ on := 0, ground := Go.Ground.data }, { on := 1, ground := Go.Ground.data }], guard := none }
abbrev op94c25d0a : Oper := { dst := some 20, op := Go.Op.load 54 (Go.Operand.tmp 19), type := 54, pos := "law.go:35", after := #[{ on := 2, ground := Go.Ground.data }], guard := none }
abbrev opd414ce99 : Oper := { dst := some 21, op := Go.Op.move (Go.Operand.tmp 1), type := 49, pos := "law.go:35", after := #[], guard := none }
abbrev op8ad11646 : Oper := { dst := some 22, op := Go.Op.move (Go.Operand.tmp 5), type := 3, pos := "law.go:35", after := #[], guard := none }
abbrev op9ffbed78 : Oper := { dst := some 23, op := Go.Op.indexAddr 49 (Go.Operand.tmp 21) (Go.Operand.tmp 22), type := 0, pos := "law.go:35", after := #[{ on := 4, ground := Go.Ground.data }, { on := 5, ground := Go.Ground.data }], guard := none }
abbrev op34a0cbc8 : Oper := { dst := some 24, op := Go.Op.load 54 (Go.Operand.tmp 23), type := 54, pos := "law.go:35", after := #[{ on := 6, ground := Go.Ground.data }], guard := none }
abbrev op5630027d : Oper := { dst := some 25, op := Go.Op.binOp Go.BinOp.neq 54 (Go.Operand.tmp 20) (Go.Operand.tmp 24) 54, type := 4, pos := "law.go:35", after := #[{ on := 3, ground := Go.Ground.data }, { on := 7, ground := Go.Ground.data }], guard := none }
attribute [local go_sem] op5f2ec00a opc30c7e52 op20ff1bd8 op94c25d0a opd414ce99 op8ad11646 op9ffbed78 op34a0cbc8 op5630027d
theorem list_gs {a b : List ByteArray} (hl : a.length = b.length) (h : ∀ i, i < a.length → gs a i = gs b i) : a = b := by
  apply List.ext_getElem hl
  intro i h1 h2
  have := h i h1
  rw [gs_lt h1, gs_lt h2] at this; exact this
theorem bs_beq (x y : ByteArray) : (x.toList == y.toList) = decide (x = y) := by
  by_cases h : x = y
  · subst h; simp
  · rw [decide_eq_false h]
    have h2 : ¬ x.toList = y.toList := fun e => h (by
      rw [ByteArray.toList_eq, ByteArray.toList_eq] at e
      have e2 : x.data = y.data := by rw [← Array.toList_inj]; exact e
      cases x; cases y; simp only at e2; rw [e2])
    simpa using h2
theorem list_gp {a b : List (Nat × Nat)} (hl : a.length = b.length) (h : ∀ i, i < a.length → gp a i = gp b i) : a = b := by
  apply List.ext_getElem hl
  intro i h1 h2
  have := h i h1
  rw [gp_lt h1, gp_lt h2] at this; exact this
theorem LsS.el {w : World} {A : Option Addr} {c : Nat} {l : List ByteArray} (h : LsS w A c l) {j : Nat} (hj : j < l.length) : ∃ b off, A = some ⟨b, off, none⟩ ∧ CL w b (off + j) (.string (gs l j)) := by
  obtain ⟨b, off, e, hl, hc⟩ := h.cell hj
  exact ⟨b, off, e, hc, hl⟩
set_option maxRecDepth 100000 in
set_option maxHeartbeats 4000000 in
theorem records_c (A A' : Option Addr) (c c' : Nat) (a b : List (Nat × Nat)) (w : World) (h : LsR w A c a) (h' : LsR w A' c' b) :
    Calls Tryz.prog 21 #[.slice A a.length c, .slice A' b.length c'] w fun e w' => e = .returned (.bool (decide (a = b))) ∧ Below w.heap.size w w' := by
  have HB : Below w.heap.size w w := Below.refl _ _
  have hcl := h.2
  by_cases hl : a.length = b.length
  · have hlb : ((a.length : Int) != (b.length : Int)) = false := by simp; omega
    have H1 := Lib.hid h
    have H2 := Lib.hid h'
    have HL := Lib.hid hl
    have hlen : a.length ≤ b.length := by omega
    clear h h' hl
    go_enter Tryz.func21, Tryz.ntmps21
    go_wp2_with fail
    go_loopg [5] a.length (fun g iv wr => ∃ (i : Nat), g = a.length - i ∧ iv = .int .i64 i ∧ i ≤ a.length ∧ Below w.heap.size w wr ∧ Hid (∀ j, j < i → gp a j = gp b j))
    case atStart => exact ⟨0, rfl, rfl, by omega, HB, fun j h => absurd h (by omega)⟩
    case round =>
      clear HB
      obtain ⟨i, hgk, rfl, hi, HB, HI⟩ := hrel
      by_cases hia : i < a.length
      · obtain ⟨b1, o1, rfl, k1, l1⟩ := (H1.out.below HB).el (j := i) hia
        obtain ⟨b2, o2, rfl, k2, l2⟩ := (H2.out.below HB).el (j := i) (by omega)
        have hi0 : (0 : Int) ≤ (i : Int) := by omega
        have hi1 : (i : Int) < (a.length : Int) := by omega
        have hi2 : (i : Int) < (b.length : Int) := by omega
        obtain ⟨x, hx⟩ : ∃ x, gp a i = x := ⟨_, rfl⟩
        obtain ⟨y, hy⟩ : ∃ y, gp b i = y := ⟨_, rfl⟩
        rw [hx] at k1 l1
        rw [hy] at k2 l2
        have HX := Lib.hid hx
        have HY := Lib.hid hy
        clear hx hy
        obtain ⟨x1, x2⟩ := x
        obtain ⟨y1, y2⟩ := y
        dsimp only at k1 k2 l1 l2
        by_cases h1 : x1 = y1
        · subst h1
          by_cases h2 : x2 = y2
          · subst h2
            have HI2 : Hid (∀ j, j < i + 1 → gp a j = gp b j) := fun j hj => by
              rcases Nat.lt_or_ge j i with h2 | h2
              · exact HI.out j h2
              · obtain rfl : j = i := by omega
                rw [HX.out, HY.out]
            go_wp2_with fail
            replace HB := below_drew HB
            replace k1 := k1.drew; replace k2 := k2.drew; replace l1 := l1.drew; replace l2 := l2.drew
            generalize hWd : wr.drew = wd at *
            refine wp_region_F (fun w' => w'.cell? ⟨b1, o1 + i * 2, none⟩ = some (.int .i64 x1) ∧ w'.cell? ⟨b1, o1 + i * 2 + 1, none⟩ = some (.int .i64 x2) ∧ w'.cell? ⟨b2, o2 + i * 2, none⟩ = some (.int .i64 x1) ∧ w'.cell? ⟨b2, o2 + i * 2 + 1, none⟩ = some (.int .i64 x2)) [] (by kernel_rfl) (by rw [hWd]; exact ⟨k1.c, l1.c, k2.c, l2.c⟩) (fun hHeld => ?_)
            rw [hWd] at hHeld ⊢
            refine wpF_t (i := 0) (oi := op5f2ec00a) (v := ?_) rfl (by kernel_rfl) (fun _ _ _ h => h) (Or.inl ⟨by rfl, ?_⟩) hHeld ?_; rotate_left
            · intro w_ hSw_; (try dsimp only at hSw_); go_simp; (try with_reducible rfl)
            try go_frame
            refine wpF_t (i := 1) (oi := opc30c7e52) (v := ?_) rfl (by kernel_rfl) (fun _ _ _ h => h) (Or.inl ⟨by rfl, ?_⟩) hHeld ?_; rotate_left
            · intro w_ hSw_; (try dsimp only at hSw_); go_simp; (try with_reducible rfl)
            try go_frame
            refine wpF_t (i := 2) (oi := op20ff1bd8) (v := ?_) rfl (by kernel_rfl) (fun _ _ _ h => h) (Or.inl ⟨by rfl, ?_⟩) hHeld ?_; rotate_left
            · intro w_ hSw_; (try dsimp only at hSw_); go_simp; (try with_reducible rfl)
            try go_frame
            refine wpF_t (i := 3) (oi := op94c25d0a) (v := ?_) rfl (by kernel_rfl) (fun _ _ _ h => h) (Or.inl ⟨by rfl, ?_⟩) hHeld ?_; rotate_left
            · intro w_ hSw_; (try dsimp only at hSw_); go_simp; (try with_reducible rfl)
            try go_frame
            refine wpF_t (i := 4) (oi := opd414ce99) (v := ?_) rfl (by kernel_rfl) (fun _ _ _ h => h) (Or.inl ⟨by rfl, ?_⟩) hHeld ?_; rotate_left
            · intro w_ hSw_; (try dsimp only at hSw_); go_simp; (try with_reducible rfl)
            try go_frame
            refine wpF_t (i := 5) (oi := op8ad11646) (v := ?_) rfl (by kernel_rfl) (fun _ _ _ h => h) (Or.inl ⟨by rfl, ?_⟩) hHeld ?_; rotate_left
            · intro w_ hSw_; (try dsimp only at hSw_); go_simp; (try with_reducible rfl)
            try go_frame
            refine wpF_t (i := 6) (oi := op9ffbed78) (v := ?_) rfl (by kernel_rfl) (fun _ _ _ h => h) (Or.inl ⟨by rfl, ?_⟩) hHeld ?_; rotate_left
            · intro w_ hSw_; (try dsimp only at hSw_); go_simp; (try with_reducible rfl)
            try go_frame
            refine wpF_t (i := 7) (oi := op34a0cbc8) (v := ?_) rfl (by kernel_rfl) (fun _ _ _ h => h) (Or.inl ⟨by rfl, ?_⟩) hHeld ?_; rotate_left
            · intro w_ hSw_; (try dsimp only at hSw_); go_simp; (try with_reducible rfl)
            try go_frame
            refine wpF_t (i := 8) (oi := op5630027d) (v := ?_) rfl (by kernel_rfl) (fun _ _ _ h => h) (Or.inl ⟨by rfl, ?_⟩) hHeld ?_; rotate_left
            · intro w_ hSw_; (try dsimp only at hSw_); go_simp; (try with_reducible rfl)
            try go_frame
            refine wpAnyF_done (by kernel_rfl) ?_ _
            clear hHeld
            go_wp2
            go_roundg (a.length - (i + 1))
            case measure => omega
            case rel => exact ⟨i + 1, rfl, by go_num, by omega, HB, HI2⟩
          · have hb : ¬ (x2 : Int) = (y2 : Int) := by omega
            have HE := Lib.hid h2
            clear h2
            have HR : Hid (decide (a = b) = false) := decide_eq_false fun h => absurd (HX.out.symm.trans ((congrArg (fun l => gp l i) h).trans HY.out)) (fun e => HE.out (by injection e))
            go_wp2_with fail
            replace HB := below_drew HB
            replace k1 := k1.drew; replace k2 := k2.drew; replace l1 := l1.drew; replace l2 := l2.drew
            generalize hWd : wr.drew = wd at *
            refine wp_region_F (fun w' => w'.cell? ⟨b1, o1 + i * 2, none⟩ = some (.int .i64 x1) ∧ w'.cell? ⟨b1, o1 + i * 2 + 1, none⟩ = some (.int .i64 x2) ∧ w'.cell? ⟨b2, o2 + i * 2, none⟩ = some (.int .i64 x1) ∧ w'.cell? ⟨b2, o2 + i * 2 + 1, none⟩ = some (.int .i64 y2)) [] (by kernel_rfl) (by rw [hWd]; exact ⟨k1.c, l1.c, k2.c, l2.c⟩) (fun hHeld => ?_)
            rw [hWd] at hHeld ⊢
            refine wpF_t (i := 0) (oi := op5f2ec00a) (v := ?_) rfl (by kernel_rfl) (fun _ _ _ h => h) (Or.inl ⟨by rfl, ?_⟩) hHeld ?_; rotate_left
            · intro w_ hSw_; (try dsimp only at hSw_); go_simp; (try with_reducible rfl)
            try go_frame
            refine wpF_t (i := 1) (oi := opc30c7e52) (v := ?_) rfl (by kernel_rfl) (fun _ _ _ h => h) (Or.inl ⟨by rfl, ?_⟩) hHeld ?_; rotate_left
            · intro w_ hSw_; (try dsimp only at hSw_); go_simp; (try with_reducible rfl)
            try go_frame
            refine wpF_t (i := 2) (oi := op20ff1bd8) (v := ?_) rfl (by kernel_rfl) (fun _ _ _ h => h) (Or.inl ⟨by rfl, ?_⟩) hHeld ?_; rotate_left
            · intro w_ hSw_; (try dsimp only at hSw_); go_simp; (try with_reducible rfl)
            try go_frame
            refine wpF_t (i := 3) (oi := op94c25d0a) (v := ?_) rfl (by kernel_rfl) (fun _ _ _ h => h) (Or.inl ⟨by rfl, ?_⟩) hHeld ?_; rotate_left
            · intro w_ hSw_; (try dsimp only at hSw_); go_simp; (try with_reducible rfl)
            try go_frame
            refine wpF_t (i := 4) (oi := opd414ce99) (v := ?_) rfl (by kernel_rfl) (fun _ _ _ h => h) (Or.inl ⟨by rfl, ?_⟩) hHeld ?_; rotate_left
            · intro w_ hSw_; (try dsimp only at hSw_); go_simp; (try with_reducible rfl)
            try go_frame
            refine wpF_t (i := 5) (oi := op8ad11646) (v := ?_) rfl (by kernel_rfl) (fun _ _ _ h => h) (Or.inl ⟨by rfl, ?_⟩) hHeld ?_; rotate_left
            · intro w_ hSw_; (try dsimp only at hSw_); go_simp; (try with_reducible rfl)
            try go_frame
            refine wpF_t (i := 6) (oi := op9ffbed78) (v := ?_) rfl (by kernel_rfl) (fun _ _ _ h => h) (Or.inl ⟨by rfl, ?_⟩) hHeld ?_; rotate_left
            · intro w_ hSw_; (try dsimp only at hSw_); go_simp; (try with_reducible rfl)
            try go_frame
            refine wpF_t (i := 7) (oi := op34a0cbc8) (v := ?_) rfl (by kernel_rfl) (fun _ _ _ h => h) (Or.inl ⟨by rfl, ?_⟩) hHeld ?_; rotate_left
            · intro w_ hSw_; (try dsimp only at hSw_); go_simp; (try with_reducible rfl)
            try go_frame
            refine wpF_t (i := 8) (oi := op5630027d) (v := ?_) rfl (by kernel_rfl) (fun _ _ _ h => h) (Or.inl ⟨by rfl, ?_⟩) hHeld ?_; rotate_left
            · intro w_ hSw_; (try dsimp only at hSw_); go_simp; (try with_reducible rfl)
            try go_frame
            refine wpAnyF_done (by kernel_rfl) ?_ _
            clear hHeld
            go_wp2
            go_ret
            exact ⟨by rw [HR.out] <;> rfl, HB⟩
        · have hb : ¬ (x1 : Int) = (y1 : Int) := by omega
          have HE := Lib.hid h1
          clear h1
          have HR : Hid (decide (a = b) = false) := decide_eq_false fun h => absurd (HX.out.symm.trans ((congrArg (fun l => gp l i) h).trans HY.out)) (fun e => HE.out (by injection e))
          go_wp2_with fail
          replace HB := below_drew HB
          replace k1 := k1.drew; replace k2 := k2.drew; replace l1 := l1.drew; replace l2 := l2.drew
          generalize hWd : wr.drew = wd at *
          refine wp_region_F (fun w' => w'.cell? ⟨b1, o1 + i * 2, none⟩ = some (.int .i64 x1) ∧ w'.cell? ⟨b1, o1 + i * 2 + 1, none⟩ = some (.int .i64 x2) ∧ w'.cell? ⟨b2, o2 + i * 2, none⟩ = some (.int .i64 y1) ∧ w'.cell? ⟨b2, o2 + i * 2 + 1, none⟩ = some (.int .i64 y2)) [] (by kernel_rfl) (by rw [hWd]; exact ⟨k1.c, l1.c, k2.c, l2.c⟩) (fun hHeld => ?_)
          rw [hWd] at hHeld ⊢
          refine wpF_t (i := 0) (oi := op5f2ec00a) (v := ?_) rfl (by kernel_rfl) (fun _ _ _ h => h) (Or.inl ⟨by rfl, ?_⟩) hHeld ?_; rotate_left
          · intro w_ hSw_; (try dsimp only at hSw_); go_simp; (try with_reducible rfl)
          try go_frame
          refine wpF_t (i := 1) (oi := opc30c7e52) (v := ?_) rfl (by kernel_rfl) (fun _ _ _ h => h) (Or.inl ⟨by rfl, ?_⟩) hHeld ?_; rotate_left
          · intro w_ hSw_; (try dsimp only at hSw_); go_simp; (try with_reducible rfl)
          try go_frame
          refine wpF_t (i := 2) (oi := op20ff1bd8) (v := ?_) rfl (by kernel_rfl) (fun _ _ _ h => h) (Or.inl ⟨by rfl, ?_⟩) hHeld ?_; rotate_left
          · intro w_ hSw_; (try dsimp only at hSw_); go_simp; (try with_reducible rfl)
          try go_frame
          refine wpF_t (i := 3) (oi := op94c25d0a) (v := ?_) rfl (by kernel_rfl) (fun _ _ _ h => h) (Or.inl ⟨by rfl, ?_⟩) hHeld ?_; rotate_left
          · intro w_ hSw_; (try dsimp only at hSw_); go_simp; (try with_reducible rfl)
          try go_frame
          refine wpF_t (i := 4) (oi := opd414ce99) (v := ?_) rfl (by kernel_rfl) (fun _ _ _ h => h) (Or.inl ⟨by rfl, ?_⟩) hHeld ?_; rotate_left
          · intro w_ hSw_; (try dsimp only at hSw_); go_simp; (try with_reducible rfl)
          try go_frame
          refine wpF_t (i := 5) (oi := op8ad11646) (v := ?_) rfl (by kernel_rfl) (fun _ _ _ h => h) (Or.inl ⟨by rfl, ?_⟩) hHeld ?_; rotate_left
          · intro w_ hSw_; (try dsimp only at hSw_); go_simp; (try with_reducible rfl)
          try go_frame
          refine wpF_t (i := 6) (oi := op9ffbed78) (v := ?_) rfl (by kernel_rfl) (fun _ _ _ h => h) (Or.inl ⟨by rfl, ?_⟩) hHeld ?_; rotate_left
          · intro w_ hSw_; (try dsimp only at hSw_); go_simp; (try with_reducible rfl)
          try go_frame
          refine wpF_t (i := 7) (oi := op34a0cbc8) (v := ?_) rfl (by kernel_rfl) (fun _ _ _ h => h) (Or.inl ⟨by rfl, ?_⟩) hHeld ?_; rotate_left
          · intro w_ hSw_; (try dsimp only at hSw_); go_simp; (try with_reducible rfl)
          try go_frame
          refine wpF_t (i := 8) (oi := op5630027d) (v := ?_) rfl (by kernel_rfl) (fun _ _ _ h => h) (Or.inl ⟨by rfl, ?_⟩) hHeld ?_; rotate_left
          · intro w_ hSw_; (try dsimp only at hSw_); go_simp; (try with_reducible rfl)
          try go_frame
          refine wpAnyF_done (by kernel_rfl) ?_ _
          clear hHeld
          go_wp2
          go_ret
          exact ⟨by rw [HR.out] <;> rfl, HB⟩
      · have HR : Hid (decide (a = b) = true) := decide_eq_true (list_gp HL.out fun j hj => HI.out j (by omega))
        have hi1 : ¬ (i : Int) < (a.length : Int) := by omega
        go_wp2
        go_ret
        exact ⟨by rw [HR.out] <;> rfl, HB⟩
  · have hlb : ((a.length : Int) != (b.length : Int)) = true := by simp; omega
    have HR : Hid (decide (a = b) = false) := decide_eq_false fun h => hl (by rw [h])
    clear hl
    go_enter Tryz.func21, Tryz.ntmps21
    go_wp2
    go_ret
    exact ⟨by rw [HR.out] <;> rfl, HB⟩
end Go.Proofs.YtiaeeclmlchpoaaGreatDoor

set_option linter.unusedVariables false
set_option linter.unusedSimpArgs false
namespace Go.Proofs.YtiaeeclmlchpoaaGreatDoor
open Go.RowKit

def digsF : Nat → Nat → Nat → List Int
  | 0, _, _ => []
  | f + 1, B, n => if n = 0 then [] else ((n % B : Nat) : Int) :: digsF f B (n / B)
theorem digsF_eq {B : Nat} (hB : 2 ≤ B) : ∀ f n, n < B ^ f → digsF f B n = digs B n := by
  intro f
  induction f with
  | zero => intro n h; rw [Nat.pow_zero] at h; obtain rfl : n = 0 := by omega
            rw [digs_zero]; rfl
  | succ f ih =>
    intro n h
    unfold digsF
    by_cases h0 : n = 0
    · rw [if_pos h0, h0, digs_zero]
    · rw [if_neg h0, digs_pos hB (by omega), ih]
      rw [Nat.pow_succ] at h
      exact Nat.div_lt_of_lt_mul (by rw [Nat.mul_comm]; exact h)
def txF (f : Nat) (z : Int) : List Int := (if z < 0 then [45] else []) ++ (if z.natAbs = 0 then [48] else ((digsF f 10 z.natAbs).map (· + 48)).reverse)
theorem tS_F (f : Nat) (z : Int) (h : z.natAbs < 10 ^ f) : tS z = mkS (txF f z) := by
  unfold tS tx txN txF
  rw [digsF_eq (by omega) f _ h]
theorem dl_le {z : Int} (h : z.natAbs < 10 ^ 30) : dl z ≤ 2000 := by
  unfold dl
  split
  · omega
  · have := digs_len_le (B := 10) (by omega) h; omega
/-- Everything that makes a cycle, as one test. -/
def chk (M : Mp) (z : Int) (most t L s : Nat) : Bool :=
  decide (0 < L ∧ t + L ≤ most ∧ t ≤ s ∧ s < t + L) && decide (itZ M z (t + L) = itZ M z t) &&
  (List.range (t + L)).all (fun j => decide ((itZ M z j).natAbs < 10 ^ 30) && (List.range j).all fun i => decide (itZ M z i ≠ itZ M z j)) &&
  (List.range L).all fun j => decide (itZ M z s ≤ itZ M z (t + j))
theorem flw_chk {M : Mp} {z : Int} {most t L s : Nat} (h : chk M z most t L s = true) : flwA M (most + 1) [] z = (0, t, (List.range L).map fun i => itZ M z (s + i)) := by
  unfold chk at h
  simp only [Bool.and_eq_true, decide_eq_true_eq, List.all_eq_true, List.mem_range] at h
  obtain ⟨⟨⟨⟨h1, h2, h3, h4⟩, h5⟩, h6⟩, h7⟩ := h
  refine (flwA_FS M z most).uniq (FS.cyc s h1 h2 h3 h4 (fun j hj => dl_le (h6 j hj).1) h5 (fun i j hi hj => (h6 j hj).2 i hi) (fun j g1 g2 => ?_) (by simp) (fun i hi => gd_range _ _ hi))
  have := h7 (j - t) (by omega)
  rwa [show t + (j - t) = j by omega] at this
def recT (T : Nat → Nat) : Nat → List (Nat × Nat)
  | 0 => []
  | n + 1 => if (recT T n).length = 0 ∨ lastS (recT T n) < T (n + 1) then recT T n ++ [(n + 1, T (n + 1))] else recT T n
theorem recL_T {M : Mp} {most : Nat} {T : Nat → Nat} (n : Nat) (h : ∀ k, 1 ≤ k → k ≤ n → (flwA M (most + 1) [] (k : Int)).1 = 0 ∧ (flwA M (most + 1) [] (k : Int)).2.1 = T k) : recL M most n = recT T n := by
  induction n with
  | zero => rfl
  | succ n ih =>
    obtain ⟨h1, h2⟩ := h (n + 1) (by omega) (Nat.le_refl _)
    unfold recL recT recS
    rw [ih (fun k a b => h k a (by omega)), h2]
    by_cases hc : (recT T n).length = 0 ∨ lastS (recT T n) < T (n + 1)
    · rw [if_pos ⟨h1, hc⟩, if_pos hc]
    · rw [if_neg (fun x => hc x.2), if_neg hc]
/-- Collatz's map. -/
def colM : Mp := ⟨2, [1, 3], [0, 1]⟩
theorem colM_ok : okM colM := okB_iff.1 (by decide)
theorem col_7 : flwA colM (100 + 1) [] 7 = (0, 10, [1, 2]) := (flw_chk (t := 10) (L := 2) (s := 11) (by kernel_rfl)).trans (by kernel_rfl)
theorem col_17 : flwA colM (100 + 1) [] (-17) = (0, 0, [-136, -68, -34, -17, -25, -37, -55, -82, -41, -61, -91]) := (flw_chk (t := 0) (L := 11) (s := 8) (by kernel_rfl)).trans (by kernel_rfl)
theorem col_10 : recL colM 100 10 = [(1, 0), (3, 4), (6, 5), (7, 10), (9, 12)] := by
  rw [recL_T (T := fun k => [0, 0, 0, 4, 1, 3, 5, 10, 2, 12, 4].getD k 0) 10]
  · decide
  · intro k h1 h2
    have hc : ∀ (z : Int) (t L s : Nat), chk colM z 100 t L s = true → (flwA colM (100 + 1) [] z).1 = 0 ∧ (flwA colM (100 + 1) [] z).2.1 = t := fun z t L s h => by rw [flw_chk h]; exact ⟨rfl, rfl⟩
    obtain h | h | h | h | h | h | h | h | h | h : k = 1 ∨ k = 2 ∨ k = 3 ∨ k = 4 ∨ k = 5 ∨ k = 6 ∨ k = 7 ∨ k = 8 ∨ k = 9 ∨ k = 10 := by omega
    · subst h; exact hc _ 0 2 0 (by kernel_rfl)
    · subst h; exact hc _ 0 2 1 (by kernel_rfl)
    · subst h; exact hc _ 4 2 5 (by kernel_rfl)
    · subst h; exact hc _ 1 2 2 (by kernel_rfl)
    · subst h; exact hc _ 3 2 4 (by kernel_rfl)
    · subst h; exact hc _ 5 2 6 (by kernel_rfl)
    · subst h; exact hc _ 10 2 11 (by kernel_rfl)
    · subst h; exact hc _ 2 2 3 (by kernel_rfl)
    · subst h; exact hc _ 12 2 13 (by kernel_rfl)
    · subst h; exact hc _ 4 2 5 (by kernel_rfl)
end Go.Proofs.YtiaeeclmlchpoaaGreatDoor

set_option linter.unusedVariables false
set_option linter.unusedSimpArgs false
namespace Go.Proofs.YtiaeeclmlchpoaaGreatDoor
open Go.RowKit

theorem info_R : (Tryz.prog.info? 54).map (fun i => (i.zero, i.size, i.bytes)) = some (some (.agg #[.int .i64 0, .int .i64 0]), 2, 16) := by kernel_rfl
set_option maxRecDepth 100000 in
set_option maxHeartbeats 4000000 in
theorem Recs_bad (M : Mp) (count most : Int) (v : Value) (w : World) (hM : IsM w v M) (hbad : okB M = false) :
    Calls Tryz.prog 20 #[v, .int .i64 count, .int .i64 most] w fun e w' => e = .returned (.tuple #[.slice none 0 0, .int .i64 1]) ∧ Below w.heap.size w w' := by
  obtain ⟨md, A, n, c, A', n', c', rfl, HM⟩ := hM.form
  have V3 := VM.new w 24 HM.out
  have HB := below_alloc (Below.refl w.heap.size w) (Obj.cells #[Value.int .i64 md, Value.slice A n c, Value.slice A' n' c'] 24)
  have HOK := Lib.hid hbad
  clear hbad hM
  go_enter Tryz.func20, Tryz.ntmps20
  go_wp2_with fail
  (with_reducible refine (SValid_c M _ _ V3.im.out).mono ?_)
  rintro e w4 ⟨he, hb⟩
  replace HB := below_step HB hb
  replace V3 := V3.keep hb
  clear hb
  obtain rfl : e = .returned (.bool false) := by rw [he, HOK.out] <;> rfl
  clear he

  go_wp2
  go_ret2
  exact ⟨rfl, HB⟩
set_option maxRecDepth 100000 in
set_option maxHeartbeats 4000000 in
theorem Recs_arg (M : Mp) (count most : Int) (v : Value) (w : World) (hM : IsM w v M) (hok : okM M) (hbad : count < 0 ∨ 20000 < count ∨ most < 0 ∨ 20000 < most) :
    Calls Tryz.prog 20 #[v, .int .i64 count, .int .i64 most] w fun e w' => e = .returned (.tuple #[.slice none 0 0, .int .i64 2]) ∧ Below w.heap.size w w' := by
  obtain ⟨md, A, n, c, A', n', c', rfl, HM⟩ := hM.form
  have V3 := VM.new w 24 HM.out
  have HB := below_alloc (Below.refl w.heap.size w) (Obj.cells #[Value.int .i64 md, Value.slice A n c, Value.slice A' n' c'] 24)
  have HOK : Hid (okB M = true) := okB_iff.2 hok
  clear hok hM
  by_cases h1 : count < 0
  rotate_left
  by_cases h2 : 20000 < count
  rotate_left
  by_cases h3 : most < 0
  rotate_left
  have h4 : 20000 < most := by omega
  all_goals
    go_enter Tryz.func20, Tryz.ntmps20
    go_wp2_with fail
    (with_reducible refine (SValid_c M _ _ V3.im.out).mono ?_)
    rintro e w4 ⟨he, hb⟩
    replace HB := below_step HB hb
    replace V3 := V3.keep hb
    clear hb
    obtain rfl : e = .returned (.bool true) := by rw [he, HOK.out] <;> rfl
    clear he

    go_wp2
    go_ret2
    exact ⟨rfl, HB⟩
set_option maxRecDepth 100000 in
set_option maxHeartbeats 8000000 in
theorem Recs_ok (M : Mp) (count most : Nat) (v : Value) (w : World) (hM : IsM w v M) (hok : okM M) (hco : count ≤ 20000) (hmo : most ≤ 20000) (ht : Tb w) :
    Calls Tryz.prog 20 #[v, .int .i64 count, .int .i64 most] w fun e w' => ∃ A c, e = .returned (.tuple #[.slice A (recL M most count).length c, .int .i64 0]) ∧ Hid (LsR w' A c (recL M most count)) ∧ Below w.heap.size w w' := by
  obtain ⟨md, A, n, c, A', n', c', rfl, HM⟩ := hM.form
  have V3 := VM.new w 24 HM.out
  have HB := below_alloc (Below.refl w.heap.size w) (Obj.cells #[Value.int .i64 md, Value.slice A n c, Value.slice A' n' c'] 24)
  have HOK : Hid (okB M = true) := okB_iff.2 hok
  have HT := Lib.hid ht
  have hm0 : (0 : Int) ≤ (most : Int) := by omega
  have hm1 : (most : Int) ≤ 20000 := by omega
  have hc0 : (0 : Int) ≤ (count : Int) := by omega
  have hc1 : (count : Int) ≤ 20000 := by omega
  have HF : Hid (∀ (z : Int) (u : Value) (W : World) (v : Value), IsM W v M → IsH W u z → (dg B9 z).length ≤ 2000 → Tb W → Calls Tryz.prog 28 #[v, u, .int .i64 most] W fun e w' => ∃ A c, e = .returned (.tuple #[.int .i64 (flwA M (most + 1) [] z).2.1, .slice A (flwA M (most + 1) [] z).2.2.length c, .int .i64 (flwA M (most + 1) [] z).1]) ∧ Hid (LsZ B9 .u32 w' A c (flwA M (most + 1) [] z).2.2) ∧ Below W.heap.size W w') :=
    fun z u W v h1 h2 hl h3 => follow_c M z most v u W h1 h2 hok (by omega) (by omega) h3
  clear hok hM ht
  go_enter Tryz.func20, Tryz.ntmps20
  go_wp2_with fail
  (with_reducible refine (SValid_c M _ _ V3.im.out).mono ?_)
  rintro e w4 ⟨he, hb⟩
  replace HB := below_step HB hb
  replace V3 := V3.keep hb
  clear hb
  obtain rfl : e = .returned (.bool true) := by rw [he, HOK.out] <;> rfl
  clear he

  go_wp2_with fail
  have HB4 := HB
  clear HB
  go_loopg [9, 8] count (fun g nv ov wr => ∃ (m : Nat), g = count - m ∧ nv = .int .i64 ((m : Int) + 1) ∧ m ≤ count ∧ Hid (OwR wr w4.heap.size 54 ov (recL M most m)) ∧ Below w4.heap.size w4 wr)
  case atStart => exact ⟨0, rfl, rfl, Nat.zero_le _, OwR.nil _ _ _, Below.refl _ _⟩
  case round =>
    obtain ⟨m, hgk, rfl, hm, HO, HB⟩ := hrel
    have VR := V3.keep HB
    by_cases hlt : m < count
    · have hi1 : (m : Int) + 1 ≤ (count : Int) := by omega
      have m0 := VR.c0; have m1 := VR.c1; have m2 := VR.c2
      go_wp2_with fail
      clear m0 m1 m2
      replace VR := VR.drew
      replace HO := Lib.hid (HO.out.below (below_drew (Below.refl _ _)))
      replace HB := below_drew HB
      generalize hWd : wr.drew = wd at *
      refine wp_region_F (fun w' => w'.cell? ⟨w.heap.size, 0, none⟩ = some (.int .i64 md) ∧ w'.cell? ⟨w.heap.size, 1, none⟩ = some (.slice A n c) ∧ w'.cell? ⟨w.heap.size, 2, none⟩ = some (.slice A' n' c')) [] (by kernel_rfl) (by rw [hWd]; exact ⟨VR.c0, VR.c1, VR.c2⟩) (fun hHeld => ?_)
      rw [hWd] at hHeld ⊢
      refine wpF_t (i := 0) (oi := { dst := some 38, op := Go.Op.load 24 (Go.Operand.tmp 3), type := 24, pos := "fate.go:121", after := #[], guard := none }) (v := ?_) rfl (by kernel_rfl) (fun _ _ _ h => h) (Or.inl ⟨by rfl, ?_⟩) hHeld ?_; rotate_left
      · intro w_ hSw_; (try dsimp only at hSw_); go_simp; (try with_reducible rfl)
      try go_frame
      refine wpF_t (i := 1) (oi := { dst := some 39, op := Go.Op.move (Go.Operand.tmp 9), type := 3, pos := "fate.go:121", after := #[], guard := none }) (v := ?_) rfl (by kernel_rfl) (fun _ _ _ h => h) (Or.inl ⟨by rfl, ?_⟩) hHeld ?_; rotate_left
      · intro w_ hSw_; (try dsimp only at hSw_); go_simp; (try with_reducible rfl)
      try go_frame
      refine wpF_t (i := 3) (oi := { dst := some 41, op := Go.Op.move (Go.Operand.tmp 2), type := 3, pos := "fate.go:121", after := #[], guard := none }) (v := ?_) rfl (by kernel_rfl) (fun _ _ _ h => h) (Or.inl ⟨by rfl, ?_⟩) hHeld ?_; rotate_left
      · intro w_ hSw_; (try dsimp only at hSw_); go_simp; (try with_reducible rfl)
      try go_frame
      refine wpAnyF_one (i := 2) (by kernel_rfl) rfl (fun K hK => ?_)
      go_simp
      (go_at_call 26; (with_reducible refine (hOf_c ((m : Int) + 1) _ (by omega) (by omega)).mono ?_); rintro e w6 ⟨v, rfl, hv, hb⟩; obtain ⟨n6, A6, m6, k6, rfl, H6⟩ := hv.form; clear hv; replace VR := VR.keep hb; replace HO := Lib.hid (HO.out.below hb); replace HB := below_step HB hb; clear hb)
      refine hK.out _ _ (by exact ⟨VR.c0, VR.c1, VR.c2⟩) (fun hHeld => ?_)
      clear hK K
      try go_frame
      refine wpAnyF_one (i := 4) (by kernel_rfl) rfl (fun K hK => ?_)
      go_simp
      (go_at_call 28; (with_reducible refine (HF.out _ _ _ _ VR.im.out H6.out (by have := len_small (z := (m : Int) + 1) (by omega) (by omega); omega) ((HT.out.below HB4).below HB)).mono ?_); rintro e w7 ⟨A7, c7, rfl, HL, hb⟩; replace VR := VR.keep hb; replace HO := Lib.hid (HO.out.below hb); replace HB := below_step HB hb; clear hb)
      refine hK.out _ _ (by exact ⟨VR.c0, VR.c1, VR.c2⟩) (fun hHeld => ?_)
      clear hK K
      try go_frame
      refine wpF_t (i := 5) (oi := { dst := some 37, op := Go.Op.move (Go.Operand.tmp 42), type := 64, pos := "fate.go:121", after := #[{ on := 4, ground := Go.Ground.data }], guard := none }) (v := ?_) rfl (by kernel_rfl) (fun _ _ _ h => h) (Or.inl ⟨by rfl, ?_⟩) hHeld ?_; rotate_left
      · intro w_ hSw_; (try dsimp only at hSw_); go_simp; (try with_reducible rfl)
      try go_frame
      refine wpF_t (i := 6) (oi := { dst := some 43, op := Go.Op.extract (Go.Operand.tmp 37) 0, type := 3, pos := "fate.go:121", after := #[{ on := 5, ground := Go.Ground.data }], guard := none }) (v := ?_) rfl (by kernel_rfl) (fun _ _ _ h => h) (Or.inl ⟨by rfl, ?_⟩) hHeld ?_; rotate_left
      · intro w_ hSw_; (try dsimp only at hSw_); go_simp; (try with_reducible rfl)
      try go_frame
      refine wpF_t (i := 7) (oi := { dst := some 44, op := Go.Op.extract (Go.Operand.tmp 37) 1, type := 63, pos := "fate.go:121", after := #[{ on := 5, ground := Go.Ground.data }, { on := 9, ground := Go.Ground.gcOnly Go.Departure.lateStores }], guard := none }) (v := ?_) rfl (by kernel_rfl) (fun _ _ _ h => h) (Or.inl ⟨by rfl, ?_⟩) hHeld ?_; rotate_left
      · intro w_ hSw_; (try dsimp only at hSw_); go_simp; (try with_reducible rfl)
      try go_frame
      refine wpF_t (i := 8) (oi := { dst := some 45, op := Go.Op.extract (Go.Operand.tmp 37) 2, type := 32, pos := "fate.go:121", after := #[{ on := 5, ground := Go.Ground.data }, { on := 10, ground := Go.Ground.gcOnly Go.Departure.lateStores }], guard := none }) (v := ?_) rfl (by kernel_rfl) (fun _ _ _ h => h) (Or.inl ⟨by rfl, ?_⟩) hHeld ?_; rotate_left
      · intro w_ hSw_; (try dsimp only at hSw_); go_simp; (try with_reducible rfl)
      try go_frame
      refine wpF_t (i := 9) (oi := { dst := some 10, op := Go.Op.assign (Go.Operand.tmp 43), type := 3, pos := "fate.go:121", after := #[{ on := 6, ground := Go.Ground.data }, { on := 4, ground := Go.Ground.chain }, { on := 0, ground := Go.Ground.phase }, { on := 1, ground := Go.Ground.phase }, { on := 2, ground := Go.Ground.phase }, { on := 3, ground := Go.Ground.phase }, { on := 4, ground := Go.Ground.phase }, { on := 5, ground := Go.Ground.phase }, { on := 6, ground := Go.Ground.phase }, { on := 7, ground := Go.Ground.textOnly Go.Departure.lateStores }, { on := 8, ground := Go.Ground.textOnly Go.Departure.lateStores }], guard := none }) (v := ?_) rfl (by kernel_rfl) (fun _ _ _ h => h) (Or.inl ⟨by rfl, ?_⟩) hHeld ?_; rotate_left
      · intro w_ hSw_; (try dsimp only at hSw_); go_simp; (try with_reducible rfl)
      try go_frame
      refine wpF_t (i := 10) (oi := { dst := some 11, op := Go.Op.assign (Go.Operand.tmp 44), type := 63, pos := "fate.go:121", after := #[{ on := 7, ground := Go.Ground.data }, { on := 9, ground := Go.Ground.chain }, { on := 0, ground := Go.Ground.phase }, { on := 1, ground := Go.Ground.phase }, { on := 2, ground := Go.Ground.phase }, { on := 3, ground := Go.Ground.phase }, { on := 4, ground := Go.Ground.phase }, { on := 5, ground := Go.Ground.phase }, { on := 6, ground := Go.Ground.phase }, { on := 7, ground := Go.Ground.phase }, { on := 8, ground := Go.Ground.textOnly Go.Departure.lateStores }, { on := 9, ground := Go.Ground.phase }], guard := none }) (v := ?_) rfl (by kernel_rfl) (fun _ _ _ h => h) (Or.inl ⟨by rfl, ?_⟩) hHeld ?_; rotate_left
      · intro w_ hSw_; (try dsimp only at hSw_); go_simp; (try with_reducible rfl)
      try go_frame
      refine wpF_t (i := 11) (oi := { dst := some 12, op := Go.Op.assign (Go.Operand.tmp 45), type := 32, pos := "fate.go:121", after := #[{ on := 8, ground := Go.Ground.data }, { on := 10, ground := Go.Ground.chain }, { on := 0, ground := Go.Ground.phase }, { on := 1, ground := Go.Ground.phase }, { on := 2, ground := Go.Ground.phase }, { on := 3, ground := Go.Ground.phase }, { on := 4, ground := Go.Ground.phase }, { on := 5, ground := Go.Ground.phase }, { on := 6, ground := Go.Ground.phase }, { on := 7, ground := Go.Ground.phase }, { on := 8, ground := Go.Ground.phase }, { on := 9, ground := Go.Ground.phase }, { on := 10, ground := Go.Ground.phase }], guard := none }) (v := ?_) rfl (by kernel_rfl) (fun _ _ _ h => h) (Or.inl ⟨by rfl, ?_⟩) hHeld ?_; rotate_left
      · intro w_ hSw_; (try dsimp only at hSw_); go_simp; (try with_reducible rfl)
      try go_frame
      refine wpAnyF_done (by kernel_rfl) ?_ _
      clear hHeld hWd HL VR
      have HRL : Hid (recL M most (m + 1) = recS M most (recL M most m) (m + 1)) := rfl
      have hfc := flw_cases M ((m : Int) + 1) most
      have HRS : Hid (∀ r, flwA M (most + 1) [] ((m : Int) + 1) = r → recS M most (recL M most m) (m + 1) = if r.1 = 0 ∧ ((recL M most m).length = 0 ∨ lastS (recL M most m) < r.2.1) then recL M most m ++ [(m + 1, r.2.1)] else recL M most m) := fun r h => by subst h; rfl
      have HLN := Lib.hid (recL_len M most m)
      have HEL := Lib.hid (recL_el M most m)
      generalize flwA M (most + 1) [] ((m : Int) + 1) = r at *
      generalize recL M most m = l at *
      have HRS2 := Lib.hid (HRS.out r rfl)
      clear HRS
      obtain ⟨A9, c9, rfl, hs9⟩ := HO.out.form
      have HS9 := Lib.hid hs9
      clear hs9
      rcases hfc with h | h | ⟨t, cy, h, h1, h2, h3, -⟩
      · subst h
        have HQ : Hid (recL M most (m + 1) = l) := by show _ = _; rw [HRL.out, HRS2.out, if_neg (by simp)]
        have HO2 : Hid (OwR w7 w4.heap.size 54 (.slice A9 l.length c9) (recL M most (m + 1))) := by show OwR _ _ _ _ _; rw [HQ.out]; exact HO.out
        go_wp2
        go_roundg (count - (m + 1))
        case measure => omega
        case rel => exact ⟨m + 1, rfl, by go_num, by omega, HO2, HB⟩
      · subst h
        have HQ : Hid (recL M most (m + 1) = l) := by show _ = _; rw [HRL.out, HRS2.out, if_neg (by simp)]
        have HO2 : Hid (OwR w7 w4.heap.size 54 (.slice A9 l.length c9) (recL M most (m + 1))) := by show OwR _ _ _ _ _; rw [HQ.out]; exact HO.out
        go_wp2
        go_roundg (count - (m + 1))
        case measure => omega
        case rel => exact ⟨m + 1, rfl, by go_num, by omega, HO2, HB⟩
      · subst h
        dsimp only at HRS2
        clear h1 h2 h3
        have hbs := HB.size
        have hlt : (l.length + 1) * 16 ≤ 140737488355328 := by have := HLN.out; omega
        have HAP : Hid (∀ v1 w1, w1.ownsRow w4.heap.size 54 2 v1 (l.length + 1) (prs l ++ [.int .i64 ((m : Int) + 1), .int .i64 t]) → (l.length = 0 ∨ lastS l < t) → OwR w1 w4.heap.size 54 v1 (recL M most (m + 1))) := fun v1 w1 h hc => by
          rw [HRL.out, HRS2.out, if_pos ⟨rfl, hc⟩]
          unfold OwR
          rw [List.length_append, prs_snoc]
          exact h
        rcases Nat.eq_zero_or_pos l.length with hL | hL
        · have hl0 := Lib.hid hL
          obtain rfl : l = [] := List.eq_nil_of_length_eq_zero hL
          clear hL HLN HEL
          go_wp2_with (at_builtin; refine app_R w4.heap.size rfl _ _ 49 54 (.agg #[.int .i64 0, .int .i64 0]) 2 16 [.int .i64 ((m : Int) + 1), .int .i64 t] 0 [] rfl Tryz.underlying49 info_R rfl (by decide) (by decide) rfl (by simp [Value.oneCell']) _ HO.out rfl rfl HB hbs (by decide) ?_; intro v1 w1 HO1 HB1 hb1)
          have HO2 := Lib.hid (HAP.out v1 w1 HO1 (.inl rfl))
          go_roundg (count - (m + 1))
          case measure => omega
          case rel => exact ⟨m + 1, rfl, by go_num, by omega, HO2, HB1⟩
        · obtain ⟨k, hk⟩ : ∃ k, l.length = k + 1 := ⟨l.length - 1, by omega⟩
          obtain ⟨b9, o9, rfl, q0, q1⟩ := HS9.out.el (j := k) (by omega)
          have q1c := q1.c
          have HLS : Hid (lastS l = (gp l k).2) := by show _ = _; unfold lastS; rw [hk]; rfl
          obtain ⟨s, hs⟩ : ∃ s, (gp l k).2 = s := ⟨_, rfl⟩
          rw [hs] at q1c HLS
          have HK := Lib.hid hk
          have hkz : ((l.length : Int) == 0) = false := by have : ¬ (l.length : Int) = 0 := by omega
                                                           simpa using this
          have hki : (l.length : Int) - 1 = (k : Int) := by omega
          have hk0 : (0 : Int) ≤ (k : Int) := by omega
          have hk1 : (k : Int) < (l.length : Int) := by omega
          clear q0 q1 hs hk hL
          by_cases hst : s < t
          · have hst2 : (s : Int) < (t : Int) := by omega
            have HC : Hid (l.length = 0 ∨ lastS l < t) := .inr (by rw [HLS.out]; exact hst)
            go_wp2_with (at_builtin; refine app_R w4.heap.size rfl _ _ 49 54 (.agg #[.int .i64 0, .int .i64 0]) 2 16 [.int .i64 ((m : Int) + 1), .int .i64 t] l.length (prs l) rfl Tryz.underlying49 info_R rfl (by decide) (by decide) rfl (by simp [Value.oneCell']) _ HO.out rfl rfl HB hbs hlt ?_; intro v1 w1 HO1 HB1 hb1)
            have HO2 := Lib.hid (HAP.out v1 w1 HO1 HC.out)
            go_roundg (count - (m + 1))
            case measure => omega
            case rel => exact ⟨m + 1, rfl, by go_num, by omega, HO2, HB1⟩
          · have hst2 : ¬ (s : Int) < (t : Int) := by omega
            have HQ : Hid (recL M most (m + 1) = l) := by show _ = _; rw [HRL.out, HRS2.out, if_neg (fun h => h.2.elim (fun h => by have := HK.out; omega) (fun h => hst (by rw [← HLS.out]; exact h)))]
            have HO2 : Hid (OwR w7 w4.heap.size 54 (.slice (some ⟨b9, o9, none⟩) l.length c9) (recL M most (m + 1))) := by show OwR _ _ _ _ _; rw [HQ.out]; exact HO.out
            go_wp2
            go_roundg (count - (m + 1))
            case measure => omega
            case rel => exact ⟨m + 1, rfl, by go_num, by omega, HO2, HB⟩
    · obtain rfl : m = count := by omega
      obtain ⟨A9, c9, rfl, hs9⟩ := HO.out.form
      have HS9 := Lib.hid hs9
      clear hs9 HO
      have hi1 : ¬ (m : Int) + 1 ≤ (m : Int) := by omega
      go_wp2
      go_ret2
      exact ⟨A9, c9, rfl, HS9, HB4.trans (HB.mono HB4.size)⟩
end Go.Proofs.YtiaeeclmlchpoaaGreatDoor

set_option linter.unusedVariables false
set_option linter.unusedSimpArgs false
namespace Go.Proofs.YtiaeeclmlchpoaaGreatDoor
open Go.RowKit

/-- Two blocks hold Collatz's map. -/
theorem colIs (w : World) (o : Obj) (t : TypeId) : BlkI (((w.alloc o).alloc (.cells #[.int .i64 1, .int .i64 3] t)).alloc (.cells #[.int .i64 0, .int .i64 1] t)) (w.heap.size + 1) t .i64 [1, 3] ∧ BlkI (((w.alloc o).alloc (.cells #[.int .i64 1, .int .i64 3] t)).alloc (.cells #[.int .i64 0, .int .i64 1] t)) (w.heap.size + 1 + 1) t .i64 [0, 1] := by
  have e1 : (w.alloc o).heap.size = w.heap.size + 1 := by simp
  have e2 : ((w.alloc o).alloc (.cells #[.int .i64 1, .int .i64 3] t)).heap.size = w.heap.size + 1 + 1 := by simp
  have h1 : BlkI ((w.alloc o).alloc (.cells #[.int .i64 1, .int .i64 3] t)) (w.alloc o).heap.size t .i64 [1, 3] := heap_alloc_new _ _
  have h2 : BlkI (((w.alloc o).alloc (.cells #[.int .i64 1, .int .i64 3] t)).alloc (.cells #[.int .i64 0, .int .i64 1] t)) ((w.alloc o).alloc (.cells #[.int .i64 1, .int .i64 3] t)).heap.size t .i64 [0, 1] := heap_alloc_new _ _
  have h1 := h1.below (below_alloc (Below.refl _ _) (.cells #[.int .i64 0, .int .i64 1] t))
  rw [e1] at h1
  rw [e2] at h2
  exact ⟨h1, h2⟩
theorem BlkI.far' {w : World} {g : Nat} {e : TypeId} {k : IntKind} {l : List Int} {b o : Nat} {x : Value} (h : BlkI w g e k l) (hne : b ≠ g) : BlkI (w.setCell ⟨b, o, none⟩ x) g e k l := by
  unfold BlkI at h ⊢
  simp [World.setCell, Array.getElem?_modify, hne, h]
set_option maxRecDepth 100000 in
set_option maxHeartbeats 4000000 in
theorem Col_c (w : World) : Calls Tryz.prog 18 #[] w fun e w' => ∃ v, e = .returned v ∧ IsM w' v colM ∧ Below w.heap.size w w' := by
  go_enter Tryz.func18, Tryz.ntmps18
  go_wp2
  obtain ⟨h1, h2⟩ := colIs w (.cells #[.int .i64 2, .slice (some ⟨w.heap.size + 1, 0, none⟩) 2 2, .slice (some ⟨w.heap.size + 1 + 1, 0, none⟩) 2 2] 24) 3
  refine bodyPost_ret (v := .agg #[.int .i64 2, .slice (some ⟨w.heap.size + 1, 0, none⟩) 2 2, .slice (some ⟨w.heap.size + 1 + 1, 0, none⟩) 2 2]) (by simp [results, Tryz.results18, go_sem]) rfl ⟨_, rfl, ?_, ?_⟩
  · exact ⟨_, 2, _, 2, rfl, h1.slI (by show 2 ≤ 9223372036854775807; decide), h2.slI (by show 2 ≤ 9223372036854775807; decide)⟩
  · exact below_alloc (below_alloc (below_alloc (Below.refl _ _) _) _) _
def s1 (a : UInt8) : ByteArray := ⟨#[a]⟩
theorem Fate_7 (v : Value) (w : World) (hM : IsM w v colM) (ht : Tb w) :
    Calls Tryz.prog 19 #[v, .string ⟨#[55]⟩, .int .i64 100] w fun e w' => ∃ A c, e = .returned (.tuple #[.int .i64 10, .slice A 2 c, .int .i64 0]) ∧ Hid (LsS w' A c [⟨#[49]⟩, ⟨#[50]⟩]) ∧ Below w.heap.size w w' := by
  have h := Fate_ok colM 7 100 v w hM colM_ok (by rw [← dl_dlN]; exact dl_le (by decide)) (by omega) ht
  rw [col_7, show tS 7 = (⟨#[55]⟩ : ByteArray) from (tS_F 3 7 (by decide)).trans (by kernel_rfl)] at h
  simp only [List.map_cons, List.map_nil] at h
  rw [show tS 1 = (⟨#[49]⟩ : ByteArray) from (tS_F 3 1 (by decide)).trans (by kernel_rfl), show tS 2 = (⟨#[50]⟩ : ByteArray) from (tS_F 3 2 (by decide)).trans (by kernel_rfl)] at h
  exact h
theorem Fate_17 (v : Value) (w : World) (hM : IsM w v colM) (ht : Tb w) :
    Calls Tryz.prog 19 #[v, .string ⟨#[45, 49, 55]⟩, .int .i64 100] w fun e w' => ∃ A c, e = .returned (.tuple #[.int .i64 0, .slice A 11 c, .int .i64 0]) ∧ (∃ l, l.length = 11 ∧ gs l 0 = ⟨#[45, 49, 51, 54]⟩ ∧ Hid (LsS w' A c l)) ∧ Below w.heap.size w w' := by
  have h := Fate_ok colM (-17) 100 v w hM colM_ok (by rw [← dl_dlN]; exact dl_le (by decide)) (by omega) ht
  rw [col_17, show tS (-17) = (⟨#[45, 49, 55]⟩ : ByteArray) from (tS_F 3 (-17) (by decide)).trans (by kernel_rfl)] at h
  refine h.mono ?_
  rintro e w' ⟨A, c, rfl, hl, hb⟩
  refine ⟨A, c, rfl, ⟨_, rfl, ?_, hl⟩, hb⟩
  exact (tS_F 4 (-136) (by decide)).trans (by kernel_rfl)
theorem Recs_10 (v : Value) (w : World) (hM : IsM w v colM) (ht : Tb w) :
    Calls Tryz.prog 20 #[v, .int .i64 10, .int .i64 100] w fun e w' => ∃ A c, e = .returned (.tuple #[.slice A 5 c, .int .i64 0]) ∧ Hid (LsR w' A c [(1, 0), (3, 4), (6, 5), (7, 10), (9, 12)]) ∧ Below w.heap.size w w' := by
  have h := Recs_ok colM 10 100 v w hM colM_ok (by omega) (by omega) ht
  rw [col_10] at h
  exact h
theorem LsR.lit (w : World) (e : TypeId) (l : List (Nat × Nat)) (hl : l.length ≤ 9223372036854775807) : LsR (w.alloc (.cells (prs l).toArray e)) (some ⟨w.heap.size, 0, none⟩) l.length l := by
  refine ⟨⟨prs_length l, fun _ => ⟨w.heap.size, 0, rfl, by simp, fun j u hj => ?_⟩⟩, Nat.le_refl _, hl⟩
  simp only [World.cell?, heap_alloc_new]
  simpa using hj
theorem recs_lit (A : Option Addr) (c : Nat) (w : World) (e : TypeId) (h : LsR w A c [(1, 0), (3, 4), (6, 5), (7, 10), (9, 12)]) :
    Calls Tryz.prog 21 #[.slice A 5 c, .slice (some ⟨w.heap.size, 0, none⟩) 5 5] (w.alloc (.cells #[.int .i64 1, .int .i64 0, .int .i64 3, .int .i64 4, .int .i64 6, .int .i64 5, .int .i64 7, .int .i64 10, .int .i64 9, .int .i64 12] e)) fun e w' => e = .returned (.bool true) ∧ Below w.heap.size w w' := by
  have hba := below_alloc (Below.refl w.heap.size w) (.cells #[.int .i64 1, .int .i64 0, .int .i64 3, .int .i64 4, .int .i64 6, .int .i64 5, .int .i64 7, .int .i64 10, .int .i64 9, .int .i64 12] e)
  have h2 := LsR.lit w e [(1, 0), (3, 4), (6, 5), (7, 10), (9, 12)] (by decide)
  refine (records_c A _ c 5 [(1, 0), (3, 4), (6, 5), (7, 10), (9, 12)] [(1, 0), (3, 4), (6, 5), (7, 10), (9, 12)] _ (h.below hba) h2).mono ?_
  rintro e w' ⟨rfl, hb⟩
  exact ⟨by simp, below_step hba hb⟩
theorem LsS.at' {w : World} {b off c : Nat} {l : List ByteArray} (h : LsS w (some ⟨b, off, none⟩) c l) {j : Nat} (hj : j < l.length) : CL w b (off + j) (.string (gs l j)) := by
  obtain ⟨b', off', e, k⟩ := h.el hj
  injection e with e
  injection e with e1 e2
  subst e1 e2
  exact k
set_option maxRecDepth 100000 in
set_option maxHeartbeats 8000000 in
theorem awake5_c (w : World) (ht : Tb w) : Calls Tryz.prog 8 #[] w fun e w' => e = .returned (.bool true) ∧ Below w.heap.size w w' := by
  have HT := Lib.hid ht
  have HB : Below w.heap.size w w := Below.refl _ _
  clear ht
  go_enter Tryz.func8, Tryz.ntmps8
  go_wp2_with fail
  (with_reducible refine (Col_c _).mono ?_)
  rintro e w1 ⟨v, rfl, hM, hb⟩
  replace HB := below_step HB hb
  obtain ⟨md, A, n, c, A', n', c', rfl, HM⟩ := hM.form
  clear hM hb
  have V1 := VM.new w1 24 HM.out
  replace HB := below_alloc HB (Obj.cells #[Value.int .i64 md, Value.slice A n c, Value.slice A' n' c'] 24)
  have m0 := V1.c0; have m1 := V1.c1; have m2 := V1.c2
  go_wp2_with fail
  (with_reducible refine (Fate_7 _ _ V1.im.out (HT.out.below HB)).mono ?_)
  rintro e w2 ⟨A2, c2, rfl, HL2, hb⟩
  replace V1 := V1.keep hb; replace HB := below_step HB hb; clear hb m0 m1 m2
  have m0 := V1.c0; have m1 := V1.c1; have m2 := V1.c2
  go_wp2_with fail
  (with_reducible refine (Fate_17 _ _ V1.im.out (HT.out.below HB)).mono ?_)
  rintro e w3 ⟨A3, c3, rfl, ⟨l3, hl3, hg3, HL3⟩, hb⟩
  have HG3 := Lib.hid hg3; have HE3 := Lib.hid hl3; clear hg3 hl3
  replace V1 := V1.keep hb; replace HL2 := Lib.hid (HL2.out.below hb); replace HB := below_step HB hb; clear hb m0 m1 m2
  have m0 := V1.c0; have m1 := V1.c1; have m2 := V1.c2
  go_wp2_with fail
  (with_reducible refine (Recs_10 _ _ V1.im.out (HT.out.below HB)).mono ?_)
  rintro e w4 ⟨A4, c4, rfl, HL4, hb⟩
  replace V1 := V1.keep hb; replace HL2 := Lib.hid (HL2.out.below hb); replace HL3 := Lib.hid (HL3.out.below hb); replace HB := below_step HB hb; clear hb m0 m1 m2
  obtain ⟨b2, o2, rfl, k20⟩ := HL2.out.el (j := 0) (by decide)
  have k21 := HL2.out.at' (j := 1) (by decide)
  obtain ⟨b3, o3, rfl, k30⟩ := HL3.out.el (j := 0) (by rw [HE3.out]; decide)
  rw [HG3.out] at k30
  have q0 := k20.c; have q1 := k21.c; have q3 := k30.c
  simp only [gs, List.getD_cons_zero, List.getD_cons_succ, Nat.add_zero] at q0 q1 q3
  go_wp2_with fail
  (with_reducible refine (recs_lit A4 c4 _ _ HL4.out).mono ?_)
  rintro e w5 ⟨rfl, hb⟩
  replace HB := below_step HB hb
  clear hb q0 q1 q3
  go_wp2
  go_ret
  exact ⟨rfl, HB⟩
end Go.Proofs.YtiaeeclmlchpoaaGreatDoor
