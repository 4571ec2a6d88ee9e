/- strconv.Atoi at the program's own numbers. No condition. -/
import Derived.Test.YtibdipfhfaeooaaGreatDoorZJ
import Derived.Test.YtibdipfhfaeooaaGreatDoorZA
import Derived.Test.YtibdipfhfaeooaaGreatDoorZI
import Derived.Maps.RangeWalk
import Derived.Test.YtibdipfhfaeooaaGreatDoorZG
import Derived.Test.YtibdipfhfaeooaaGreatDoorZH
import Derived.Sort.Grow
set_option linter.unusedVariables false
set_option linter.unusedSimpArgs false
namespace Go.Proofs.YtibdipfhfaeooaaGreatDoor
open Go.RowKit

theorem decFrom_app (l : List UInt8) (b : UInt8) (d : Nat) (hd : Lib.digitVal b = some d) : ∀ (acc n : Nat), Lib.decFrom acc l = some n → Lib.decFrom acc (l ++ [b]) = some (n * 10 + d) := by
 induction l with
 | nil => intro acc n h; simp only [Lib.decFrom, Option.some.injEq] at h; subst h; simp [Lib.decFrom, hd]
 | cons a t ih =>
  intro acc n h
  rw [List.cons_append]
  unfold Lib.decFrom at h ⊢
  cases ha : Lib.digitVal a with
  | none => rw [ha] at h; cases h
  | some e => rw [ha] at h; exact ih _ n h
theorem digitVal_of {d : Nat} (h : d < 10) : Lib.digitVal (UInt8.ofNat (48 + d)) = some d := by
 have e : (UInt8.ofNat (48 + d)).toNat = 48 + d := by simp; omega
 unfold Lib.digitVal
 rw [e, if_pos (by omega)]
 congr 1; omega
theorem decFrom_dig (u : Nat) : Lib.decFrom 0 (Lib.decDigits u) = some u ∧ Lib.decDigits u ≠ [] := by
 induction u using Nat.strongRecOn with
 | _ u ih =>
  rw [Lib.decDigits]
  split
  ·rename_i h
   refine ⟨?_, by simp⟩
   have := decFrom_app [] (UInt8.ofNat (48 + u)) u (digitVal_of h) 0 0 rfl
   simpa using this
  ·rename_i h
   refine ⟨?_, by simp⟩
   have := decFrom_app _ (UInt8.ofNat (48 + u % 10)) (u % 10) (digitVal_of (by omega)) 0 _ (ih (u / 10) (by omega)).1
   rw [this]
   congr 1; omega
theorem atoi_tS (u : Nat) : Lib.atoi (tS (u : Int)).data.toList = some (u : Int) := by
 rw [← itoa_tS]
 show Lib.atoi (Lib.itoa (u : Int)) = _
 unfold Lib.itoa
 rw [if_neg (by omega)]
 simp only [Int.toNat_natCast]
 obtain ⟨h1, h2⟩ := decFrom_dig u
 cases h : Lib.decDigits u with
 | nil => exact absurd h h2
 | cons b r =>
  rw [h] at h1
  obtain ⟨d, hd⟩ := Lib.digit_of_decFrom _ _ _ h1 0 b rfl
  have hb : 48 ≤ b.toNat := by
   unfold Lib.digitVal at hd
   split at hd
   ·rename_i h3; exact h3.1
   ·cases hd
  have n1 : (b == 45) = false := by rw [beq_eq_false_iff_ne]; rintro rfl; simp at hb
  have n2 : (b == 43) = false := by rw [beq_eq_false_iff_ne]; rintro rfl; simp at hb
  unfold Lib.atoi
  simp only [n1, n2]
  unfold Lib.decNat
  simp [h1]
theorem Atoi_c (u : Nat) (w : World) (h : u < 1000000000000000) :
  Calls Tryz.prog 59 #[.string (tS (u : Int))] w fun e w' => e = .returned (.tuple #[.int .i64 (u : Int), .nilIface]) ∧ Below w.heap.size w w' := by
 have hl : (tS (u : Int)).size ≤ 18 := by
  rcases Nat.eq_zero_or_pos u with h0 | h0
  ·subst h0; decide
  ·rw [tS_size u h0]
   have := digs_len_le (B := 10) (by omega) (show u < 10 ^ 15 by omega)
   omega
 refine (Go.Proofs.Tryz.strconv_Atoi _ (u : Int) hl (atoi_tS u) w).mono ?_
 rintro e w' ⟨rfl, t, rfl⟩
 exact ⟨rfl, Lib.bytesWorld_below _ _ _⟩
end Go.Proofs.YtibdipfhfaeooaaGreatDoor


set_option linter.unusedVariables false
set_option linter.unusedSimpArgs false
namespace Go.Proofs.YtibdipfhfaeooaaGreatDoor
open Go.RowKit

/-- A rest comes in: its block, and a result's. -/
theorem startL (w : World) {n1 : Bool} {A1 : Option Addr} {m1 k1 : Nat} {n2 : Bool} {A2 : Option Addr} {m2 k2 : Nat} {n3 : Bool} {A3 : Option Addr} {m3 k3 : Nat} {x : Lf} (t t' : TypeId) (W : World)
  (h1 : IsI w (.agg #[.bool n1, .slice A1 m1 k1]) x.at_) (h2 : IsI w (.agg #[.bool n2, .slice A2 m2 k2]) x.mul) (h3 : IsI w (.agg #[.bool n3, .slice A3 m3 k3]) x.add)
  (hW : (w.alloc (.cells #[.bool n1, .slice A1 m1 k1, .bool n2, .slice A2 m2 k2, .bool n3, .slice A3 m3 k3] t)).alloc (.cells #[.bool false, .slice none 0 0] t') = W) :
  VL W w.heap.size n1 A1 m1 k1 n2 A2 m2 k2 n3 A3 m3 k3 x ∧ Res2 W (w.heap.size + 1) ∧ W.heap.size = w.heap.size + 1 + 1 ∧ Below w.heap.size w W := by
 have q1 := VL.new w t (x := x) h1 h2 h3
 have q2 := newRes (w.alloc (.cells #[.bool n1, .slice A1 m1 k1, .bool n2, .slice A2 m2 k2, .bool n3, .slice A3 m3 k3] t)) t'
 have e : (w.alloc (.cells #[.bool n1, .slice A1 m1 k1, .bool n2, .slice A2 m2 k2, .bool n3, .slice A3 m3 k3] t)).heap.size = w.heap.size + 1 := by simp
 rw [e] at q2
 subst hW
 exact ⟨q1.keep (below_alloc (Below.refl _ _) _), q2, by simp, below_alloc (below_alloc (Below.refl _ _) _) _⟩
set_option maxRecDepth 100000 in
set_option maxHeartbeats 8000000 in
theorem bound_c (x : Lf) (div : Int) (v : Value) (w : World) (hv : IsL w v x) (h0 : 0 ≤ x.mul) (h1 : x.mul < div) (hd1 : div ≤ 100000000) (s3 : x.add.natAbs ≤ 10 ^ 200) :
  Calls Tryz.prog 102 #[v, .int .i64 div] w fun e w' => ∃ v, e = .returned v ∧ IsI w' v (bnd div x) ∧ Below w.heap.size w w' := by
 obtain ⟨n1, A1, m1, k1, n2, A2, m2, k2, n3, A3, m3, k3, rfl, HX1, HX2, HX3⟩ := hv
 obtain ⟨X1, X2, X3⟩ := x
 dsimp only at HX1 HX2 HX3 s3 h0 h1
 obtain ⟨d, hd⟩ := Int.eq_ofNat_of_zero_le (show 0 ≤ div - X2 by omega)
 have HD := Lib.hid hd
 have hd0 : 1 ≤ d := by omega
 have hd2 : d ≤ 100000000 := by omega
 have LX2 := Lib.hid (szI (z := X2) (Nat.le_trans (show X2.natAbs ≤ 1000000000000 by omega) (Nat.le_mul_of_pos_right _ (Nat.pow_pos (by omega)))))
 have Ld := Lib.hid (szI (z := div) (Nat.le_trans (show div.natAbs ≤ 1000000000000 by omega) (Nat.le_mul_of_pos_right _ (Nat.pow_pos (by omega)))))
 have LX3 := Lib.hid (szI (z := X3) (Nat.le_trans s3 (Nat.le_mul_of_pos_left _ (by omega))))
 have LD : Hid ((digs 10 ((d : Nat) : Int).natAbs).length ≤ 1000000000) := by
  have := digs_len_le (B := 10) (by omega) (show d < 10 ^ 9 by omega)
  show (digs 10 ((d : Nat) : Int).natAbs).length ≤ _
  rw [Int.natAbs_natCast]; omega
 have HBD : Hid (bnd div ⟨X1, X2, X3⟩ = X3 / (d : Int)) := by show X3 / (div - X2) = _; rw [hd]
 have H1 := Lib.hid HX1
 have H2 := Lib.hid HX2
 have H3 := Lib.hid HX3
 have hv0 : -9223372036854775807 ≤ div := by omega
 have hv1 : div ≤ 9223372036854775807 := by omega
 clear hd HX1 HX2 HX3 s3 h0 h1 hd1
 go_enter Tryz.func102, Tryz.ntmps102
 go_upto_region 1 with fail
 generalize hW : (w.alloc (Obj.cells #[Value.bool n1, Value.slice A1 m1 k1, Value.bool n2, Value.slice A2 m2 k2, Value.bool n3, Value.slice A3 m3 k3] 144)).alloc (Obj.cells _ _) = W at *
 obtain ⟨V4, RR, hs, HB⟩ := startL (x := ⟨X1, X2, X3⟩) w _ _ W H1.out H2.out H3.out hW
 clear hW hs H1 H2 H3
 replace V4 := V4.drew; replace RR := RR.drew
 replace HB := below_drew HB
 generalize hWd : W.drew = wd at *
 refine wp_region_held_drew (S := fun w' => w'.cell? ⟨w.heap.size, 2, none⟩ = some (.bool n2) ∧ w'.cell? ⟨w.heap.size, 3, none⟩ = some (.slice A2 m2 k2)) (by kernel_rfl) (by rw [hWd]; exact ⟨V4.c2, V4.c3⟩) (fun hHeld => ?_)
 rw [hWd] at hHeld ⊢
 refine tH 0 ({ dst := some 10, op := Go.Op.move (Go.Operand.tmp 1), type := 3, pos := "cert.go:46", after := #[], guard := none }) hHeld ?_; try go_frame
 refine tH 2 ({ dst := some 12, op := Go.Op.fieldAddr 144 (Go.Operand.tmp 2) 1, type := 0, pos := "cert.go:46", after := #[], guard := none }) hHeld ?_; try go_frame
 refine tH 3 ({ dst := some 13, op := Go.Op.load 83 (Go.Operand.tmp 12), type := 83, pos := "cert.go:46", after := #[{ on := 2, ground := Go.Ground.data }], guard := none }) hHeld ?_; try go_frame
 refine wpAnyH_ready (rs := [1]) (by kernel_rfl) (by simp) ?_
 refine AllReadyH.cons (o := { dst := some 11, op := Go.Op.call { callee := Go.Callee.value (Go.Operand.func 58), args := #[Go.Operand.tmp 10], argTypes := #[3] }, type := 83, pos := "cert.go:46", after := #[{ on := 0, ground := Go.Ground.data }], guard := none }) rfl (fun K hK => ?_) AllReadyH.nil
 go_simp
 (go_at_call 58; (with_reducible refine (Small_c div _ hv0 hv1).mono ?_); rintro e w5 ⟨v, rfl, hv, hb⟩; obtain ⟨n5, A5, m5, k5, rfl, H5⟩ := hv.form; clear hv; replace V4 := V4.keep hb; replace RR := RR.keep hb; replace HB := below_step HB hb; clear hb)
 refine hK.out _ _ (by exact ⟨V4.c2, V4.c3⟩) (fun hHeld => ?_)
 clear hK K
 try go_frame
 refine wpAnyH_ready (rs := [4]) (by kernel_rfl) (by simp) ?_
 refine AllReadyH.cons (o := { dst := some 14, op := Go.Op.call { callee := Go.Callee.value (Go.Operand.func 103), args := #[Go.Operand.tmp 11, Go.Operand.tmp 13], argTypes := #[83, 83] }, type := 83, pos := "cert.go:46", after := #[{ on := 1, ground := Go.Ground.data }, { on := 3, ground := Go.Ground.data }, { on := 1, ground := Go.Ground.chain }], guard := none }) rfl (fun K hK => ?_) AllReadyH.nil
 go_simp
 (go_at_call 103; (with_reducible refine (wLess_c div X2 _ _ _ H5.out V4.i2.out (by have := Ld.out; omega) (by have := LX2.out; omega)).mono ?_); rintro e w6 ⟨v, rfl, hv, hb⟩; obtain ⟨n6, A6, m6, k6, rfl, H6⟩ := hv.form; clear hv; rw [HD.out] at H6; replace V4 := V4.keep hb; replace RR := RR.keep hb; replace HB := below_step HB hb; clear hb)
 refine hK.out _ _ (by exact ⟨V4.c2, V4.c3⟩) (fun hHeld => ?_)
 clear hK K
 try go_frame
 refine wpAnyH_ready (rs := [5]) (by kernel_rfl) (by simp) ?_
 refine AllReadyH.cons (o := { dst := some 15, op := Go.Op.call { callee := Go.Callee.value (Go.Operand.func 60), args := #[Go.Operand.tmp 14], argTypes := #[83] }, type := 9, pos := "cert.go:46", after := #[{ on := 4, ground := Go.Ground.data }, { on := 4, ground := Go.Ground.chain }], guard := none }) rfl (fun K hK => ?_) AllReadyH.nil
 go_simp
 (go_at_call 60; (with_reducible refine (wString_c (d : Int) _ _ H6.out LD.out).mono ?_); rintro e w7 ⟨rfl, hb⟩; replace V4 := V4.keep hb; replace RR := RR.keep hb; replace HB := below_step HB hb; clear hb)
 refine hK.out _ _ (by exact ⟨V4.c2, V4.c3⟩) (fun hHeld => ?_)
 clear hK K
 try go_frame
 refine wpAnyH_ready (rs := [6]) (by kernel_rfl) (by simp) ?_
 refine AllReadyH.cons (o := { dst := some 16, op := Go.Op.call { callee := Go.Callee.value (Go.Operand.func 59), args := #[Go.Operand.tmp 15], argTypes := #[9] }, type := 90, pos := "cert.go:46", after := #[{ on := 5, ground := Go.Ground.data }, { on := 5, ground := Go.Ground.chain }], guard := none }) rfl (fun K hK => ?_) AllReadyH.nil
 go_simp
 (go_at_call 59; (with_reducible refine (Atoi_c d _ (by omega)).mono ?_); rintro e w8 ⟨rfl, hb⟩; replace V4 := V4.keep hb; replace RR := RR.keep hb; replace HB := below_step HB hb; clear hb)
 refine hK.out _ _ (by exact ⟨V4.c2, V4.c3⟩) (fun hHeld => ?_)
 clear hK K
 try go_frame
 refine tH 7 ({ dst := some 9, op := Go.Op.move (Go.Operand.tmp 16), type := 90, pos := "cert.go:46", after := #[{ on := 6, ground := Go.Ground.data }], guard := none }) hHeld ?_; try go_frame
 refine tH 8 ({ dst := some 17, op := Go.Op.extract (Go.Operand.tmp 9) 0, type := 3, pos := "cert.go:46", after := #[{ on := 7, ground := Go.Ground.data }], guard := none }) hHeld ?_; try go_frame
 refine tH 9 ({ dst := some 18, op := Go.Op.extract (Go.Operand.tmp 9) 1, type := 89, pos := "cert.go:46", after := #[{ on := 7, ground := Go.Ground.data }, { on := 10, ground := Go.Ground.gcOnly Go.Departure.lateStores }], guard := none }) hHeld ?_; try go_frame
 refine tH 10 ({ dst := some 5, op := Go.Op.assign (Go.Operand.tmp 17), type := 3, pos := "cert.go:46", after := #[{ on := 8, ground := Go.Ground.data }, { on := 6, ground := Go.Ground.chain }, { on := 0, ground := Go.Ground.phase }, { on := 1, ground := Go.Ground.phase }, { on := 2, ground := Go.Ground.phase }, { on := 3, ground := Go.Ground.phase }, { on := 4, ground := Go.Ground.phase }, { on := 5, ground := Go.Ground.phase }, { on := 6, ground := Go.Ground.phase }, { on := 7, ground := Go.Ground.phase }, { on := 8, ground := Go.Ground.phase }, { on := 9, ground := Go.Ground.textOnly Go.Departure.lateStores }], guard := none }) hHeld ?_; try go_frame
 refine tH 11 ({ dst := some 6, op := Go.Op.assign (Go.Operand.tmp 18), type := 89, pos := "cert.go:46", after := #[{ on := 9, ground := Go.Ground.data }, { on := 10, ground := Go.Ground.chain }, { on := 0, ground := Go.Ground.phase }, { on := 1, ground := Go.Ground.phase }, { on := 2, ground := Go.Ground.phase }, { on := 3, ground := Go.Ground.phase }, { on := 4, ground := Go.Ground.phase }, { on := 5, ground := Go.Ground.phase }, { on := 6, ground := Go.Ground.phase }, { on := 7, ground := Go.Ground.phase }, { on := 8, ground := Go.Ground.phase }, { on := 9, ground := Go.Ground.phase }, { on := 10, ground := Go.Ground.phase }], guard := none }) hHeld ?_; try go_frame
 refine wpAnyH_done (by kernel_rfl) ?_ _
 clear hHeld hWd
 have c4 := V4.c4; have c5 := V4.c5
 have hdi0 : (0 : Int) ≤ (d : Int) := by omega
 go_wp2_with fail
 (with_reducible refine (wOver_c X3 d _ _ V4.i3.out hd0 (by omega) (by have := LX3.out; omega)).mono ?_)
 rintro e w9 ⟨v, rfl, hv, hb⟩
 obtain ⟨n9, A9, m9, k9, rfl, H9⟩ := hv.form; clear hv
 replace V4 := V4.keep hb; replace RR := RR.keep hb; replace HB := below_step HB hb
 generalize X3 % (d : Int) = rr at *
 clear hb c4 c5
 have RRh := Lib.hid RR
 obtain ⟨⟨u1, r1⟩, ⟨u2, u3, u4, r2⟩, r3, r4, r5⟩ := RR
 go_wp2
 refine bodyPost_ret (v := .agg #[.bool n9, .slice A9 m9 k9]) (by simp [results, Tryz.results102, go_sem, r1, r2, r5]) rfl ⟨_, rfl, ?_, below_alloc (below_set2 HB (by omega) _ _) _⟩
 rw [HBD.out]
 exact (H9.out.res2 RRh.out _ _).below (below_alloc (Below.refl _ _) _)
end Go.Proofs.YtibdipfhfaeooaaGreatDoor


set_option linter.unusedVariables false
set_option linter.unusedSimpArgs false
namespace Go.Proofs.YtibdipfhfaeooaaGreatDoor

def rowN (M : Mp) (div : Int) (s : List Lf × Int) (x : Lf) (j : Nat) : List Lf × Int := (List.range j).foldl (fun s j => put1 (div * M.mod) s (nxt M div x j)) s
theorem rowN_succ (M : Mp) (div : Int) (s : List Lf × Int) (x : Lf) (j : Nat) : rowN M div s x (j + 1) = put1 (div * M.mod) (rowN M div s x j) (nxt M div x j) := by
 unfold rowN
 rw [List.range_succ, List.foldl_append]
 rfl
def levN (M : Mp) (div : Int) (l : List Lf) (top : Int) (i : Nat) : List Lf × Int := (l.take i).foldl (row1 M div) ([], top)
theorem levN_zero (M : Mp) (div : Int) (l : List Lf) (top : Int) : levN M div l top 0 = ([], top) := by unfold levN; simp
theorem levN_succ (M : Mp) (div : Int) (l : List Lf) (top : Int) (i : Nat) (h : i < l.length) : levN M div l top (i + 1) = row1 M div (levN M div l top i) (gF l i) := by
 unfold levN
 rw [List.take_add_one, List.foldl_append, List.getElem?_eq_getElem h, ← gF_lt h]
 rfl
theorem levN_all (M : Mp) (div : Int) (l : List Lf) (top : Int) : levN M div l top l.length = lev M div l top := by unfold levN lev; rw [List.take_length]
/-- What the rests that are left and the greatest bound so far are like. -/
structure Good (k cnt : Nat) (s : List Lf × Int) : Prop where
 bd : ∀ x ∈ s.1, Bd k x
 len : s.1.length ≤ cnt
 t0 : 0 ≤ s.2
 t1 : s.2.natAbs ≤ 10 ^ (8 * k + 8)
theorem Good.first : Good 0 1 ([⟨0, 1, 0⟩], 0) := ⟨fun x h => by rw [List.mem_singleton.1 h]; exact Bd.first, by simp, by simp, by simp⟩
theorem Good.put {k cnt : Nat} {s : List Lf × Int} (h : Good k cnt s) {y : Lf} (hy : Bd k y) (dv : Int) : Good k (cnt + 1) (put1 dv s y) := by
 obtain ⟨h1, h2, h3, h4⟩ := h
 unfold put1
 split
 ·refine ⟨fun x hx => ?_, by simp; omega, h3, h4⟩
  rcases List.mem_append.1 hx with hx | hx
  ·exact h1 x hx
  ·rw [List.mem_singleton.1 hx]; exact hy
 ·split
  ·rename_i h5 h6
   refine ⟨h1, by dsimp only; omega, by dsimp only; omega, ?_⟩
   dsimp only
   exact Nat.le_trans (natAbs_div_le (by omega)) hy.add
  ·exact ⟨h1, by omega, h3, h4⟩
theorem Good.first' {k : Nat} {l : List Lf} {top : Int} {cnt : Nat} (h : Good k cnt (l, top)) : Good (k + 1) 0 ([], top) :=
 ⟨fun x hx => (by cases hx), Nat.le_refl _, h.t0, Nat.le_trans h.t1 (Nat.pow_le_pow_right (by omega) (by omega))⟩
theorem pow_hund {m : Int} (h0 : 2 ≤ m) (h1 : m ≤ 12) (k : Nat) : 1 ≤ m ^ k ∧ m ^ k ≤ 10 ^ (2 * k) ∧ (2 : Int) ^ k ≤ m ^ k := by
 induction k with
 | zero => exact ⟨by simp, by simp, by simp⟩
 | succ k ih =>
  obtain ⟨i1, i2, i3⟩ := ih
  have e : (10 : Int) ^ (2 * (k + 1)) = 10 ^ (2 * k) * 100 := by rw [show 2 * (k + 1) = 2 * k + 2 by omega, Int.pow_add]; rfl
  rw [Int.pow_succ, e, Int.pow_succ]
  have hp : (0 : Int) < 2 ^ k := Int.pow_pos (by omega)
  refine ⟨?_, ?_, ?_⟩
  ·have := Int.mul_le_mul i1 (show 1 ≤ m by omega) (by omega) (by omega); omega
  ·exact Int.mul_le_mul i2 (by omega) (by omega) (by omega)
  ·exact Int.mul_le_mul i3 h0 (by omega) (by omega)
theorem pow_16 {m : Int} (h0 : 2 ≤ m) (h1 : m ≤ 12) {k : Nat} (h : m ^ k ≤ 65536) : k ≤ 16 := by
 have h2 := (pow_hund h0 h1 k).2.2
 apply Classical.byContradiction
 intro h3
 have h4 : (2 : Nat) ^ 17 ≤ 2 ^ k := Nat.pow_le_pow_right (by omega) (by omega)
 have h5 : ((2 ^ k : Nat) : Int) = (2 : Int) ^ k := by rw [Int.natCast_pow]; rfl
 have h6 : (2 : Nat) ^ 17 = 131072 := by decide
 omega
theorem powm_mono {m : Int} (h0 : 2 ≤ m) {a b : Nat} (h : a ≤ b) : m ^ a ≤ m ^ b := by
 obtain ⟨n, rfl⟩ := Int.eq_ofNat_of_zero_le (show 0 ≤ m by omega)
 have h2 : ((n ^ a : Nat) : Int) ≤ ((n ^ b : Nat) : Int) := Int.ofNat_le.2 (Nat.pow_le_pow_right (by omega) h)
 rw [Int.natCast_pow, Int.natCast_pow] at h2
 exact h2
theorem Bd.le200 {k : Nat} {x : Lf} (h : Bd k x) (hk : k ≤ 16) : x.at_.natAbs ≤ 10 ^ 200 ∧ x.mul.natAbs ≤ 10 ^ 200 ∧ x.add.natAbs ≤ 10 ^ 200 :=
 ⟨Nat.le_trans h.at_ (Nat.pow_le_pow_right (by omega) (by omega)), Nat.le_trans h.mul (Nat.pow_le_pow_right (by omega) (by omega)), Nat.le_trans h.add (Nat.pow_le_pow_right (by omega) (by omega))⟩
end Go.Proofs.YtibdipfhfaeooaaGreatDoor


set_option linter.unusedVariables false
set_option linter.unusedSimpArgs false
namespace Go.Proofs.YtibdipfhfaeooaaGreatDoor
open Go.RowKit

section
variable {P : Program} (w : World)
/-- An append to a row of the call's own; where the row lies behind it. -/
theorem run_append_Q (base : Nat) (t ty e : TypeId) (i : TypeInfo) (z : Value) (size bytes : Nat) (ht : P.underlying t = some (.slice e)) (hi : P.info? e = some i) (hz : i.zero = some z)
  (hsize : i.size = size) (hby : i.bytes = bytes) (hzs : z.cells.size = size) (hsz : 0 < size) (hzn : ∀ u ∈ z.cells.toList, NoInt u)
  (v : Value) (n : Nat) (xs : List Value) (hown : OwP w base e size v n xs)
  (a : Addr) (m c : Nat) (news : List Value) (hl : news.length = m * size) (hnews : ∀ j u, news[j]? = some u → w.cell? (a.add j) = some u) (h1 : ∀ u ∈ news, u.oneCell' = true) (hnn : ∀ u ∈ news, NoInt u) (hm : 0 < m)
  (h63 : n + m ≤ maxLen) (hbytes : (n + m) * bytes ≤ 140737488355328) (hbase : base ≤ w.heap.size) :
  ∃ v' w', (Builtin.append_ #[t, t] ty #[v, .slice (some a) m c]).run P w = .ok v' w' ∧ OwP w' base e size v' (n + m) (xs ++ news) ∧ w.grownBy w' v.ownBlock ∧ ∀ g, v'.ownBlock = some g → v.ownBlock = some g ∨ w.heap.size ≤ g := by
 obtain ⟨v', w', hr, h2, h3⟩ := run_append_P (P := P) w base t ty e i z size bytes ht hi hz hsize hby hzs hsz hzn v n xs hown a m c news hl hnews h1 hnn hm h63 hbytes hbase
 refine ⟨v', w', hr, h2, h3, ?_⟩
 subst hsize
 subst hby
 have hsmall : n + m ≤ 9223372036854775807 := by simp only [maxLen] at h63; omega
 rcases hown.1.2 with ⟨rfl, rfl⟩ | ⟨g, cap, cur, rfl, hbg, hg, hnc, hcm, hcs, htake⟩
 ·have hr2 := run_append_nil (P := P) w t ty e i z ht hi hz a m c news hl hnews hm (by omega) (by have hb := hbytes; simp only [Nat.zero_add] at hb; omega)
  rw [hr] at hr2
  injection hr2 with e1 e2
  subst e1 e2
  intro g hg
  simp only [Value.ownBlock, Option.some.injEq] at hg
  exact .inr (by omega)
 ·by_cases hroom : n + m ≤ cap
  ·have hfit : n * i.size + news.length ≤ cur.size := by rw [hl, hcs, ← Nat.add_mul]; exact Nat.mul_le_mul_right _ hroom
   have hr2 := run_append_room (P := P) w t ty e i ht hi g n cap cur hg a m c news hl hnews h1 hroom hfit
   rw [hr] at hr2
   injection hr2 with e1 e2
   subst e1 e2
   intro g' hg'
   exact .inl hg'
  ·have holds : ∀ j u, xs[j]? = some u → w.cell? ((⟨g, 0, none⟩ : Addr).add j) = some u := hown.1.cells (g := g) rfl
   have hr2 := run_append_grow (P := P) w t ty e i z ht hi hz ⟨g, 0, none⟩ n cap xs hown.1.1 holds a m c news hl hnews (by omega) (by omega) (growslice_fits (by omega) hbytes)
   rw [hr] at hr2
   injection hr2 with e1 e2
   subst e1 e2
   intro g' hg'
   simp only [Value.ownBlock, Option.some.injEq] at hg'
   exact .inr (by omega)
theorem wp_append_Q {ops : Array Oper} {rest : List Oper} {o : Oper} {a : Act} {Q : Exit → Act → World → Prop} (hgd : o.guard = none) (s x : Operand) (t : TypeId)
  (ho : o.op = .call { callee := .builtin .append, args := #[s, x], argTypes := #[t, t] })
  (base : Nat) (e : TypeId) (i : TypeInfo) (z : Value) (size bytes : Nat) (ht : P.underlying t = some (.slice e)) (hi : P.info? e = some i) (hz : i.zero = some z)
  (hsize : i.size = size) (hby : i.bytes = bytes) (hzs : z.cells.size = size) (hsz : 0 < size) (hzn : ∀ u ∈ z.cells.toList, NoInt u)
  (v : Value) (n : Nat) (xs : List Value) (hs : a.eval s = v) (hown : OwP w base e size v n xs)
  (ad : Addr) (m c : Nat) (news : List Value) (hx : a.eval x = .slice (some ad) m c) (hl : news.length = m * size) (hnews : ∀ j u, news[j]? = some u → w.cell? (ad.add j) = some u) (h1 : ∀ u ∈ news, u.oneCell' = true) (hnn : ∀ u ∈ news, NoInt u) (hm : 0 < m)
  (h63 : n + m ≤ maxLen) (hbytes : (n + m) * bytes ≤ 140737488355328) (hbase : base ≤ w.heap.size)
  (h : ∀ v' w', OwP w' base e size v' (n + m) (xs ++ news) → w.grownBy w' v.ownBlock → (∀ g, v'.ownBlock = some g → v.ownBlock = some g ∨ w.heap.size ≤ g) → wpList P ops Q rest (a.put o.dst v') w') : wpList P ops Q (o :: rest) a w :=
 wpList_plain hgd fun _ hK => by
  obtain ⟨v', w', hr, h2, h3, h4⟩ := run_append_Q (P := P) w base t o.type e i z size bytes ht hi hz hsize hby hzs hsz hzn v n xs hown ad m c news hl hnews h1 hnn hm h63 hbytes hbase
  unfold Oper.wp execOp
  simp only [ho, resolve, invoke, builtin, Sem.run_bind, Sem.run_pure, Result.andThen_ok, List.map_toArray, List.map_cons, List.map_nil, hs, hx, hr]
  exact hK _ _ (h v' w' h2 h3 h4)
end
/-- The row lies in none of two blocks. -/
def Off (v : Value) (b : Nat) : Prop := ∀ g, v.ownBlock = some g → g ≠ b
theorem Off.nil (b : Nat) : Off (.slice none 0 0) b := fun g hg => by simp [Value.ownBlock] at hg
section
variable {B : Nat} {k : IntKind} {w w' : World} {base : Nat} {e : TypeId} {v : Value} {l : List Lf} {A : Option Addr} {n c : Nat}
theorem OwF.lt (h : OwF B k w base e v l) {g : Nat} (hg : v.ownBlock = some g) : base ≤ g ∧ g < w.heap.size := by
 obtain ⟨xs, h1, h2⟩ := h
 exact h1.1.lt g hg
theorem OwF.off (h : OwF B k w base e v l) {b : Nat} (hb : w.heap.size ≤ b) : Off v b := fun g hg => by have := (h.lt hg).2; omega
theorem OwF.res2 {b : Nat} (h : OwF B k w base e v l) (hr : Res2 w b) (hb : b < base) (x y : Value) : OwF B k ((w.setCell ⟨b, 0, none⟩ x).setCell ⟨b, 1, none⟩ y) base e v l := by
 obtain ⟨xs, ⟨h1, h2⟩, h3⟩ := h
 refine ⟨xs, ⟨⟨h1.1, ?_⟩, ?_⟩, h3.kp (Kp.res2 hr x y)⟩
 ·rcases h1.2 with hn | ⟨g, cap, cur, rfl, hg, hgg, rest⟩
  ·exact .inl hn
  ·exact .inr ⟨g, cap, cur, rfl, hg, by rw [heap_set2 w b g x y (by omega)]; exact hgg, rest⟩
 ·intro g cur e' fz hg hcur
  have hge := (h1.lt g hg).1
  rw [heap_set2 w b g x y (by omega)] at hcur
  exact h2 g cur e' fz hg hcur
/-- A row of the call's own as a slice: where it lies. -/
theorem OwF.open (h : OwF B k w base e v l) (h0 : l ≠ []) : ∃ g c, v = .slice (some ⟨g, 0, none⟩) l.length c ∧ base ≤ g ∧ g < w.heap.size ∧ LsF B k w (some ⟨g, 0, none⟩) c l := by
 obtain ⟨A, c, rfl, hl⟩ := h.form
 obtain ⟨xs, h1, h2⟩ := h
 rcases h1.1.2 with ⟨e1, hn⟩ | ⟨g, cap, cur, e1, hb, hg, _⟩
 ·exact absurd (List.eq_nil_of_length_eq_zero hn) h0
 ·injection e1 with e1 e2 e3
  subst e1 e3
  exact ⟨g, c, rfl, hb, (h1.1.lt g rfl).2, hl⟩
theorem LsF.keepB {b o : Nat} (h : LsF B k w (some ⟨b, o, none⟩) c l) (hb : Below base w w') (hk : Kp w w') (hlt : b < base) : LsF B k w' (some ⟨b, o, none⟩) c l := by
 obtain ⟨xs, h1, h2, h3, h4⟩ := h
 refine ⟨xs, ⟨h1.1, fun hn => ?_⟩, h2, h3, h4.kp hk⟩
 obtain ⟨b', o', e1, hl, hc⟩ := h1.2 hn
 cases e1
 exact ⟨b, o, rfl, Nat.lt_of_lt_of_le hl hb.size, fun j u hu => kcellB hb hlt (hc j u hu)⟩
theorem LsF.res2 {b o b' : Nat} (h : LsF B k w (some ⟨b, o, none⟩) c l) (hr : Res2 w b') (hne : b' ≠ b) (x y : Value) : LsF B k ((w.setCell ⟨b', 0, none⟩ x).setCell ⟨b', 1, none⟩ y) (some ⟨b, o, none⟩) c l := by
 obtain ⟨xs, h1, h2, h3, h4⟩ := h
 refine ⟨xs, ⟨h1.1, fun hn => ?_⟩, h2, h3, h4.kp (Kp.res2 hr x y)⟩
 obtain ⟨b1, o1, e1, hl, hc⟩ := h1.2 hn
 cases e1
 refine ⟨b, o, rfl, by simpa [World.setCell] using hl, fun j u hu => ?_⟩
 rw [World.cell?_setCell_other _ _ _ _ (by simp [hne]), World.cell?_setCell_other _ _ _ _ (by simp [hne])]
 exact hc j u hu
/-- A row of one. -/
theorem LsF.one {n1 : Bool} {A1 : Option Addr} {m1 k1 : Nat} {n2 : Bool} {A2 : Option Addr} {m2 k2 : Nat} {n3 : Bool} {A3 : Option Addr} {m3 k3 : Nat} {y : Lf} (t : TypeId)
  (h1 : IsZ B k w (.agg #[.bool n1, .slice A1 m1 k1]) y.at_) (h2 : IsZ B k w (.agg #[.bool n2, .slice A2 m2 k2]) y.mul) (h3 : IsZ B k w (.agg #[.bool n3, .slice A3 m3 k3]) y.add) :
  LsF B k (w.alloc (.cells #[.bool n1, .slice A1 m1 k1, .bool n2, .slice A2 m2 k2, .bool n3, .slice A3 m3 k3] t)) (some ⟨w.heap.size, 0, none⟩) 1 [y] := by
 have hk : Kp w (w.alloc (.cells #[.bool n1, .slice A1 m1 k1, .bool n2, .slice A2 m2 k2, .bool n3, .slice A3 m3 k3] t)) := Kp.of (below_alloc (Below.refl _ _) _)
 have hR0 : Rl B k w [] [] := fun j z hj => by simp at hj
 have hR1 := (hR0.kp hk).snoc (by simp) (hk.isZ h1)
 have hR2 := hR1.snoc (by simp) (hk.isZ h2)
 have hR3 := hR2.snoc (by simp) (hk.isZ h3)
 refine ⟨[.bool n1, .slice A1 m1 k1, .bool n2, .slice A2 m2 k2, .bool n3, .slice A3 m3 k3], ⟨by simp, fun _ => ⟨_, 0, rfl, by simp, fun j u hu => ?_⟩⟩, by simp, by omega, by simpa [Fl] using hR3⟩
 rw [Nat.zero_add]
 simp only [World.cell?, heap_alloc_new]
 simpa using hu
end
section
variable {W w1 : World} {b : Nat} {n1 : Bool} {A1 : Option Addr} {m1 k1 : Nat} {n2 : Bool} {A2 : Option Addr} {m2 k2 : Nat} {n3 : Bool} {A3 : Option Addr} {m3 k3 : Nat} {x : Lf}
theorem VL.grown {row : Option Nat} (h : VL W b n1 A1 m1 k1 n2 A2 m2 k2 n3 A3 m3 k3 x) (hg : W.grownBy w1 row) (hne : some b ≠ row) (hk : Kp W w1) : VL w1 b n1 A1 m1 k1 n2 A2 m2 k2 n3 A3 m3 k3 x := by
 have c : ∀ o, w1.cell? ⟨b, o, none⟩ = W.cell? ⟨b, o, none⟩ := fun o => World.cell?_of_block (hg.block b h.lt hne)
 exact ⟨(c 0).trans h.c0, (c 1).trans h.c1, (c 2).trans h.c2, (c 3).trans h.c3, (c 4).trans h.c4, (c 5).trans h.c5, Nat.lt_of_lt_of_le h.lt hg.size, hk.isZ h.i1.out, hk.isZ h.i2.out, hk.isZ h.i3.out⟩
end
section
variable {P : Program} {ops : Array Oper} {rest : List Oper} {o : Oper} {a : Act} {Q : Exit → Act → World → Prop}
/-- One triple more at the end of a row of the call's own; the row stays off a block. -/
theorem app_F2 {B : Nat} {k : IntKind} {W : World} (base bo : Nat) (hgd : o.guard = none) (s x : Operand) (t e : TypeId) (z : Value) (bytes : Nat)
  (ho : o.op = .call { callee := .builtin .append, args := #[s, x], argTypes := #[t, t] })
  (ht : P.underlying t = some (.slice e)) (hinfo : (P.info? e).map (fun i => (i.zero, i.size, i.bytes)) = some (some z, 6, bytes)) (hzs : z.cells.size = 6) (hzn : ∀ u ∈ z.cells.toList, NoInt u) (hb0 : 0 < bytes)
  (v : Value) (l : List Lf) (y : Lf) (n1 : Bool) (A1 : Option Addr) (m1 k1 : Nat) (n2 : Bool) (A2 : Option Addr) (m2 k2 : Nat) (n3 : Bool) (A3 : Option Addr) (m3 k3 : Nat) (HO : OwF B k W base e v l) (hoff : Off v bo) (hbo : bo < W.heap.size)
  (h1 : IsZ B k W (.agg #[.bool n1, .slice A1 m1 k1]) y.at_) (h2 : IsZ B k W (.agg #[.bool n2, .slice A2 m2 k2]) y.mul) (h3 : IsZ B k W (.agg #[.bool n3, .slice A3 m3 k3]) y.add)
  (hs : a.eval s = v) (hx : a.eval x = .slice (some ⟨W.heap.size, 0, none⟩) 1 1) (hbase : base ≤ W.heap.size) (hl : (l.length + 1) * bytes ≤ 140737488355328)
  (h : ∀ v1 w1, OwF B k w1 base e v1 (l ++ [y]) → Off v1 bo → W.grownBy w1 v.ownBlock → Below base W w1 → Kp W w1 → wpList P ops Q rest (a.put o.dst v1) w1) :
  wpList P ops Q (o :: rest) a (W.alloc (.cells #[.bool n1, .slice A1 m1 k1, .bool n2, .slice A2 m2 k2, .bool n3, .slice A3 m3 k3] e)) := by
 obtain ⟨i0, hi, hzz⟩ := Option.map_eq_some_iff.1 hinfo
 simp only [Prod.mk.injEq] at hzz
 obtain ⟨hz0, hz1, hz2⟩ := hzz
 obtain ⟨xs, hP, hR⟩ := HO
 have hlen : l.length + 1 ≤ 140737488355328 := Nat.le_trans (Nat.le_mul_of_pos_right _ hb0) hl
 have hba : Below W.heap.size W (W.alloc (.cells #[.bool n1, .slice A1 m1 k1, .bool n2, .slice A2 m2 k2, .bool n3, .slice A3 m3 k3] e)) := below_alloc (Below.refl _ _) _
 have hP2 := hP.below hba
 refine wp_append_Q (w := W.alloc (.cells #[.bool n1, .slice A1 m1 k1, .bool n2, .slice A2 m2 k2, .bool n3, .slice A3 m3 k3] e)) hgd s x t ho base e i0 z 6 bytes ht hi hz0 hz1 hz2 hzs (by omega) hzn v l.length xs hs hP2 ⟨W.heap.size, 0, none⟩ 1 1 [.bool n1, .slice A1 m1 k1, .bool n2, .slice A2 m2 k2, .bool n3, .slice A3 m3 k3] hx rfl
  (fun j u hu => by rw [plain_add]; simp only [World.cell?, heap_alloc_new]; simpa using hu) (by simp [Value.oneCell']) ?_ (by omega) (by simp only [maxLen]; omega) hl (by simp; omega) ?_
 ·intro u hu
  simp at hu
  rcases hu with rfl | rfl | rfl | rfl | rfl | rfl <;> exact fun _ _ h => by cases h
 ·intro v1 w1 hown hg hof
  have hk : Kp W w1 := (Kp.of hba).trans (Kp.grown hg hP2.2 (own_cells hP2.1))
  have hxl : xs.length = (Fl l).length * 2 := by rw [hP.1.1, Fl_len]; omega
  have hR1 := (hR.kp hk).snoc hxl (hk.isZ h1)
  have hR2 := hR1.snoc (by simp; omega) (hk.isZ h2)
  have hR3 := hR2.snoc (by simp; omega) (hk.isZ h3)
  have hga : W.grownBy (W.alloc (.cells #[.bool n1, .slice A1 m1 k1, .bool n2, .slice A2 m2 k2, .bool n3, .slice A3 m3 k3] e)) v.ownBlock := World.grownBy_alloc _ _ _
  refine h v1 w1 ⟨xs ++ [.bool n1, .slice A1 m1 k1, .bool n2, .slice A2 m2 k2, .bool n3, .slice A3 m3 k3], by rw [List.length_append]; exact hown, ?_⟩ ?_ ?_ ?_ hk
  ·rw [Fl_snoc]
   simpa using hR3
  ·intro g hgo
   rcases hof g hgo with h4 | h4
   ·exact hoff g h4
   ·simp at h4; omega
  ·exact ⟨hg.1.trans hga.1, hg.2.trans hga.2, hg.3.trans hga.3, Nat.le_trans hga.size hg.size, fun i hi hne => (hg.block i (Nat.lt_of_lt_of_le hi hga.size) hne).trans (hga.block i hi hne)⟩
  ·exact ((Below.refl base W).alloc hbase _).grown hg (by simp; omega) (ownsRow_base hP2.1)
end
end Go.Proofs.YtibdipfhfaeooaaGreatDoor


set_option linter.unusedVariables false
set_option linter.unusedSimpArgs false
namespace Go.Proofs.YtibdipfhfaeooaaGreatDoor
open Go.RowKit

/-- A loop: where its strings lie, and its numbers. -/
abbrev LT := Option Addr × Nat × List Int
def ltsC (L : List LT) : List Value := L.map fun x => .slice x.1 x.2.2.length x.2.1
theorem ltsC_snoc (L : List LT) (x : LT) : ltsC (L ++ [x]) = ltsC L ++ [.slice x.1 x.2.2.length x.2.1] := by simp [ltsC]
theorem info_Lp : (Tryz.prog.info? 45).map (fun i => (i.zero, i.size, i.bytes)) = some (some (.agg #[.slice none 0 0]), 1, 24) := by kernel_rfl
abbrev zLp : Value := .agg #[.slice none 0 0]
theorem nzLp : ∀ u ∈ zLp.cells.toList, NoInt u := by
 intro u hu
 have e : zLp.cells.toList = [.slice none 0 0] := by rfl
 rw [e] at hu
 simp at hu
 subst hu
 exact fun _ _ h => by cases h
/-- A row of loops of the call's own, whose strings lie elsewhere. -/
structure LpR (W : World) (base : Nat) (v : Value) (L : List LT) : Prop where
 own : OwP W base 45 1 v L.length (ltsC L)
 el : ∀ x, x ∈ L → LsS W x.1 x.2.1 (x.2.2.map tS) ∧ ∀ b o q, x.1 = some ⟨b, o, q⟩ → Off v b ∧ b < W.heap.size
theorem LpR.nil (W : World) (base : Nat) : LpR W base (.slice none 0 0) [] := ⟨⟨World.ownsRow_nil _ _ _ _, fun g _ _ _ hg => by simp [Value.ownBlock] at hg⟩, fun x h => by cases h⟩
section
variable {W W' : World} {base : Nat} {v : Value} {L : List LT} {A : Option Addr} {c : Nat} {l : List ByteArray}
theorem LpR.below (h : LpR W base v L) (hb : Below W.heap.size W W') : LpR W' base v L :=
 ⟨h.own.below hb, fun x hx => ⟨(h.el x hx).1.below hb, fun b o q e => ⟨((h.el x hx).2 b o q e).1, Nat.lt_of_lt_of_le ((h.el x hx).2 b o q e).2 hb.size⟩⟩⟩
theorem LpR.lt (h : LpR W base v L) {g : Nat} (hg : v.ownBlock = some g) : base ≤ g ∧ g < W.heap.size := h.own.1.lt g hg
theorem LpR.off (h : LpR W base v L) {b : Nat} (hb : W.heap.size ≤ b) : Off v b := fun g hg => by have := (h.lt hg).2; omega
theorem LsS.offRow {row : Option Nat} (h : LsS W A c l) (hg : W.grownBy W' row) (ho : ∀ b o q, A = some ⟨b, o, q⟩ → row ≠ some b) : LsS W' A c l := by
 obtain ⟨⟨h0, h1⟩, h2⟩ := h
 refine ⟨⟨h0, fun hn => ?_⟩, h2⟩
 obtain ⟨b, off, e, hl, hc⟩ := h1 hn
 have hne := ho b off none e
 exact ⟨b, off, e, Nat.lt_of_lt_of_le hl hg.size, fun j u hu => (World.cell?_of_block (hg.block b hl (fun e => hne e.symm))).trans (hc j u hu)⟩
/-- A block below the row's border that holds no cells is written. -/
theorem LpR.map {r : Nat} (h : LpR W base v L) (hg : W.grownBy W' (some r)) (hr : r < base) (hc : ∀ r', some r = some r' → ∃ o : Obj, W.heap[r']? = some o ∧ o.isCells = false) : LpR W' base v L := by
 have hne : ∀ g, v.ownBlock = some g → g ≠ r := fun g hv => by have := (h.lt hv).1; omega
 refine ⟨⟨World.ownsRow.kept (row := some r) h.own.1 hg ?_, fun g cur e fz hv hcur => ?_⟩, fun x hx => ⟨(h.el x hx).1.own hg hc, fun b o q e => ⟨((h.el x hx).2 b o q e).1, Nat.lt_of_lt_of_le ((h.el x hx).2 b o q e).2 hg.size⟩⟩⟩
 ·cases hq : v.ownBlock with
  | none => exact .inl rfl
  | some g => exact .inr fun e => hne g hq (by injection e)
 ·have h1 := hg.block g (h.lt hv).2 (fun e => hne g hv (by injection e))
  rw [h1] at hcur
  exact h.own.2 g cur e fz hv hcur
theorem ltsC_at (L : List LT) {j : Nat} (hj : j < L.length) : (ltsC L)[j]? = some (.slice L[j].1 L[j].2.2.length L[j].2.1) := by simp [ltsC, hj]
theorem lpi_lt2 (L : List LT) {j : Nat} (hj : j < L.length) : lpi (L.map fun x => x.2.2) j = L[j].2.2 := by rw [lpi_lt (by rw [List.length_map]; exact hj)]; simp
/-- Cells of loops are a slice of loops. -/
theorem lsl_of {b o : Nat} (hlen : L.length ≤ c ∧ c ≤ 9223372036854775807) (hb : b < W.heap.size) (hc : ∀ j u, (ltsC L)[j]? = some u → W.cell? ⟨b, o + j, none⟩ = some u) (he : ∀ x, x ∈ L → LsS W x.1 x.2.1 (x.2.2.map tS)) : LsL W (some ⟨b, o, none⟩) c (L.map fun x => x.2.2) := by
 refine ⟨by rw [List.length_map, List.length_map]; exact hlen, fun j hj => ?_⟩
 rw [List.length_map, List.length_map] at hj
 rw [lsi_map, lpi_lt2 L hj, List.length_map]
 exact ⟨b, o, L[j].1, L[j].2.1, rfl, ⟨hc _ _ (ltsC_at L hj), hb⟩, he _ (List.getElem_mem hj)⟩
theorem LpR.form (h : LpR W base v L) : ∃ A c, v = .slice A L.length c ∧ LsL W A c (L.map fun x => x.2.2) := by
 have hh := h.own.1
 rcases hh.2 with ⟨rfl, h0⟩ | ⟨g, cap, cur, rfl, hb, hg, hnc, hm, _⟩
 ·have : L = [] := List.eq_nil_of_length_eq_zero h0
  subst this
  exact ⟨none, 0, rfl, ⟨by simp, fun j hj => absurd hj (by simp)⟩⟩
 ·refine ⟨some ⟨g, 0, none⟩, cap, rfl, lsl_of ⟨hnc, by simp only [maxLen] at hm; omega⟩ (h.lt (g := g) rfl).2 (fun j u hu => ?_) fun x hx => (h.el x hx).1⟩
  have := hh.cells (g := g) rfl j u hu
  rwa [plain_add] at this
end
section
variable {ops : Array Oper} {rest : List Oper} {o : Oper} {a : Act} {Q : Exit → Act → World → Prop}
/-- One loop more at the end of a row of the call's own. -/
theorem app_L {W : World} (base : Nat) (hgd : o.guard = none) (s x : Operand)
  (ho : o.op = .call { callee := .builtin .append, args := #[s, x], argTypes := #[25, 25] })
  (v : Value) (L : List LT) (y : LT) (HO : LpR W base v L) (hy : LsS W y.1 y.2.1 (y.2.2.map tS)) (hyo : ∀ b o q, y.1 = some ⟨b, o, q⟩ → Off v b ∧ b < W.heap.size)
  (hs : a.eval s = v) (hx : a.eval x = .slice (some ⟨W.heap.size, 0, none⟩) 1 1) (hbase : base ≤ W.heap.size) (hl : (L.length + 1) * 24 ≤ 140737488355328)
  (h : ∀ v1 w1, LpR w1 base v1 (L ++ [y]) → W.grownBy w1 v.ownBlock → Below base W w1 → Kp W w1 → wpList Tryz.prog ops Q rest (a.put o.dst v1) w1) :
  wpList Tryz.prog ops Q (o :: rest) a (W.alloc (.cells #[.slice y.1 y.2.2.length y.2.1] 45)) := by
 obtain ⟨i0, hi, hzz⟩ := Option.map_eq_some_iff.1 info_Lp
 simp only [Prod.mk.injEq] at hzz
 obtain ⟨hz0, hz1, hz2⟩ := hzz
 have hba : Below W.heap.size W (W.alloc (.cells #[.slice y.1 y.2.2.length y.2.1] 45)) := below_alloc (Below.refl _ _) _
 have hP2 := HO.own.below hba
 refine wp_append_Q (w := W.alloc (.cells #[.slice y.1 y.2.2.length y.2.1] 45)) hgd s x 25 ho base 45 i0 zLp 1 24 Tryz.underlying25 hi hz0 hz1 hz2 (by rfl) (by omega) nzLp v L.length (ltsC L) hs hP2 ⟨W.heap.size, 0, none⟩ 1 1 [.slice y.1 y.2.2.length y.2.1] hx rfl
  (fun j u hu => by rw [plain_add]; simp only [World.cell?, heap_alloc_new]; simpa using hu) (by simp [Value.oneCell']) ?_ (by omega) (by simp only [maxLen]; omega) hl (by simp; omega) ?_
 ·intro u hu
  simp at hu
  subst hu
  exact fun _ _ h => by cases h
 ·intro v1 w1 hown hg hof
  have hk : Kp W w1 := (Kp.of hba).trans (Kp.grown hg hP2.2 (own_cells hP2.1))
  have hga : W.grownBy (W.alloc (.cells #[.slice y.1 y.2.2.length y.2.1] 45)) v.ownBlock := World.grownBy_alloc _ _ _
  have hG : W.grownBy w1 v.ownBlock := ⟨hg.1.trans hga.1, hg.2.trans hga.2, hg.3.trans hga.3, Nat.le_trans hga.size hg.size, fun i hi hne => (hg.block i (Nat.lt_of_lt_of_le hi hga.size) hne).trans (hga.block i hi hne)⟩
  have hof2 : ∀ b, Off v b ∧ b < W.heap.size → Off v1 b := fun b hb g hgo => by
   rcases hof g hgo with h4 | h4
   ·exact hb.1 g h4
   ·have := hb.2
    simp at h4; omega
  refine h v1 w1 ⟨by rw [ltsC_snoc, List.length_append]; exact hown, fun x hx => ?_⟩ hG (((Below.refl base W).alloc hbase _).grown hg (by simp; omega) (ownsRow_base hP2.1)) hk
  have hE : LsS W x.1 x.2.1 (x.2.2.map tS) ∧ ∀ b o q, x.1 = some ⟨b, o, q⟩ → Off v b ∧ b < W.heap.size := by
   rcases List.mem_append.1 hx with hx | hx
   ·exact HO.el x hx
   ·simp at hx
    subst hx
    exact ⟨hy, hyo⟩
  exact ⟨hE.1.offRow hG fun b o q e e2 => ((hE.2 b o q e).1 b e2) rfl, fun b o q e => ⟨hof2 b (hE.2 b o q e), Nat.lt_of_lt_of_le (hE.2 b o q e).2 hG.size⟩⟩
end
end Go.Proofs.YtibdipfhfaeooaaGreatDoor


set_option linter.unusedVariables false
set_option linter.unusedSimpArgs false
namespace Go.Proofs.YtibdipfhfaeooaaGreatDoor.E
open Go.RowKit

/-- Below, and the draws have not sunk. -/
structure Below (B : Nat) (w w' : World) : Prop extends Go.RowKit.Below B w w' where
 d : w.drawn ≤ w'.drawn
theorem Below.refl (B : Nat) (w : World) : Below B w w := ⟨Go.RowKit.Below.refl B w, Nat.le_refl _⟩
theorem Below.trans {B : Nat} {a b c : World} (h : Below B a b) (k : Below B b c) : Below B a c := ⟨h.toBelow.trans k.toBelow, Nat.le_trans h.d k.d⟩
theorem Below.mono {B B' : Nat} {w w' : World} (h : Below B w w') (hB : B' ≤ B) : Below B' w w' := ⟨h.toBelow.mono hB, h.d⟩
theorem Below.drew {B : Nat} {a w : World} (h : Below B a w) : Below B a w.drew := ⟨h.toBelow.drew, Nat.le_succ_of_le h.d⟩
theorem Below.alloc {B : Nat} {a w : World} (h : Below B a w) (hB : B ≤ w.heap.size) (o : Obj) : Below B a (w.alloc o) := ⟨h.toBelow.alloc hB o, h.d⟩
theorem Below.setCell {B : Nat} {a w : World} (h : Below B a w) {p : Addr} (hp : B ≤ p.block) (u : Value) : Below B a (w.setCell p u) := ⟨h.toBelow.setCell hp u, h.d⟩
theorem below_alloc {w W : World} (h : Below w.heap.size w W) (o : Obj) : Below w.heap.size w (W.alloc o) := h.alloc h.size o
theorem below_drew {B : Nat} {w W : World} (h : Below B w W) : Below B w W.drew := h.drew
theorem below_step {w W W' : World} (h : Below w.heap.size w W) (h' : Below W.heap.size W W') : Below w.heap.size w W' := h.trans (h'.mono h.size)
theorem below_set {w W : World} (h : Below w.heap.size w W) {b off : Nat} (hb : w.heap.size ≤ b) (u : Value) : Below w.heap.size w (W.setCell ⟨b, off, none⟩ u) := h.setCell (p := ⟨b, off, none⟩) hb u
theorem below_set2 {w W : World} (h : Below w.heap.size w W) {b : Nat} (hb : w.heap.size ≤ b) (x y : Value) : Below w.heap.size w ((W.setCell ⟨b, 0, none⟩ x).setCell ⟨b, 1, none⟩ y) := below_set (below_set h hb x) hb y
/-- So the world behind the call is the one ahead, some draws on, with some blocks behind. -/
theorem Below.grow {w w' : World} (h : Below w.heap.size w w') : ∃ q os, w' = Go.Sort.grow (w.drewN q) os := by
 refine ⟨w'.drawn - w.drawn, w'.heap.extract w.heap.size w'.heap.size, ?_⟩
 obtain ⟨⟨h1, h2, h3, h4, h5⟩, h6⟩ := h
 have hh : w'.heap = w.heap ++ w'.heap.extract w.heap.size w'.heap.size := by
  apply Array.ext_getElem?
  intro i
  by_cases hi : i < w.heap.size
  ·rw [h5 i hi, Array.getElem?_append_left hi]
  ·rw [Array.getElem?_append_right (by omega), Array.getElem?_extract]
   by_cases h7 : i < w'.heap.size
   ·rw [if_pos (by omega), show w.heap.size + (i - w.heap.size) = i by omega]
   ·rw [if_neg (by omega), Array.getElem?_eq_none (by omega)]
 cases w' with
 | mk a b c d e =>
  simp only at h1 h2 h3 h6
  unfold Go.Sort.grow World.drewN
  simp only at hh ⊢
  rw [← hh]
  subst h1 h2 h3
  congr 1
  omega
theorem start1 (w : World) (t : TypeId) (W : World) (hW : w.alloc (.cells #[.bool false, .slice none 0 0] t) = W) : Res2 W w.heap.size ∧ W.heap.size = w.heap.size + 1 ∧ Below w.heap.size w W := by
 subst hW
 refine ⟨⟨⟨false, ?_⟩, ⟨none, 0, 0, ?_⟩, ?_, ?_, ?_⟩, ?_, below_alloc (Below.refl _ _) _⟩ <;> simp [go_sem]

theorem start2 (w : World) (na nb : Bool) (sa sb : Value) (t : TypeId) (W : World)
  (hW : ((w.alloc (.cells #[.bool na, sa] t)).alloc (.cells #[.bool nb, sb] t)).alloc (.cells #[.bool false, .slice none 0 0] t) = W) :
  (W.cell? ⟨w.heap.size, 0, none⟩ = some (.bool na) ∧ W.cell? ⟨w.heap.size, 1, none⟩ = some sa ∧ W.cell? ⟨w.heap.size + 1, 0, none⟩ = some (.bool nb) ∧ W.cell? ⟨w.heap.size + 1, 1, none⟩ = some sb ∧ w.heap.size + 1 + 1 < W.heap.size) ∧ Res2 W (w.heap.size + 1 + 1) ∧ Below w.heap.size w W := by
 subst hW
 refine ⟨⟨?_, ?_, ?_, ?_, ?_⟩, ⟨⟨false, ?_⟩, ⟨none, 0, 0, ?_⟩, ?_, ?_, ?_⟩, below_alloc (below_alloc (below_alloc (Below.refl _ _) _) _) _⟩ <;> simp [go_sem]

theorem wOf_c (n : Int) (h : W64 n) (w : World) :
  Calls Tryz.prog 105 #[.int .u64 n] w fun e w' => ∃ v, e = .returned v ∧ IsW w' v n.toNat ∧ Below w.heap.size w w' := by
 have hD : Dg B64 [n] := Dg.cons h.1 h.2 (Dg.nil _)
 have hB := below_alloc (Below.refl w.heap.size w) (.cells #[.int .u64 n] 150)
 have hS : SlI (w.alloc (.cells #[.int .u64 n] 150)) .u64 (some ⟨w.heap.size, 0, none⟩) 1 [n] := by
  have : BlkI (w.alloc (.cells #[.int .u64 n] 150)) w.heap.size 150 .u64 [n] := by
   unfold BlkI; rw [heap_alloc_new]; rfl
  exact this.slI (by simp)
 have e : (V B64 [n]).toNat = n.toNat := by simp [V]
 have hT := wtrim_n _ 1 [n] _ hS hD
 rw [show [n].length = 1 from rfl] at hT
 go_enter Tryz.func105, Tryz.ntmps105
 go_wp2_with fail
 ( (with_reducible refine hT.mono ?_); rintro e w' ⟨v, rfl, hv, rfl⟩)
 go_wp2
 go_ret
 exact ⟨_, rfl, by rw [← e]; exact hv, hB⟩
theorem w10_c (w : World) : Calls Tryz.prog 105 #[.int .u64 10] w fun e w' => ∃ v, e = .returned v ∧ IsW w' v 10 ∧ Below w.heap.size w w' := wOf_c 10 w64_10 w
set_option maxRecDepth 100000 in
set_option maxHeartbeats 4000000 in
theorem Times_c (x y : Nat) (v1 v2 : Value) (w : World) (h1 : IsW w v1 x) (h2 : IsW w v2 y) (sx : (digs B64 x).length ≤ 1000000000) (sy : (digs B64 y).length ≤ 1000000000) :
  Calls Tryz.prog 153 #[v1, v2] w fun e w' => ∃ v, e = .returned v ∧ IsW w' v (x * y) ∧ Below w.heap.size w w' := by
 obtain ⟨A1, c1, rfl, hs1⟩ := h1
 obtain ⟨A2, c2, rfl, hs2⟩ := h2
 have D1 := Lib.hid (digs_dg B64two x)
 have D2 := Lib.hid (digs_dg B64two y)
 have HR : Hid ((V B64 (digs B64 x) * V B64 (digs B64 y)).toNat = x * y) := by
  show _ = _
  rw [digs_V B64two, digs_V B64two, ← Int.natCast_mul]; rfl
 generalize digs B64 x = a at *
 generalize digs B64 y = b at *
 have L1 := Lib.hid hs1
 have L2 := Lib.hid hs2
 clear hs1 hs2
 have hmk := fun W => run_make_row' (P := Tryz.prog) 81 150 (.int .u64 0) 8 Tryz.underlying81 info_u64 rfl .i64 .i64 (a.length + b.length) (by omega) (by omega) W
 rw [show ((a.length + b.length : Nat) : Int) = (a.length : Int) + (b.length : Int) by omega] at hmk
 go_enter Tryz.func153, Tryz.ntmps153
 go_wp2
 clear hmk
 have HG0 := Lib.hid (BlkI.new w 150 .u64 (a.length + b.length))
 have HB0 := Lib.hid (below_alloc (Below.refl w.heap.size w) (Obj.cells (madeCells #[Value.int IntKind.u64 0] (a.length + b.length)) 150))
 go_loopw [22] (fun iv wr => ∃ (i : Nat) (l : List Int), iv = .int .i64 i ∧ Hid (BlkI wr w.heap.size 150 .u64 l) ∧ Below w.heap.size w wr ∧ Hid (WmO a b l i)) (fun iv _ => a.length - (intOf iv).toNat)
 case atStart => exact ⟨0, _, rfl, HG0, HB0.out, WmO.first a b⟩
 case round =>
  obtain ⟨i, l, rfl, HG, HB, HI⟩ := hrel
  clear HG0 HB0
  obtain ⟨i1, i2, i3, i4, i5⟩ := HI.out
  have i2 := Lib.hid i2
  clear i3 i5
  by_cases hi : i < a.length
  ·clear i1 i2
   obtain ⟨ba, oa, rfl, hla, hca⟩ := (L1.out.below HB.toBelow).cell (j := i) hi
   obtain ⟨x1, hx1⟩ : ∃ x1, gd a i = x1 := ⟨_, rfl⟩
   rw [hx1] at hca
   have HX := Lib.hid hx1
   clear hx1
   go_wp2
   clear hca hla
   obtain ⟨wo, rfl⟩ : ∃ wo : World, wo = wr := ⟨_, rfl⟩
   go_loopw [8, 29] (fun cv kv wq => ∃ (k : Nat) (cy : Int) (l : List Int), kv = .int .i64 k ∧ cv = .int .u64 cy ∧ Hid (BlkI wq w.heap.size 150 .u64 l) ∧ Below w.heap.size w wq ∧ Hid (WmI a b l i k cy)) (fun _ kv _ => b.length - (intOf kv).toNat)
   case atStart => exact ⟨0, 0, l, rfl, rfl, HG, HB, WmI.first HI.out hi⟩
   case round =>
    clear HG HB HI
    obtain ⟨k, cy, l, rfl, rfl, HG, HB, HI⟩ := hrel
    obtain ⟨j1, j2, j3, j5, j6, j7, j8⟩ := HI.out
    have J1 := Lib.hid j1
    clear j5 j8
    by_cases hk : k < b.length
    ·obtain ⟨hi', lo, l1, c1', h1', l2, c2', cy', P⟩ := wpl (gdW D1.out i) (gdW D2.out k) j3 (gdW j2 (i + k))
     have HST := Lib.hid (HI.out.step hk P.sum P.l2r P.cyr)
     rw [HX.out] at P
     have q1 := HG.out.cell (j := i + k) (by omega)
     have q2 := HG.out.frozen (i + k)
     obtain ⟨bb, ob, rfl, hlb, hcb⟩ := (L2.out.below HB.toBelow).cell (j := k) hk
     have W1 : W64 x1 := HX.out ▸ gdW D1.out i
     have W2 := gdW D2.out k
     have o0 := (gdW j2 (i + k)).1
     generalize gd b k = y1 at *
     generalize gd l (i + k) = o at *
     have hM := fun W => Mul64_c x1 y1 W1 W2 W
     rw [P.m1, P.m2] at hM
     have hA := fun W => add64_0 lo cy P.lo0 j3.1 W
     rw [P.s1, P.s2] at hA
     have hC := fun W => add64_0 o l1 o0 P.l10 W
     rw [P.s3, P.s4] at hC
     have w1 := P.w1
     have w2 := P.w2
     have hik : i + k < a.length + b.length := by omega
     clear P j2 j3 HI W1 W2 o0 j1
     go_wp2_with (first | (go_at_call 178; (with_reducible refine (hM _).mono ?_); rintro e w' ⟨rfl, rfl⟩) | simp only [hA, hC])
     go_roundw
     case rel => exact ⟨k + 1, _, _, by go_num, rfl, HG.out.set _ _, HB.setCell (p := ⟨_, _, none⟩) (Nat.le_refl _) _, HST.out⟩
     case measure => simp [intOf]; omega
    ·obtain rfl : k = b.length := by omega
     have HST := Lib.hid HI.out.last
     clear HI j2 j3
     have q1 := HG.out.cell (j := i + b.length) (by omega)
     have q2 := HG.out.frozen (i + b.length)
     clear j1
     go_wp2
     go_roundw
     case rel => exact ⟨i + 1, _, by go_num, HG.out.set _ _, HB.setCell (p := ⟨_, _, none⟩) (Nat.le_refl _) _, HST.out⟩
     case measure => simp [intOf]; omega
  ·have HE := Lib.hid (HI.out.last (by omega))
   have HL := Lib.hid (HG.out.slI (by omega))
   have hll : a.length + b.length = l.length := i1.symm
   clear HI i1
   have hT := wtrim_n _ _ l _ HL.out i2.out
   rw [← hll] at hT
   have HT := Lib.hid hT
   clear hll hT
   go_wp2_with fail
   have hT := HT.out
   (with_reducible refine hT.mono ?_)
   rintro e w' ⟨v, rfl, hv, rfl⟩
   rw [HE.out, HR.out] at hv
   clear hT
   go_wp2
   go_ret
   exact ⟨_, rfl, hv, HB⟩
set_option maxRecDepth 100000 in
set_option maxHeartbeats 4000000 in
theorem Plus_c (x y : Nat) (v1 v2 : Value) (w : World) (h1 : IsW w v1 x) (h2 : IsW w v2 y) (sx : (digs B64 x).length ≤ 1000000000) (sy : (digs B64 y).length ≤ 1000000000) :
  Calls Tryz.prog 154 #[v1, v2] w fun e w' => ∃ v, e = .returned v ∧ IsW w' v (x + y) ∧ Below w.heap.size w w' := by
 obtain ⟨A1, c1, rfl, hs1⟩ := h1
 obtain ⟨A2, c2, rfl, hs2⟩ := h2
 have D1 := Lib.hid (digs_dg B64two x)
 have D2 := Lib.hid (digs_dg B64two y)
 have HR : Hid ((V B64 (digs B64 x) + V B64 (digs B64 y)).toNat = x + y) := by
  show _ = _
  rw [digs_V B64two, digs_V B64two, ← Int.natCast_add]; rfl
 generalize digs B64 x = a at *
 generalize digs B64 y = b at *
 have L1 := Lib.hid hs1
 have L2 := Lib.hid hs2
 clear hs1 hs2
 obtain ⟨m, hm⟩ : ∃ m : Nat, max (a.length : Int) b.length = m := ⟨max a.length b.length, by omega⟩
 have la : a.length ≤ m := by omega
 have lb : b.length ≤ m := by omega
 have lm : m ≤ 1000000000 := by omega
 have hmk := fun W => run_make_row' (P := Tryz.prog) 81 150 (.int .u64 0) 8 Tryz.underlying81 info_u64 rfl .i64 .i64 (m + 1) (by omega) (by omega) W
 rw [show ((m + 1 : Nat) : Int) = (m : Int) + 1 by omega] at hmk
 go_enter Tryz.func154, Tryz.ntmps154
 go_wp2
 clear hmk hm
 have HG0 := Lib.hid (BlkI.new w 150 .u64 (m + 1))
 have HB0 := Lib.hid (below_alloc (Below.refl w.heap.size w) (Obj.cells (madeCells #[Value.int IntKind.u64 0] (m + 1)) 150))
 go_loopw [6, 17] (fun cv iv wr => ∃ (i : Nat) (cy : Int) (l : List Int), iv = .int .i64 i ∧ cv = .int .u64 cy ∧ Hid (BlkI wr w.heap.size 150 .u64 l) ∧ Below w.heap.size w wr ∧ Hid (WpI a b l (m + 1) i cy)) (fun _ iv _ => (m + 1) - (intOf iv).toNat)
 case atStart => exact ⟨0, 0, _, rfl, rfl, HG0, HB0.out, WpI.first a b _⟩
 case round =>
  obtain ⟨i, cy, l, rfl, rfl, HG, HB, HI⟩ := hrel
  clear HG0 HB0
  obtain ⟨i1, i2, i3, i4, i5, i6, i7⟩ := HI.out
  have I2 := Lib.hid i2
  have I1 := Lib.hid i1
  clear i5 i7 i2
  by_cases hi : i < m + 1
  ·have x1 := gdW D1.out i
   have x2 := gdW D2.out i
   have q1 := HG.out.cell (j := i) (by omega)
   have q2 := HG.out.frozen i
   have HA := Lib.hid (at_c A1 c1 a i wr (L1.out.below HB.toBelow))
   have HC := Lib.hid (at_c A2 c2 b i wr (L2.out.below HB.toBelow))
   have HST := Lib.hid (fun m q => HI.out.step (m := m) (q := q) hi)
   generalize gd a i = x at *
   generalize gd b i = y at *
   obtain ⟨s, hs⟩ : ∃ s, (x + y + cy) % 18446744073709551616 = s := ⟨_, rfl⟩
   obtain ⟨q, hq⟩ : ∃ q, (x + y + cy) / 18446744073709551616 = q := ⟨_, rfl⟩
   have hS := fun W => add64 x y cy x1.1 x2.1 i3 i4 W
   rw [hs, hq] at hS
   have x1' := x1.1; have x1'' := x1.2; have x2' := x2.1; have x2'' := x2.2
   replace HST := Lib.hid (HST.out s q (by omega) ⟨by omega, by omega⟩ (by omega))
   clear x1 x2 hs hq HI
   go_wp2_with (first
    | (go_at_call 180; (first | (with_reducible refine HA.out.mono ?_) | (with_reducible refine HC.out.mono ?_)); rintro e w' ⟨rfl, hw⟩; rw [hw]; clear hw w')
    | simp only [hS])
   go_roundw
   case rel => exact ⟨i + 1, _, _, by go_num, rfl, HG.out.set _ _, HB.setCell (p := ⟨_, _, none⟩) (Nat.le_refl _) _, HST.out⟩
   case measure => simp [intOf]; omega
  ·obtain rfl : i = m + 1 := by omega
   have HE := Lib.hid (HI.out.last D1.out D2.out la lb)
   have HL := Lib.hid (HG.out.slI (by omega))
   have hT := wtrim_n _ _ l _ HL.out I2.out
   rw [i1] at hT
   have HT := Lib.hid hT
   clear hT HI i1
   go_wp2_with fail
   (with_reducible refine HT.out.mono ?_)
   rintro e w' ⟨v, rfl, hv, rfl⟩
   rw [HE.out, HR.out] at hv
   go_wp2
   go_ret
   exact ⟨_, rfl, hv, HB⟩
end Go.Proofs.YtibdipfhfaeooaaGreatDoor.E


set_option linter.unusedVariables false
set_option linter.unusedSimpArgs false
namespace Go.Proofs.YtibdipfhfaeooaaGreatDoor.E
open Go.RowKit

set_option maxRecDepth 100000 in
set_option maxHeartbeats 4000000 in
theorem wMinus_c (x y : Nat) (v1 v2 : Value) (w : World) (h1 : IsW w v1 x) (h2 : IsW w v2 y) (sx : (digs B64 x).length ≤ 1000000000) (hxy : y ≤ x) :
  Calls Tryz.prog 162 #[v1, v2] w fun e w' => ∃ v, e = .returned v ∧ IsW w' v (x - y) ∧ Below w.heap.size w w' := by
 obtain ⟨A1, c1, rfl, hs1⟩ := h1
 obtain ⟨A2, c2, rfl, hs2⟩ := h2
 have D1 := Lib.hid (digs_dg B64two x)
 have D2 := Lib.hid (digs_dg B64two y)
 have lab : (digs B64 y).length ≤ (digs B64 x).length := digs_len_mono B64two hxy
 have HLE : Hid (V B64 (digs B64 y) ≤ V B64 (digs B64 x)) := by show _ ≤ _; rw [digs_V B64two, digs_V B64two]; omega
 have HR : Hid ((V B64 (digs B64 x) - V B64 (digs B64 y)).toNat = x - y) := by
  show _ = _
  rw [digs_V B64two, digs_V B64two]; omega
 generalize digs B64 x = a at *
 generalize digs B64 y = b at *
 have L1 := Lib.hid hs1
 have L2 := Lib.hid hs2
 clear hs1 hs2 hxy
 have hmk := fun W => run_make_row' (P := Tryz.prog) 81 150 (.int .u64 0) 8 Tryz.underlying81 info_u64 rfl .i64 .i64 a.length (by omega) (by omega) W
 go_enter Tryz.func162, Tryz.ntmps162
 go_wp2
 clear hmk
 have HG0 := Lib.hid (BlkI.new w 150 .u64 a.length)
 have HB0 := Lib.hid (below_alloc (Below.refl w.heap.size w) (Obj.cells (madeCells #[Value.int IntKind.u64 0] a.length) 150))
 go_loopw [6, 13] (fun cv iv wr => ∃ (i : Nat) (cy : Int) (l : List Int), iv = .int .i64 i ∧ cv = .int .u64 cy ∧ Hid (BlkI wr w.heap.size 150 .u64 l) ∧ Below w.heap.size w wr ∧ Hid (WsI a b l i cy)) (fun _ iv _ => a.length - (intOf iv).toNat)
 case atStart => exact ⟨0, 0, _, rfl, rfl, HG0, HB0.out, WsI.first a b⟩
 case round =>
  obtain ⟨i, cy, l, rfl, rfl, HG, HB, HI⟩ := hrel
  clear HG0 HB0
  obtain ⟨i1, i2, i3, i4, i5, i6, i7⟩ := HI.out
  have I2 := Lib.hid i2
  clear i5 i7 i2
  by_cases hi : i < a.length
  ·have x1 := gdW D1.out i
   have x2 := gdW D2.out i
   have q1 := HG.out.cell (j := i) (by omega)
   have q2 := HG.out.frozen i
   obtain ⟨ba, oa, rfl, hla, hca⟩ := (L1.out.below HB.toBelow).cell (j := i) hi
   obtain ⟨_, _, he, hla2, _⟩ := L1.out.cell (j := i) hi
   obtain ⟨rfl, rfl⟩ : ba = _ ∧ oa = _ := by simpa using he
   clear he
   have hne : ba ≠ w.heap.size := by omega
   have HC := Lib.hid (at_c A2 c2 b i wr.drew (L2.out.below (below_drew HB).toBelow))
   have HST := Lib.hid (fun m q => HI.out.step (m := m) (q := q) hi)
   generalize gd a i = x at *
   generalize gd b i = y at *
   have hb := bor_eq x1 x2 ⟨i3, i4⟩
   have hb1 := bor_01 x (y + cy)
   obtain ⟨s, hs⟩ : ∃ s, (x - y - cy) % 18446744073709551616 = s := ⟨_, rfl⟩
   obtain ⟨q, hq⟩ : ∃ q, bor x (y + cy) = q := ⟨_, rfl⟩
   have hS := fun W => sub64 x y cy x1.1 x2.1 x2.2 i3 i4 W
   rw [hs, hq] at hS
   rw [hs, hq] at hb
   rw [hq] at hb1
   replace HST := Lib.hid (HST.out s q hb ⟨by omega, by omega⟩ (by omega))
   clear x1 x2 hs hq HI hb hb1
   go_wp2
   go_region_held3 (fun w' => w'.cell? ⟨ba, oa + i, none⟩ = some (.int .u64 x))
    (first | exact hca | exact cell_set_ne hca hne)
    (first
     | (go_at_call 180; (with_reducible refine HC.out.mono ?_); rintro e w' ⟨rfl, hw⟩; rw [hw]; clear hw w')
     | simp only [hS])
   go_wp2
   go_roundw
   case rel => exact ⟨i + 1, _, _, by go_num, rfl, HG.out.drew.set _ _, (below_drew HB).setCell (p := ⟨_, _, none⟩) (Nat.le_refl _) _, HST.out⟩
   case measure => simp [intOf]; omega
  ·obtain rfl : i = a.length := by omega
   have HE := Lib.hid (HI.out.last D1.out D2.out lab HLE.out)
   have HL := Lib.hid (HG.out.slI (by omega))
   have hT := wtrim_n _ _ l _ HL.out I2.out
   rw [i1] at hT
   have HT := Lib.hid hT
   clear hT HI i1
   go_wp2_with fail
   (with_reducible refine HT.out.mono ?_)
   rintro e w' ⟨v, rfl, hv, rfl⟩
   rw [HE.out, HR.out] at hv
   go_wp2
   go_ret
   exact ⟨_, rfl, hv, HB⟩

set_option maxRecDepth 100000 in
set_option maxHeartbeats 4000000 in
theorem Read_c (s : ByteArray) (w : World) (hd : ∀ c ∈ codes s, 48 ≤ c ∧ c ≤ 57) (hs : s.size ≤ 900000000) :
  Calls Tryz.prog 120 #[.string s] w fun e w' => ∃ v, e = .returned v ∧ IsW w' v (dv (codes s)).toNat ∧ Below w.heap.size w w' := by
 have HL := Lib.hid (codes_length s)
 have HD := Lib.hid hd
 clear hd
 go_enter Tryz.func120, Tryz.ntmps120
 go_wp2
 go_loopw [3, 7] (fun ov iv wr => ∃ (k : Nat) (A : Option Addr) (m c : Nat), iv = .int .i64 k ∧ ov = .slice A m c ∧ k ≤ s.size ∧ Hid (IsW wr (.slice A m c) (pv (codes s) k)) ∧ Below w.heap.size w wr) (fun _ iv _ => s.size - (intOf iv).toNat)
 case atStart => exact ⟨0, none, 0, 0, rfl, rfl, by omega, ⟨none, 0, by rw [pv_zero, digs_zero]; rfl, by rw [pv_zero, digs_zero]; exact ⟨Rd.nil, by simp, by omega⟩⟩, Below.refl _ _⟩
 case round =>
  obtain ⟨k, A, m, c, rfl, rfl, hk, H, HB⟩ := hrel
  by_cases hk1 : k < s.size
  ·have hxk : ∀ h : k < s.size, ((s[k]'h).toNat : Int) = gd (codes s) k := fun h => codes_gd h
   have HST := Lib.hid (pv_step HD.out (k := k) (by rw [HL.out]; exact hk1))
   have HLen := Lib.hid (pv_len HD.out (k := k) (by rw [HL.out]; exact hk))
   have hg := HD.out _ (List.getElem_mem (show k < (codes s).length by rw [HL.out]; exact hk1))
   rw [← gd_lt] at hg
   obtain ⟨hg1, hg2⟩ := hg
   have hW : W64 (gd (codes s) k - 48) := ⟨by omega, by omega⟩
   generalize gd (codes s) k = d at *
   obtain ⟨n, hn⟩ : ∃ n, pv (codes s) k = n := ⟨_, rfl⟩
   rw [hn] at H HST HLen
   have hS1 : (digs B64 (n * 10)).length ≤ 1000000000 := by have := nlen_mul B64two n 10; have := ten_len; have := HLen.out; omega
   have hS2 : (digs B64 (d - 48).toNat).length ≤ 1000000000 := Nat.le_trans (small_len (by omega)) (by omega)
   clear hn
   go_wp2
   have e1 : IntKind.u8.wrap (d - 48) = d - 48 := by rw [IntKind.wrap_u8]; omega
   have e2 : IntKind.u64.wrap (d - 48) = d - 48 := wrap64 (by omega) (by omega)
   go_region_held3 (fun _ => True) (trivial) (first
    | (go_at_call 105; (first | ((with_reducible refine (w10_c _).mono ?_); rintro e w1 ⟨v1, rfl, hv, hb1⟩; obtain ⟨A1, m1, c1, rfl, T1⟩ := hv.form; clear hv) | ((with_reducible refine (wOf_c (d - 48) hW _).mono ?_); rintro e w3 ⟨v1, rfl, hv, hb3⟩; obtain ⟨A3, m3, c3, rfl, T3⟩ := hv.form; clear hv)))
    | (go_at_call 153; (with_reducible refine (Times_c n 10 _ _ _ (by exact H.out.below (Below.toBelow (by repeat (with_reducible first | assumption | exact Below.refl _ _ | apply below_drew | apply below_drewN | apply below_alloc | refine below_step ?_ (by assumption))))) (by exact T1.out.below (Below.toBelow (by repeat (with_reducible first | assumption | exact Below.refl _ _ | apply below_drew | apply below_drewN | apply below_alloc | refine below_step ?_ (by assumption))))) (by have := HLen.out; omega) (by have := ten_len; omega)).mono ?_); rintro e w2 ⟨v1, rfl, hv, hb2⟩; obtain ⟨A2, m2, c2, rfl, T2⟩ := hv.form; clear hv)
    | (go_at_call 154; (with_reducible refine (Plus_c (n * 10) (d - 48).toNat _ _ _ (by exact T2.out.below (Below.toBelow (by repeat (with_reducible first | assumption | exact Below.refl _ _ | apply below_drew | apply below_drewN | apply below_alloc | refine below_step ?_ (by assumption))))) (by exact T3.out.below (Below.toBelow (by repeat (with_reducible first | assumption | exact Below.refl _ _ | apply below_drew | apply below_drewN | apply below_alloc | refine below_step ?_ (by assumption))))) hS1 hS2).mono ?_); rintro e w4 ⟨v1, rfl, hv, hb4⟩; obtain ⟨A4, m4, c4, rfl, T4⟩ := hv.form; clear hv))
   all_goals
    go_wp2
    go_roundw
    case rel => exact ⟨k + 1, A4, m4, c4, by go_num, rfl, by omega, by rw [HST.out]; exact T4, by exact HB.trans (Below.mono (B := wr.heap.size) (by exact (show Below wr.heap.size wr w4 by exact (by repeat (with_reducible first | assumption | exact Below.refl _ _ | apply below_drew | refine below_step ?_ (by assumption))))) HB.size)⟩
    case measure => simp [intOf]; omega
  ·obtain rfl : k = s.size := by omega
   have HE : Hid (pv (codes s) s.size = (dv (codes s)).toNat) := by show _ = _; unfold pv; rw [← HL.out, List.take_of_length_le (Nat.le_refl _)]
   go_wp2
   go_ret
   exact ⟨_, rfl, by rw [← HE.out]; exact H.out, HB⟩
set_option maxRecDepth 100000 in
set_option maxHeartbeats 4000000 in
theorem made_c (neg : Bool) (A : Option Addr) (m c n : Nat) (w : World) (h : IsW w (.slice A m c) n) :
  Calls Tryz.prog 104 #[.bool neg, .slice A m c] w fun e w' => ∃ v, e = .returned v ∧ IsI w' v (sgnd neg n) ∧ Below w.heap.size w w' := by
 have HI := Lib.hid (isI_of neg h)
 have hB : Below w.heap.size w w := Below.refl _ _
 have hb : (decide ((0 : Int) < (m : Int))) = decide (0 < m) := decide_eq_decide.2 (by omega)
 cases neg
 ·go_enter Tryz.func104, Tryz.ntmps104
  go_wp2
  refine bodyPost_ret (v := .agg #[.bool (false && decide (0 < m)), .slice A m c]) (by simp [results, Tryz.results104, go_sem]) rfl ⟨_, rfl, HI.out.below (below_alloc hB _).toBelow, below_alloc hB _⟩
 ·go_enter Tryz.func104, Tryz.ntmps104
  go_wp2
  refine bodyPost_ret (v := .agg #[.bool (true && decide (0 < m)), .slice A m c]) (by simp [results, Tryz.results104, go_sem]) rfl ⟨_, rfl, HI.out.below (below_alloc hB _).toBelow, below_alloc hB _⟩

end Go.Proofs.YtibdipfhfaeooaaGreatDoor.E


set_option linter.unusedVariables false
set_option linter.unusedSimpArgs false
namespace Go.Proofs.YtibdipfhfaeooaaGreatDoor.E
open Go.RowKit

set_option maxRecDepth 100000 in
set_option maxHeartbeats 4000000 in
theorem wPlus_c (x y : Int) (v1 v2 : Value) (w : World) (h1 : IsI w v1 x) (h2 : IsI w v2 y) (sx : (dg B64 x).length ≤ 1000000000) (sy : (dg B64 y).length ≤ 1000000000) :
  Calls Tryz.prog 138 #[v1, v2] w fun e w' => ∃ v, e = .returned v ∧ IsI w' v (x + y) ∧ Below w.heap.size w w' := by
 obtain ⟨na, A1, n1, c1, rfl, H1⟩ := h1.form
 obtain ⟨nb, A2, n2, c2, rfl, H2⟩ := h2.form
 clear h1 h2
 obtain ⟨p1, p2, _⟩ := isI_size H1.out
 obtain ⟨q1, q2, _⟩ := isI_size H2.out
 have S1 := Lib.hid p1
 have S2 := Lib.hid q1
 clear p1 q1 H1 H2
 unfold dg at sx sy
 obtain ⟨z1, hz1⟩ : ∃ z1, x.natAbs = z1 := ⟨_, rfl⟩
 obtain ⟨z2, hz2⟩ : ∃ z2, y.natAbs = z2 := ⟨_, rfl⟩
 rw [hz1] at sx S1
 rw [hz2] at sy S2
 have HX : Hid (x = sgnd na z1) := by show _ = _; unfold sgnd; rw [p2]; split <;> rename_i h <;> simp at h <;> omega
 have HY : Hid (y = sgnd nb z2) := by show _ = _; unfold sgnd; rw [q2]; split <;> rename_i h <;> simp at h <;> omega
 clear p2 q2 hz1 hz2
 cases na <;> cases nb
 ·have HE : Hid (sgnd false ((z1 + z2 : Nat) : Int) = x + y) := by show _ = _; rw [HX.out, HY.out]; unfold sgnd; (try simp) <;> (try omega)
  go_enter Tryz.func138, Tryz.ntmps138
  go_wp2_with fail
  generalize hW : ((w.alloc (Obj.cells #[Value.bool _, Value.slice A1 n1 c1] 83)).alloc _).alloc _ = W
  obtain ⟨hS, HR2, HBW⟩ := start2 w _ _ _ _ _ W hW
  clear hW
  have K1 := Lib.hid (S1.out.below HBW.toBelow)
  have K2 := Lib.hid (S2.out.below HBW.toBelow)
  go_region_held3 (fun w' => w'.cell? ⟨w.heap.size, 0, none⟩ = some (.bool false) ∧ w'.cell? ⟨w.heap.size, 1, none⟩ = some (.slice A1 n1 c1) ∧ w'.cell? ⟨w.heap.size + 1, 0, none⟩ = some (.bool false) ∧ w'.cell? ⟨w.heap.size + 1, 1, none⟩ = some (.slice A2 n2 c2) ∧ w.heap.size + 1 + 1 < w'.heap.size)
   (first | exact hS | exact keep2 hb1.toBelow hS | exact keep2 hb2.toBelow (keep2 hb1.toBelow hS) | exact keep2s (keep2s (keep2 hb2.toBelow (keep2 hb1.toBelow hS))))
   (first
    | (go_at_call 154; (with_reducible refine (Plus_c z1 z2 _ _ _ (by exact K1.out.below (Below.toBelow (by repeat (with_reducible first | assumption | exact Below.refl _ _ | apply below_drew | apply below_drewN | apply below_alloc | refine below_step ?_ (by assumption))))) (by exact K2.out.below (Below.toBelow (by repeat (with_reducible first | assumption | exact Below.refl _ _ | apply below_drew | apply below_drewN | apply below_alloc | refine below_step ?_ (by assumption))))) sx sy).mono ?_); rintro e w1 ⟨v, rfl, hv, hb1⟩; obtain ⟨A3, m3, k3, rfl, T3⟩ := hv.form; clear hv)
    | (go_at_call 104; (with_reducible refine (made_c false A3 m3 k3 _ _ (by exact T3.out.below (Below.toBelow (by repeat (with_reducible first | assumption | exact Below.refl _ _ | apply below_drew | apply below_drewN | apply below_alloc | refine below_step ?_ (by assumption)))))).mono ?_); rintro e w2 ⟨v, rfl, hv, hb2⟩; obtain ⟨n4, A4, m4, k4, rfl, H4⟩ := hv.form; clear hv; have HR4 := Lib.hid ((HR2.drew.keep hb1.toBelow).keep hb2.toBelow); obtain ⟨⟨u1, r1⟩, ⟨u2, u3, u4, r2⟩, r3, r4, r5⟩ := HR4.out))
  go_wp2
  refine bodyPost_ret (v := .agg #[.bool n4, .slice A4 m4 k4]) (by simp [results, Tryz.results138, go_sem, r1, r2, r5]) rfl ⟨_, rfl, ?_, ?_⟩
  ·have := H4.out
   rw [HE.out] at this
   exact this.res2 HR4.out _ _
  ·exact below_set (below_set (below_step (below_step (below_drew HBW) hb1) hb2) (by omega) _) (by omega) _
 ·by_cases hlt : z1 < z2
  ·have hq : icmp (z1 : Int) (z2 : Int) < 0 := by unfold icmp; rw [if_pos (by omega)]; omega
   have HLT := Lib.hid hlt
   clear hlt
   have HE : Hid (sgnd true ((z2 - z1 : Nat) : Int) = x + y) := by show _ = _; have := HLT.out; rw [HX.out, HY.out]; unfold sgnd; (try simp) <;> (try omega)
   go_enter Tryz.func138, Tryz.ntmps138
   go_wp2_with fail
   generalize hW : ((w.alloc (Obj.cells #[Value.bool _, Value.slice A1 n1 c1] 83)).alloc _).alloc _ = W
   obtain ⟨hS, HR2, HBW⟩ := start2 w _ _ _ _ _ W hW
   clear hW
   have K1 := Lib.hid (S1.out.below HBW.toBelow)
   have K2 := Lib.hid (S2.out.below HBW.toBelow)
   (with_reducible refine (Compare_c z1 z2 _ _ _ K1.out K2.out).mono ?_)
   rintro e w0 ⟨rfl, hw0⟩
   subst hw0
   go_wp2
   go_region_held3 (fun w' => w'.cell? ⟨w.heap.size, 0, none⟩ = some (.bool false) ∧ w'.cell? ⟨w.heap.size, 1, none⟩ = some (.slice A1 n1 c1) ∧ w'.cell? ⟨w.heap.size + 1, 0, none⟩ = some (.bool true) ∧ w'.cell? ⟨w.heap.size + 1, 1, none⟩ = some (.slice A2 n2 c2) ∧ w.heap.size + 1 + 1 < w'.heap.size)
    (first | exact hS | exact keep2 hb1.toBelow hS | exact keep2 hb2.toBelow (keep2 hb1.toBelow hS) | exact keep2s (keep2s (keep2 hb2.toBelow (keep2 hb1.toBelow hS))))
    (first
     | (go_at_call 162; (with_reducible refine (wMinus_c z2 z1 _ _ _ (by exact K2.out.below (Below.toBelow (by repeat (with_reducible first | assumption | exact Below.refl _ _ | apply below_drew | apply below_drewN | apply below_alloc | refine below_step ?_ (by assumption))))) (by exact K1.out.below (Below.toBelow (by repeat (with_reducible first | assumption | exact Below.refl _ _ | apply below_drew | apply below_drewN | apply below_alloc | refine below_step ?_ (by assumption))))) sy (by have := HLT.out; omega)).mono ?_); rintro e w1 ⟨v, rfl, hv, hb1⟩; obtain ⟨A3, m3, k3, rfl, T3⟩ := hv.form; clear hv)
     | (go_at_call 104; (with_reducible refine (made_c true A3 m3 k3 _ _ (by exact T3.out.below (Below.toBelow (by repeat (with_reducible first | assumption | exact Below.refl _ _ | apply below_drew | apply below_drewN | apply below_alloc | refine below_step ?_ (by assumption)))))).mono ?_); rintro e w2 ⟨v, rfl, hv, hb2⟩; obtain ⟨n4, A4, m4, k4, rfl, H4⟩ := hv.form; clear hv; have HR4 := Lib.hid ((HR2.drew.keep hb1.toBelow).keep hb2.toBelow); obtain ⟨⟨u1, r1⟩, ⟨u2, u3, u4, r2⟩, r3, r4, r5⟩ := HR4.out))
   go_wp2
   refine bodyPost_ret (v := .agg #[.bool n4, .slice A4 m4 k4]) (by simp [results, Tryz.results138, go_sem, r1, r2, r5]) rfl ⟨_, rfl, ?_, ?_⟩
   ·have := H4.out
    rw [HE.out] at this
    exact this.res2 HR4.out _ _
   ·exact below_set (below_set (below_step (below_step (below_drew HBW) hb1) hb2) (by omega) _) (by omega) _
  ·have hq : 0 ≤ icmp (z1 : Int) (z2 : Int) := by unfold icmp; rw [if_neg (by omega)]; split <;> omega
   have HLT := Lib.hid hlt
   clear hlt
   have HE : Hid (sgnd false ((z1 - z2 : Nat) : Int) = x + y) := by show _ = _; have := HLT.out; rw [HX.out, HY.out]; unfold sgnd; (try simp) <;> (try omega)
   go_enter Tryz.func138, Tryz.ntmps138
   go_wp2_with fail
   generalize hW : ((w.alloc (Obj.cells #[Value.bool _, Value.slice A1 n1 c1] 83)).alloc _).alloc _ = W
   obtain ⟨hS, HR2, HBW⟩ := start2 w _ _ _ _ _ W hW
   clear hW
   have K1 := Lib.hid (S1.out.below HBW.toBelow)
   have K2 := Lib.hid (S2.out.below HBW.toBelow)
   (with_reducible refine (Compare_c z1 z2 _ _ _ K1.out K2.out).mono ?_)
   rintro e w0 ⟨rfl, hw0⟩
   subst hw0
   go_wp2
   go_region_held3 (fun w' => w'.cell? ⟨w.heap.size, 0, none⟩ = some (.bool false) ∧ w'.cell? ⟨w.heap.size, 1, none⟩ = some (.slice A1 n1 c1) ∧ w'.cell? ⟨w.heap.size + 1, 0, none⟩ = some (.bool true) ∧ w'.cell? ⟨w.heap.size + 1, 1, none⟩ = some (.slice A2 n2 c2) ∧ w.heap.size + 1 + 1 < w'.heap.size)
    (first | exact hS | exact keep2 hb1.toBelow hS | exact keep2 hb2.toBelow (keep2 hb1.toBelow hS) | exact keep2s (keep2s (keep2 hb2.toBelow (keep2 hb1.toBelow hS))))
    (first
     | (go_at_call 162; (with_reducible refine (wMinus_c z1 z2 _ _ _ (by exact K1.out.below (Below.toBelow (by repeat (with_reducible first | assumption | exact Below.refl _ _ | apply below_drew | apply below_drewN | apply below_alloc | refine below_step ?_ (by assumption))))) (by exact K2.out.below (Below.toBelow (by repeat (with_reducible first | assumption | exact Below.refl _ _ | apply below_drew | apply below_drewN | apply below_alloc | refine below_step ?_ (by assumption))))) sx (by have := HLT.out; omega)).mono ?_); rintro e w1 ⟨v, rfl, hv, hb1⟩; obtain ⟨A3, m3, k3, rfl, T3⟩ := hv.form; clear hv)
     | (go_at_call 104; (with_reducible refine (made_c false A3 m3 k3 _ _ (by exact T3.out.below (Below.toBelow (by repeat (with_reducible first | assumption | exact Below.refl _ _ | apply below_drew | apply below_drewN | apply below_alloc | refine below_step ?_ (by assumption)))))).mono ?_); rintro e w2 ⟨v, rfl, hv, hb2⟩; obtain ⟨n4, A4, m4, k4, rfl, H4⟩ := hv.form; clear hv; have HR4 := Lib.hid ((HR2.drew.keep hb1.toBelow).keep hb2.toBelow); obtain ⟨⟨u1, r1⟩, ⟨u2, u3, u4, r2⟩, r3, r4, r5⟩ := HR4.out))
   go_wp2
   refine bodyPost_ret (v := .agg #[.bool n4, .slice A4 m4 k4]) (by simp [results, Tryz.results138, go_sem, r1, r2, r5]) rfl ⟨_, rfl, ?_, ?_⟩
   ·have := H4.out
    rw [HE.out] at this
    exact this.res2 HR4.out _ _
   ·exact below_set (below_set (below_step (below_step (below_drew HBW) hb1) hb2) (by omega) _) (by omega) _
 ·by_cases hlt : z1 < z2
  ·have hq : icmp (z1 : Int) (z2 : Int) < 0 := by unfold icmp; rw [if_pos (by omega)]; omega
   have HLT := Lib.hid hlt
   clear hlt
   have HE : Hid (sgnd false ((z2 - z1 : Nat) : Int) = x + y) := by show _ = _; have := HLT.out; rw [HX.out, HY.out]; unfold sgnd; (try simp) <;> (try omega)
   go_enter Tryz.func138, Tryz.ntmps138
   go_wp2_with fail
   generalize hW : ((w.alloc (Obj.cells #[Value.bool _, Value.slice A1 n1 c1] 83)).alloc _).alloc _ = W
   obtain ⟨hS, HR2, HBW⟩ := start2 w _ _ _ _ _ W hW
   clear hW
   have K1 := Lib.hid (S1.out.below HBW.toBelow)
   have K2 := Lib.hid (S2.out.below HBW.toBelow)
   (with_reducible refine (Compare_c z1 z2 _ _ _ K1.out K2.out).mono ?_)
   rintro e w0 ⟨rfl, hw0⟩
   subst hw0
   go_wp2
   go_region_held3 (fun w' => w'.cell? ⟨w.heap.size, 0, none⟩ = some (.bool true) ∧ w'.cell? ⟨w.heap.size, 1, none⟩ = some (.slice A1 n1 c1) ∧ w'.cell? ⟨w.heap.size + 1, 0, none⟩ = some (.bool false) ∧ w'.cell? ⟨w.heap.size + 1, 1, none⟩ = some (.slice A2 n2 c2) ∧ w.heap.size + 1 + 1 < w'.heap.size)
    (first | exact hS | exact keep2 hb1.toBelow hS | exact keep2 hb2.toBelow (keep2 hb1.toBelow hS) | exact keep2s (keep2s (keep2 hb2.toBelow (keep2 hb1.toBelow hS))))
    (first
     | (go_at_call 162; (with_reducible refine (wMinus_c z2 z1 _ _ _ (by exact K2.out.below (Below.toBelow (by repeat (with_reducible first | assumption | exact Below.refl _ _ | apply below_drew | apply below_drewN | apply below_alloc | refine below_step ?_ (by assumption))))) (by exact K1.out.below (Below.toBelow (by repeat (with_reducible first | assumption | exact Below.refl _ _ | apply below_drew | apply below_drewN | apply below_alloc | refine below_step ?_ (by assumption))))) sy (by have := HLT.out; omega)).mono ?_); rintro e w1 ⟨v, rfl, hv, hb1⟩; obtain ⟨A3, m3, k3, rfl, T3⟩ := hv.form; clear hv)
     | (go_at_call 104; (with_reducible refine (made_c false A3 m3 k3 _ _ (by exact T3.out.below (Below.toBelow (by repeat (with_reducible first | assumption | exact Below.refl _ _ | apply below_drew | apply below_drewN | apply below_alloc | refine below_step ?_ (by assumption)))))).mono ?_); rintro e w2 ⟨v, rfl, hv, hb2⟩; obtain ⟨n4, A4, m4, k4, rfl, H4⟩ := hv.form; clear hv; have HR4 := Lib.hid ((HR2.drew.keep hb1.toBelow).keep hb2.toBelow); obtain ⟨⟨u1, r1⟩, ⟨u2, u3, u4, r2⟩, r3, r4, r5⟩ := HR4.out))
   go_wp2
   refine bodyPost_ret (v := .agg #[.bool n4, .slice A4 m4 k4]) (by simp [results, Tryz.results138, go_sem, r1, r2, r5]) rfl ⟨_, rfl, ?_, ?_⟩
   ·have := H4.out
    rw [HE.out] at this
    exact this.res2 HR4.out _ _
   ·exact below_set (below_set (below_step (below_step (below_drew HBW) hb1) hb2) (by omega) _) (by omega) _
  ·have hq : 0 ≤ icmp (z1 : Int) (z2 : Int) := by unfold icmp; rw [if_neg (by omega)]; split <;> omega
   have HLT := Lib.hid hlt
   clear hlt
   have HE : Hid (sgnd true ((z1 - z2 : Nat) : Int) = x + y) := by show _ = _; have := HLT.out; rw [HX.out, HY.out]; unfold sgnd; (try simp) <;> (try omega)
   go_enter Tryz.func138, Tryz.ntmps138
   go_wp2_with fail
   generalize hW : ((w.alloc (Obj.cells #[Value.bool _, Value.slice A1 n1 c1] 83)).alloc _).alloc _ = W
   obtain ⟨hS, HR2, HBW⟩ := start2 w _ _ _ _ _ W hW
   clear hW
   have K1 := Lib.hid (S1.out.below HBW.toBelow)
   have K2 := Lib.hid (S2.out.below HBW.toBelow)
   (with_reducible refine (Compare_c z1 z2 _ _ _ K1.out K2.out).mono ?_)
   rintro e w0 ⟨rfl, hw0⟩
   subst hw0
   go_wp2
   go_region_held3 (fun w' => w'.cell? ⟨w.heap.size, 0, none⟩ = some (.bool true) ∧ w'.cell? ⟨w.heap.size, 1, none⟩ = some (.slice A1 n1 c1) ∧ w'.cell? ⟨w.heap.size + 1, 0, none⟩ = some (.bool false) ∧ w'.cell? ⟨w.heap.size + 1, 1, none⟩ = some (.slice A2 n2 c2) ∧ w.heap.size + 1 + 1 < w'.heap.size)
    (first | exact hS | exact keep2 hb1.toBelow hS | exact keep2 hb2.toBelow (keep2 hb1.toBelow hS) | exact keep2s (keep2s (keep2 hb2.toBelow (keep2 hb1.toBelow hS))))
    (first
     | (go_at_call 162; (with_reducible refine (wMinus_c z1 z2 _ _ _ (by exact K1.out.below (Below.toBelow (by repeat (with_reducible first | assumption | exact Below.refl _ _ | apply below_drew | apply below_drewN | apply below_alloc | refine below_step ?_ (by assumption))))) (by exact K2.out.below (Below.toBelow (by repeat (with_reducible first | assumption | exact Below.refl _ _ | apply below_drew | apply below_drewN | apply below_alloc | refine below_step ?_ (by assumption))))) sx (by have := HLT.out; omega)).mono ?_); rintro e w1 ⟨v, rfl, hv, hb1⟩; obtain ⟨A3, m3, k3, rfl, T3⟩ := hv.form; clear hv)
     | (go_at_call 104; (with_reducible refine (made_c true A3 m3 k3 _ _ (by exact T3.out.below (Below.toBelow (by repeat (with_reducible first | assumption | exact Below.refl _ _ | apply below_drew | apply below_drewN | apply below_alloc | refine below_step ?_ (by assumption)))))).mono ?_); rintro e w2 ⟨v, rfl, hv, hb2⟩; obtain ⟨n4, A4, m4, k4, rfl, H4⟩ := hv.form; clear hv; have HR4 := Lib.hid ((HR2.drew.keep hb1.toBelow).keep hb2.toBelow); obtain ⟨⟨u1, r1⟩, ⟨u2, u3, u4, r2⟩, r3, r4, r5⟩ := HR4.out))
   go_wp2
   refine bodyPost_ret (v := .agg #[.bool n4, .slice A4 m4 k4]) (by simp [results, Tryz.results138, go_sem, r1, r2, r5]) rfl ⟨_, rfl, ?_, ?_⟩
   ·have := H4.out
    rw [HE.out] at this
    exact this.res2 HR4.out _ _
   ·exact below_set (below_set (below_step (below_step (below_drew HBW) hb1) hb2) (by omega) _) (by omega) _
 ·have HE : Hid (sgnd true ((z1 + z2 : Nat) : Int) = x + y) := by show _ = _; rw [HX.out, HY.out]; unfold sgnd; (try simp) <;> (try omega)
  go_enter Tryz.func138, Tryz.ntmps138
  go_wp2_with fail
  generalize hW : ((w.alloc (Obj.cells #[Value.bool _, Value.slice A1 n1 c1] 83)).alloc _).alloc _ = W
  obtain ⟨hS, HR2, HBW⟩ := start2 w _ _ _ _ _ W hW
  clear hW
  have K1 := Lib.hid (S1.out.below HBW.toBelow)
  have K2 := Lib.hid (S2.out.below HBW.toBelow)
  go_region_held3 (fun w' => w'.cell? ⟨w.heap.size, 0, none⟩ = some (.bool true) ∧ w'.cell? ⟨w.heap.size, 1, none⟩ = some (.slice A1 n1 c1) ∧ w'.cell? ⟨w.heap.size + 1, 0, none⟩ = some (.bool true) ∧ w'.cell? ⟨w.heap.size + 1, 1, none⟩ = some (.slice A2 n2 c2) ∧ w.heap.size + 1 + 1 < w'.heap.size)
   (first | exact hS | exact keep2 hb1.toBelow hS | exact keep2 hb2.toBelow (keep2 hb1.toBelow hS) | exact keep2s (keep2s (keep2 hb2.toBelow (keep2 hb1.toBelow hS))))
   (first
    | (go_at_call 154; (with_reducible refine (Plus_c z1 z2 _ _ _ (by exact K1.out.below (Below.toBelow (by repeat (with_reducible first | assumption | exact Below.refl _ _ | apply below_drew | apply below_drewN | apply below_alloc | refine below_step ?_ (by assumption))))) (by exact K2.out.below (Below.toBelow (by repeat (with_reducible first | assumption | exact Below.refl _ _ | apply below_drew | apply below_drewN | apply below_alloc | refine below_step ?_ (by assumption))))) sx sy).mono ?_); rintro e w1 ⟨v, rfl, hv, hb1⟩; obtain ⟨A3, m3, k3, rfl, T3⟩ := hv.form; clear hv)
    | (go_at_call 104; (with_reducible refine (made_c true A3 m3 k3 _ _ (by exact T3.out.below (Below.toBelow (by repeat (with_reducible first | assumption | exact Below.refl _ _ | apply below_drew | apply below_drewN | apply below_alloc | refine below_step ?_ (by assumption)))))).mono ?_); rintro e w2 ⟨v, rfl, hv, hb2⟩; obtain ⟨n4, A4, m4, k4, rfl, H4⟩ := hv.form; clear hv; have HR4 := Lib.hid ((HR2.drew.keep hb1.toBelow).keep hb2.toBelow); obtain ⟨⟨u1, r1⟩, ⟨u2, u3, u4, r2⟩, r3, r4, r5⟩ := HR4.out))
  go_wp2
  refine bodyPost_ret (v := .agg #[.bool n4, .slice A4 m4 k4]) (by simp [results, Tryz.results138, go_sem, r1, r2, r5]) rfl ⟨_, rfl, ?_, ?_⟩
  ·have := H4.out
   rw [HE.out] at this
   exact this.res2 HR4.out _ _
  ·exact below_set (below_set (below_step (below_step (below_drew HBW) hb1) hb2) (by omega) _) (by omega) _
set_option maxRecDepth 100000 in
set_option maxHeartbeats 4000000 in
theorem wLess_c (x y : Int) (v1 v2 : Value) (w : World) (h1 : IsI w v1 x) (h2 : IsI w v2 y) (sx : (dg B64 x).length ≤ 1000000000) (sy : (dg B64 y).length ≤ 1000000000) :
  Calls Tryz.prog 103 #[v1, v2] w fun e w' => ∃ v, e = .returned v ∧ IsI w' v (x - y) ∧ Below w.heap.size w w' := by
 obtain ⟨na, A1, n1, c1, rfl, H1⟩ := h1.form
 obtain ⟨nb, A2, n2, c2, rfl, H2⟩ := h2.form
 clear h1 h2
 obtain ⟨q1, q2, _⟩ := isI_size H2.out
 have S2 := Lib.hid q1
 clear q1 H2
 have hsy : (dg B64 (sgnd (!nb) (y.natAbs : Int))).length ≤ 1000000000 := by unfold dg; rw [sgnd_abs]; exact sy
 obtain ⟨z2, hz2⟩ : ∃ z2, y.natAbs = z2 := ⟨_, rfl⟩
 rw [hz2] at S2 hsy
 have HY : Hid (x + sgnd (!nb) z2 = x - y) := by show _ = _; unfold sgnd; rw [q2]; split <;> rename_i h <;> simp at h <;> omega
 clear q2 hz2 sy
 cases nb
 ·rw [show (!false) = true from rfl] at HY hsy
  go_enter Tryz.func103, Tryz.ntmps103
  go_wp2_with fail
  generalize hW : ((w.alloc (Obj.cells #[Value.bool _, Value.slice A1 n1 c1] 83)).alloc _).alloc _ = W
  obtain ⟨hS, HR2, HBW⟩ := start2 w _ _ _ _ _ W hW
  clear hW
  have K1 := Lib.hid (H1.out.below HBW.toBelow)
  have K2 := Lib.hid (S2.out.below HBW.toBelow)
  go_region_held3 (fun w' => w'.cell? ⟨w.heap.size, 0, none⟩ = some (.bool na) ∧ w'.cell? ⟨w.heap.size, 1, none⟩ = some (.slice A1 n1 c1) ∧ w'.cell? ⟨w.heap.size + 1, 0, none⟩ = some (.bool false) ∧ w'.cell? ⟨w.heap.size + 1, 1, none⟩ = some (.slice A2 n2 c2) ∧ w.heap.size + 1 + 1 < w'.heap.size)
   (first | exact hS | exact keep2 hb1.toBelow hS | exact keep2 hb2.toBelow (keep2 hb1.toBelow hS) | exact keep2s (keep2s (keep2 hb2.toBelow (keep2 hb1.toBelow hS))))
   (first
    | (go_at_call 104; (with_reducible refine (made_c true A2 n2 c2 z2 _ (by exact K2.out.below (Below.toBelow (by repeat (with_reducible first | assumption | exact Below.refl _ _ | apply below_drew | apply below_drewN | apply below_alloc | refine below_step ?_ (by assumption)))))).mono ?_); rintro e w1 ⟨v, rfl, hv, hb1⟩; obtain ⟨n3, A3, m3, k3, rfl, H3⟩ := hv.form; clear hv)
    | (go_at_call 138; (with_reducible refine (wPlus_c x (sgnd true z2) _ _ _ (by exact K1.out.below (Below.toBelow (by repeat (with_reducible first | assumption | exact Below.refl _ _ | apply below_drew | apply below_drewN | apply below_alloc | refine below_step ?_ (by assumption))))) (by exact H3.out.below (Below.toBelow (by repeat (with_reducible first | assumption | exact Below.refl _ _ | apply below_drew | apply below_drewN | apply below_alloc | refine below_step ?_ (by assumption))))) sx hsy).mono ?_); rintro e w2 ⟨v, rfl, hv, hb2⟩; obtain ⟨n4, A4, m4, k4, rfl, H4⟩ := hv.form; clear hv; have HR4 := Lib.hid ((HR2.drew.keep hb1.toBelow).keep hb2.toBelow); obtain ⟨⟨u1, r1⟩, ⟨u2, u3, u4, r2⟩, r3, r4, r5⟩ := HR4.out))
  go_wp2
  refine bodyPost_ret (v := .agg #[.bool n4, .slice A4 m4 k4]) (by simp [results, Tryz.results103, go_sem, r1, r2, r5]) rfl ⟨_, rfl, ?_, ?_⟩
  ·have := H4.out
   rw [HY.out] at this
   exact this.res2 HR4.out _ _
  ·exact below_set (below_set (below_step (below_step (below_drew HBW) hb1) hb2) (by omega) _) (by omega) _
 ·rw [show (!true) = false from rfl] at HY hsy
  go_enter Tryz.func103, Tryz.ntmps103
  go_wp2_with fail
  generalize hW : ((w.alloc (Obj.cells #[Value.bool _, Value.slice A1 n1 c1] 83)).alloc _).alloc _ = W
  obtain ⟨hS, HR2, HBW⟩ := start2 w _ _ _ _ _ W hW
  clear hW
  have K1 := Lib.hid (H1.out.below HBW.toBelow)
  have K2 := Lib.hid (S2.out.below HBW.toBelow)
  go_region_held3 (fun w' => w'.cell? ⟨w.heap.size, 0, none⟩ = some (.bool na) ∧ w'.cell? ⟨w.heap.size, 1, none⟩ = some (.slice A1 n1 c1) ∧ w'.cell? ⟨w.heap.size + 1, 0, none⟩ = some (.bool true) ∧ w'.cell? ⟨w.heap.size + 1, 1, none⟩ = some (.slice A2 n2 c2) ∧ w.heap.size + 1 + 1 < w'.heap.size)
   (first | exact hS | exact keep2 hb1.toBelow hS | exact keep2 hb2.toBelow (keep2 hb1.toBelow hS) | exact keep2s (keep2s (keep2 hb2.toBelow (keep2 hb1.toBelow hS))))
   (first
    | (go_at_call 104; (with_reducible refine (made_c false A2 n2 c2 z2 _ (by exact K2.out.below (Below.toBelow (by repeat (with_reducible first | assumption | exact Below.refl _ _ | apply below_drew | apply below_drewN | apply below_alloc | refine below_step ?_ (by assumption)))))).mono ?_); rintro e w1 ⟨v, rfl, hv, hb1⟩; obtain ⟨n3, A3, m3, k3, rfl, H3⟩ := hv.form; clear hv)
    | (go_at_call 138; (with_reducible refine (wPlus_c x (sgnd false z2) _ _ _ (by exact K1.out.below (Below.toBelow (by repeat (with_reducible first | assumption | exact Below.refl _ _ | apply below_drew | apply below_drewN | apply below_alloc | refine below_step ?_ (by assumption))))) (by exact H3.out.below (Below.toBelow (by repeat (with_reducible first | assumption | exact Below.refl _ _ | apply below_drew | apply below_drewN | apply below_alloc | refine below_step ?_ (by assumption))))) sx hsy).mono ?_); rintro e w2 ⟨v, rfl, hv, hb2⟩; obtain ⟨n4, A4, m4, k4, rfl, H4⟩ := hv.form; clear hv; have HR4 := Lib.hid ((HR2.drew.keep hb1.toBelow).keep hb2.toBelow); obtain ⟨⟨u1, r1⟩, ⟨u2, u3, u4, r2⟩, r3, r4, r5⟩ := HR4.out))
  go_wp2
  refine bodyPost_ret (v := .agg #[.bool n4, .slice A4 m4 k4]) (by simp [results, Tryz.results103, go_sem, r1, r2, r5]) rfl ⟨_, rfl, ?_, ?_⟩
  ·have := H4.out
   rw [HY.out] at this
   exact this.res2 HR4.out _ _
  ·exact below_set (below_set (below_step (below_step (below_drew HBW) hb1) hb2) (by omega) _) (by omega) _
set_option maxRecDepth 100000 in
set_option maxHeartbeats 4000000 in
theorem iCompare_c (x y : Int) (v1 v2 : Value) (w : World) (h1 : IsI w v1 x) (h2 : IsI w v2 y) (sx : (dg B64 x).length ≤ 1000000000) (sy : (dg B64 y).length ≤ 1000000000) :
  Calls Tryz.prog 57 #[v1, v2] w fun e w' => e = .returned (.int .i64 (icmp x y)) ∧ Below w.heap.size w w' := by
 obtain ⟨na, A1, n1, c1, rfl, H1⟩ := h1.form
 obtain ⟨nb, A2, n2, c2, rfl, H2⟩ := h2.form
 clear h1 h2
 go_enter Tryz.func57, Tryz.ntmps57
 go_wp2_with fail
 generalize hW : (w.alloc (Obj.cells #[Value.bool na, Value.slice A1 n1 c1] 83)).alloc _ = W
 have HBW : Below w.heap.size w W := by subst hW; exact below_alloc (below_alloc (Below.refl _ _) _) _
 clear hW
 (with_reducible refine (wLess_c x y _ _ _ (H1.out.below HBW.toBelow) (H2.out.below HBW.toBelow) sx sy).mono ?_)
 rintro e w1 ⟨v, rfl, hv, hb1⟩
 obtain ⟨n3, A3, m3, k3, rfl, H3⟩ := hv.form
 obtain ⟨e1, e2⟩ := lenI H3.out
 have HB := below_step HBW hb1
 clear hv HBW hb1
 have E1 := Lib.hid e1
 have E2 := Lib.hid e2
 clear e1 e2
 cases n3
 ·have h1 : ¬ x - y < 0 := fun h => by have := E1.out.2 h; cases this
  by_cases hm : 0 < m3
  ·have HR : Hid (icmp x y = 1) := by have := E2.out.1 hm; show _ = _; unfold icmp; rw [if_neg (by omega), if_pos (by omega)]
   go_wp2
   go_ret
   exact ⟨by rw [HR.out]; rfl, below_alloc HB _⟩
  ·have h0 : x - y = 0 := Decidable.byContradiction fun h => hm (E2.out.2 h)
   have HR : Hid (icmp x y = 0) := by show _ = _; unfold icmp; rw [if_neg (by omega), if_neg (by omega)]
   clear h0
   go_wp2
   go_ret
   exact ⟨by rw [HR.out]; rfl, below_alloc HB _⟩
 ·have h1 : x - y < 0 := E1.out.1 rfl
  have HR : Hid (icmp x y = -1) := by show _ = _; unfold icmp; rw [if_pos (by omega)]
  go_wp2
  go_ret
  exact ⟨by rw [HR.out]; rfl, below_alloc HB _⟩
set_option maxRecDepth 100000 in
set_option maxHeartbeats 4000000 in
theorem wParse_c (z : Int) (w : World) (hz : dlN z.natAbs ≤ 900000000) :
  Calls Tryz.prog 78 #[.string (tS z)] w fun e w' => ∃ v, e = .returned v ∧ IsI w' v z ∧ Below w.heap.size w w' := by
 obtain ⟨r, hr1, hr2, hr3, hr4⟩ := cut_tS z
 have HC := Lib.hid (Cut_c (tS z) · hr4)
 simp only [hr1, hr3] at HC
 have HE : Hid ((dv (codes r)).toNat = z.natAbs) := by show _ = _; rw [hr2, dv_txN]; rfl
 have HD : Hid (∀ c ∈ codes r, 48 ≤ c ∧ c ≤ 57) := by rw [hr2]; exact txN_range _
 have hrs : r.size ≤ 900000000 := by rw [← codes_length, hr2]; exact hz
 have HZ : Hid (sgnd (decide (z < 0)) (z.natAbs : Int) = z) := by show _ = _; unfold sgnd; split <;> rename_i h <;> simp at h <;> omega
 clear hr1 hr2 hr3 hr4 hz
 generalize tS z = s at *
 generalize decide (z < 0) = ng at *
 generalize z.natAbs = n at *
 go_enter Tryz.func78, Tryz.ntmps78
 go_wp2_with fail
 generalize hW : w.alloc (Obj.cells #[Value.bool false, Value.slice none 0 0] 83) = W at *
 obtain ⟨HR, hWs, HB⟩ := start1 w _ W hW
 have hlt : w.heap.size < W.heap.size := by omega
 clear hW hWs
 (with_reducible refine (HC.out W).mono ?_)
 rintro e w0 ⟨rfl, hw0⟩
 subst hw0
 go_wp2_with fail
 (with_reducible refine (Read_c r _ HD.out hrs).mono ?_)
 rintro e w1 ⟨v, rfl, hv, hb1⟩
 rw [HE.out] at hv
 obtain ⟨A1, m1, k1, rfl, T1⟩ := hv.form; clear hv
 replace HR := HR.keep hb1.toBelow; replace HB := below_step HB hb1
 go_wp2_with fail
 (with_reducible refine (made_c ng A1 m1 k1 _ _ T1.out).mono ?_)
 rintro e w2 ⟨v, rfl, hv, hb2⟩
 obtain ⟨n2, A2, m2, k2, rfl, H2⟩ := hv.form; clear hv
 replace HR := HR.keep hb2.toBelow; replace HB := below_step HB hb2
 have HRh := Lib.hid HR; obtain ⟨⟨u1, r1⟩, ⟨u2, u3, u4, r2⟩, r3, r4, r5⟩ := HR
 go_wp2
 refine bodyPost_ret (v := .agg #[.bool n2, .slice A2 m2 k2]) (by simp [results, Tryz.results78, go_sem, r1, r2, r5]) rfl ⟨_, rfl, ?_, below_set2 HB (by omega) _ _⟩
 rw [← HZ.out]
 exact H2.out.res2 HRh.out _ _
set_option maxRecDepth 100000 in
set_option maxHeartbeats 4000000 in
theorem compare9_c (x y : Int) (w : World) (hx : dlN x.natAbs ≤ 2000) (hy : dlN y.natAbs ≤ 2000) :
  Calls Tryz.prog 111 #[.string (tS x), .string (tS y)] w fun e w' => e = .returned (.int .i64 (icmp x y)) ∧ Below w.heap.size w w' := by
 have HB : Below w.heap.size w w := Below.refl _ _
 have HX := Lib.hid hx
 have HY := Lib.hid hy
 have LX := Lib.hid (lenB64_dl hx)
 have LY := Lib.hid (lenB64_dl hy)
 clear hx hy
 go_enter Tryz.func111, Tryz.ntmps111
 go_wp2_with fail
 (with_reducible refine (wParse_c x _ (by have := HX.out; omega)).mono ?_)
 rintro e w2 ⟨v, rfl, hv, hb⟩
 obtain ⟨n2, A2, m2, k2, rfl, H2⟩ := hv.form
 clear hv
 replace HB := below_step HB hb
 clear hb
 go_wp2_with fail
 (with_reducible refine (wParse_c y _ (by have := HY.out; omega)).mono ?_)
 rintro e w3 ⟨v, rfl, hv, hb⟩
 obtain ⟨n3, A3, m3, k3, rfl, H3⟩ := hv.form
 clear hv
 replace H2 := Lib.hid (H2.out.below hb.toBelow)
 replace HB := below_step HB hb
 clear hb
 go_wp2_with fail
 (with_reducible refine (iCompare_c x y _ _ _ H2.out H3.out (by have := LX.out; omega) (by have := LY.out; omega)).mono ?_)
 rintro e w4 ⟨rfl, hb⟩
 go_wp2
 go_ret
 exact ⟨rfl, below_step HB hb⟩
end Go.Proofs.YtibdipfhfaeooaaGreatDoor.E

