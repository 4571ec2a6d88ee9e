/- cert.Find. No condition but that the library's table lies as it should. -/
import Derived.Test.YtibdipfhfaeooaaGreatDoorZN
import Derived.Test.YtibdipfhfaeooaaGreatDoorZO
import Derived.Test.YtibdipfhfaeooaaGreatDoorZP
import Derived.Test.YtibdipfhfaeooaaGreatDoorZK
import Derived.Test.YtibdipfhfaeooaaGreatDoorZC
import Derived.Maps.RangeWalk
set_option linter.unusedVariables false
set_option linter.unusedSimpArgs false
namespace Go.Proofs.YtibdipfhfaeooaaGreatDoor
open Go.RowKit

abbrev od6982 : Oper := { dst := some 36, op := Go.Op.load 83 (Go.Operand.tmp 7), type := 83, pos := "cert.go:116", after := #[], guard := none }
abbrev oc6bdf : Oper := { dst := some 39, op := Go.Op.binOp Go.BinOp.gtr 3 (Go.Operand.tmp 38) (Go.Operand.const (Go.Value.int Go.IntKind.i64 0)) 3, type := 4, pos := "cert.go:116", after := #[{ on := 2, ground := Go.Ground.data }], guard := none }
attribute [local go_sem] od6982 oc6bdf
abbrev zPr : Value := .agg #[.int .i64 0, .string { data := #[] }, .slice none 0 0]
/-- What Find tells. -/
def FindR (M : Mp) (most : Int) (e : Ending) (w' : World) : Prop :=
  (okB M = false ∧ e = .returned (.tuple #[zPr, .int .i64 1])) ∨
  (okM M ∧ ¬ (Rise M ∧ 1 ≤ most ∧ M.mod ^ most.toNat ≤ 65536) ∧ e = .returned (.tuple #[zPr, .int .i64 2])) ∨
  (okM M ∧ Rise M ∧ 1 ≤ most ∧ M.mod ^ most.toNat ≤ 65536 ∧
    (((downP M most.toNat).1 = 0 ∧ e = .returned (.tuple #[zPr, .int .i64 4])) ∨
     ((downP M most.toNat).1 ≠ 0 ∧ (20000 < (downP M most.toNat).2 ∨ ∃ k : Nat, (k : Int) ≤ (downP M most.toNat).2 ∧ ¬ Fine M k) ∧ e = .returned (.tuple #[zPr, .int .i64 3])) ∨
     ((downP M most.toNat).1 ≠ 0 ∧ (downP M most.toNat).2 ≤ 20000 ∧ (∀ k : Nat, (k : Int) ≤ (downP M most.toNat).2 → Fine M k) ∧ ∃ A c ls, e = .returned (.tuple #[.agg #[.int .i64 ((downP M most.toNat).1 : Int), .string (tS (downP M most.toNat).2), .slice A ls.length c], .int .i64 0]) ∧ LsL w' A c ls ∧ FoundL M (downP M most.toNat).2 ls ∧ ∀ l ∈ ls, ∀ z ∈ l, dlN z.natAbs ≤ 2000)))
theorem digs_small {u : Nat} (h : u ≤ 20000) : (digs 10 ((u : Int)).natAbs).length ≤ 1000000000 := by
 have := digs_len_le (B := 10) (k := 5) (by omega) (show (u : Int).natAbs < 10 ^ 5 by omega)
 omega
set_option maxRecDepth 100000 in
set_option maxHeartbeats 16000000 in
theorem Find_c (M : Mp) (most : Int) (v : Value) (w : World) (hM : IsM w v M) (ht : Tb w) :
  Calls Tryz.prog 18 #[v, .int .i64 most] w fun e w' => FindR M most e w' ∧ Below w.heap.size w w' := by
 obtain ⟨md, Am, nm, cm, A', n', c', rfl, HM⟩ := hM.form
 have HTB := Lib.hid ht
 have HSL := Lib.hid HM.out.sl
 clear hM ht
 go_enter Tryz.func18, Tryz.ntmps18
 go_upto_region 1 with fail
 generalize hW : (w.alloc (Obj.cells #[Value.int .i64 md, Value.slice Am nm cm, Value.slice A' n' c'] 24)).alloc _ = W
 have HB : Below w.heap.size w W := by subst hW; exact below_alloc (below_alloc (Below.refl _ _) _) _
 have V3 : VM W w.heap.size md Am nm cm A' n' c' M := by subst hW; exact (VM.new w 24 HM.out).keep (below_alloc (Below.refl _ _) _)
 have RR : R3 W (w.heap.size + 1) (.int .i64 0) (.string { data := #[] }) (.slice none 0 0) := by subst hW; exact ⟨⟨by simp [go_sem], by simp [go_sem], by simp [go_sem], by simp⟩, by simp [go_sem], by simp [go_sem], by simp [go_sem]⟩
 clear hW HM
 by_cases hok : okB M = true
 rotate_left
 ·have HOK : Hid (okB M = false) := by show _ = _; revert hok; cases okB M <;> simp
  clear hok
  have m0 := V3.c0; have m1 := V3.c1; have m2 := V3.c2
  go_wp2_with fail
  (with_reducible refine (SValid_c M _ _ V3.im.out).mono ?_)
  rintro e w4 ⟨he, hb⟩
  obtain rfl : e = .returned (.bool false) := by rw [he, HOK.out]
  (try clear he)
  replace HB := below_step HB hb
  replace V3 := V3.keep hb
  replace RR := RR.keep hb
  clear hb
  clear m0 m1 m2
  have r0 := RR.q.c0; have r1 := RR.q.c1; have r2 := RR.q.c2; have f0 := RR.f0; have f1 := RR.f1; have f2 := RR.f2
  have HP : Hid (FindR M most (.returned (.tuple #[zPr, .int .i64 1])) (((w4.setCell ⟨w.heap.size + 1, 0, none⟩ (.int .i64 0)).setCell ⟨w.heap.size + 1, 1, none⟩ (.string { data := #[] })).setCell ⟨w.heap.size + 1, 2, none⟩ (.slice none 0 0))) := .inl ⟨HOK.out, rfl⟩
  clear RR
  go_wp2
  refine bodyPost_ret (v := .tuple #[zPr, .int .i64 1]) (by simp [results, Tryz.results18, go_sem, r0, r1, r2, f0, f1, f2]) rfl ⟨HP.out, below_set3 HB (by omega) _ _ _⟩
 have HOK := Lib.hid hok
 have HOM : Hid (okM M) := okB_iff.1 hok
 clear hok
 have m0 := V3.c0; have m1 := V3.c1; have m2 := V3.c2
 go_wp2_with fail
 (with_reducible refine (SValid_c M _ _ V3.im.out).mono ?_)
 rintro e w4 ⟨he, hb⟩
 obtain rfl : e = .returned (.bool true) := by rw [he, HOK.out]
 (try clear he)
 replace HB := below_step HB hb
 replace V3 := V3.keep hb
 replace RR := RR.keep hb
 clear hb
 clear m0 m1 m2
 have hmd : md = M.mod := HSL.out.1
 have hmd0 : 2 ≤ md := by rw [hmd]; exact HOM.out.1
 have hmd1 : md ≤ 12 := by rw [hmd]; exact HOM.out.2.1
 have HMD := Lib.hid hmd
 clear hmd
 by_cases hri : Rise M
 rotate_left
 ·have HRN := Lib.hid hri
  clear hri
  have m0 := V3.c0; have m1 := V3.c1; have m2 := V3.c2
  go_wp2_with fail
  (with_reducible refine (rising_c M _ _ V3.im.out false ⟨fun h => (by cases h), fun h => absurd h HRN.out⟩).mono ?_)
  rintro e w5 ⟨he, hb⟩
  obtain rfl : e = .returned (.bool false) := he
  (try clear he)
  replace HB := below_step HB hb
  replace V3 := V3.keep hb
  replace RR := RR.keep hb
  clear hb
  clear m0 m1 m2
  have r0 := RR.q.c0; have r1 := RR.q.c1; have r2 := RR.q.c2; have f0 := RR.f0; have f1 := RR.f1; have f2 := RR.f2
  have HP : Hid (FindR M most (.returned (.tuple #[zPr, .int .i64 2])) (((w5.setCell ⟨w.heap.size + 1, 0, none⟩ (.int .i64 0)).setCell ⟨w.heap.size + 1, 1, none⟩ (.string { data := #[] })).setCell ⟨w.heap.size + 1, 2, none⟩ (.slice none 0 0))) := .inr (.inl ⟨HOM.out, fun h => HRN.out h.1, rfl⟩)
  clear RR
  go_wp2
  refine bodyPost_ret (v := .tuple #[zPr, .int .i64 2]) (by simp [results, Tryz.results18, go_sem, r0, r1, r2, f0, f1, f2]) rfl ⟨HP.out, below_set3 HB (by omega) _ _ _⟩
 have HRS := Lib.hid hri
 clear hri
 by_cases hre : 1 ≤ most ∧ md ^ most.toNat ≤ 65536
 rotate_left
 ·have HRN := Lib.hid hre
  clear hre
  have m0 := V3.c0; have m1 := V3.c1; have m2 := V3.c2
  go_wp2_with fail
  (with_reducible refine (rising_c M _ _ V3.im.out true ⟨fun _ => HRS.out, fun _ => rfl⟩).mono ?_)
  rintro e w5 ⟨he, hb⟩
  obtain rfl : e = .returned (.bool true) := he
  (try clear he)
  replace HB := below_step HB hb
  replace V3 := V3.keep hb
  replace RR := RR.keep hb
  clear hb
  clear m0 m1 m2
  have m0 := V3.c0
  go_wp2_with fail
  (with_reducible refine (rests_c md most _ hmd0 hmd1 false ⟨fun h => (by cases h), fun h => absurd h HRN.out⟩).mono ?_)
  rintro e w6 ⟨he, hb⟩
  obtain rfl : e = .returned (.bool false) := he
  (try clear he)
  replace HB := below_step HB hb
  replace V3 := V3.keep hb
  replace RR := RR.keep hb
  clear hb
  clear m0
  have r0 := RR.q.c0; have r1 := RR.q.c1; have r2 := RR.q.c2; have f0 := RR.f0; have f1 := RR.f1; have f2 := RR.f2
  have HP : Hid (FindR M most (.returned (.tuple #[zPr, .int .i64 2])) (((w6.setCell ⟨w.heap.size + 1, 0, none⟩ (.int .i64 0)).setCell ⟨w.heap.size + 1, 1, none⟩ (.string { data := #[] })).setCell ⟨w.heap.size + 1, 2, none⟩ (.slice none 0 0))) := .inr (.inl ⟨HOM.out, fun h => HRN.out ⟨h.2.1, by rw [HMD.out]; exact h.2.2⟩, rfl⟩)
  clear RR
  go_wp2
  refine bodyPost_ret (v := .tuple #[zPr, .int .i64 2]) (by simp [results, Tryz.results18, go_sem, r0, r1, r2, f0, f1, f2]) rfl ⟨HP.out, below_set3 HB (by omega) _ _ _⟩
 have HRE := Lib.hid hre
 obtain ⟨hk1, hrq⟩ := hre
 rw [HMD.out] at hrq
 have HRQ := Lib.hid hrq
 clear hrq
 have m0 := V3.c0; have m1 := V3.c1; have m2 := V3.c2
 go_wp2_with fail
 (with_reducible refine (rising_c M _ _ V3.im.out true ⟨fun _ => HRS.out, fun _ => rfl⟩).mono ?_)
 rintro e w5 ⟨he, hb⟩
 obtain rfl : e = .returned (.bool true) := he
 (try clear he)
 replace HB := below_step HB hb
 replace V3 := V3.keep hb
 replace RR := RR.keep hb
 clear hb
 clear m0 m1 m2
 have m0 := V3.c0
 go_wp2_with fail
 (with_reducible refine (rests_c md most _ hmd0 hmd1 true ⟨fun _ => HRE.out, fun _ => rfl⟩).mono ?_)
 rintro e w6 ⟨he, hb⟩
 obtain rfl : e = .returned (.bool true) := he
 (try clear he)
 replace HB := below_step HB hb
 replace V3 := V3.keep hb
 replace RR := RR.keep hb
 clear hb
 clear m0
 obtain ⟨m, hm⟩ : ∃ m : Nat, most.toNat = m := ⟨_, rfl⟩
 have hKm : most = (m : Int) := by omega
 have hm1 : 1 ≤ m := by omega
 rw [hm] at HRQ
 clear HRE hm
 subst hKm
 obtain ⟨k, hk⟩ : ∃ k, (downP M m).1 = k := ⟨_, rfl⟩
 obtain ⟨T, hT⟩ : ∃ T, (downP M m).2 = T := ⟨_, rfl⟩
 have HDO : Hid (∀ (u : Value) {W : World}, IsM W u M → Calls Tryz.prog 56 #[u, .int .i64 (m : Int)] W fun e w' => ∃ v, e = .returned (.tuple #[.int .i64 (k : Int), v]) ∧ IsI w' v T ∧ Below W.heap.size W w') := fun u W h1 => by
  have := down_c M m u W h1 HOM.out hm1 HRQ.out
  rw [hk, hT] at this
  exact this
 have HTL : Hid ((dg B64 T).length ≤ 1000) := by rw [← hT]; exact szI (Nat.le_trans (downP_le HOM.out HRQ.out) (Nat.le_mul_of_pos_left _ (by omega)))
 have HTF : Hid (k ≠ 0 → 0 ≤ T) := fun h => (downP_falls HOM.out (most := m) (K := k) (T := T) (by rw [← hk, ← hT]) h).2.1
 have HEQ : Hid (∀ (e : Ending) (w' : World), ((k = 0 ∧ e = .returned (.tuple #[zPr, .int .i64 4])) ∨ (k ≠ 0 ∧ (20000 < T ∨ ∃ k : Nat, (k : Int) ≤ T ∧ ¬ Fine M k) ∧ e = .returned (.tuple #[zPr, .int .i64 3])) ∨ (k ≠ 0 ∧ T ≤ 20000 ∧ (∀ k : Nat, (k : Int) ≤ T → Fine M k) ∧ ∃ A c ls, e = .returned (.tuple #[.agg #[.int .i64 (k : Int), .string (tS T), .slice A ls.length c], .int .i64 0]) ∧ LsL w' A c ls ∧ FoundL M T ls ∧ ∀ l ∈ ls, ∀ z ∈ l, dlN z.natAbs ≤ 2000)) → FindR M (m : Int) e w') := fun e w' h => by
  refine .inr (.inr ⟨HOM.out, HRS.out, by omega, by rw [Int.toNat_natCast]; exact HRQ.out, ?_⟩)
  rw [Int.toNat_natCast, hk, hT]
  exact h
 clear hk hT
 have m0 := V3.c0; have m1 := V3.c1; have m2 := V3.c2
 go_wp2_with fail
 (with_reducible refine (HDO.out _ V3.im.out).mono ?_)
 rintro e w8 ⟨v, rfl, hv, hb⟩
 obtain ⟨n7, A7, m7, k7, rfl, H7⟩ := hv.form; clear hv
 replace HB := below_step HB hb
 replace V3 := V3.keep hb
 replace RR := RR.keep hb
 clear hb m0 m1 m2 HDO
 go_upto_region 6 with fail
 have V7 := VX.new w8 83 H7.out
 have hb := below_alloc (Below.refl w8.heap.size w8) (Obj.cells #[Value.bool n7, Value.slice A7 m7 k7] 83)
 replace HB := below_step HB hb
 replace V3 := V3.keep hb
 replace RR := RR.keep hb
 generalize hWa : w8.alloc (Obj.cells #[Value.bool n7, Value.slice A7 m7 k7] 83) = w9 at *
 obtain ⟨b7, hb7⟩ : ∃ b, w8.heap.size = b := ⟨_, rfl⟩
 rw [hb7] at V7 ⊢
 clear hWa hb hb7 H7
 by_cases hk0 : k = 0
 ·have hq1 : (k == 0) = true := by simpa using hk0
  have hq2 : ((k : Int) == 0) = true := by simp; omega
  have HK0 := Lib.hid hk0
  clear hk0
  have r0 := RR.q.c0; have r1 := RR.q.c1; have r2 := RR.q.c2; have f0 := RR.f0; have f1 := RR.f1; have f2 := RR.f2
  have HP : Hid (FindR M (m : Int) (.returned (.tuple #[zPr, .int .i64 4])) (((w9.setCell ⟨w.heap.size + 1, 0, none⟩ (.int .i64 0)).setCell ⟨w.heap.size + 1, 1, none⟩ (.string { data := #[] })).setCell ⟨w.heap.size + 1, 2, none⟩ (.slice none 0 0))) := HEQ.out _ _ (.inl ⟨HK0.out, rfl⟩)
  clear RR
  go_wp2
  refine bodyPost_ret (v := .tuple #[zPr, .int .i64 4]) (by simp [results, Tryz.results18, go_sem, r0, r1, r2, f0, f1, f2]) rfl ⟨HP.out, below_set3 HB (by omega) _ _ _⟩
 have hq1 : (k == 0) = false := by simpa using hk0
 have hq2 : ((k : Int) == 0) = false := by simp; omega
 have HK0 := Lib.hid hk0
 have hT0 := HTF.out hk0
 clear hk0
 go_upto_region 8 with fail
 clear hq1 hq2
 replace V3 := V3.drew; replace RR := RR.drew; replace V7 := V7.drew; replace HB := below_drew HB
 generalize hWd : w9.drew = wd at *
 by_cases hbg : 20000 < T
 ·have hcm : 0 < icmp T 20000 := by
   apply Classical.byContradiction
   intro h
   by_cases h2 : icmp T 20000 = 0
   ·have := (icmp_eq _ _).1 h2; omega
   ·have := (icmp_lt' T 20000).1 (by omega); omega
  have HBG := Lib.hid hbg
  clear hbg
  refine wp_region_F (fun w' => w'.cell? ⟨b7, 0, none⟩ = some (.bool n7) ∧ w'.cell? ⟨b7, 1, none⟩ = some (.slice A7 m7 k7)) [] (by kernel_rfl) (by rw [hWd]; exact ⟨V7.c0, V7.c1⟩) (fun hHeld => ?_)
  rw [hWd] at hHeld ⊢
  refine tF 0 od6982 hHeld ?_; try go_frame
  refine wpAnyF_one (i := 1) (by kernel_rfl) rfl (fun K hK => ?_)
  go_simp
  (go_at_call 58; (with_reducible refine (Small_c 20000 _ (by decide) (by decide)).mono ?_); rintro e wa ⟨v, rfl, hv, hb⟩; obtain ⟨n6, A6, m6, k6, rfl, H6⟩ := hv.form; clear hv; replace V3 := V3.keep hb; replace RR := RR.keep hb; replace V7 := V7.keep hb; replace HB := below_step HB hb; clear hb)
  refine hK.out _ _ (by exact ⟨V7.c0, V7.c1⟩) (fun hHeld => ?_)
  clear hK K
  try go_frame
  refine wpAnyF_one (i := 2) (by kernel_rfl) rfl (fun K hK => ?_)
  go_simp
  (go_at_call 57; (with_reducible refine (iCompare_c T 20000 _ _ _ V7.iz.out H6.out (by have := HTL.out; omega) (by have := dg20; omega)).mono ?_); rintro e wb ⟨rfl, hb⟩; clear H6; replace V3 := V3.keep hb; replace RR := RR.keep hb; replace V7 := V7.keep hb; replace HB := below_step HB hb; clear hb)
  refine hK.out _ _ (by exact ⟨V7.c0, V7.c1⟩) (fun hHeld => ?_)
  clear hK K
  try go_frame
  refine tF 3 oc6bdf hHeld ?_; try go_frame
  refine wpAnyF_done (by kernel_rfl) ?_ _
  clear hHeld hWd
  have r0 := RR.q.c0; have r1 := RR.q.c1; have r2 := RR.q.c2; have f0 := RR.f0; have f1 := RR.f1; have f2 := RR.f2
  have HP : Hid (FindR M (m : Int) (.returned (.tuple #[zPr, .int .i64 3])) (((wb.setCell ⟨w.heap.size + 1, 0, none⟩ (.int .i64 0)).setCell ⟨w.heap.size + 1, 1, none⟩ (.string { data := #[] })).setCell ⟨w.heap.size + 1, 2, none⟩ (.slice none 0 0))) := HEQ.out _ _ (.inr (.inl ⟨HK0.out, .inl HBG.out, rfl⟩))
  clear RR
  go_wp2
  refine bodyPost_ret (v := .tuple #[zPr, .int .i64 3]) (by simp [results, Tryz.results18, go_sem, r0, r1, r2, f0, f1, f2]) rfl ⟨HP.out, below_set3 HB (by omega) _ _ _⟩
 have hcm : ¬ 0 < icmp T 20000 := by
  intro h
  by_cases h3 : T = 20000
  ·have := (icmp_eq T 20000).2 h3; omega
  ·have := (icmp_lt' T 20000).2 (by omega); omega
 have hcmd : decide (0 < icmp T 20000) = false := decide_eq_false hcm
 refine wp_region_F (fun w' => w'.cell? ⟨b7, 0, none⟩ = some (.bool n7) ∧ w'.cell? ⟨b7, 1, none⟩ = some (.slice A7 m7 k7)) [] (by kernel_rfl) (by rw [hWd]; exact ⟨V7.c0, V7.c1⟩) (fun hHeld => ?_)
 rw [hWd] at hHeld ⊢
 refine tF 0 od6982 hHeld ?_; try go_frame
 refine wpAnyF_one (i := 1) (by kernel_rfl) rfl (fun K hK => ?_)
 go_simp
 (go_at_call 58; (with_reducible refine (Small_c 20000 _ (by decide) (by decide)).mono ?_); rintro e wa ⟨v, rfl, hv, hb⟩; obtain ⟨n6, A6, m6, k6, rfl, H6⟩ := hv.form; clear hv; replace V3 := V3.keep hb; replace RR := RR.keep hb; replace V7 := V7.keep hb; replace HB := below_step HB hb; clear hb)
 refine hK.out _ _ (by exact ⟨V7.c0, V7.c1⟩) (fun hHeld => ?_)
 clear hK K
 try go_frame
 refine wpAnyF_one (i := 2) (by kernel_rfl) rfl (fun K hK => ?_)
 go_simp
 (go_at_call 57; (with_reducible refine (iCompare_c T 20000 _ _ _ V7.iz.out H6.out (by have := HTL.out; omega) (by have := dg20; omega)).mono ?_); rintro e wb ⟨rfl, hb⟩; clear H6; replace V3 := V3.keep hb; replace RR := RR.keep hb; replace V7 := V7.keep hb; replace HB := below_step HB hb; clear hb)
 refine hK.out _ _ (by exact ⟨V7.c0, V7.c1⟩) (fun hHeld => ?_)
 clear hK K
 try go_frame
 refine tF 3 oc6bdf hHeld ?_; try go_frame
 refine wpAnyF_done (by kernel_rfl) ?_ _
 clear hHeld hWd
 obtain ⟨u, rfl⟩ : ∃ u : Nat, T = (u : Int) := ⟨T.toNat, by omega⟩
 have hu2 : u ≤ 20000 := by omega
 have HDU := Lib.hid (digs_small hu2)
 have x0 := V7.c0; have x1 := V7.c1
 go_wp2_with fail
 (with_reducible refine (wString_c (u : Int) _ _ V7.iz.out HDU.out).mono ?_)
 rintro e wc ⟨rfl, hb⟩
 replace HB := below_step HB hb
 replace V3 := V3.keep hb
 replace RR := RR.keep hb
 replace V7 := V7.keep hb
 clear hb x0 x1 hcm hcmd hbg
 go_wp2_with fail
 (with_reducible refine (Atoi_c u _ (by omega)).mono ?_)
 rintro e we ⟨rfl, hb⟩
 replace HB := below_step HB hb
 replace V3 := V3.keep hb
 replace RR := RR.keep hb
 replace V7 := V7.keep hb
 clear hb
 have m0 := V3.c0; have m1 := V3.c1; have m2 := V3.c2
 go_wp2_with fail
 (with_reducible refine (comes_c M u _ _ V3.im.out HOM.out hu2 (HTB.out.below HB)).mono ?_)
 rintro e wf ⟨hc, hb⟩
 replace HB := below_step HB hb
 replace V3 := V3.keep hb
 replace RR := RR.keep hb
 replace V7 := V7.keep hb
 clear hb m0 m1 m2
 rcases hc with ⟨hc, rfl⟩ | ⟨hfi, A9, c9, ls, rfl, hl9, hfl, hzl⟩
 ·have HC := Lib.hid hc
  clear hc
  have r0 := RR.q.c0; have r1 := RR.q.c1; have r2 := RR.q.c2; have f0 := RR.f0; have f1 := RR.f1; have f2 := RR.f2
  have HP : Hid (FindR M (m : Int) (.returned (.tuple #[zPr, .int .i64 3])) (((wf.setCell ⟨w.heap.size + 1, 0, none⟩ (.int .i64 0)).setCell ⟨w.heap.size + 1, 1, none⟩ (.string { data := #[] })).setCell ⟨w.heap.size + 1, 2, none⟩ (.slice none 0 0))) := HEQ.out _ _ (.inr (.inl ⟨HK0.out, .inr (by obtain ⟨q, h1, h2⟩ := HC.out; exact ⟨q, by omega, h2⟩), rfl⟩))
  clear RR
  go_wp2
  refine bodyPost_ret (v := .tuple #[zPr, .int .i64 3]) (by simp [results, Tryz.results18, go_sem, r0, r1, r2, f0, f1, f2]) rfl ⟨HP.out, below_set3 HB (by omega) _ _ _⟩
 have HL9 := Lib.hid hl9
 have HPS : Hid (∀ l ∈ ls, 0 < l.length) := fun l hl => by
  obtain ⟨i, hi, rfl⟩ := List.mem_iff_getElem.1 hl
  obtain ⟨q, hq, e⟩ := hfl.each i hi
  rw [← lpi_lt hi, e]
  exact (hfi q (by omega)).pos.1
 have HFI := Lib.hid hfi
 have HFL := Lib.hid hfl
 have HZL := Lib.hid hzl
 clear hfi hl9 hfl hzl
 have x0 := V7.c0; have x1 := V7.c1
 go_wp2_with fail
 (with_reducible refine (wString_c (u : Int) _ _ V7.iz.out HDU.out).mono ?_)
 rintro e wg ⟨rfl, hb⟩
 replace HL9 := Lib.hid (HL9.out.below hb)
 replace HB := below_step HB hb
 replace V3 := V3.keep hb
 replace RR := RR.keep hb
 replace V7 := V7.keep hb
 clear hb x0 x1
 have HR9 := Lib.hid (HL9.out.res3 RR.q HPS.out (k : Int) (tS (u : Int)) (.slice A9 ls.length c9))
 have r0 := RR.q.c0; have r1 := RR.q.c1; have r2 := RR.q.c2; have f0 := RR.f0; have f1 := RR.f1; have f2 := RR.f2
 clear RR HL9
 go_wp2
 refine bodyPost_ret (v := .tuple #[.agg #[.int .i64 (k : Int), .string (tS (u : Int)), .slice A9 ls.length c9], .int .i64 0]) (by simp [results, Tryz.results18, go_sem, r0, r1, r2, f0, f1, f2]) rfl ⟨HEQ.out _ _ (.inr (.inr ⟨HK0.out, by omega, fun q hq => HFI.out q (by omega), A9, c9, ls, rfl, HR9.out, HFL.out, HZL.out⟩)), below_set3 HB (by omega) _ _ _⟩
end Go.Proofs.YtibdipfhfaeooaaGreatDoor

