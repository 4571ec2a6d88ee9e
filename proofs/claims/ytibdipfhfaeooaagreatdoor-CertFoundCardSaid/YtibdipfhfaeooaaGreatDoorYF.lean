/- law09.awake: the examples of the chapter hold. No condition but that the library's table lies as it should. -/
import Derived.Test.YtibdipfhfaeooaaGreatDoorZR
import Derived.Test.YtibdipfhfaeooaaGreatDoorYD
import Derived.Test.YtibdipfhfaeooaaGreatDoorYE
import Derived.Maps.RangeWalk
set_option linter.unusedVariables false
set_option linter.unusedSimpArgs false
namespace Go.Proofs.YtibdipfhfaeooaaGreatDoor
open Go.RowKit

theorem dl_le30 {z : Int} (h : z.natAbs < 10 ^ 30) : dl z ≤ 2000 := by
 unfold dl
 split
 ·omega
 ·have := digs_len_le (B := 10) (by omega) h; omega
theorem four_R2 {e : Ending} {w' : World} (h : FindR fourM 3 e w') : ∃ A c, e = .returned (.tuple #[.agg #[.int .i64 3, .string { data := #[49] }, .slice A 2 c], .int .i64 0]) ∧ LsL w' A c [[0], [1, 4, 2]] ∧ FoundL fourM 1 [[0], [1, 4, 2]] := by
 have hd : downP fourM (3 : Int).toNat = (3, 1) := fourM_down
 rcases h with ⟨h, -⟩ | ⟨-, h, -⟩ | ⟨-, -, -, -, ⟨h, -⟩ | ⟨h, h2, -⟩ | ⟨-, -, -, A, c, ls, he, hl, hf, -⟩⟩
 ·rw [okB_iff.2 fourM_ok] at h; cases h
 ·exact absurd ⟨four_rise, by omega, by decide⟩ h
 ·rw [hd] at h; cases h
 ·exfalso
  rw [hd] at h2
  rcases h2 with h2 | ⟨k, h3, h4⟩
  ·exact absurd h2 (by decide)
  ·exact h4 (four_fine k h3)
 ·rw [hd] at he hf
  have e2 := four_found hf
  subst e2
  refine ⟨A, c, ?_, hl, hf⟩
  rw [he, ← lit1]
  rfl
theorem col_R4 {e : Ending} {w' : World} (h : FindR colM 4 e w') : e = .returned (.tuple #[zPr, .int .i64 4]) := by
 have hd : (downP colM (4 : Int).toNat).1 = 0 := by decide +kernel
 rcases h with ⟨h, -⟩ | ⟨-, h, -⟩ | ⟨-, -, -, -, ⟨-, h⟩ | ⟨h, -⟩ | ⟨h, -⟩⟩
 ·rw [okB_iff.2 colM_ok] at h; cases h
 ·exact absurd ⟨col_rise, by omega, by decide⟩ h
 ·exact h
 ·exact absurd hd h
 ·exact absurd hd h
theorem four_acc {ls : List (List Int)} (h : FoundL fourM 1 ls) : Acc fourM 3 1 ls := acc_of_found fourM_ok four_rise (by omega) (by decide) fourM_down (by omega) four_fine h
set_option maxRecDepth 100000 in
theorem four_orb : (List.range 58).all (fun j => decide (itZ fourM 1000000007 j ≠ 0 ∧ itZ fourM 1000000007 j ≠ 1 ∧ itZ fourM 1000000007 j ≠ 4 ∧ itZ fourM 1000000007 j ≠ 2)) = true := by decide +kernel
set_option maxRecDepth 100000 in
theorem four_fit : (List.range 59).all (fun j => decide ((itZ fourM 1000000007 j).natAbs < 10 ^ 30)) = true := by decide +kernel
theorem four_58 : itZ fourM 1000000007 58 = 4 := by decide +kernel
theorem four_end {e : Ending} (h : EndR fourM [[0], [1, 4, 2]] 1000000007 e) : e = .returned (.tuple #[.string { data := #[49] }, .int .i64 0]) := by
 have hno : ∀ j, j < 58 → ∀ q, q < 2 → itZ fourM 1000000007 j ∉ lpi [[0], [1, 4, 2]] q := fun j hj q hq => by
  have h1 := of_decide_eq_true (List.all_eq_true.1 four_orb j (List.mem_range.2 hj))
  have : q = 0 ∨ q = 1 := by omega
  rcases this with rfl | rfl
  ·rw [show lpi [[0], [1, 4, 2]] 0 = [0] from rfl]
   simpa using h1.1
  ·rw [show lpi [[0], [1, 4, 2]] 1 = [1, 4, 2] from rfl]
   simpa using h1.2
 have hin : itZ fourM 1000000007 58 ∈ lpi [[0], [1, 4, 2]] 1 := by
  rw [four_58, show lpi [[0], [1, 4, 2]] 1 = [1, 4, 2] from rfl]
  simp
 have hsz : ∀ j, j ≤ 58 → dl (itZ fourM 1000000007 j) ≤ 2000 := fun j hj => dl_le30 (of_decide_eq_true (List.all_eq_true.1 four_fit j (List.mem_range.2 (by omega))))
 rcases h with ⟨t, i, -, hi, h1, h2, -, rfl⟩ | ⟨t, -, h2, -, h3, -⟩
 ·have hi2 : i < 2 := hi
  have ht : t = 58 := by
   rcases Nat.lt_trichotomy t 58 with h | h | h
   ·exact absurd h1 (hno t h i hi2)
   ·exact h
   ·exact absurd hin (h2 58 h 1 (by decide))
  subst ht
  have : i = 1 := by
   rcases (show i = 0 ∨ i = 1 by omega) with rfl | rfl
   ·rw [four_58, show lpi [[0], [1, 4, 2]] 0 = [0] from rfl] at h1
    simp at h1
   ·rfl
  subst this
  rw [show gd (lpi [[0], [1, 4, 2]] 1) 0 = 1 from rfl, lit1]
 ·exfalso
  have ht : t ≤ 58 := by
   apply Classical.byContradiction
   intro h
   exact absurd hin (h2 58 (by omega) 1 (by decide))
  rcases h3 with h3 | h3
  ·omega
  ·have := hsz t ht
   omega
def lp4 : List ByteArray := [⟨#[49]⟩, ⟨#[52]⟩, ⟨#[50]⟩]
theorem lpz_eq : ([0] : List Int).map tS = [(⟨#[48]⟩ : ByteArray)] := by
 simp only [List.map_cons, List.map_nil]
 rw [lit0]
theorem lp4_eq : ([1, 4, 2] : List Int).map tS = lp4 := by
 simp only [List.map_cons, List.map_nil]
 rw [lit1, show tS 4 = (⟨#[52]⟩ : ByteArray) from (tS_F 3 4 (by decide)).trans (by kernel_rfl), show tS 2 = (⟨#[50]⟩ : ByteArray) from (tS_F 3 2 (by decide)).trans (by kernel_rfl)]
 rfl
theorem LsS.litA (w : World) (e : TypeId) (l : List ByteArray) (hl : l.length ≤ 9223372036854775807) : LsS (w.alloc (.cells (strs l).toArray e)) (some ⟨w.heap.size, 0, none⟩) l.length l := by
 refine ⟨⟨by simp [strs], fun _ => ⟨w.heap.size, 0, rfl, by simp, fun j u hj => ?_⟩⟩, Nat.le_refl _, hl⟩
 simp only [World.cell?, heap_alloc_new]
 simpa using hj
/-- The certificate that the law writes down. -/
theorem want_ls (w : World) (t t2 : TypeId) : LsL (((w.alloc (.cells #[.string { data := #[48] }] t)).alloc (.cells #[.string { data := #[49] }, .string { data := #[52] }, .string { data := #[50] }] t)).alloc (.cells #[.slice (some ⟨w.heap.size, 0, none⟩) 1 1, .slice (some ⟨w.heap.size + 1, 0, none⟩) 3 3] t2)) (some ⟨w.heap.size + 2, 0, none⟩) 2 [[0], [1, 4, 2]] := by
 have b1 := below_alloc (Below.refl w.heap.size w) (.cells #[.string { data := #[48] }] t)
 have g1 := LsS.litA w t [⟨#[48]⟩] (by decide)
 have e1 : (w.alloc (.cells #[.string { data := #[48] }] t)).heap.size = w.heap.size + 1 := by simp
 have g2 := LsS.litA (w.alloc (.cells #[.string { data := #[48] }] t)) t lp4 (by decide)
 rw [e1] at g2
 have e2 : ((w.alloc (.cells #[.string { data := #[48] }] t)).alloc (.cells #[.string { data := #[49] }, .string { data := #[52] }, .string { data := #[50] }] t)).heap.size = w.heap.size + 2 := by simp
 have g1 := (g1.below (below_alloc (Below.refl _ _) (.cells #[.string { data := #[49] }, .string { data := #[52] }, .string { data := #[50] }] t))).below (below_alloc (Below.refl _ _) (.cells #[.slice (some ⟨w.heap.size, 0, none⟩) 1 1, .slice (some ⟨w.heap.size + 1, 0, none⟩) 3 3] t2))
 have g2 := LsS.below (w' := ((w.alloc (.cells #[.string { data := #[48] }] t)).alloc (.cells #[.string { data := #[49] }, .string { data := #[52] }, .string { data := #[50] }] t)).alloc (.cells #[.slice (some ⟨w.heap.size, 0, none⟩) 1 1, .slice (some ⟨w.heap.size + 1, 0, none⟩) 3 3] t2)) g2 (below_alloc (Below.refl _ _) _)
 have hx : ∀ j u, (#[Value.slice (some ⟨w.heap.size, 0, none⟩) 1 1, Value.slice (some ⟨w.heap.size + 1, 0, none⟩) 3 3] : Array Value)[j]? = some u → (((w.alloc (.cells #[.string { data := #[48] }] t)).alloc (.cells #[.string { data := #[49] }, .string { data := #[52] }, .string { data := #[50] }] t)).alloc (.cells #[.slice (some ⟨w.heap.size, 0, none⟩) 1 1, .slice (some ⟨w.heap.size + 1, 0, none⟩) 3 3] t2)).cell? ⟨w.heap.size + 2, 0 + j, none⟩ = some u := fun j u hu => by
  simp only [World.cell?]
  rw [← e2, heap_alloc_new]
  simpa using hu
 refine ⟨by simp, fun j hj => ?_⟩
 have hj2 : j < 2 := by simpa using hj
 rw [lsi_map, List.length_map]
 rcases (show j = 0 ∨ j = 1 by omega) with rfl | rfl
 ·rw [show lpi [[0], [1, 4, 2]] 0 = [0] from rfl, lpz_eq]
  exact ⟨_, 0, some ⟨w.heap.size, 0, none⟩, 1, rfl, ⟨hx 0 _ rfl, by simp⟩, g1⟩
 ·rw [show lpi [[0], [1, 4, 2]] 1 = [1, 4, 2] from rfl, lp4_eq]
  exact ⟨_, 0, some ⟨w.heap.size + 1, 0, none⟩, 3, rfl, ⟨hx 1 _ rfl, by simp⟩, g2⟩
theorem want_sizes : ∀ l ∈ ([[0], [1, 4, 2]] : List (List Int)), ∀ z ∈ l, dlN z.natAbs ≤ 2000 := by
 intro l hl z hz
 have h : 0 ≤ z ∧ z ≤ 20000 := by
  simp at hl
  rcases hl with rfl | rfl
  ·simp at hz; omega
  ·simp at hz; omega
 exact dlN_20000 h.1 h.2
set_option maxHeartbeats 4000000 in
theorem Ex_c (w : World) : Calls Tryz.prog 62 #[] w fun e w' => ∃ v, e = .returned v ∧ IsM w' v fourM ∧ Below w.heap.size w w' := by
 go_enter Tryz.func62, Tryz.ntmps62
 go_wp2
 have h := two_isM (w.alloc (.cells #[.int .i64 2, .slice (some ⟨w.heap.size + 1, 0, none⟩) 2 2, .slice (some ⟨w.heap.size + 1 + 1, 0, none⟩) 2 2] 24)) 3 2 [1, 4] [0, 4] (by decide) (by decide)
 rw [show (w.alloc (.cells #[.int .i64 2, .slice (some ⟨w.heap.size + 1, 0, none⟩) 2 2, .slice (some ⟨w.heap.size + 1 + 1, 0, none⟩) 2 2] 24)).heap.size = w.heap.size + 1 by simp] at h
 refine bodyPost_ret (v := .agg #[.int .i64 2, .slice (some ⟨w.heap.size + 1, 0, none⟩) 2 2, .slice (some ⟨w.heap.size + 1 + 1, 0, none⟩) 2 2]) (by simp [results, Tryz.results62, go_sem]) rfl ⟨_, rfl, h, ?_⟩
 exact below_alloc (below_alloc (below_alloc (Below.refl _ _) _) _) _
set_option maxRecDepth 100000 in
set_option maxHeartbeats 16000000 in
theorem awake9_c (w : World) (ht : Tb w) : Calls Tryz.prog 21 #[] w fun e w' => e = .returned (.bool true) ∧ Below w.heap.size w w' := by
 have HTB := Lib.hid ht
 have HB : Below w.heap.size w w := Below.refl _ _
 clear ht
 go_enter Tryz.func21, Tryz.ntmps21
 go_wp2_with fail
 (with_reducible refine (Ex_c _).mono ?_)
 rintro e w2 ⟨v, rfl, hv, hb⟩
 obtain ⟨md4, A4, n4, k4, A4', n4', k4', rfl, HM4⟩ := hv.form
 replace HB := below_step HB hb
 clear hv hb
 go_wp2_with fail
 (with_reducible refine (Find_c fourM 3 _ _ HM4.out (HTB.out.below HB)).mono ?_)
 rintro e w3 ⟨hR, hb⟩
 obtain ⟨A2, c2, rfl, hl, hf⟩ := four_R2 hR
 have HL2 := Lib.hid hl
 have HF2 := Lib.hid hf
 replace HB := below_step HB hb
 clear hR hl hf hb HM4
 go_upto_region 2 with fail
 have VP := VQ.new (x := .int .i64 3) (y := .string { data := #[49] }) (z := .slice A2 2 c2) w3 27
 have hb := below_alloc (Below.refl w3.heap.size w3) (Obj.cells #[Value.int .i64 3, Value.string { data := #[49] }, Value.slice A2 2 c2] 27)
 replace HL2 := Lib.hid (HL2.out.below hb)
 replace HB := below_step HB hb
 generalize hWa : w3.alloc (Obj.cells #[Value.int .i64 3, Value.string { data := #[49] }, Value.slice A2 2 c2] 27) = w5 at *
 obtain ⟨b3, hb3⟩ : ∃ b, w3.heap.size = b := ⟨_, rfl⟩
 rw [hb3] at VP ⊢
 clear hWa hb hb3
 go_upto_region 3 with fail
 have HW5 := Lib.hid (want_ls w5 9 45)
 have hb1 := below_alloc (below_alloc (below_alloc (Below.refl w5.heap.size w5) (Obj.cells #[Value.string { data := #[48] }] 9)) (Obj.cells #[Value.string { data := #[49] }, Value.string { data := #[52] }, Value.string { data := #[50] }] 9)) (Obj.cells #[Value.slice (some ⟨w5.heap.size, 0, none⟩) 1 1, Value.slice (some ⟨w5.heap.size + 1, 0, none⟩) 3 3] 45)
 generalize hW6 : ((w5.alloc (Obj.cells #[Value.string { data := #[48] }] 9)).alloc (Obj.cells #[Value.string { data := #[49] }, Value.string { data := #[52] }, Value.string { data := #[50] }] 9)).alloc (Obj.cells #[Value.slice (some ⟨w5.heap.size, 0, none⟩) 1 1, Value.slice (some ⟨w5.heap.size + 1, 0, none⟩) 3 3] 45) = w6 at *
 have hs6 : w6.heap.size = w5.heap.size + 3 := by rw [← hW6]; simp
 obtain ⟨bw, hbw⟩ : ∃ b, w5.heap.size + 2 = b := ⟨_, rfl⟩
 rw [hbw] at HW5
 generalize hW7 : w6.alloc _ = w7
 have hb2 : Below w6.heap.size w6 w7 := by subst hW7; exact below_alloc (Below.refl _ _) _
 have VW : VQ w7 (w5.heap.size + 3) (.int .i64 3) (.string { data := #[49] }) (.slice (some ⟨bw, 0, none⟩) 2 2) := by
  subst hW7
  rw [← hs6, ← hbw]
  exact VQ.new w6 27
 have hb := below_step hb1 hb2
 replace HW5 := Lib.hid (HW5.out.below hb2)
 replace HL2 := Lib.hid (HL2.out.below hb); replace VP := VP.keep hb; replace HB := below_step HB hb
 clear hW6 hW7 hb hb1 hb2 hs6
 replace HW5 := Lib.hid (HW5.out.below (below_drew (Below.refl _ _))); replace HL2 := Lib.hid (HL2.out.below (below_drew (Below.refl _ _))); replace VP := VP.drew; replace VW := VW.drew; replace HB := below_drew HB
 generalize hWd : w7.drew = wd at *
 obtain ⟨bq, hbq⟩ : ∃ b, w5.heap.size + 3 = b := ⟨_, rfl⟩
 have hbq2 : w5.heap.size + 1 + 1 + 1 = bq := by omega
 (try rw [hbq2])
 rw [hbq] at VW
 (try rw [hbq])
 have HCK : Hid (∀ (u : Value) {W : World}, IsM W u fourM → LsL W (some ⟨bw, 0, none⟩) 2 [[0], [1, 4, 2]] → Tb W → Calls Tryz.prog 14 #[u, .agg #[.int .i64 3, .string { data := #[49] }, .slice (some ⟨bw, 0, none⟩) 2 2]] W fun e w' => e = .returned (.tuple #[.bool true, .int .i64 0]) ∧ Below W.heap.size W w') := fun u W h1 h2 h3 => by
  have := Check_c fourM 3 1 [[0], [1, 4, 2]] u (some ⟨bw, 0, none⟩) 2 W h1 fourM_ok (dlN_20000 (by omega) (by omega)) h2 want_sizes h3 true ⟨fun _ => ⟨by omega, four_acc HF2.out⟩, fun _ => rfl⟩
  rw [lit1] at this
  exact this
 have HEN : Hid (∀ (u : Value) {W : World}, IsM W u fourM → LsL W (some ⟨bw, 0, none⟩) 2 [[0], [1, 4, 2]] → Tb W → Calls Tryz.prog 34 #[u, .agg #[.int .i64 3, .string { data := #[49] }, .slice (some ⟨bw, 0, none⟩) 2 2], .string { data := #[49, 48, 48, 48, 48, 48, 48, 48, 48, 55] }] W fun e w' => e = .returned (.tuple #[.string { data := #[49] }, .int .i64 0]) ∧ Below W.heap.size W w') := fun u W h1 h2 h3 => by
  have := End_acc fourM 3 1 1000000007 [[0], [1, 4, 2]] u (some ⟨bw, 0, none⟩) 2 W h1 fourM_ok (dlN_20000 (by omega) (by omega)) h2 want_sizes h3 (by rw [← dl_dlN]; exact dl_le30 (by decide)) (by omega) ⟨by omega, four_acc HF2.out⟩
  rw [lit1, show tS 1000000007 = ({ data := #[49, 48, 48, 48, 48, 48, 48, 48, 48, 55] } : ByteArray) from (tS_F 11 1000000007 (by decide)).trans (by kernel_rfl)] at this
  exact this.mono fun e w' ⟨h4, h5⟩ => ⟨four_end h4, h5⟩
 refine wp_region_F (fun w' => w'.cell? ⟨bq, 0, none⟩ = some (.int .i64 3) ∧ w'.cell? ⟨bq, 1, none⟩ = some (.string { data := #[49] }) ∧ w'.cell? ⟨bq, 2, none⟩ = some (.slice (some ⟨bw, 0, none⟩) 2 2)) [] (by kernel_rfl) (by rw [hWd]; exact ⟨VW.c0, VW.c1, VW.c2⟩) (fun hHeld => ?_)
 rw [hWd] at hHeld ⊢
 refine tF 1 ({ dst := some 23, op := Go.Op.load 27 (Go.Operand.tmp 3), type := 27, pos := "law.go:20", after := #[], guard := none }) hHeld ?_; try go_frame
 refine wpAnyF_one (i := 0) (by kernel_rfl) rfl (fun K hK => ?_)
 go_simp
 (go_at_call 62; (with_reducible refine (Ex_c _).mono ?_); rintro e w8 ⟨v, rfl, hv, hb⟩; obtain ⟨md4, A4, n4, k4, A4', n4', k4', rfl, HM4⟩ := hv.form; replace HW5 := Lib.hid (HW5.out.below hb); replace HL2 := Lib.hid (HL2.out.below hb); replace VP := VP.keep hb; replace VW := VW.keep hb; replace HB := below_step HB hb; clear hv hb)
 refine hK.out _ _ (by exact ⟨VW.c0, VW.c1, VW.c2⟩) (fun hHeld => ?_)
 clear hK K
 try go_frame
 refine wpAnyF_one (i := 2) (by kernel_rfl) rfl (fun K hK => ?_)
 go_simp
 (go_at_call 14; (with_reducible refine (HCK.out _ HM4.out HW5.out (HTB.out.below HB)).mono ?_); rintro e w9 ⟨rfl, hb⟩; replace HW5 := Lib.hid (HW5.out.below hb); replace HL2 := Lib.hid (HL2.out.below hb); replace VP := VP.keep hb; replace VW := VW.keep hb; replace HB := below_step HB hb; clear hb HM4)
 refine hK.out _ _ (by exact ⟨VW.c0, VW.c1, VW.c2⟩) (fun hHeld => ?_)
 clear hK K
 try go_frame
 refine tF 3 ({ dst := some 21, op := Go.Op.move (Go.Operand.tmp 24), type := 32, pos := "law.go:20", after := #[{ on := 2, ground := Go.Ground.data }], guard := none }) hHeld ?_; try go_frame
 refine tF 4 ({ dst := some 25, op := Go.Op.extract (Go.Operand.tmp 21) 0, type := 4, pos := "law.go:20", after := #[{ on := 3, ground := Go.Ground.data }], guard := none }) hHeld ?_; try go_frame
 refine tF 5 ({ dst := some 26, op := Go.Op.extract (Go.Operand.tmp 21) 1, type := 31, pos := "law.go:20", after := #[{ on := 3, ground := Go.Ground.data }, { on := 6, ground := Go.Ground.gcOnly Go.Departure.lateStores }], guard := none }) hHeld ?_; try go_frame
 refine tF 6 ({ dst := some 4, op := Go.Op.assign (Go.Operand.tmp 25), type := 4, pos := "law.go:20", after := #[{ on := 4, ground := Go.Ground.data }, { on := 2, ground := Go.Ground.chain }, { on := 0, ground := Go.Ground.phase }, { on := 1, ground := Go.Ground.phase }, { on := 2, ground := Go.Ground.phase }, { on := 3, ground := Go.Ground.phase }, { on := 4, ground := Go.Ground.phase }, { on := 5, ground := Go.Ground.textOnly Go.Departure.lateStores }], guard := none }) hHeld ?_; try go_frame
 refine tF 7 ({ dst := some 5, op := Go.Op.assign (Go.Operand.tmp 26), type := 31, pos := "law.go:20", after := #[{ on := 5, ground := Go.Ground.data }, { on := 6, ground := Go.Ground.chain }, { on := 0, ground := Go.Ground.phase }, { on := 1, ground := Go.Ground.phase }, { on := 2, ground := Go.Ground.phase }, { on := 3, ground := Go.Ground.phase }, { on := 4, ground := Go.Ground.phase }, { on := 5, ground := Go.Ground.phase }, { on := 6, ground := Go.Ground.phase }], guard := none }) hHeld ?_; try go_frame
 refine wpAnyF_done (by kernel_rfl) ?_ _
 clear hHeld hWd
 go_upto_region 4 with fail
 replace HW5 := Lib.hid (HW5.out.below (below_drew (Below.refl _ _))); replace HL2 := Lib.hid (HL2.out.below (below_drew (Below.refl _ _))); replace VP := VP.drew; replace VW := VW.drew; replace HB := below_drew HB
 generalize hWd : w9.drew = wd2 at *
 refine wp_region_F (fun w' => w'.cell? ⟨bq, 0, none⟩ = some (.int .i64 3) ∧ w'.cell? ⟨bq, 1, none⟩ = some (.string { data := #[49] }) ∧ w'.cell? ⟨bq, 2, none⟩ = some (.slice (some ⟨bw, 0, none⟩) 2 2)) [] (by kernel_rfl) (by rw [hWd]; exact ⟨VW.c0, VW.c1, VW.c2⟩) (fun hHeld => ?_)
 rw [hWd] at hHeld ⊢
 refine tF 1 ({ dst := some 29, op := Go.Op.load 27 (Go.Operand.tmp 3), type := 27, pos := "law.go:21", after := #[], guard := none }) hHeld ?_; try go_frame
 refine wpAnyF_one (i := 0) (by kernel_rfl) rfl (fun K hK => ?_)
 go_simp
 (go_at_call 62; (with_reducible refine (Ex_c _).mono ?_); rintro e wa ⟨v, rfl, hv, hb⟩; obtain ⟨md4, A4, n4, k4, A4', n4', k4', rfl, HM4⟩ := hv.form; replace HW5 := Lib.hid (HW5.out.below hb); replace HL2 := Lib.hid (HL2.out.below hb); replace VP := VP.keep hb; replace VW := VW.keep hb; replace HB := below_step HB hb; clear hv hb)
 refine hK.out _ _ (by exact ⟨VW.c0, VW.c1, VW.c2⟩) (fun hHeld => ?_)
 clear hK K
 try go_frame
 refine wpAnyF_one (i := 2) (by kernel_rfl) rfl (fun K hK => ?_)
 go_simp
 (go_at_call 34; (with_reducible refine (HEN.out _ HM4.out HW5.out (HTB.out.below HB)).mono ?_); rintro e wb ⟨rfl, hb⟩; replace HW5 := Lib.hid (HW5.out.below hb); replace HL2 := Lib.hid (HL2.out.below hb); replace VP := VP.keep hb; replace VW := VW.keep hb; replace HB := below_step HB hb; clear hb HM4)
 refine hK.out _ _ (by exact ⟨VW.c0, VW.c1, VW.c2⟩) (fun hHeld => ?_)
 clear hK K
 try go_frame
 refine tF 3 ({ dst := some 27, op := Go.Op.move (Go.Operand.tmp 30), type := 61, pos := "law.go:21", after := #[{ on := 2, ground := Go.Ground.data }], guard := none }) hHeld ?_; try go_frame
 refine tF 4 ({ dst := some 31, op := Go.Op.extract (Go.Operand.tmp 27) 0, type := 9, pos := "law.go:21", after := #[{ on := 3, ground := Go.Ground.data }], guard := none }) hHeld ?_; try go_frame
 refine tF 5 ({ dst := some 32, op := Go.Op.extract (Go.Operand.tmp 27) 1, type := 31, pos := "law.go:21", after := #[{ on := 3, ground := Go.Ground.data }, { on := 6, ground := Go.Ground.gcOnly Go.Departure.lateStores }], guard := none }) hHeld ?_; try go_frame
 refine tF 6 ({ dst := some 6, op := Go.Op.assign (Go.Operand.tmp 31), type := 9, pos := "law.go:21", after := #[{ on := 4, ground := Go.Ground.data }, { on := 2, ground := Go.Ground.chain }, { on := 0, ground := Go.Ground.phase }, { on := 1, ground := Go.Ground.phase }, { on := 2, ground := Go.Ground.phase }, { on := 3, ground := Go.Ground.phase }, { on := 4, ground := Go.Ground.phase }, { on := 5, ground := Go.Ground.textOnly Go.Departure.lateStores }], guard := none }) hHeld ?_; try go_frame
 refine tF 7 ({ dst := some 7, op := Go.Op.assign (Go.Operand.tmp 32), type := 31, pos := "law.go:21", after := #[{ on := 5, ground := Go.Ground.data }, { on := 6, ground := Go.Ground.chain }, { on := 0, ground := Go.Ground.phase }, { on := 1, ground := Go.Ground.phase }, { on := 2, ground := Go.Ground.phase }, { on := 3, ground := Go.Ground.phase }, { on := 4, ground := Go.Ground.phase }, { on := 5, ground := Go.Ground.phase }, { on := 6, ground := Go.Ground.phase }], guard := none }) hHeld ?_; try go_frame
 refine wpAnyF_done (by kernel_rfl) ?_ _
 clear hHeld hWd HCK HEN
 go_wp2_with fail
 (with_reducible refine (Col_c _).mono ?_)
 rintro e wc ⟨v, rfl, hv, hb⟩
 obtain ⟨md4, A4, n4, k4, A4', n4', k4', rfl, HM4⟩ := hv.form
 replace HW5 := Lib.hid (HW5.out.below hb); replace HL2 := Lib.hid (HL2.out.below hb); replace VP := VP.keep hb; replace VW := VW.keep hb; replace HB := below_step HB hb
 clear hv hb
 go_wp2_with fail
 (with_reducible refine (Find_c colM 4 _ _ HM4.out (HTB.out.below HB)).mono ?_)
 rintro e we ⟨hR, hb⟩
 obtain rfl := col_R4 hR
 replace HW5 := Lib.hid (HW5.out.below hb); replace HL2 := Lib.hid (HL2.out.below hb); replace VP := VP.keep hb; replace VW := VW.keep hb; replace HB := below_step HB hb
 clear hR hb HM4
 go_upto_region 6 with fail
 generalize hWa : we.alloc _ = wf
 have hb : Below we.heap.size we wf := by subst hWa; exact below_alloc (Below.refl _ _) _
 replace HW5 := Lib.hid (HW5.out.below hb); replace HL2 := Lib.hid (HL2.out.below hb); replace VP := VP.keep hb; replace VW := VW.keep hb; replace HB := below_step HB hb
 clear hWa hb
 have HSM : Hid (∀ {W : World}, LsL W A2 c2 [[0], [1, 4, 2]] → LsL W (some ⟨bw, 0, none⟩) 2 [[0], [1, 4, 2]] → Calls Tryz.prog 27 #[.agg #[.int .i64 3, .string { data := #[49] }, .slice A2 2 c2], .agg #[.int .i64 3, .string { data := #[49] }, .slice (some ⟨bw, 0, none⟩) 2 2]] W fun e w' => e = .returned (.bool true) ∧ Below W.heap.size W w') := fun {W} h1 h2 =>
  Same9_c 3 { data := #[49] } ([[0], [1, 4, 2]].map fun l => l.map tS) A2 (some ⟨bw, 0, none⟩) c2 2 W h1 h2
 have p0 := VP.c0; have p1 := VP.c1; have p2 := VP.c2; have q0 := VW.c0; have q1 := VW.c1; have q2 := VW.c2
 go_wp2_with fail
 (with_reducible refine (HSM.out HL2.out HW5.out).mono ?_)
 rintro e wg ⟨rfl, hb⟩
 replace HB := below_step HB hb
 clear hb p0 p1 p2 q0 q1 q2
 go_wp2
 go_ret
 exact ⟨rfl, HB⟩
end Go.Proofs.YtibdipfhfaeooaaGreatDoor

