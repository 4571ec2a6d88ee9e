/- katabasistop.TopStairs returns true. No condition but that the library's table lies as it should. -/
import Derived.Test.YtibdipfhfaeooaaGreatDoorZR
import Derived.Test.YtibdipfhfaeooaaGreatDoorZV
set_option linter.unusedVariables false
set_option linter.unusedSimpArgs false
namespace Go.Proofs.YtibdipfhfaeooaaGreatDoor
open Go.RowKit

theorem SlI.keepB {w w' : World} {k : IntKind} {b o c base : Nat} {l : List Int} (h : SlI w k (some ⟨b, o, none⟩) c l) (hb : Below base w w') (hl : b < base) : SlI w' k (some ⟨b, o, none⟩) c l := by
 obtain ⟨h1, h2⟩ := h
 refine ⟨⟨h1.1, fun hn => ?_⟩, h2⟩
 obtain ⟨b', o', e, hlt, hc⟩ := h1.2 hn
 cases e
 exact ⟨b, o, rfl, Nat.lt_of_lt_of_le hlt hb.size, fun j u hu => kcellB hb hl (hc j u hu)⟩
theorem VM.keepS {W w1 : World} {b : Nat} {md : Int} {g1 o1 n c g2 o2 n' c' base : Nat} {M : Mp} (h : VM W b md (some ⟨g1, o1, none⟩) n c (some ⟨g2, o2, none⟩) n' c' M) (hb : Below base W w1) (h0 : b < base) (h1 : g1 < base) (h2 : g2 < base) : VM w1 b md (some ⟨g1, o1, none⟩) n c (some ⟨g2, o2, none⟩) n' c' M := by
 obtain ⟨e1, e2, e3, s1, s2⟩ := h.sl
 exact ⟨kcellB hb h0 h.c0, kcellB hb h0 h.c1, kcellB hb h0 h.c2, Nat.lt_of_lt_of_le h.lt hb.size, ⟨_, c, _, c', by rw [e1, e2, e3], s1.keepB hb h1, s2.keepB hb h2⟩⟩
theorem LsS.lits (w : World) (e : TypeId) (l : List ByteArray) (hl : l.length ≤ 9223372036854775807) : LsS (w.alloc (.cells (strs l).toArray e)) (some ⟨w.heap.size, 0, none⟩) l.length l := by
 refine ⟨⟨by simp [strs], fun _ => ⟨w.heap.size, 0, rfl, by simp, fun j u hj => ?_⟩⟩, Nat.le_refl _, hl⟩
 simp only [World.cell?, heap_alloc_new]
 simpa using hj
def lp0 : List ByteArray := [⟨#[48]⟩]
def lp1 : List ByteArray := [⟨#[49]⟩, ⟨#[54, 50, 53]⟩, ⟨#[49, 50, 53]⟩, ⟨#[50, 53]⟩, ⟨#[53]⟩]
theorem lp0_eq : ([0] : List Int).map tS = lp0 := by
 simp only [List.map_cons, List.map_nil]
 rw [lit0]
 rfl
theorem lp1_eq : ([1, 625, 125, 25, 5] : List Int).map tS = lp1 := by
 simp only [List.map_cons, List.map_nil]
 rw [lit1, show tS 625 = (⟨#[54, 50, 53]⟩ : ByteArray) from (tS_F 3 625 (by decide)).trans (by kernel_rfl), show tS 125 = (⟨#[49, 50, 53]⟩ : ByteArray) from (tS_F 3 125 (by decide)).trans (by kernel_rfl), show tS 25 = (⟨#[50, 53]⟩ : ByteArray) from (tS_F 3 25 (by decide)).trans (by kernel_rfl), show tS 5 = (⟨#[53]⟩ : ByteArray) from (tS_F 3 5 (by decide)).trans (by kernel_rfl)]
 rfl
theorem stair_sizes : ∀ l ∈ ([[0], [1, 625, 125, 25, 5]] : List (List Int)), ∀ z ∈ l, dlN z.natAbs ≤ 2000 := by
 intro l hl z hz
 have h : 0 ≤ z ∧ z ≤ 20000 := by
  simp at hl
  rcases hl with rfl | rfl
  ·simp at hz; omega
  ·simp at hz; omega
 exact dlN_20000 h.1 h.2
/-- The first loop and the second. -/
theorem stair_loops {w : World} {A : Option Addr} {c : Nat} (h : LsL w A c [[0], [1, 625, 125, 25, 5]]) : ∃ b o A1 c1 A2 c2, A = some ⟨b, o, none⟩ ∧ CL w b o (.slice A1 1 c1) ∧ LsS w A1 c1 lp0 ∧ CL w b (o + 1) (.slice A2 5 c2) ∧ LsS w A2 c2 lp1 := by
 obtain ⟨b, o, rfl⟩ := h.ptr (by decide)
 obtain ⟨A1, c1, h1, h2⟩ := h.atL (j := 0) (by decide)
 obtain ⟨A2, c2, h3, h4⟩ := h.atL (j := 1) (by decide)
 have e0 : (lpi [[0], [1, 625, 125, 25, 5]] 0) = [0] := rfl
 have e1 : (lpi [[0], [1, 625, 125, 25, 5]] 1) = [1, 625, 125, 25, 5] := rfl
 rw [e0] at h1 h2
 rw [e1] at h3 h4
 rw [lp0_eq] at h2
 rw [lp1_eq] at h4
 exact ⟨b, o, A1, c1, A2, c2, rfl, h1, h2, h3, h4⟩
theorem same0 {w : World} {A A' : Option Addr} {c c' : Nat} (h : LsS w A c lp0) (h' : LsS w A' c' lp0) : Calls Tryz.prog 19 #[.slice A 1 c, .slice A' 1 c'] w fun e w' => e = .returned (.bool true) ∧ Below w.heap.size w w' := same_c lp0 lp0 A A' c c' w h h' rfl
theorem same1 {w : World} {A A' : Option Addr} {c c' : Nat} (h : LsS w A c lp1) (h' : LsS w A' c' lp1) : Calls Tryz.prog 19 #[.slice A 5 c, .slice A' 5 c'] w fun e w' => e = .returned (.bool true) ∧ Below w.heap.size w w' := same_c lp1 lp1 A A' c c' w h h' rfl
set_option maxRecDepth 100000 in
set_option maxHeartbeats 16000000 in
theorem TopStairs_law (w : World) (ht : Tb w) : Calls Tryz.prog 4 #[] w fun e w' => e = .returned (.bool true) ∧ Below w.heap.size w w' := by
 have HTB := Lib.hid ht
 clear ht
 go_enter Tryz.func4, Tryz.ntmps4
 go_upto_region 2 with fail
 generalize hW : ((w.alloc (Obj.cells #[Value.int .i64 1, Value.int .i64 625, Value.int .i64 1, Value.int .i64 1, Value.int .i64 1] 3)).alloc (Obj.cells #[Value.int .i64 0, Value.int .i64 2500, Value.int .i64 3, Value.int .i64 2, Value.int .i64 1] 3)).alloc _ = W
 have HB : Below w.heap.size w W := by subst hW; exact below_alloc (below_alloc (below_alloc (Below.refl _ _) _) _) _
 have hws : W.heap.size = w.heap.size + 3 := by subst hW; simp
 have V3 : VM W (w.heap.size + 2) 5 (some ⟨w.heap.size, 0, none⟩) 5 5 (some ⟨w.heap.size + 1, 0, none⟩) 5 5 stairM := by
  subst hW
  have h1 := VM.new ((w.alloc (Obj.cells #[Value.int .i64 1, Value.int .i64 625, Value.int .i64 1, Value.int .i64 1, Value.int .i64 1] 3)).alloc (Obj.cells #[Value.int .i64 0, Value.int .i64 2500, Value.int .i64 3, Value.int .i64 2, Value.int .i64 1] 3)) 24 (two_isM w 3 5 [1, 625, 1, 1, 1] [0, 2500, 3, 2, 1] (by decide) (by decide))
  rw [show ((w.alloc (Obj.cells #[Value.int .i64 1, Value.int .i64 625, Value.int .i64 1, Value.int .i64 1, Value.int .i64 1] 3)).alloc (Obj.cells #[Value.int .i64 0, Value.int .i64 2500, Value.int .i64 3, Value.int .i64 2, Value.int .i64 1] 3)).heap.size = w.heap.size + 2 by simp] at h1
  exact h1
 clear hW
 have m0 := V3.c0; have m1 := V3.c1; have m2 := V3.c2
 go_wp2_with fail
 (with_reducible refine (Find_c stairM 6 _ _ V3.im.out (HTB.out.below HB)).mono ?_)
 rintro e w2 ⟨hR, hb⟩
 obtain ⟨A2, c2, rfl, hl, hf⟩ := stair_R hR
 replace HB := below_step HB hb; replace V3 := V3.keep hb
 clear m0 m1 m2
 have HL2 := Lib.hid hl
 have HF2 := Lib.hid hf
 clear hR hb hl hf
 go_upto_region 3 with fail
 have RP := R3.new (x := .int .i64 5) (y := .string { data := #[49] }) (z := .slice A2 2 c2) w2 27
 have hb := below_alloc (Below.refl w2.heap.size w2) (Obj.cells #[Value.int .i64 5, Value.string { data := #[49] }, Value.slice A2 2 c2] 27)
 have hw2 : w.heap.size + 2 < w2.heap.size := V3.lt
 replace HB := below_step HB hb; replace V3 := V3.keep hb
 replace HL2 := Lib.hid (HL2.out.below hb)
 generalize hWa : w2.alloc (Obj.cells #[Value.int .i64 5, Value.string { data := #[49] }, Value.slice A2 2 c2] 27) = w3 at *
 obtain ⟨b2, hb2⟩ : ∃ b, w2.heap.size = b := ⟨_, rfl⟩
 rw [hb2] at RP hw2 ⊢
 clear hWa hb hb2
 obtain ⟨bA, oA, A4, c4, A5, c5, rfl, CA, hs0, CB, hs1⟩ := stair_loops HL2.out
 have HS0 := Lib.hid hs0
 have HS1 := Lib.hid hs1
 clear hs0 hs1
 have HLS : Hid (LsS (w3.alloc (.cells #[.string { data := #[48] }] 9)) (some ⟨w3.heap.size, 0, none⟩) 1 lp0) := LsS.lits w3 9 lp0 (by decide)
 have hba := below_alloc (Below.refl w3.heap.size w3) (Obj.cells #[Value.string { data := #[48] }] 9)
 have p0 := RP.q.c0; have p1 := RP.q.c1; have p2 := RP.q.c2
 have q0 := CA.c; have q1 := CB.c
 go_wp2_with fail
 (with_reducible refine (same0 (HS0.out.below hba) HLS.out).mono ?_)
 rintro e w4 ⟨rfl, hb⟩
 replace hb := below_step hba hb
 clear p0 p1 p2
 replace HB := below_step HB hb; replace V3 := V3.keep hb; replace RP := RP.keep hb
 replace HL2 := Lib.hid (HL2.out.below hb)
 replace CA := CA.keep hb; replace CB := CB.keep hb; replace HS0 := Lib.hid (HS0.out.below hb); replace HS1 := Lib.hid (HS1.out.below hb)
 clear hb hba HLS q0 q1
 have HLS : Hid (LsS (w4.alloc (.cells #[.string { data := #[49] }, .string { data := #[54, 50, 53] }, .string { data := #[49, 50, 53] }, .string { data := #[50, 53] }, .string { data := #[53] }] 9)) (some ⟨w4.heap.size, 0, none⟩) 5 lp1) := LsS.lits w4 9 lp1 (by decide)
 have hba := below_alloc (Below.refl w4.heap.size w4) (Obj.cells #[Value.string { data := #[49] }, Value.string { data := #[54, 50, 53] }, Value.string { data := #[49, 50, 53] }, Value.string { data := #[50, 53] }, Value.string { data := #[53] }] 9)
 have p0 := RP.q.c0; have p1 := RP.q.c1; have p2 := RP.q.c2
 have q0 := CA.c; have q1 := CB.c
 go_wp2_with fail
 (with_reducible refine (same1 (HS1.out.below hba) HLS.out).mono ?_)
 rintro e w5 ⟨rfl, hb⟩
 replace hb := below_step hba hb
 clear p0 p1 p2
 replace HB := below_step HB hb; replace V3 := V3.keep hb; replace RP := RP.keep hb
 replace HL2 := Lib.hid (HL2.out.below hb)
 clear hb hba HLS q0 q1 CA CB HS0 HS1
 have m0 := V3.c0; have m1 := V3.c1; have m2 := V3.c2
 go_wp2_with fail
 (with_reducible refine (Find_c stairM 4 _ _ V3.im.out (HTB.out.below HB)).mono ?_)
 rintro e w6 ⟨hR, hb⟩
 obtain rfl := stair_R4 hR
 replace HB := below_step HB hb; replace V3 := V3.keep hb; replace RP := RP.keep hb
 replace HL2 := Lib.hid (HL2.out.below hb)
 clear m0 m1 m2
 clear hR hb
 go_upto_region 6 with fail
 generalize hWa : w6.alloc _ = w7
 have hb : Below w6.heap.size w6 w7 := by subst hWa; exact below_alloc (Below.refl _ _) _
 replace HB := below_step HB hb; replace V3 := V3.keep hb; replace RP := RP.keep hb
 replace HL2 := Lib.hid (HL2.out.below hb)
 clear hWa hb
 have HC5 : Hid (∀ (u : Value) {W : World}, IsM W u stairM → LsL W (some ⟨bA, oA, none⟩) c2 [[0], [1, 625, 125, 25, 5]] → Tb W → Calls Tryz.prog 14 #[u, .agg #[.int .i64 5, .string { data := #[49] }, .slice (some ⟨bA, oA, none⟩) 2 c2]] W fun e w' => e = .returned (.tuple #[.bool true, .int .i64 0]) ∧ Below W.heap.size W w') := fun u W h1 h2 h3 => by
  have := Check_c stairM 5 1 [[0], [1, 625, 125, 25, 5]] u (some ⟨bA, oA, none⟩) c2 W h1 stairM_ok (dlN_20000 (by omega) (by omega)) h2 stair_sizes h3 true ⟨fun _ => ⟨by omega, stair_acc HF2.out⟩, fun _ => rfl⟩
  rw [lit1] at this
  exact this
 have m0 := V3.c0; have m1 := V3.c1; have m2 := V3.c2
 have p0 := RP.q.c0; have p1 := RP.q.c1; have p2 := RP.q.c2
 go_wp2_with fail
 (with_reducible refine (HC5.out _ V3.im.out HL2.out (HTB.out.below HB)).mono ?_)
 rintro e w8 ⟨rfl, hb⟩
 clear m0 m1 m2
 clear p0 p1 p2
 replace HB := below_step HB hb; replace V3 := V3.keep hb; replace RP := RP.keep hb
 replace HL2 := Lib.hid (HL2.out.below hb)
 clear hb HC5
 have p0 := RP.q.c0; have f0 := RP.f0
 go_upto_region 8 with fail
 have hbs : Below b2 w8 (w8.setCell ⟨b2, 0, none⟩ (.int .i64 4)) := (Below.refl b2 w8).setCell (p := ⟨b2, 0, none⟩) (Nat.le_refl _) _
 have HL3 : Hid (LsL (w8.setCell ⟨b2, 0, none⟩ (.int .i64 4)) (some ⟨bA, oA, none⟩) c2 [[0], [1, 625, 125, 25, 5]]) := LsB.far HL2.out RP.q.c0 (fun _ _ _ _ h => by cases h) (fun _ _ h => by cases h) (fun l hl => by
  obtain ⟨l2, h2, rfl⟩ := List.mem_map.1 hl
  refine ⟨by simp at h2; rcases h2 with rfl | rfl <;> simp, fun s hs => ?_⟩
  obtain ⟨q, -, rfl⟩ := List.mem_map.1 hs
  exact tS_pos q)
 have e1 : ∀ o, o ≠ 0 → (w8.setCell ⟨b2, 0, none⟩ (.int .i64 4)).cell? ⟨b2, o, none⟩ = w8.cell? ⟨b2, o, none⟩ := fun o ho => World.cell?_setCell_other _ _ _ _ (by simp <;> omega)
 have VP : VQ (w8.setCell ⟨b2, 0, none⟩ (.int .i64 4)) b2 (.int .i64 4) (.string { data := #[49] }) (.slice (some ⟨bA, oA, none⟩) 2 c2) := ⟨by simp [go_sem, p0, f0], (e1 1 (by omega)).trans RP.q.c1, (e1 2 (by omega)).trans RP.q.c2, by simpa [World.setCell] using RP.q.lt⟩
 replace V3 := V3.keepS hbs (by omega) (by omega) (by omega)
 replace HB := below_set (off := 0) HB (show w.heap.size ≤ b2 by omega) (.int .i64 4)
 generalize hWb : w8.setCell ⟨b2, 0, none⟩ (.int .i64 4) = w9 at *
 clear hWb hbs e1 p0 f0 RP HL2
 have HC4 : Hid (∀ (u : Value) {W : World}, IsM W u stairM → LsL W (some ⟨bA, oA, none⟩) c2 [[0], [1, 625, 125, 25, 5]] → Tb W → Calls Tryz.prog 14 #[u, .agg #[.int .i64 4, .string { data := #[49] }, .slice (some ⟨bA, oA, none⟩) 2 c2]] W fun e w' => e = .returned (.tuple #[.bool false, .int .i64 0]) ∧ Below W.heap.size W w') := fun u W h1 h2 h3 => by
  have := Check_c stairM 4 1 [[0], [1, 625, 125, 25, 5]] u (some ⟨bA, oA, none⟩) c2 W h1 stairM_ok (dlN_20000 (by omega) (by omega)) h2 stair_sizes h3 false ⟨fun h => (by cases h), fun h => (stair_not h.2).elim⟩
  rw [lit1] at this
  exact this
 have p0 := VP.c0; have p1 := VP.c1; have p2 := VP.c2
 have m0 := V3.c0; have m1 := V3.c1; have m2 := V3.c2
 go_wp2_with fail
 (with_reducible refine (HC4.out _ V3.im.out HL3.out (HTB.out.below HB)).mono ?_)
 rintro e wa ⟨rfl, hb⟩
 clear m0 m1 m2
 clear p0 p1 p2
 replace HB := below_step HB hb
 clear hb HC4
 go_wp2_with fail
 (with_reducible refine (tcomes_c _ (HTB.out.below HB)).mono ?_)
 rintro e wb ⟨rfl, hb⟩
 replace HB := below_step HB hb
 clear hb
 go_wp2
 go_ret
 exact ⟨rfl, HB⟩
end Go.Proofs.YtibdipfhfaeooaaGreatDoor

