/- katabasistop.TopDown returns true. No condition but that the library's table lies as it should. -/
import Derived.Test.YtibdipfhfaeooaaGreatDoorZR
import Derived.Test.YtibdipfhfaeooaaGreatDoorZS
import Derived.Test.YtibdipfhfaeooaaGreatDoorZV
set_option linter.unusedVariables false
set_option linter.unusedSimpArgs false
namespace Go.Proofs.YtibdipfhfaeooaaGreatDoor
open Go.RowKit

theorem LsS.lit (w : World) (e : TypeId) (l : List ByteArray) (hl : l.length ≤ 9223372036854775807) : LsS (w.alloc (.cells (strs l).toArray e)) (some ⟨w.heap.size, 0, none⟩) l.length l := by
 refine ⟨⟨by simp [strs], fun _ => ⟨w.heap.size, 0, rfl, by simp, fun j u hj => ?_⟩⟩, Nat.le_refl _, hl⟩
 simp only [World.cell?, heap_alloc_new]
 simpa using hj
/-- A valid number of at most 601 signs. -/
theorem short_num {s : ByteArray} (h1 : s.size ≤ 601) (h2 : vldL (codes s) = true) : ∃ n : Int, s = tS n ∧ dlN n.natAbs ≤ 601 := by
 obtain ⟨n, rfl, -⟩ := dig_of_valid h2
 refine ⟨n, rfl, ?_⟩
 have h3 : (tx n).length ≤ 601 := by rw [← codes_tS, codes_length]; exact h1
 unfold tx at h3
 rw [List.length_append] at h3
 unfold dlN
 omega
theorem sgn_nn {n : Int} (h : 0 ≤ n) : 0 ≤ (if n = 0 then (0 : Int) else if n < 0 then -1 else 1) := by split <;> (try split) <;> omega
theorem sgn_ng {n : Int} (h : n < 0) : (if n = 0 then (0 : Int) else if n < 0 then -1 else 1) = -1 := by rw [if_neg (by omega), if_pos h]
set_option maxRecDepth 100000 in
set_option maxHeartbeats 32000000 in
theorem TopDown_law (M : Mp) (Kz : Int) (S : ByteArray) (A : Option Addr) (c : Nat) (L : List (List ByteArray)) (s : ByteArray) (v : Value) (w : World) (hM : IsM w v M) (hS : S.size ≤ 9223372036854775807) (hL : LsB w A c L) (hsz : ∀ l ∈ L, ∀ s ∈ l, s.size ≤ 9223372036854775807) (hs : s.size ≤ 9223372036854775807) (ht : Tb w) :
  Calls Tryz.prog 3 #[v, .agg #[.int .i64 Kz, .string S, .slice A L.length c], .string s] w fun e w' => e = .returned (.bool true) ∧ Below w.heap.size w w' := by
 obtain ⟨md, Am, nm, cm, A', n', c', rfl, HM⟩ := hM.form
 have HTB := Lib.hid ht
 have HL := Lib.hid hL
 have HSZ := Lib.hid hsz
 have hlc : L.length ≤ 9223372036854775807 := by have := hL.1; omega
 obtain ⟨nl, hnl⟩ : ∃ nl, L.length = nl := ⟨_, rfl⟩
 have HNL := Lib.hid hnl
 rw [hnl] at hlc ⊢
 clear hM hL hsz ht hnl
 go_enter Tryz.func3, Tryz.ntmps3
 go_upto_region 1 with fail
 generalize hW : (w.alloc (Obj.cells #[Value.int .i64 md, Value.slice Am nm cm, Value.slice A' n' c'] 24)).alloc _ = W
 have HB : Below w.heap.size w W := by subst hW; exact below_alloc (below_alloc (Below.refl _ _) _) _
 have V3 : VM W w.heap.size md Am nm cm A' n' c' M := by subst hW; exact (VM.new w 24 HM.out).keep (below_alloc (Below.refl _ _) _)
 have VP : VQ W (w.heap.size + 1) (.int .i64 Kz) (.string S) (.slice A nl c) := by
  subst hW
  have := VQ.new (x := .int .i64 Kz) (y := .string S) (z := .slice A nl c) (w.alloc (Obj.cells #[Value.int .i64 md, Value.slice Am nm cm, Value.slice A' n' c'] 24)) 27
  rwa [show (w.alloc (Obj.cells #[Value.int .i64 md, Value.slice Am nm cm, Value.slice A' n' c'] 24)).heap.size = w.heap.size + 1 by simp] at this
 clear hW HM
 by_cases hok : okB M = true
 rotate_left
 ·have HOK : Hid (okB M = false) := by show _ = _; revert hok; cases okB M <;> simp
  clear hok
  have m0 := V3.c0; have m1 := V3.c1; have m2 := V3.c2
  go_wp2_with fail
  (with_reducible refine (MValid_c M _ _ V3.im.out).mono ?_)
  rintro e w2 ⟨he, hb⟩
  obtain rfl : e = .returned (.bool false) := by rw [he, HOK.out]
  clear he
  replace V3 := V3.keep hb; replace VP := VP.keep hb
  replace HB := below_step HB hb
  clear hb
  clear m0 m1 m2
  go_wp2_with fail
  (with_reducible refine (tcomes_c _ (HTB.out.below HB)).mono ?_)
  rintro e wz ⟨rfl, hb⟩
  replace HB := below_step HB hb
  clear hb
  go_wp2
  go_ret
  exact ⟨rfl, HB⟩
 have HOK := Lib.hid hok
 have HOM : Hid (okM M) := okB_iff.1 hok
 clear hok
 have m0 := V3.c0; have m1 := V3.c1; have m2 := V3.c2
 go_wp2_with fail
 (with_reducible refine (MValid_c M _ _ V3.im.out).mono ?_)
 rintro e w2 ⟨he, hb⟩
 obtain rfl : e = .returned (.bool true) := by rw [he, HOK.out]
 clear he
 replace V3 := V3.keep hb; replace VP := VP.keep hb
 replace HB := below_step HB hb
 clear hb
 clear m0 m1 m2
 by_cases hsh : s.size ≤ 601 ∧ vldL (codes s) = true
 rotate_left
 ·have HSN : Hid (¬ ((gs [s] 0).size ≤ 601 ∧ vldL (codes (gs [s] 0)) = true)) := hsh
  clear hsh
  have HLS : Hid (LsS (w2.alloc (.cells #[.string s] 9)) (some ⟨w2.heap.size, 0, none⟩) 1 [s]) := LsS.lit w2 9 [s] (by simp)
  have hb := below_alloc (Below.refl w2.heap.size w2) (Obj.cells #[Value.string s] 9)
  replace V3 := V3.keep hb; replace VP := VP.keep hb
  replace HB := below_step HB hb
  clear hb
  have HSH : Hid (∀ {W : World}, LsS W (some ⟨w2.heap.size, 0, none⟩) 1 [s] → Calls Tryz.prog 12 #[.slice (some ⟨w2.heap.size, 0, none⟩) 1 1] W fun e w' => e = .returned (.bool false) ∧ Below W.heap.size W w') := fun {W} h =>
   short_c [s] (some ⟨w2.heap.size, 0, none⟩) 1 W h (fun j hj => by
    have : j = 0 := by simpa using hj
    subst this
    exact hs) false ⟨fun h => (by cases h), fun h => absurd (h 0 (by simp)) HSN.out⟩
  go_wp2_with fail
  (with_reducible refine (HSH.out HLS.out).mono ?_)
  rintro e w4 ⟨rfl, hb⟩
  replace V3 := V3.keep hb; replace VP := VP.keep hb
  replace HB := below_step HB hb
  clear hb
  clear HSH HLS
  go_wp2_with fail
  (with_reducible refine (tcomes_c _ (HTB.out.below HB)).mono ?_)
  rintro e wz ⟨rfl, hb⟩
  replace HB := below_step HB hb
  clear hb
  go_wp2
  go_ret
  exact ⟨rfl, HB⟩
 have HSY : Hid ((gs [s] 0).size ≤ 601 ∧ vldL (codes (gs [s] 0)) = true) := hsh
 have HSY2 := Lib.hid hsh
 clear hsh
 have HLS : Hid (LsS (w2.alloc (.cells #[.string s] 9)) (some ⟨w2.heap.size, 0, none⟩) 1 [s]) := LsS.lit w2 9 [s] (by simp)
 have hb := below_alloc (Below.refl w2.heap.size w2) (Obj.cells #[Value.string s] 9)
 replace V3 := V3.keep hb; replace VP := VP.keep hb
 replace HB := below_step HB hb
 clear hb
 have HSH : Hid (∀ {W : World}, LsS W (some ⟨w2.heap.size, 0, none⟩) 1 [s] → Calls Tryz.prog 12 #[.slice (some ⟨w2.heap.size, 0, none⟩) 1 1] W fun e w' => e = .returned (.bool true) ∧ Below W.heap.size W w') := fun {W} h =>
  short_c [s] (some ⟨w2.heap.size, 0, none⟩) 1 W h (fun j hj => by
   have : j = 0 := by simpa using hj
   subst this
   exact hs) true ⟨fun _ j hj => (by
   have : j = 0 := by simpa using hj
   subst this
   exact HSY.out), fun _ => rfl⟩
 go_wp2_with fail
 (with_reducible refine (HSH.out HLS.out).mono ?_)
 rintro e w4 ⟨rfl, hb⟩
 replace V3 := V3.keep hb; replace VP := VP.keep hb
 replace HB := below_step HB hb
 clear hb
 clear HSH HLS
 clear HSY
 obtain ⟨n, rfl, hd⟩ := short_num HSY2.out.1 HSY2.out.2
 have HD := Lib.hid hd
 clear HSY2 hd hs
 by_cases hfo : formB S L = true
 rotate_left
 ·have HCK : Hid (∀ (u : Value) {W : World}, IsM W u M → LsB W A c L → Calls Tryz.prog 14 #[u, .agg #[.int .i64 Kz, .string S, .slice A nl c]] W fun e w' => e = .returned (.tuple #[.bool false, .int .i64 1]) ∧ Below W.heap.size W w') := fun u W h1 h2 => by
   rw [← HNL.out]
   exact Check_bad M Kz S L u A c W h1 hS h2 HSZ.out (.inr (by revert hfo; cases formB S L <;> simp))
  clear hfo
  have m0 := V3.c0; have m1 := V3.c1; have m2 := V3.c2
  have p0 := VP.c0; have p1 := VP.c1; have p2 := VP.c2
  go_wp2_with fail
  (with_reducible refine (HCK.out _ V3.im.out (HL.out.below HB)).mono ?_)
  rintro e w5 ⟨rfl, hb⟩
  replace V3 := V3.keep hb; replace VP := VP.keep hb
  replace HB := below_step HB hb
  clear hb
  clear m0 m1 m2
  clear p0 p1 p2
  clear HCK
  go_wp2_with fail
  (with_reducible refine (Parse_c n _ (by have := HD.out; omega)).mono ?_)
  rintro e w6 ⟨v, rfl, hv, hb⟩
  obtain ⟨n9, A9, m9, k9, rfl, H9⟩ := hv.form; clear hv
  replace V3 := V3.keep hb; replace VP := VP.keep hb
  replace HB := below_step HB hb
  clear hb
  go_upto_region 5 with fail
  have V9 := VX.new w6 35 H9.out
  have hb := below_alloc (Below.refl w6.heap.size w6) (Obj.cells #[Value.bool n9, Value.slice A9 m9 k9] 35)
  replace V3 := V3.keep hb; replace VP := VP.keep hb
  replace HB := below_step HB hb
  generalize hWa : w6.alloc (Obj.cells #[Value.bool n9, Value.slice A9 m9 k9] 35) = w7 at *
  obtain ⟨b9, hb9⟩ : ∃ b, w6.heap.size = b := ⟨_, rfl⟩
  rw [hb9] at V9 ⊢
  clear hWa hb hb9 H9
  go_wp2_with fail
  (with_reducible refine (tcomes_c _ (HTB.out.below HB)).mono ?_)
  rintro e wz ⟨rfl, hb⟩
  replace HB := below_step HB hb
  clear hb
  go_wp2
  go_ret
  exact ⟨rfl, HB⟩
 obtain ⟨Bz, ls, rfl, hLe, hBz, hz⟩ := formB_iff hfo
 have HLE := Lib.hid hLe
 have HBZ := Lib.hid hBz
 have HZ := Lib.hid hz
 have HNS : Hid (ls.length = nl) := by show _ = _; rw [← HNL.out, HLE.out, List.length_map]
 have HLL : Hid (LsL w A c ls) := by show LsB _ _ _ _; rw [← HLE.out]; exact HL.out
 clear hLe hBz hz hfo HL HLE HNL HSZ hS
 by_cases hac : 1 ≤ Kz ∧ Acc M Kz.toNat Bz ls
 rotate_left
 ·have HCK : Hid (∀ (u : Value) {W : World}, IsM W u M → LsL W A c ls → Tb W → Calls Tryz.prog 14 #[u, .agg #[.int .i64 Kz, .string (tS Bz), .slice A nl c]] W fun e w' => e = .returned (.tuple #[.bool false, .int .i64 0]) ∧ Below W.heap.size W w') := fun u W h1 h2 h3 => by
   rw [← HNS.out]
   exact Check_c M Kz Bz ls u A c W h1 HOM.out HBZ.out h2 HZ.out h3 false ⟨fun h => (by cases h), fun h => absurd h hac⟩
  clear hac
  have m0 := V3.c0; have m1 := V3.c1; have m2 := V3.c2
  have p0 := VP.c0; have p1 := VP.c1; have p2 := VP.c2
  go_wp2_with fail
  (with_reducible refine (HCK.out _ V3.im.out (HLL.out.below HB) (HTB.out.below HB)).mono ?_)
  rintro e w5 ⟨rfl, hb⟩
  replace V3 := V3.keep hb; replace VP := VP.keep hb
  replace HB := below_step HB hb
  clear hb
  clear m0 m1 m2
  clear p0 p1 p2
  clear HCK
  go_wp2_with fail
  (with_reducible refine (Parse_c n _ (by have := HD.out; omega)).mono ?_)
  rintro e w6 ⟨v, rfl, hv, hb⟩
  obtain ⟨n9, A9, m9, k9, rfl, H9⟩ := hv.form; clear hv
  replace V3 := V3.keep hb; replace VP := VP.keep hb
  replace HB := below_step HB hb
  clear hb
  go_upto_region 5 with fail
  have V9 := VX.new w6 35 H9.out
  have hb := below_alloc (Below.refl w6.heap.size w6) (Obj.cells #[Value.bool n9, Value.slice A9 m9 k9] 35)
  replace V3 := V3.keep hb; replace VP := VP.keep hb
  replace HB := below_step HB hb
  generalize hWa : w6.alloc (Obj.cells #[Value.bool n9, Value.slice A9 m9 k9] 35) = w7 at *
  obtain ⟨b9, hb9⟩ : ∃ b, w6.heap.size = b := ⟨_, rfl⟩
  rw [hb9] at V9 ⊢
  clear hWa hb hb9 H9
  go_wp2_with fail
  (with_reducible refine (tcomes_c _ (HTB.out.below HB)).mono ?_)
  rintro e wz ⟨rfl, hb⟩
  replace HB := below_step HB hb
  clear hb
  go_wp2
  go_ret
  exact ⟨rfl, HB⟩
 obtain ⟨hk1, hac⟩ := hac
 have HAC := Lib.hid hac
 clear hac
 have HCK : Hid (∀ (u : Value) {W : World}, IsM W u M → LsL W A c ls → Tb W → Calls Tryz.prog 14 #[u, .agg #[.int .i64 Kz, .string (tS Bz), .slice A nl c]] W fun e w' => e = .returned (.tuple #[.bool true, .int .i64 0]) ∧ Below W.heap.size W w') := fun u W h1 h2 h3 => by
  rw [← HNS.out]
  exact Check_c M Kz Bz ls u A c W h1 HOM.out HBZ.out h2 HZ.out h3 true ⟨fun _ => ⟨hk1, HAC.out⟩, fun _ => rfl⟩
 have m0 := V3.c0; have m1 := V3.c1; have m2 := V3.c2
 have p0 := VP.c0; have p1 := VP.c1; have p2 := VP.c2
 go_wp2_with fail
 (with_reducible refine (HCK.out _ V3.im.out (HLL.out.below HB) (HTB.out.below HB)).mono ?_)
 rintro e w5 ⟨rfl, hb⟩
 replace V3 := V3.keep hb; replace VP := VP.keep hb
 replace HB := below_step HB hb
 clear hb
 clear m0 m1 m2
 clear p0 p1 p2
 clear HCK
 go_wp2_with fail
 (with_reducible refine (Parse_c n _ (by have := HD.out; omega)).mono ?_)
 rintro e w6 ⟨v, rfl, hv, hb⟩
 obtain ⟨n9, A9, m9, k9, rfl, H9⟩ := hv.form; clear hv
 replace V3 := V3.keep hb; replace VP := VP.keep hb
 replace HB := below_step HB hb
 clear hb
 go_upto_region 5 with fail
 have V9 := VX.new w6 35 H9.out
 have hb := below_alloc (Below.refl w6.heap.size w6) (Obj.cells #[Value.bool n9, Value.slice A9 m9 k9] 35)
 replace V3 := V3.keep hb; replace VP := VP.keep hb
 replace HB := below_step HB hb
 generalize hWa : w6.alloc (Obj.cells #[Value.bool n9, Value.slice A9 m9 k9] 35) = w7 at *
 obtain ⟨b9, hb9⟩ : ∃ b, w6.heap.size = b := ⟨_, rfl⟩
 rw [hb9] at V9 ⊢
 clear hWa hb hb9 H9
 obtain ⟨Kn, hKn⟩ : ∃ Kn : Nat, Kz = (Kn : Int) := ⟨Kz.toNat, by omega⟩
 subst hKn
 have HAC2 : Hid (Acc M Kn Bz ls) := by
  have h1 := HAC.out
  rw [Int.toNat_natCast] at h1
  exact h1
 clear HAC
 obtain ⟨sg, hsg⟩ : ∃ sg : Int, (if n = 0 then (0 : Int) else if n < 0 then -1 else 1) = sg := ⟨_, rfl⟩
 have HSG : Hid (∀ (u : Value) {W : World}, IsN W u n → Calls Tryz.prog 16 #[u] W fun e w' => e = .returned (.int .i64 sg) ∧ Below W.heap.size W w') := fun u W h1 => by
  have := Sign_c n u W h1
  rw [hsg] at this
  exact this
 have HFN : Hid (∀ (u : Value) {W : World}, IsM W u M → Tb W → Calls Tryz.prog 18 #[u, .int .i64 (Kn : Int)] W fun e w' => (∃ (k : Nat) (T : Int) (A : Option Addr) (c : Nat) (ls' : List (List Int)), e = .returned (.tuple #[.agg #[.int .i64 (k : Int), .string (tS T), .slice A ls'.length c], .int .i64 0]) ∧ LsL w' A c ls' ∧ Acc M k T ls' ∧ k ≤ Kn ∧ (∀ l ∈ ls', ∀ z ∈ l, dlN z.natAbs ≤ 2000) ∧ dlN T.natAbs ≤ 2000) ∧ Below W.heap.size W w') := fun u W h1 h2 =>
  (Find_c M (Kn : Int) u W h1 h2).mono fun e w' ⟨h3, h4⟩ => ⟨find_R HAC2.out HOM.out h3, h4⟩
 by_cases hn : 0 ≤ n
 ·have HNN := Lib.hid hn
  have hsg0 : 0 ≤ sg := by rw [← hsg]; exact sgn_nn hn
  have hsg1 : ¬ sg < 0 := by omega
  have hsg2 : decide (sg < 0) = false := decide_eq_false hsg1
  have HDN : Hid (∀ (u u2 : Value) {W : World}, IsM W u M → LsL W A c ls → IsN W u2 n → Calls Tryz.prog 17 #[u, .agg #[.int .i64 (Kn : Int), .string (tS Bz), .slice A nl c], u2] W fun e w' => e = .returned (.bool true) ∧ Below W.heap.size W w') := fun u u2 W h1 h2 h3 => by
   rw [← HNS.out]
   exact tdown_c M Kn Bz n ls u u2 A c W h1 HOM.out h2 HAC2.out HBZ.out h3 HNN.out HD.out
  clear hn hsg
  have x0 := V9.c0; have x1 := V9.c1
  go_wp2_with fail
  (with_reducible refine (HSG.out _ V9.iz.out).mono ?_)
  rintro e wa ⟨rfl, hb⟩
  replace V3 := V3.keep hb; replace VP := VP.keep hb; replace V9 := V9.keep hb
  replace HB := below_step HB hb
  clear hb
  clear x0 x1
  have m0 := V3.c0; have m1 := V3.c1; have m2 := V3.c2
  have p0 := VP.c0; have p1 := VP.c1; have p2 := VP.c2
  have x0 := V9.c0; have x1 := V9.c1
  go_wp2_with fail
  (with_reducible refine (HDN.out _ _ V3.im.out (HLL.out.below HB) V9.iz.out).mono ?_)
  rintro e wb ⟨rfl, hb⟩
  replace V3 := V3.keep hb; replace VP := VP.keep hb; replace V9 := V9.keep hb
  replace HB := below_step HB hb
  clear hb
  clear m0 m1 m2
  clear p0 p1 p2
  clear x0 x1
  have m0 := V3.c0; have m1 := V3.c1; have m2 := V3.c2
  have p0 := VP.c0
  go_wp2_with fail
  (with_reducible refine (HFN.out _ V3.im.out (HTB.out.below HB)).mono ?_)
  rintro e wc ⟨⟨k, T, A4, c4, ls4, rfl, hl4, ha4, hk4, hz4, ht4⟩, hb⟩
  replace V3 := V3.keep hb; replace VP := VP.keep hb; replace V9 := V9.keep hb
  replace HB := below_step HB hb
  clear hb
  clear m0 m1 m2
  clear p0
  obtain ⟨n4, hn4⟩ : ∃ n4, ls4.length = n4 := ⟨_, rfl⟩
  rw [hn4]
  have HN4 := Lib.hid hn4
  have HL4 := Lib.hid hl4
  have HA4 := Lib.hid ha4
  have HZ4 := Lib.hid hz4
  have HT4 := Lib.hid ht4
  clear hn4 hl4 ha4 hz4 ht4
  go_upto_region 10 with fail
  have VQ4 := VQ.new (x := .int .i64 (k : Int)) (y := .string (tS T)) (z := .slice A4 n4 c4) wc 27
  have hb := below_alloc (Below.refl wc.heap.size wc) (Obj.cells #[Value.int .i64 (k : Int), Value.string (tS T), Value.slice A4 n4 c4] 27)
  replace HL4 := Lib.hid (HL4.out.below hb)
  replace V3 := V3.keep hb; replace VP := VP.keep hb; replace V9 := V9.keep hb
  replace HB := below_step HB hb
  generalize hWa : wc.alloc (Obj.cells #[Value.int .i64 (k : Int), Value.string (tS T), Value.slice A4 n4 c4] 27) = wd at *
  obtain ⟨b4, hb4⟩ : ∃ b, wc.heap.size = b := ⟨_, rfl⟩
  rw [hb4] at VQ4 ⊢
  clear hWa hb hb4
  have HC4 : Hid (∀ (u : Value) {W : World}, IsM W u M → LsL W A4 c4 ls4 → Tb W → Calls Tryz.prog 14 #[u, .agg #[.int .i64 (k : Int), .string (tS T), .slice A4 n4 c4]] W fun e w' => e = .returned (.tuple #[.bool true, .int .i64 0]) ∧ Below W.heap.size W w') := fun u W h1 h2 h3 => by
   rw [← HN4.out]
   exact Check_c M (k : Int) T ls4 u A4 c4 W h1 HOM.out HT4.out h2 HZ4.out h3 true ⟨fun _ => ⟨by have := HA4.out.k0; omega, by rw [Int.toNat_natCast]; exact HA4.out⟩, fun _ => rfl⟩
  have m0 := V3.c0; have m1 := V3.c1; have m2 := V3.c2
  have p0 := VQ4.c0; have p1 := VQ4.c1; have p2 := VQ4.c2
  go_wp2_with fail
  (with_reducible refine (HC4.out _ V3.im.out HL4.out (HTB.out.below HB)).mono ?_)
  rintro e we ⟨rfl, hb⟩
  replace HL4 := Lib.hid (HL4.out.below hb)
  replace V3 := V3.keep hb; replace VP := VP.keep hb; replace V9 := V9.keep hb; replace VQ4 := VQ4.keep hb
  replace HB := below_step HB hb
  clear hb
  clear m0 m1 m2
  clear p0 p1 p2
  clear HC4
  have hkk : (k : Int) ≤ (Kn : Int) := by omega
  have p0 := VP.c0; have q0 := VQ4.c0
  have x0 := V9.c0; have x1 := V9.c1
  go_wp2_with fail
  (with_reducible refine (HSG.out _ V9.iz.out).mono ?_)
  rintro e wf ⟨rfl, hb⟩
  replace HL4 := Lib.hid (HL4.out.below hb)
  replace V3 := V3.keep hb; replace VP := VP.keep hb; replace V9 := V9.keep hb; replace VQ4 := VQ4.keep hb
  replace HB := below_step HB hb
  clear hb
  clear x0 x1
  clear p0 q0
  have HD4 : Hid (∀ (u u2 : Value) {W : World}, IsM W u M → LsL W A4 c4 ls4 → IsN W u2 n → Calls Tryz.prog 17 #[u, .agg #[.int .i64 (k : Int), .string (tS T), .slice A4 n4 c4], u2] W fun e w' => e = .returned (.bool true) ∧ Below W.heap.size W w') := fun u u2 W h1 h2 h3 => by
   rw [← HN4.out]
   exact tdown_c M k T n ls4 u u2 A4 c4 W h1 HOM.out h2 HA4.out HT4.out h3 HNN.out HD.out
  have q0 := VQ4.c0; have q1 := VQ4.c1; have q2 := VQ4.c2
  have m0 := V3.c0; have m1 := V3.c1; have m2 := V3.c2
  have x0 := V9.c0; have x1 := V9.c1
  go_wp2_with fail
  (with_reducible refine (HD4.out _ _ V3.im.out HL4.out V9.iz.out).mono ?_)
  rintro e wg ⟨rfl, hb⟩
  replace V3 := V3.keep hb; replace VP := VP.keep hb; replace V9 := V9.keep hb
  replace HB := below_step HB hb
  clear hb
  clear m0 m1 m2
  clear x0 x1
  clear q0 q1 q2
  go_wp2_with fail
  (with_reducible refine (tcomes_c _ (HTB.out.below HB)).mono ?_)
  rintro e wz ⟨rfl, hb⟩
  replace HB := below_step HB hb
  clear hb
  go_wp2
  go_ret
  exact ⟨rfl, HB⟩
 ·have hsg0 : sg < 0 := by rw [← hsg, sgn_ng (by omega)]; omega
  have hsg1 : ¬ 0 ≤ sg := by omega
  have hsg2 : decide (0 ≤ sg) = false := decide_eq_false hsg1
  clear hn hsg
  have x0 := V9.c0; have x1 := V9.c1
  go_wp2_with fail
  (with_reducible refine (HSG.out _ V9.iz.out).mono ?_)
  rintro e wa ⟨rfl, hb⟩
  replace V3 := V3.keep hb; replace VP := VP.keep hb; replace V9 := V9.keep hb
  replace HB := below_step HB hb
  clear hb
  clear x0 x1
  have m0 := V3.c0; have m1 := V3.c1; have m2 := V3.c2
  have p0 := VP.c0
  go_wp2_with fail
  (with_reducible refine (HFN.out _ V3.im.out (HTB.out.below HB)).mono ?_)
  rintro e wc ⟨⟨k, T, A4, c4, ls4, rfl, hl4, ha4, hk4, hz4, ht4⟩, hb⟩
  replace V3 := V3.keep hb; replace VP := VP.keep hb; replace V9 := V9.keep hb
  replace HB := below_step HB hb
  clear hb
  clear m0 m1 m2
  clear p0
  obtain ⟨n4, hn4⟩ : ∃ n4, ls4.length = n4 := ⟨_, rfl⟩
  rw [hn4]
  have HN4 := Lib.hid hn4
  have HL4 := Lib.hid hl4
  have HA4 := Lib.hid ha4
  have HZ4 := Lib.hid hz4
  have HT4 := Lib.hid ht4
  clear hn4 hl4 ha4 hz4 ht4
  go_upto_region 10 with fail
  have VQ4 := VQ.new (x := .int .i64 (k : Int)) (y := .string (tS T)) (z := .slice A4 n4 c4) wc 27
  have hb := below_alloc (Below.refl wc.heap.size wc) (Obj.cells #[Value.int .i64 (k : Int), Value.string (tS T), Value.slice A4 n4 c4] 27)
  replace HL4 := Lib.hid (HL4.out.below hb)
  replace V3 := V3.keep hb; replace VP := VP.keep hb; replace V9 := V9.keep hb
  replace HB := below_step HB hb
  generalize hWa : wc.alloc (Obj.cells #[Value.int .i64 (k : Int), Value.string (tS T), Value.slice A4 n4 c4] 27) = wd at *
  obtain ⟨b4, hb4⟩ : ∃ b, wc.heap.size = b := ⟨_, rfl⟩
  rw [hb4] at VQ4 ⊢
  clear hWa hb hb4
  have HC4 : Hid (∀ (u : Value) {W : World}, IsM W u M → LsL W A4 c4 ls4 → Tb W → Calls Tryz.prog 14 #[u, .agg #[.int .i64 (k : Int), .string (tS T), .slice A4 n4 c4]] W fun e w' => e = .returned (.tuple #[.bool true, .int .i64 0]) ∧ Below W.heap.size W w') := fun u W h1 h2 h3 => by
   rw [← HN4.out]
   exact Check_c M (k : Int) T ls4 u A4 c4 W h1 HOM.out HT4.out h2 HZ4.out h3 true ⟨fun _ => ⟨by have := HA4.out.k0; omega, by rw [Int.toNat_natCast]; exact HA4.out⟩, fun _ => rfl⟩
  have m0 := V3.c0; have m1 := V3.c1; have m2 := V3.c2
  have p0 := VQ4.c0; have p1 := VQ4.c1; have p2 := VQ4.c2
  go_wp2_with fail
  (with_reducible refine (HC4.out _ V3.im.out HL4.out (HTB.out.below HB)).mono ?_)
  rintro e we ⟨rfl, hb⟩
  replace HL4 := Lib.hid (HL4.out.below hb)
  replace V3 := V3.keep hb; replace VP := VP.keep hb; replace V9 := V9.keep hb; replace VQ4 := VQ4.keep hb
  replace HB := below_step HB hb
  clear hb
  clear m0 m1 m2
  clear p0 p1 p2
  clear HC4
  have hkk : (k : Int) ≤ (Kn : Int) := by omega
  have p0 := VP.c0; have q0 := VQ4.c0
  have x0 := V9.c0; have x1 := V9.c1
  go_wp2_with fail
  (with_reducible refine (HSG.out _ V9.iz.out).mono ?_)
  rintro e wf ⟨rfl, hb⟩
  replace HL4 := Lib.hid (HL4.out.below hb)
  replace V3 := V3.keep hb; replace VP := VP.keep hb; replace V9 := V9.keep hb; replace VQ4 := VQ4.keep hb
  replace HB := below_step HB hb
  clear hb
  clear x0 x1
  clear p0 q0
  go_wp2_with fail
  (with_reducible refine (tcomes_c _ (HTB.out.below HB)).mono ?_)
  rintro e wz ⟨rfl, hb⟩
  replace HB := below_step HB hb
  clear hb
  go_wp2
  go_ret
  exact ⟨rfl, HB⟩
end Go.Proofs.YtibdipfhfaeooaaGreatDoor

