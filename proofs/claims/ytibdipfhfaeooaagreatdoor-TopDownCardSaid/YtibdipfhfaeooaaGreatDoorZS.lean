/- katabasistop.down: what an accepted certificate says of a number is true. No condition but that the library's table lies as it should. -/
import Derived.Test.YtibdipfhfaeooaaGreatDoorZR
import Derived.Test.YtibdipfhfaeooaaGreatDoorZG
import Derived.Test.YtibdipfhfaeooaaGreatDoorZ5
import Derived.Test.YtibdipfhfaeooaaGreatDoorZD
import Derived.Maps.RangeWalk
set_option linter.unusedVariables false
set_option linter.unusedSimpArgs false
set_option exponentiation.threshold 2000
namespace Go.Proofs.YtibdipfhfaeooaaGreatDoor
open Go.RowKit

abbrev o39a6a : Oper := { dst := some 27, op := Go.Op.load 35 (Go.Operand.tmp 5), type := 35, pos := "top09.go:23", after := #[], guard := none }
abbrev o69a4c : Oper := { dst := some 28, op := Go.Op.fieldAddr 27 (Go.Operand.tmp 4) 1, type := 0, pos := "top09.go:23", after := #[], guard := none }
abbrev o5ecdf : Oper := { dst := some 29, op := Go.Op.load 9 (Go.Operand.tmp 28), type := 9, pos := "top09.go:23", after := #[{ on := 1, ground := Go.Ground.data }], guard := none }
abbrev o96063 : Oper := { dst := some 32, op := Go.Op.binOp Go.BinOp.gtr 3 (Go.Operand.tmp 31) (Go.Operand.const (Go.Value.int Go.IntKind.i64 0)) 3, type := 4, pos := "top09.go:23", after := #[{ on := 4, ground := Go.Ground.data }], guard := none }
abbrev oed8f3 : Oper := { dst := some 60, op := Go.Op.fieldAddr 27 (Go.Operand.tmp 4) 2, type := 0, pos := "top09.go:35", after := #[], guard := none }
abbrev of8bfd : Oper := { dst := some 61, op := Go.Op.load 25 (Go.Operand.tmp 60), type := 25, pos := "top09.go:35", after := #[{ on := 0, ground := Go.Ground.data }], guard := none }
abbrev o2e6c8 : Oper := { dst := some 62, op := Go.Op.move (Go.Operand.tmp 11), type := 3, pos := "top09.go:35", after := #[], guard := none }
abbrev o3c00b : Oper := { dst := some 63, op := Go.Op.indexAddr 25 (Go.Operand.tmp 61) (Go.Operand.tmp 62), type := 0, pos := "top09.go:35", after := #[{ on := 1, ground := Go.Ground.data }, { on := 2, ground := Go.Ground.data }], guard := none }
abbrev oc8868 : Oper := { dst := some 64, op := Go.Op.fieldAddr 45 (Go.Operand.tmp 63) 0, type := 0, pos := "top09.go:35", after := #[{ on := 3, ground := Go.Ground.data }], guard := none }
abbrev o470f4 : Oper := { dst := some 65, op := Go.Op.load 43 (Go.Operand.tmp 64), type := 43, pos := "top09.go:35", after := #[{ on := 4, ground := Go.Ground.data }], guard := none }
abbrev o55d11 : Oper := { dst := some 66, op := Go.Op.load 35 (Go.Operand.tmp 7), type := 35, pos := "top09.go:35", after := #[], guard := none }
attribute [local go_sem] o39a6a o69a4c o5ecdf o96063 oed8f3 of8bfd o2e6c8 o3c00b oc8868 o470f4 o55d11
theorem lt_ten_pow (n : Nat) : n < 10 ^ (digs 10 n).length := by
 have h1 := V_lt (digs_dg (B := 10) (by omega) n)
 rw [digs_V (by omega)] at h1
 have h2 : ((10 ^ (digs 10 n).length : Nat) : Int) = (10 : Int) ^ (digs 10 n).length := by rw [Int.natCast_pow]; rfl
 have h3 : (((10 : Nat) : Int)) = 10 := rfl
 rw [h3] at h1
 omega
/-- A number of at most 601 digits does not grow much in a few steps. -/
theorem dl_grow {M : Mp} (hok : okM M) (hr : Rise M) {n : Int} (h0 : 0 ≤ n) (hd : dlN n.natAbs ≤ 601) {k : Nat} (hk : k ≤ 16) : dl (itZ M n k) ≤ 700 := by
 have h1 : n.natAbs < 10 ^ 601 := by
  rcases Nat.eq_zero_or_pos n.natAbs with e | e
  ·rw [e]; exact Nat.pow_pos (by omega)
  ·unfold dlN at hd
   rw [txN_length e] at hd
   exact Nat.lt_of_lt_of_le (lt_ten_pow _) (Nat.pow_le_pow_right (by omega) hd)
 have e1 : ((10 ^ 601 : Nat) : Int) = (10 : Int) ^ 601 := by rw [Int.natCast_pow]; rfl
 have e2 : (10 : Int) ^ 602 = 10 ^ 601 * 10 := by rw [Int.pow_succ]
 have e3 : (1000 : Int) ≤ 10 ^ 601 := by
  have : (1000 : Nat) ≤ 10 ^ 601 := by
   have h := Nat.pow_le_pow_right (n := 10) (by omega) (show 3 ≤ 601 by omega)
   exact h
  omega
 have h2 : n + 1000 ≤ (10 : Int) ^ 602 := by omega
 have h3 : (501 : Int) ^ k ≤ 10 ^ 44 := Int.le_trans (pow_mono hk) (by decide)
 have h4 := it_up hok hr h0 k
 have h5 : (501 : Int) ^ k * (n + 1000) ≤ 10 ^ 44 * 10 ^ 602 := Int.mul_le_mul h3 h2 (by omega) (by decide)
 rw [← Int.pow_add] at h5
 have h6 := it_nn hok hr h0 k
 generalize itZ M n k = z at *
 have e4 : ((10 ^ 646 : Nat) : Int) = (10 : Int) ^ 646 := by rw [Int.natCast_pow]; rfl
 have h7 : z.natAbs < 10 ^ 646 := by
  have : z + 1000 ≤ (10 : Int) ^ 646 := Int.le_trans h4 h5
  omega
 unfold dl
 split
 ·omega
 ·have := digs_len_le (B := 10) (by omega) h7
  omega
theorem len700 {z : Int} (h : dl z ≤ 700) : (dg B9 z).length ≤ 2000 := len_of_dl (by omega)
set_option maxRecDepth 100000 in
set_option maxHeartbeats 32000000 in
theorem tdown_c (M : Mp) (Kn : Nat) (Bz n : Int) (ls : List (List Int)) (v u : Value) (A : Option Addr) (c : Nat) (w : World) (hM : IsM w v M) (hok : okM M) (hL : LsL w A c ls) (hac : Acc M Kn Bz ls) (hBz : dlN Bz.natAbs ≤ 2000) (hn : IsN w u n) (h0 : 0 ≤ n) (hd : dlN n.natAbs ≤ 601) :
  Calls Tryz.prog 17 #[v, .agg #[.int .i64 (Kn : Int), .string (tS Bz), .slice A ls.length c], u] w fun e w' => e = .returned (.bool true) ∧ Below w.heap.size w w' := by
 obtain ⟨md, Am, nm, cm, A', n', c', rfl, HM⟩ := hM.form
 obtain ⟨n5, A5, m5, k5, rfl, H5⟩ := hn.form
 have HOK := Lib.hid hok
 have HL := Lib.hid hL
 have HAC := Lib.hid hac
 have HBZ := Lib.hid hBz
 have HN0 := Lib.hid h0
 have HD := Lib.hid hd
 have HV := Lib.hid (vld_tS hBz)
 have hsz := tS_sz hBz
 have hk1 : Kn ≤ 16 := hac.k1 hok
 have hk0 : 1 ≤ Kn := hac.k0
 have hq1 : ¬ (Kn : Int) < 1 := by omega
 have hq2 : decide ((Kn : Int) < 1) = false := decide_eq_false hq1
 have hq3 : ¬ (16 : Int) < (Kn : Int) := by omega
 have hq4 : decide ((16 : Int) < (Kn : Int)) = false := decide_eq_false hq3
 have hlc : ls.length ≤ 9223372036854775807 := by
  have := hL.1
  rw [List.length_map] at this
  omega
 obtain ⟨nl, hnl⟩ : ∃ nl, ls.length = nl := ⟨_, rfl⟩
 have HNL := Lib.hid hnl
 rw [hnl] at hlc ⊢
 clear hM hok hL hac hBz hn h0 hd hnl
 go_enter Tryz.func17, Tryz.ntmps17
 go_upto_region 1 with fail
 generalize hW : ((w.alloc (Obj.cells #[Value.int .i64 md, Value.slice Am nm cm, Value.slice A' n' c'] 24)).alloc (Obj.cells #[Value.int .i64 (Kn : Int), Value.string (tS Bz), Value.slice A nl c] 27)).alloc _ = W
 have HB : Below w.heap.size w W := by subst hW; exact below_alloc (below_alloc (below_alloc (Below.refl _ _) _) _) _
 have V3 : VM W w.heap.size md Am nm cm A' n' c' M := by subst hW; exact ((VM.new w 24 HM.out).keep (below_alloc (Below.refl _ _) _)).keep (below_alloc (Below.refl _ _) _)
 have VP : VQ W (w.heap.size + 1) (.int .i64 (Kn : Int)) (.string (tS Bz)) (.slice A nl c) := by
  subst hW
  have := VQ.new (x := .int .i64 (Kn : Int)) (y := .string (tS Bz)) (z := .slice A nl c) (w.alloc (Obj.cells #[Value.int .i64 md, Value.slice Am nm cm, Value.slice A' n' c'] 24)) 27
  rw [show (w.alloc (Obj.cells #[Value.int .i64 md, Value.slice Am nm cm, Value.slice A' n' c'] 24)).heap.size = w.heap.size + 1 by simp] at this
  exact this.keep (below_alloc (Below.refl _ _) _)
 have V5 : VN W (w.heap.size + 2) n5 A5 m5 k5 n := by
  subst hW
  have h1 : Below w.heap.size w ((w.alloc (Obj.cells #[Value.int .i64 md, Value.slice Am nm cm, Value.slice A' n' c'] 24)).alloc (Obj.cells #[Value.int .i64 (Kn : Int), Value.string (tS Bz), Value.slice A nl c] 27)) := below_alloc (below_alloc (Below.refl _ _) _) _
  have := VX.new ((w.alloc (Obj.cells #[Value.int .i64 md, Value.slice Am nm cm, Value.slice A' n' c'] 24)).alloc (Obj.cells #[Value.int .i64 (Kn : Int), Value.string (tS Bz), Value.slice A nl c] 27)) 35 (H5.out.below h1)
  rwa [show ((w.alloc (Obj.cells #[Value.int .i64 md, Value.slice Am nm cm, Value.slice A' n' c'] 24)).alloc (Obj.cells #[Value.int .i64 (Kn : Int), Value.string (tS Bz), Value.slice A nl c] 27)).heap.size = w.heap.size + 2 by simp] at this
 clear hW HM H5
 have p0 := VP.c0; have p1 := VP.c1
 go_wp2_with fail
 (with_reducible refine (Valid_c (tS Bz) _ hsz).mono ?_)
 rintro e w2 ⟨he, rfl⟩
 obtain rfl : e = .returned (.bool true) := by rw [he, HV.out]
 clear he
 have x0 := V5.c0; have x1 := V5.c1
 go_upto_region 4 with fail
 clear p0 p1 x0 x1 hq1 hq2 hq3 hq4
 have V7 := VX.new W 35 V5.iz.out
 have hb := below_alloc (Below.refl W.heap.size W) (Obj.cells #[Value.bool n5, Value.slice A5 m5 k5] 35)
 have hb7w : w.heap.size + 2 < W.heap.size := V5.lt
 replace V3 := V3.keep hb; replace VP := VP.keep hb; replace V5 := V5.keep hb
 replace HB := below_step HB hb
 generalize hWa : W.alloc (Obj.cells #[Value.bool n5, Value.slice A5 m5 k5] 35) = wa at *
 obtain ⟨b7, hb7⟩ : ∃ b, W.heap.size = b := ⟨_, rfl⟩
 rw [hb7] at V7 hb7w ⊢
 clear hWa hb hb7
 replace V3 := V3.drew; replace VP := VP.drew; replace V5 := V5.drew; replace V7 := V7.drew; replace HB := below_drew HB
 generalize hWd : wa.drew = wd at *
 by_cases hbg : Bz < n
 ·have hcm : 0 < icmp n Bz := by
   apply Classical.byContradiction
   intro h
   by_cases h2 : icmp n Bz = 0
   ·have := (icmp_eq _ _).1 h2; omega
   ·have := (icmp_lt' n Bz).1 (by omega); omega
  have HBG := Lib.hid hbg
  clear hbg
  refine wp_region_F (fun w' => w'.cell? ⟨w.heap.size + 1, 1, none⟩ = some (.string (tS Bz)) ∧ w'.cell? ⟨w.heap.size + 2, 0, none⟩ = some (.bool n5) ∧ w'.cell? ⟨w.heap.size + 2, 1, none⟩ = some (.slice A5 m5 k5)) [] (by kernel_rfl) (by rw [hWd]; exact ⟨VP.c1, V5.c0, V5.c1⟩) (fun hHeld => ?_)
  rw [hWd] at hHeld ⊢
  refine tF 0 o39a6a hHeld ?_; try go_frame
  refine tF 1 o69a4c hHeld ?_; try go_frame
  refine tF 2 o5ecdf hHeld ?_; try go_frame
  refine wpAnyF_one (i := 3) (by kernel_rfl) rfl (fun K hK => ?_)
  go_simp
  (go_at_call 15; (with_reducible refine (Parse_c Bz _ (by have := HBZ.out; omega)).mono ?_); rintro e w4 ⟨v, rfl, hv, hb⟩; obtain ⟨n6, A6, m6, k6, rfl, H6⟩ := hv.form; clear hv; replace V3 := V3.keep hb; replace VP := VP.keep hb; replace V5 := V5.keep hb; replace V7 := V7.keep hb; replace HB := below_step HB hb; clear hb)
  refine hK.out _ _ (by exact ⟨VP.c1, V5.c0, V5.c1⟩) (fun hHeld => ?_)
  clear hK K
  try go_frame
  refine wpAnyF_one (i := 4) (by kernel_rfl) rfl (fun K hK => ?_)
  go_simp
  (go_at_call 44; (with_reducible refine (Cmp_c n Bz _ _ _ V5.iz.out H6.out).mono ?_); rintro e w5 ⟨rfl, hb⟩; clear H6; replace V3 := V3.keep hb; replace VP := VP.keep hb; replace V5 := V5.keep hb; replace V7 := V7.keep hb; replace HB := below_step HB hb; clear hb)
  refine hK.out _ _ (by exact ⟨VP.c1, V5.c0, V5.c1⟩) (fun hHeld => ?_)
  clear hK K
  try go_frame
  refine tF 5 o96063 hHeld ?_; try go_frame
  refine wpAnyF_done (by kernel_rfl) ?_ _
  clear hHeld hWd
  have HFA := Lib.hid (HAC.out.falls HOK.out HBG.out)
  go_wp2_with fail
  clear hcm
  go_loopg [8] Kn (fun g iv wr => ∃ (k : Nat) (X : Int) (n7 : Bool) (A7 : Option Addr) (m7 k7 : Nat), g = Kn - k ∧ iv = .int .i64 k ∧ k ≤ Kn ∧ VM wr w.heap.size md Am nm cm A' n' c' M ∧ VQ wr (w.heap.size + 1) (.int .i64 (Kn : Int)) (.string (tS Bz)) (.slice A nl c) ∧ VN wr (w.heap.size + 2) n5 A5 m5 k5 n ∧ VN wr b7 n7 A7 m7 k7 X ∧ Below w.heap.size w wr ∧ Hid (X = itZ M n k) ∧ Hid (∀ i, 1 ≤ i → i ≤ k → ¬ itZ M n i < n))
  case atStart => exact ⟨0, n, n5, A5, m5, k5, rfl, rfl, Nat.zero_le _, V3, VP, V5, V7, HB, rfl, fun i h1 h2 => absurd h1 (by omega)⟩
  case round =>
   clear V3 VP V5 V7 HB
   obtain ⟨k, X, n7, A7, m7, k7, hgk, rfl, hk, V3, VP, V5, V7, HB, HX, HI⟩ := hrel
   have hkk0 : (0 : Int) ≤ (k : Int) := by omega
   have p0 := VP.c0
   by_cases hkn : k < Kn
   ·have hkk1 : (k : Int) < (Kn : Int) := by omega
    have HXL : Hid ((dg B9 X).length ≤ 2000) := by show _ ≤ _; rw [HX.out]; exact len700 (dl_grow HOK.out HAC.out.rise HN0.out HD.out (by omega))
    have HST : Hid (stepZ M X = itZ M n (k + 1)) := by show _ = _; rw [HX.out]; rfl
    have HPN : Hid (0 ≤ itZ M n (k + 1)) := it_nn HOK.out HAC.out.rise HN0.out _
    have m0 := V3.c0; have m1 := V3.c1; have m2 := V3.c2
    have y0 := V7.c0; have y1 := V7.c1
    go_wp2_with fail
    (with_reducible refine (Step_c M X _ _ _ V3.im.out V7.iz.out HOK.out (by have := HXL.out; omega)).mono ?_)
    rintro e w7 ⟨v, rfl, hv, hb⟩
    obtain ⟨n8, A8, m8, k8, rfl, H8⟩ := hv.form; clear hv
    replace V3 := V3.keep hb; replace VP := VP.keep hb; replace V5 := V5.keep hb; replace V7 := V7.keep hb
    replace HB := below_step HB hb
    clear hb m0 m1 m2 y0 y1
    have RA := V7.res
    have RAh := Lib.hid RA
    obtain ⟨⟨u1_, r1_⟩, ⟨u2_, u3_, u4_, r2_⟩, r3_, r4_, r5_⟩ := RA
    go_upto_region 9 with fail
    replace V3 := V3.far (x := .bool n8) (y := .slice A8 m8 k8) RAh.out (by omega)
    replace VP := VP.far (p := .bool n8) (q := .slice A8 m8 k8) (show b7 ≠ w.heap.size + 1 by omega)
    replace V5 := V5.far (x := .bool n8) (y := .slice A8 m8 k8) RAh.out (by omega)
    replace V7 := VX.store RAh.out H8.out
    replace HB := below_set2 (b := b7) HB (by omega) (.bool n8) (.slice A8 m8 k8)
    clear RAh r1_ r2_ r3_ r4_ r5_ H8
    generalize hW : (w7.setCell ⟨b7, 0, none⟩ (.bool n8)).setCell ⟨b7, 1, none⟩ (.slice A8 m8 k8) = w9 at *
    clear hW
    clear p0 HXL
    rw [HST.out] at V7
    obtain ⟨Y, hY⟩ : ∃ Y, itZ M n (k + 1) = Y := ⟨_, rfl⟩
    rw [hY] at V7 HPN
    have HYE := Lib.hid hY
    clear hY HST
    have x0 := V5.c0; have x1 := V5.c1; have y0 := V7.c0; have y1 := V7.c1
    go_wp2_with fail
    (with_reducible refine (Cmp_c Y n _ _ _ V7.iz.out V5.iz.out).mono ?_)
    rintro e wb ⟨rfl, hb⟩
    replace V3 := V3.keep hb; replace VP := VP.keep hb; replace V5 := V5.keep hb; replace V7 := V7.keep hb
    replace HB := below_step HB hb
    clear hb x0 x1 y0 y1
    by_cases hlt : Y < n
    ·have hcm : icmp Y n < 0 := (icmp_lt' _ _).2 hlt
     have y0 := V7.c0; have y1 := V7.c1
     clear hlt
     obtain ⟨sg, hsg⟩ : ∃ sg : Int, (if Y = 0 then 0 else if Y < 0 then -1 else 1) = sg := ⟨_, rfl⟩
     have hsg0 : 0 ≤ sg := by rw [← hsg]; have := HPN.out; split <;> (try split) <;> omega
     have HSG : Hid (∀ (u : Value) (W : World), IsN W u Y → Calls Tryz.prog 16 #[u] W fun e w' => e = .returned (.int .i64 sg) ∧ Below W.heap.size W w') := fun u W h1 => by
      have := Sign_c Y u W h1
      rw [hsg] at this
      exact this
     clear hsg
     go_wp2_with fail
     (with_reducible refine (HSG.out _ _ V7.iz.out).mono ?_)
     rintro e wc ⟨rfl, hb⟩
     replace HB := below_step HB hb
     clear hb y0 y1 HSG hcm
     go_wp2
     go_ret
     exact ⟨rfl, HB⟩
    ·have hcm : ¬ icmp Y n < 0 := fun h => hlt ((icmp_lt' _ _).1 h)
     have hcmd : decide (icmp Y n < 0) = false := decide_eq_false hcm
     have HLT := Lib.hid hlt
     have HI2 : Hid (∀ i, 1 ≤ i → i ≤ k + 1 → ¬ itZ M n i < n) := fun i h1 h2 => by
      rcases Nat.lt_or_ge i (k + 1) with h | h
      ·have := HI.out i h1 (by omega)
       omega
      ·obtain rfl : i = k + 1 := by omega
       rw [HYE.out]
       exact HLT.out
     clear hlt HI
     go_wp2
     go_roundg (Kn - (k + 1))
     case measure => omega
     case rel => exact ⟨k + 1, Y, n8, A8, m8, k8, rfl, by go_num, by omega, V3, VP, V5, V7, HB, HYE.out.symm, HI2⟩
   ·obtain rfl : k = Kn := by omega
    exfalso
    obtain ⟨i, h1, h2, h3⟩ := HFA.out
    have := HI.out i h1 h2
    omega
 have hcm : ¬ 0 < icmp n Bz := by
  intro h
  by_cases h3 : n = Bz
  ·have := (icmp_eq n Bz).2 h3; omega
  ·have := (icmp_lt' n Bz).2 (by omega); omega
 have hcmd : decide (0 < icmp n Bz) = false := decide_eq_false hcm
 have hnB : n ≤ Bz := by omega
 have HNB := Lib.hid hnB
 have HCO : Hid (∃ t, t ≤ 20000 ∧ ∃ i, i < ls.length ∧ itZ M n t ∈ lpi ls i) := by
  obtain ⟨q, hq⟩ := Int.eq_ofNat_of_zero_le HN0.out
  have h1 := HNB.out
  rw [hq] at h1 ⊢
  exact HAC.out.comes HOK.out h1
 clear hbg hnB
 refine wp_region_F (fun w' => w'.cell? ⟨w.heap.size + 1, 1, none⟩ = some (.string (tS Bz)) ∧ w'.cell? ⟨w.heap.size + 2, 0, none⟩ = some (.bool n5) ∧ w'.cell? ⟨w.heap.size + 2, 1, none⟩ = some (.slice A5 m5 k5)) [] (by kernel_rfl) (by rw [hWd]; exact ⟨VP.c1, V5.c0, V5.c1⟩) (fun hHeld => ?_)
 rw [hWd] at hHeld ⊢
 refine tF 0 o39a6a hHeld ?_; try go_frame
 refine tF 1 o69a4c hHeld ?_; try go_frame
 refine tF 2 o5ecdf hHeld ?_; try go_frame
 refine wpAnyF_one (i := 3) (by kernel_rfl) rfl (fun K hK => ?_)
 go_simp
 (go_at_call 15; (with_reducible refine (Parse_c Bz _ (by have := HBZ.out; omega)).mono ?_); rintro e w4 ⟨v, rfl, hv, hb⟩; obtain ⟨n6, A6, m6, k6, rfl, H6⟩ := hv.form; clear hv; replace V3 := V3.keep hb; replace VP := VP.keep hb; replace V5 := V5.keep hb; replace V7 := V7.keep hb; replace HB := below_step HB hb; clear hb)
 refine hK.out _ _ (by exact ⟨VP.c1, V5.c0, V5.c1⟩) (fun hHeld => ?_)
 clear hK K
 try go_frame
 refine wpAnyF_one (i := 4) (by kernel_rfl) rfl (fun K hK => ?_)
 go_simp
 (go_at_call 44; (with_reducible refine (Cmp_c n Bz _ _ _ V5.iz.out H6.out).mono ?_); rintro e w5 ⟨rfl, hb⟩; clear H6; replace V3 := V3.keep hb; replace VP := VP.keep hb; replace V5 := V5.keep hb; replace V7 := V7.keep hb; replace HB := below_step HB hb; clear hb)
 refine hK.out _ _ (by exact ⟨VP.c1, V5.c0, V5.c1⟩) (fun hHeld => ?_)
 clear hK K
 try go_frame
 refine tF 5 o96063 hHeld ?_; try go_frame
 refine wpAnyF_done (by kernel_rfl) ?_ _
 clear hHeld hWd
 go_wp2_with fail
 clear hcm hcmd
 go_loopg [9] 20001 (fun g iv wr => ∃ (k : Nat) (X : Int) (n7 : Bool) (A7 : Option Addr) (m7 k7 : Nat), g = 20001 - k ∧ iv = .int .i64 k ∧ k ≤ 20001 ∧ VM wr w.heap.size md Am nm cm A' n' c' M ∧ VQ wr (w.heap.size + 1) (.int .i64 (Kn : Int)) (.string (tS Bz)) (.slice A nl c) ∧ VN wr (w.heap.size + 2) n5 A5 m5 k5 n ∧ VN wr b7 n7 A7 m7 k7 X ∧ Below w.heap.size w wr ∧ Hid (X = itZ M n k) ∧ Hid (∀ j, j < k → ∀ i, i < ls.length → itZ M n j ∉ lpi ls i))
 case atStart => exact ⟨0, n, n5, A5, m5, k5, rfl, rfl, Nat.zero_le _, V3, VP, V5, V7, HB, rfl, fun j h => absurd h (by omega)⟩
 case round =>
  clear V3 VP V5 V7 HB
  obtain ⟨k, X, n7, A7, m7, k7, hgk, rfl, hk, V3, VP, V5, V7, HB, HX, HI⟩ := hrel
  have hkt : k ≤ 20000 := by
   obtain ⟨t, h1, i, h2, h3⟩ := HCO.out
   apply Classical.byContradiction
   intro h
   exact HI.out t (by omega) i h2 h3
  have hkk0 : (0 : Int) ≤ (k : Int) := by omega
  have hkk1 : (k : Int) ≤ 20000 := by omega
  have HXS : Hid (dl X ≤ 700) := by show _ ≤ _; rw [HX.out]; exact HAC.out.small HOK.out HN0.out HNB.out k
  have HXL : Hid ((dg B9 X).length ≤ 2000) := len700 HXS.out
  go_wp2_with fail
  go_loopg [11, 10] nl (fun g iv fv wy => ∃ (i f : Nat), g = nl - i ∧ iv = .int .i64 i ∧ fv = .int .i64 f ∧ i ≤ nl ∧ f ≤ i ∧ VM wy w.heap.size md Am nm cm A' n' c' M ∧ VQ wy (w.heap.size + 1) (.int .i64 (Kn : Int)) (.string (tS Bz)) (.slice A nl c) ∧ VN wy (w.heap.size + 2) n5 A5 m5 k5 n ∧ VN wy b7 n7 A7 m7 k7 X ∧ Below w.heap.size w wy ∧ Hid ((f = 0 ∧ ∀ j, j < i → X ∉ lpi ls j) ∨ (f = 1 ∧ ∃ j, j < i ∧ X ∈ lpi ls j)))
  case atStart => exact ⟨0, 0, rfl, rfl, rfl, Nat.zero_le _, Nat.le_refl _, V3, VP, V5, V7, HB, .inl ⟨rfl, fun j h => absurd h (by omega)⟩⟩
  case round =>
   clear V3 VP V5 V7 HB
   obtain ⟨i, f, hgi, rfl, rfl, hi, hfi, V3, VP, V5, V7, HB, HF⟩ := hrel
   have hi0 : (0 : Int) ≤ (i : Int) := by omega
   have p2 := VP.c2
   by_cases hin : i < nl
   ·have hi1 : (i : Int) < (nl : Int) := by omega
    have HIL : Hid (i < ls.length) := by show _ < _; rw [HNL.out]; exact hin
    obtain ⟨bA, oA, rfl⟩ := HL.out.ptr (by rw [List.length_map]; have := HIL.out; omega)
    obtain ⟨A1, c1, CC, hs1⟩ := (HL.out.below HB).atL (j := i) HIL.out
    obtain ⟨x, hx⟩ : ∃ x, lpi ls i = x := ⟨_, rfl⟩
    rw [hx] at CC hs1
    have HXX := Lib.hid hx
    obtain ⟨n1, hn1⟩ : ∃ n1, x.length = n1 := ⟨_, rfl⟩
    rw [hn1] at CC
    have HN1 := Lib.hid hn1
    have HS1 := Lib.hid hs1
    have hfw : IntKind.i64.wrap ((f : Int) + 1) = (f : Int) + 1 := by rw [IntKind.wrap_i64]; omega
    clear hx hn1 hs1
    go_upto_region 19 with fail
    clear p2
    have HBX := below_drew (Below.refl wr.heap.size wr)
    replace V3 := V3.drew; replace VP := VP.drew; replace V5 := V5.drew; replace V7 := V7.drew; replace CC := CC.drew; replace HB := below_drew HB
    generalize hWd : wr.drew = wd at *
    by_cases hmem : X ∈ x
    ·have HHA : Hid (∀ (u : Value) {W : World}, LsS W A1 c1 (x.map tS) → IsN W u X → Calls Tryz.prog 52 #[.slice A1 n1 c1, u] W fun e w' => e = .returned (.bool true) ∧ Below W.heap.size W w') := fun u W h1 h2 => by
      rw [← HN1.out]
      exact has_c x A1 c1 X u W h1 h2 (by have := HXL.out; omega) true ⟨fun _ => hmem, fun _ => rfl⟩
     have hf0 : f = 0 := by
      rcases HF.out with ⟨h, -⟩ | ⟨-, j, h1, h2⟩
      ·exact h
      ·exfalso
       have := loops_one HAC.out.loops (by have := HNL.out; omega) HIL.out h2 (by rw [HXX.out]; exact hmem)
       omega
     have HF2 : Hid ((f + 1 = 0 ∧ ∀ j, j < i + 1 → X ∉ lpi ls j) ∨ (f + 1 = 1 ∧ ∃ j, j < i + 1 ∧ X ∈ lpi ls j)) := .inr ⟨by omega, i, by omega, by rw [HXX.out]; exact hmem⟩
     clear hmem hf0 HF
     refine wp_region_F (fun w' => w'.cell? ⟨w.heap.size + 1, 2, none⟩ = some (.slice (some ⟨bA, oA, none⟩) nl c) ∧ w'.cell? ⟨bA, oA + i, none⟩ = some (.slice A1 n1 c1) ∧ w'.cell? ⟨b7, 0, none⟩ = some (.bool n7) ∧ w'.cell? ⟨b7, 1, none⟩ = some (.slice A7 m7 k7)) [] (by kernel_rfl) (by rw [hWd]; exact ⟨VP.c2, CC.c, V7.c0, V7.c1⟩) (fun hHeld => ?_)
     rw [hWd] at hHeld ⊢
     refine tF 0 oed8f3 hHeld ?_; try go_frame
     refine tF 1 of8bfd hHeld ?_; try go_frame
     refine tF 2 o2e6c8 hHeld ?_; try go_frame
     refine tF 3 o3c00b hHeld ?_; try go_frame
     refine tF 4 oc8868 hHeld ?_; try go_frame
     refine tF 5 o470f4 hHeld ?_; try go_frame
     refine tF 6 o55d11 hHeld ?_; try go_frame
     refine wpAnyF_one (i := 7) (by kernel_rfl) rfl (fun K hK => ?_)
     go_simp
     (go_at_call 52; (with_reducible refine (HHA.out _ (HS1.out.below HBX) V7.iz.out).mono ?_); rintro e w5 ⟨rfl, hb⟩; replace V3 := V3.keep hb; replace VP := VP.keep hb; replace V5 := V5.keep hb; replace V7 := V7.keep hb; replace CC := CC.keep hb; replace HB := below_step HB hb; clear hb)
     refine hK.out _ _ (by exact ⟨VP.c2, CC.c, V7.c0, V7.c1⟩) (fun hHeld => ?_)
     clear hK K
     try go_frame
     refine wpAnyF_done (by kernel_rfl) ?_ _
     clear hHeld hWd HHA
     go_wp2
     go_roundg (nl - (i + 1))
     case measure => omega
     case rel => exact ⟨i + 1, f + 1, rfl, by go_num, by go_num, by omega, by omega, V3, VP, V5, V7, HB, HF2⟩
    ·have HHA : Hid (∀ (u : Value) {W : World}, LsS W A1 c1 (x.map tS) → IsN W u X → Calls Tryz.prog 52 #[.slice A1 n1 c1, u] W fun e w' => e = .returned (.bool false) ∧ Below W.heap.size W w') := fun u W h1 h2 => by
      rw [← HN1.out]
      exact has_c x A1 c1 X u W h1 h2 (by have := HXL.out; omega) false ⟨fun h => (by cases h), fun h => absurd h hmem⟩
     have HF2 : Hid ((f = 0 ∧ ∀ j, j < i + 1 → X ∉ lpi ls j) ∨ (f = 1 ∧ ∃ j, j < i + 1 ∧ X ∈ lpi ls j)) := by
      rcases HF.out with ⟨h1, h2⟩ | ⟨h1, j, h2, h3⟩
      ·refine .inl ⟨h1, fun j hj => ?_⟩
       rcases Nat.lt_or_ge j i with h | h
       ·exact h2 j h
       ·obtain rfl : j = i := by omega
        rw [HXX.out]; exact hmem
      ·exact .inr ⟨h1, j, by omega, h3⟩
     clear hmem HF
     refine wp_region_F (fun w' => w'.cell? ⟨w.heap.size + 1, 2, none⟩ = some (.slice (some ⟨bA, oA, none⟩) nl c) ∧ w'.cell? ⟨bA, oA + i, none⟩ = some (.slice A1 n1 c1) ∧ w'.cell? ⟨b7, 0, none⟩ = some (.bool n7) ∧ w'.cell? ⟨b7, 1, none⟩ = some (.slice A7 m7 k7)) [] (by kernel_rfl) (by rw [hWd]; exact ⟨VP.c2, CC.c, V7.c0, V7.c1⟩) (fun hHeld => ?_)
     rw [hWd] at hHeld ⊢
     refine tF 0 oed8f3 hHeld ?_; try go_frame
     refine tF 1 of8bfd hHeld ?_; try go_frame
     refine tF 2 o2e6c8 hHeld ?_; try go_frame
     refine tF 3 o3c00b hHeld ?_; try go_frame
     refine tF 4 oc8868 hHeld ?_; try go_frame
     refine tF 5 o470f4 hHeld ?_; try go_frame
     refine tF 6 o55d11 hHeld ?_; try go_frame
     refine wpAnyF_one (i := 7) (by kernel_rfl) rfl (fun K hK => ?_)
     go_simp
     (go_at_call 52; (with_reducible refine (HHA.out _ (HS1.out.below HBX) V7.iz.out).mono ?_); rintro e w5 ⟨rfl, hb⟩; replace V3 := V3.keep hb; replace VP := VP.keep hb; replace V5 := V5.keep hb; replace V7 := V7.keep hb; replace CC := CC.keep hb; replace HB := below_step HB hb; clear hb)
     refine hK.out _ _ (by exact ⟨VP.c2, CC.c, V7.c0, V7.c1⟩) (fun hHeld => ?_)
     clear hK K
     try go_frame
     refine wpAnyF_done (by kernel_rfl) ?_ _
     clear hHeld hWd HHA
     go_wp2
     go_roundg (nl - (i + 1))
     case measure => omega
     case rel => exact ⟨i + 1, f, rfl, by go_num, rfl, by omega, by omega, V3, VP, V5, V7, HB, HF2⟩
   ·obtain rfl : i = nl := by omega
    have hi1 : ¬ (i : Int) < (i : Int) := by omega
    have y0 := V7.c0; have y1 := V7.c1
    rcases HF.out with ⟨hf, hno⟩ | ⟨hf, -⟩
    ·have HNO : Hid (∀ j, j < k + 1 → ∀ q, q < ls.length → itZ M n j ∉ lpi ls q) := fun j hj q hq => by
      rcases Nat.lt_or_ge j k with h | h
      ·exact HI.out j h q hq
      ·obtain rfl : j = k := by omega
       rw [← HX.out]
       exact hno q (by rw [← HNL.out]; exact hq)
     have hdx : ¬ (700 : Int) < (dl X : Int) := by have := HXS.out; omega
     have hdd : decide ((700 : Int) < (dl X : Int)) = false := decide_eq_false hdx
     have hde : decide (700 < dl X) = false := decide_eq_false (by have := HXS.out; omega)
     subst hf
     have HST : Hid (stepZ M X = itZ M n (k + 1)) := by show _ = _; rw [HX.out]; rfl
     clear HF hno HI
     go_wp2_with fail
     (with_reducible refine (Digits_c X _ _ V7.iz.out (by have := HXL.out; omega)).mono ?_)
     rintro e wb ⟨rfl, hb⟩
     replace V3 := V3.keep hb; replace VP := VP.keep hb; replace V5 := V5.keep hb; replace V7 := V7.keep hb
     replace HB := below_step HB hb
     clear hb y0 y1 p2
     have m0 := V3.c0; have m1 := V3.c1; have m2 := V3.c2
     have y0 := V7.c0; have y1 := V7.c1
     go_wp2_with fail
     (with_reducible refine (Step_c M X _ _ _ V3.im.out V7.iz.out HOK.out (by have := HXL.out; omega)).mono ?_)
     rintro e w7 ⟨v, rfl, hv, hb⟩
     obtain ⟨n8, A8, m8, k8, rfl, H8⟩ := hv.form; clear hv
     replace V3 := V3.keep hb; replace VP := VP.keep hb; replace V5 := V5.keep hb; replace V7 := V7.keep hb
     replace HB := below_step HB hb
     clear hb m0 m1 m2 y0 y1
     have RA := V7.res
     have RAh := Lib.hid RA
     obtain ⟨⟨u1_, r1_⟩, ⟨u2_, u3_, u4_, r2_⟩, r3_, r4_, r5_⟩ := RA
     go_upto_region 14 with fail
     replace V3 := V3.far (x := .bool n8) (y := .slice A8 m8 k8) RAh.out (by omega)
     replace VP := VP.far (p := .bool n8) (q := .slice A8 m8 k8) (show b7 ≠ w.heap.size + 1 by omega)
     replace V5 := V5.far (x := .bool n8) (y := .slice A8 m8 k8) RAh.out (by omega)
     replace V7 := VX.store RAh.out H8.out
     replace HB := below_set2 (b := b7) HB (by omega) (.bool n8) (.slice A8 m8 k8)
     clear RAh r1_ r2_ r3_ r4_ r5_ H8
     generalize hW : (w7.setCell ⟨b7, 0, none⟩ (.bool n8)).setCell ⟨b7, 1, none⟩ (.slice A8 m8 k8) = w9 at *
     clear hW
     rw [HST.out] at V7
     go_wp2
     go_roundg (20001 - (k + 1))
     case measure => omega
     case rel => exact ⟨k + 1, itZ M n (k + 1), n8, A8, m8, k8, rfl, by go_num, by omega, V3, VP, V5, V7, HB, rfl, HNO⟩
    ·subst hf
     clear HF HI
     go_wp2
     go_ret
     exact ⟨rfl, HB⟩
end Go.Proofs.YtibdipfhfaeooaaGreatDoor

