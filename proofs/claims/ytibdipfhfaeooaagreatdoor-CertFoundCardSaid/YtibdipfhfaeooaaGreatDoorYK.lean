/- law09.CertFound returns true. No condition but that the library's table lies as it should. -/
import Derived.Test.YtibdipfhfaeooaaGreatDoorYF
import Derived.Test.YtibdipfhfaeooaaGreatDoorYE
import Derived.Test.YtibdipfhfaeooaaGreatDoorYJ
import Derived.Maps.RangeWalk
set_option linter.unusedVariables false
set_option linter.unusedSimpArgs false
namespace Go.Proofs.YtibdipfhfaeooaaGreatDoor
open Go.RowKit

abbrev o44c67 : Oper := { dst := some 35, op := Go.Op.move (Go.Operand.tmp 7), type := 4, pos := "outright.go:90", after := #[], guard := none }
abbrev ofd6f4 : Oper := { dst := some 36, op := Go.Op.move (Go.Operand.tmp 35), type := 4, pos := "outright.go:90", after := #[{ on := 0, ground := Go.Ground.data }], guard := none }
abbrev o4a736 : Oper := { dst := some 37, op := Go.Op.fieldAddr 24 (Go.Operand.tmp 3) 1, type := 0, pos := "outright.go:90", after := #[{ on := 1, ground := Go.Ground.guard }], guard := some (1, true) }
abbrev o78590 : Oper := { dst := some 38, op := Go.Op.load 22 (Go.Operand.tmp 37), type := 22, pos := "outright.go:90", after := #[{ on := 2, ground := Go.Ground.data }, { on := 1, ground := Go.Ground.guard }], guard := some (1, true) }
abbrev o533df : Oper := { dst := some 39, op := Go.Op.move (Go.Operand.tmp 8), type := 3, pos := "outright.go:90", after := #[{ on := 1, ground := Go.Ground.guard }], guard := some (1, true) }
abbrev o555e8 : Oper := { dst := some 40, op := Go.Op.indexAddr 22 (Go.Operand.tmp 38) (Go.Operand.tmp 39), type := 0, pos := "outright.go:90", after := #[{ on := 3, ground := Go.Ground.data }, { on := 4, ground := Go.Ground.data }, { on := 1, ground := Go.Ground.guard }], guard := some (1, true) }
abbrev o0173b : Oper := { dst := some 41, op := Go.Op.load 3 (Go.Operand.tmp 40), type := 3, pos := "outright.go:90", after := #[{ on := 5, ground := Go.Ground.data }, { on := 1, ground := Go.Ground.guard }], guard := some (1, true) }
abbrev odcac1 : Oper := { dst := some 42, op := Go.Op.fieldAddr 24 (Go.Operand.tmp 3) 0, type := 0, pos := "outright.go:90", after := #[{ on := 1, ground := Go.Ground.guard }], guard := some (1, true) }
abbrev oaac65 : Oper := { dst := some 43, op := Go.Op.load 3 (Go.Operand.tmp 42), type := 3, pos := "outright.go:90", after := #[{ on := 7, ground := Go.Ground.data }, { on := 1, ground := Go.Ground.guard }], guard := some (1, true) }
abbrev o7ec0e : Oper := { dst := some 44, op := Go.Op.binOp Go.BinOp.lss 3 (Go.Operand.tmp 41) (Go.Operand.tmp 43) 3, type := 4, pos := "outright.go:90", after := #[{ on := 6, ground := Go.Ground.data }, { on := 8, ground := Go.Ground.data }, { on := 1, ground := Go.Ground.guard }], guard := some (1, true) }
abbrev o1dcd0 : Oper := { dst := some 45, op := Go.Op.pick (Go.Operand.tmp 36) (Go.Operand.tmp 44) (Go.Operand.const (Go.Value.bool false)), type := 4, pos := "outright.go:90", after := #[{ on := 1, ground := Go.Ground.data }, { on := 9, ground := Go.Ground.data }], guard := none }
abbrev oa7b9c : Oper := { dst := some 7, op := Go.Op.assign (Go.Operand.tmp 45), type := 4, pos := "outright.go:90", after := #[{ on := 10, ground := Go.Ground.data }, { on := 1, ground := Go.Ground.chain }, { on := 0, ground := Go.Ground.phase }, { on := 1, ground := Go.Ground.phase }, { on := 2, ground := Go.Ground.phase }, { on := 3, ground := Go.Ground.phase }, { on := 4, ground := Go.Ground.phase }, { on := 5, ground := Go.Ground.phase }, { on := 6, ground := Go.Ground.phase }, { on := 7, ground := Go.Ground.phase }, { on := 8, ground := Go.Ground.phase }, { on := 9, ground := Go.Ground.phase }, { on := 10, ground := Go.Ground.phase }], guard := none }
abbrev od8953 : Oper := { dst := some 149, op := Go.Op.fieldAddr 27 (Go.Operand.tmp 9) 0, type := 0, pos := "outright.go:106", after := #[], guard := none }
abbrev oe179e : Oper := { dst := some 150, op := Go.Op.load 3 (Go.Operand.tmp 149), type := 3, pos := "outright.go:106", after := #[{ on := 0, ground := Go.Ground.data }], guard := none }
abbrev o758be : Oper := { dst := some 151, op := Go.Op.fieldAddr 27 (Go.Operand.tmp 9) 1, type := 0, pos := "outright.go:106", after := #[], guard := none }
abbrev o79572 : Oper := { dst := some 152, op := Go.Op.load 9 (Go.Operand.tmp 151), type := 9, pos := "outright.go:106", after := #[{ on := 2, ground := Go.Ground.data }], guard := none }
abbrev o14190 : Oper := { dst := some 154, op := Go.Op.move (Go.Operand.tmp 2), type := 3, pos := "outright.go:106", after := #[], guard := none }
abbrev o0eee8 : Oper := { dst := some 155, op := Go.Op.binOp Go.BinOp.and 3 (Go.Operand.tmp 154) (Go.Operand.const (Go.Value.int Go.IntKind.i64 255)) 3, type := 3, pos := "outright.go:106", after := #[{ on := 5, ground := Go.Ground.data }], guard := none }
abbrev ob6d79 : Oper := { dst := some 156, op := Go.Op.binOp Go.BinOp.add 3 (Go.Operand.const (Go.Value.int Go.IntKind.i64 1)) (Go.Operand.tmp 155) 3, type := 3, pos := "outright.go:106", after := #[{ on := 6, ground := Go.Ground.data }], guard := none }
abbrev o3f5e7 : Oper := { dst := some 160, op := Go.Op.fieldAddr 27 (Go.Operand.tmp 9) 2, type := 0, pos := "outright.go:106", after := #[], guard := none }
abbrev o125a0 : Oper := { dst := some 161, op := Go.Op.load 25 (Go.Operand.tmp 160), type := 25, pos := "outright.go:106", after := #[{ on := 11, ground := Go.Ground.data }], guard := none }
abbrev od12b0 : Oper := { dst := some 162, op := Go.Op.build 27 #[(0, Go.Operand.tmp 150), (1, Go.Operand.tmp 159), (2, Go.Operand.tmp 161)], type := 27, pos := "outright.go:106", after := #[{ on := 1, ground := Go.Ground.data }, { on := 10, ground := Go.Ground.data }, { on := 12, ground := Go.Ground.data }], guard := none }
attribute [local go_sem] o44c67 ofd6f4 o4a736 o78590 o533df o555e8 o0173b odcac1 oaac65 o7ec0e o1dcd0 oa7b9c od8953 oe179e o758be o79572 o14190 o0eee8 ob6d79 o3f5e7 o125a0 od12b0
theorem and_bd (x : Int) (m : Nat) (hm : m ≤ 255) : 0 ≤ bits .and .i64 x (m : Int) ∧ bits .and .i64 x (m : Int) ≤ (m : Int) := by
 have e : (BitVec.ofInt 64 x &&& BitVec.ofInt 64 (m : Int)).toNat ≤ m := by
  rw [BitVec.toNat_and, BitVec.ofInt_natCast, BitVec.toNat_ofNat, Nat.mod_eq_of_lt (show m < 2 ^ 64 by omega)]
  exact Nat.and_le_right
 have e2 : bits .and .i64 x (m : Int) = IntKind.i64.wrap (((BitVec.ofInt 64 x &&& BitVec.ofInt 64 (m : Int)).toNat : Nat) : Int) := rfl
 rw [e2, IntKind.wrap_i64]
 omega
theorem dlN_lt {z : Int} (h : z.natAbs < 10 ^ 5) : dlN z.natAbs ≤ 2000 := by
 unfold dlN
 rcases Nat.eq_zero_or_pos z.natAbs with h0 | h0
 ·rw [h0]; decide
 ·rw [txN_length h0]
  have := digs_len_le (B := 10) (k := 5) (by omega) h
  omega
theorem len5 {z : Int} (h : z.natAbs < 10 ^ 5) : (dg B9 z).length ≤ 2000 := len_of_dl (by rw [dl_dlN]; exact dlN_lt h)
def smB (M : Mp) (r : Nat) : Bool := (List.range r).all fun j => decide (gd M.mul j < M.mod)
theorem smB_succ (M : Mp) (r : Nat) : smB M (r + 1) = (smB M r && decide (gd M.mul r < M.mod)) := by simp [smB, List.range_succ]
theorem smB_iff (M : Mp) : smB M M.mul.length = true ↔ SmallM M := by simp [smB, SmallM]
theorem R3.put {W : World} {b : Nat} {x y z : Value} (h : R3 W b x y z) (x' y' z' : Value) : VQ (((W.setCell ⟨b, 0, none⟩ x').setCell ⟨b, 1, none⟩ y').setCell ⟨b, 2, none⟩ z') b x' y' z' := by
 have e : ∀ (o o' : Nat) (w : World) (u : Value), o ≠ o' → (w.setCell ⟨b, o', none⟩ u).cell? ⟨b, o, none⟩ = w.cell? ⟨b, o, none⟩ := fun o o' w u hne => World.cell?_setCell_other _ _ _ _ (by simp <;> omega)
 refine ⟨?_, ?_, ?_, by simpa [World.setCell] using h.q.lt⟩
 ·rw [e 0 2 _ _ (by omega), e 0 1 _ _ (by omega)]
  exact World.cell?_setCell_same' _ _ _ (by rw [h.q.c0]; rfl)
 ·rw [e 1 2 _ _ (by omega)]
  exact World.cell?_setCell_same' _ _ _ (by rw [e 1 0 _ _ (by omega), h.q.c1]; rfl)
 ·exact World.cell?_setCell_same' _ _ _ (by rw [e 2 1 _ _ (by omega), e 2 0 _ _ (by omega), h.q.c2]; rfl)
theorem rests_of {M : Mp} (hok : okM M) {most : Int} (h : restsP M.mod (min most 20) ≠ 0) : min most 20 = most ∧ 1 ≤ most ∧ M.mod ^ most.toNat ≤ 65536 := by
 unfold restsP at h
 split at h
 ·rename_i h1
  have h2 := rests_le hok.1 h1.2
  have h3 : min most 20 = most := by omega
  rw [h3] at h1
  exact ⟨h3, h1.1, h1.2⟩
 ·exact absurd rfl h
set_option maxRecDepth 100000 in
set_option maxHeartbeats 32000000 in
theorem CertFound_law (M : Mp) (most less : Int) (v : Value) (w : World) (hM : IsM w v M) (ht : Tb w) :
  Calls Tryz.prog 9 #[v, .int .i64 most, .int .i64 less] w fun e w' => e = .returned (.bool true) ∧ Below w.heap.size w w' := by
 obtain ⟨md, Am, nm, cm, A', n', c', rfl, HM⟩ := hM.form
 have HTB := Lib.hid ht
 have HB := below_alloc (Below.refl w.heap.size w) (Obj.cells #[Value.int .i64 md, Value.slice Am nm cm, Value.slice A' n' c'] 24)
 have V3 := VM.new w 24 HM.out
 clear hM ht HM
 have H7 := Lib.hid (and_bd less 7 (by omega))
 have H255 := Lib.hid (and_bd less 255 (by omega))
 go_enter Tryz.func9, Tryz.ntmps9
 go_upto_region 1 with fail
 generalize hW : w.alloc (Obj.cells #[Value.int .i64 md, Value.slice Am nm cm, Value.slice A' n' c'] 24) = W at *
 clear hW
 by_cases hok : okB M = true
 rotate_left
 ·have HOK : Hid (okB M = false) := by show _ = _; revert hok; cases okB M <;> simp
  clear hok
  have m0 := V3.c0; have m1 := V3.c1; have m2 := V3.c2
  go_wp2_with fail
  (with_reducible refine (MValid_c M _ _ V3.im.out).mono ?_)
  rintro e w2 ⟨he, hb⟩
  obtain rfl : e = .returned (.bool false) := by rw [he, HOK.out]
  clear he
  replace V3 := V3.keep hb; replace HB := below_step HB hb
  clear hb
  clear m0 m1 m2
  go_wp2_with fail
  (with_reducible refine (awake9_c _ (HTB.out.below HB)).mono ?_)
  rintro e wz ⟨rfl, hb⟩
  replace HB := below_step HB hb
  clear hb
  go_wp2
  go_ret
  exact ⟨rfl, HB⟩
 have HOK := Lib.hid hok
 have HOM : Hid (okM M) := okB_iff.1 hok
 clear hok
 obtain ⟨q, hq⟩ : ∃ q, min most 20 = q := ⟨_, rfl⟩
 obtain ⟨rv, hrv⟩ : ∃ rv, restsP M.mod q = rv := ⟨_, rfl⟩
 have HRC : Hid (∀ (u : Value) {W : World}, IsM W u M → Calls Tryz.prog 29 #[u, .int .i64 q] W fun e w' => e = .returned (.int .i64 rv) ∧ Below W.heap.size W w') := fun u W h1 => by
  rw [← hrv]
  exact Rests_c M q u W h1 HOM.out.1 HOM.out.2.1
 have m0 := V3.c0; have m1 := V3.c1; have m2 := V3.c2
 go_wp2_with fail
 (with_reducible refine (MValid_c M _ _ V3.im.out).mono ?_)
 rintro e w2 ⟨he, hb⟩
 obtain rfl : e = .returned (.bool true) := by rw [he, HOK.out]
 clear he
 replace V3 := V3.keep hb; replace HB := below_step HB hb
 clear hb
 clear m0 m1 m2
 by_cases h0 : rv = 0
 ·have h0b : (rv == 0) = true := by rw [h0]; rfl
  clear hrv h0
  have m0 := V3.c0; have m1 := V3.c1; have m2 := V3.c2
  go_wp2_with fail
  (with_reducible refine (HRC.out _ V3.im.out).mono ?_)
  rintro e w2 ⟨rfl, hb⟩
  replace V3 := V3.keep hb; replace HB := below_step HB hb
  clear hb
  clear m0 m1 m2
  go_wp2_with fail
  (with_reducible refine (awake9_c _ (HTB.out.below HB)).mono ?_)
  rintro e wz ⟨rfl, hb⟩
  replace HB := below_step HB hb
  clear hb
  go_wp2
  go_ret
  exact ⟨rfl, HB⟩
 have h0b : (rv == 0) = false := by simpa using h0
 have HMO : Hid (min most 20 = most ∧ 1 ≤ most ∧ M.mod ^ most.toNat ≤ 65536) := rests_of HOM.out (by rw [hq, hrv]; exact h0)
 clear hrv h0
 have m0 := V3.c0; have m1 := V3.c1; have m2 := V3.c2
 go_wp2_with fail
 (with_reducible refine (HRC.out _ V3.im.out).mono ?_)
 rintro e w2 ⟨rfl, hb⟩
 replace V3 := V3.keep hb; replace HB := below_step HB hb
 clear hb
 clear m0 m1 m2
 obtain ⟨hmd, hn1, -, -, -⟩ := V3.sl
 have e1 := HOM.out.2.2.1
 have h12 := HOM.out.2.1
 have hl12 : nm ≤ 12 := by omega
 obtain rfl : md = (nm : Int) := by omega
 have HMD := Lib.hid hmd
 have HNM := Lib.hid hn1
 clear hmd hn1 e1 h12
 go_wp2_with fail
 clear hq h0b HRC
 go_loopg [7, 8] nm (fun g sv iv wr => ∃ r : Nat, g = nm - r ∧ sv = .bool (smB M r) ∧ iv = .int .i64 r ∧ r ≤ nm ∧ VM wr w.heap.size (nm : Int) Am nm cm A' n' c' M ∧ Below w.heap.size w wr)
 case atStart => exact ⟨0, rfl, rfl, rfl, Nat.zero_le _, V3, HB⟩
 case round =>
  clear V3 HB
  obtain ⟨r, hgr, rfl, rfl, hr, V3, HB⟩ := hrel
  have hr0 : (0 : Int) ≤ (r : Int) := by omega
  have m0 := V3.c0
  by_cases hrn : r < nm
  ·have hr1 : (r : Int) < (nm : Int) := by omega
   have HSS := Lib.hid (smB_succ M r)
   obtain ⟨b, hb⟩ : ∃ b, smB M r = b := ⟨_, rfl⟩
   rw [hb] at HSS ⊢
   clear hb
   obtain ⟨-, -, -, s1, -⟩ := V3.sl
   obtain ⟨bB, oB, rfl, hlB, cB⟩ := s1.cell (j := r) (by rw [← HNM.out]; exact hrn)
   clear s1
   obtain ⟨y, hy⟩ : ∃ y, gd M.mul r = y := ⟨_, rfl⟩
   rw [hy] at cB HSS
   rw [← HMD.out] at HSS
   clear hy hlB
   go_wp2_with fail
   clear m0
   replace V3 := V3.drew; replace HB := below_drew HB
   have x0 : wr.drew.cell? ⟨bB, oB + r, none⟩ = some (.int .i64 y) := cB
   clear cB
   generalize hWd : wr.drew = wd at *
   cases b with
   | false =>
    have HS2 : Hid (smB M (r + 1) = false) := by show _ = _; rw [HSS.out]; rfl
    clear HSS
    refine wp_region_F (fun w' => w'.cell? ⟨w.heap.size, 0, none⟩ = some (.int .i64 nm) ∧ w'.cell? ⟨w.heap.size, 1, none⟩ = some (.slice (some ⟨bB, oB, none⟩) nm cm) ∧ w'.cell? ⟨bB, oB + r, none⟩ = some (.int .i64 y)) [] (by kernel_rfl) (by rw [hWd]; exact ⟨V3.c0, V3.c1, x0⟩) (fun hHeld => ?_)
    rw [hWd] at hHeld ⊢
    refine tF 0 o44c67 hHeld ?_; try go_frame
    refine tF 1 ofd6f4 hHeld ?_; try go_frame
    refine nF 2 o4a736 hHeld ?_; try go_frame
    refine nF 3 o78590 hHeld ?_; try go_frame
    refine nF 4 o533df hHeld ?_; try go_frame
    refine nF 5 o555e8 hHeld ?_; try go_frame
    refine nF 6 o0173b hHeld ?_; try go_frame
    refine nF 7 odcac1 hHeld ?_; try go_frame
    refine nF 8 oaac65 hHeld ?_; try go_frame
    refine nF 9 o7ec0e hHeld ?_; try go_frame
    refine tF 10 o1dcd0 hHeld ?_; try go_frame
    refine tF 11 oa7b9c hHeld ?_; try go_frame
    refine wpAnyF_done (by kernel_rfl) ?_ _
    clear hHeld hWd
    go_wp2
    go_roundg (nm - (r + 1))
    case measure => omega
    case rel => exact ⟨r + 1, rfl, by rw [HS2.out], by go_num, by omega, V3, HB⟩
   | true =>
    by_cases hy1 : y < (nm : Int)
    ·have HS2 : Hid (smB M (r + 1) = true) := by show _ = _; rw [HSS.out, decide_eq_true hy1]; rfl
     clear HSS
     refine wp_region_F (fun w' => w'.cell? ⟨w.heap.size, 0, none⟩ = some (.int .i64 nm) ∧ w'.cell? ⟨w.heap.size, 1, none⟩ = some (.slice (some ⟨bB, oB, none⟩) nm cm) ∧ w'.cell? ⟨bB, oB + r, none⟩ = some (.int .i64 y)) [] (by kernel_rfl) (by rw [hWd]; exact ⟨V3.c0, V3.c1, x0⟩) (fun hHeld => ?_)
     rw [hWd] at hHeld ⊢
     refine tF 0 o44c67 hHeld ?_; try go_frame
     refine tF 1 ofd6f4 hHeld ?_; try go_frame
     refine tF 2 o4a736 hHeld ?_; try go_frame
     refine tF 3 o78590 hHeld ?_; try go_frame
     refine tF 4 o533df hHeld ?_; try go_frame
     refine tF 5 o555e8 hHeld ?_; try go_frame
     refine tF 6 o0173b hHeld ?_; try go_frame
     refine tF 7 odcac1 hHeld ?_; try go_frame
     refine tF 8 oaac65 hHeld ?_; try go_frame
     refine tF 9 o7ec0e hHeld ?_; try go_frame
     refine tF 10 o1dcd0 hHeld ?_; try go_frame
     refine tF 11 oa7b9c hHeld ?_; try go_frame
     refine wpAnyF_done (by kernel_rfl) ?_ _
     clear hHeld hWd
     go_wp2
     go_roundg (nm - (r + 1))
     case measure => omega
     case rel => exact ⟨r + 1, rfl, by rw [HS2.out], by go_num, by omega, V3, HB⟩
    ·have HS2 : Hid (smB M (r + 1) = false) := by show _ = _; rw [HSS.out, decide_eq_false hy1]; rfl
     have hy2 : decide (y < (nm : Int)) = false := decide_eq_false hy1
     clear HSS
     refine wp_region_F (fun w' => w'.cell? ⟨w.heap.size, 0, none⟩ = some (.int .i64 nm) ∧ w'.cell? ⟨w.heap.size, 1, none⟩ = some (.slice (some ⟨bB, oB, none⟩) nm cm) ∧ w'.cell? ⟨bB, oB + r, none⟩ = some (.int .i64 y)) [] (by kernel_rfl) (by rw [hWd]; exact ⟨V3.c0, V3.c1, x0⟩) (fun hHeld => ?_)
     rw [hWd] at hHeld ⊢
     refine tF 0 o44c67 hHeld ?_; try go_frame
     refine tF 1 ofd6f4 hHeld ?_; try go_frame
     refine tF 2 o4a736 hHeld ?_; try go_frame
     refine tF 3 o78590 hHeld ?_; try go_frame
     refine tF 4 o533df hHeld ?_; try go_frame
     refine tF 5 o555e8 hHeld ?_; try go_frame
     refine tF 6 o0173b hHeld ?_; try go_frame
     refine tF 7 odcac1 hHeld ?_; try go_frame
     refine tF 8 oaac65 hHeld ?_; try go_frame
     refine tF 9 o7ec0e hHeld ?_; try go_frame
     refine tF 10 o1dcd0 hHeld ?_; try go_frame
     refine tF 11 oa7b9c hHeld ?_; try go_frame
     refine wpAnyF_done (by kernel_rfl) ?_ _
     clear hHeld hWd
     go_wp2
     go_roundg (nm - (r + 1))
     case measure => omega
     case rel => exact ⟨r + 1, rfl, by rw [HS2.out], by go_num, by omega, V3, HB⟩
  ·obtain rfl : r = nm := by omega
   have hr1 : ¬ (r : Int) < (r : Int) := by omega
   obtain ⟨sm, hsm⟩ : ∃ sm, smB M r = sm := ⟨_, rfl⟩
   rw [hsm]
   have HSM : Hid (sm = true ↔ SmallM M) := by show _ ↔ _; rw [← hsm, HNM.out]; exact smB_iff M
   clear hsm
   have m1 := V3.c1; have m2 := V3.c2
   go_wp2_with fail
   (with_reducible refine (Find_c M most _ _ V3.im.out (HTB.out.below HB)).mono ?_)
   rintro e w3 ⟨hR, hb⟩
   replace V3 := V3.keep hb; replace HB := below_step HB hb
   clear hb
   clear m0 m1 m2
   rcases hR with ⟨h, -⟩ | ⟨-, h, rfl⟩ | ⟨-, hri, -, -, ⟨hd, rfl⟩ | ⟨hd, -, rfl⟩ | ⟨hd, hT, hfi, A9, c9, ls, rfl, hl, hf, hz⟩⟩
   ·rw [HOK.out] at h; cases h
   ·have HNA : Hid (∀ (u : Value) {W : World}, IsM W u M → Calls Tryz.prog 28 #[u] W fun e w' => e = .returned (.bool false) ∧ Below W.heap.size W w') := fun u W h1 => Natural_c M u W h1 HOM.out false ⟨fun h => (by cases h), fun h2 => absurd ⟨h2, HMO.out.2.1, HMO.out.2.2⟩ h⟩
    clear h
    go_upto_region 9 with fail
    generalize hWa : w3.alloc _ = w5
    have hb : Below w3.heap.size w3 w5 := by subst hWa; exact below_alloc (Below.refl _ _) _
    replace V3 := V3.keep hb; replace HB := below_step HB hb
    clear hb
    clear hWa
    have m0 := V3.c0; have m1 := V3.c1; have m2 := V3.c2
    go_wp2_with fail
    (with_reducible refine (HNA.out _ V3.im.out).mono ?_)
    rintro e w6 ⟨rfl, hb⟩
    replace V3 := V3.keep hb; replace HB := below_step HB hb
    clear hb
    clear m0 m1 m2
    clear HNA
    go_wp2_with fail
    (with_reducible refine (awake9_c _ (HTB.out.below HB)).mono ?_)
    rintro e wz ⟨rfl, hb⟩
    replace HB := below_step HB hb
    clear hb
    go_wp2
    go_ret
    exact ⟨rfl, HB⟩
   ·have HMN : Hid (1 ≤ most.toNat) := by show _ ≤ _; have := HMO.out.2.1; omega
    cases sm with
    | true =>
     exfalso
     have := small_down HOM.out (HSM.out.1 rfl) HMN.out
     omega
    | false =>
     clear hd hri
     go_upto_region 9 with fail
     generalize hWa : w3.alloc _ = w5
     have hb : Below w3.heap.size w3 w5 := by subst hWa; exact below_alloc (Below.refl _ _) _
     replace V3 := V3.keep hb; replace HB := below_step HB hb
     clear hb
     clear hWa
     go_wp2_with fail
     (with_reducible refine (awake9_c _ (HTB.out.below HB)).mono ?_)
     rintro e wz ⟨rfl, hb⟩
     replace HB := below_step HB hb
     clear hb
     go_wp2
     go_ret
     exact ⟨rfl, HB⟩
   ·clear hd hri
    go_upto_region 9 with fail
    generalize hWa : w3.alloc _ = w5
    have hb : Below w3.heap.size w3 w5 := by subst hWa; exact below_alloc (Below.refl _ _) _
    replace V3 := V3.keep hb; replace HB := below_step HB hb
    clear hb
    clear hWa
    go_wp2_with fail
    (with_reducible refine (awake9_c _ (HTB.out.below HB)).mono ?_)
    rintro e wz ⟨rfl, hb⟩
    replace HB := below_step HB hb
    clear hb
    go_wp2
    go_ret
    exact ⟨rfl, HB⟩
   ·obtain ⟨kn, hkn⟩ : ∃ kn, (downP M most.toNat).1 = kn := ⟨_, rfl⟩
    obtain ⟨T, hTe⟩ : ∃ T, (downP M most.toNat).2 = T := ⟨_, rfl⟩
    have HPF := Lib.hid (downP_falls HOM.out (most := most.toNat) (K := kn) (T := T) (by rw [← hkn, ← hTe]) (by rw [← hkn]; exact hd))
    have HDH := Lib.hid (down_here HOM.out hd)
    have HLO := Lib.hid (fun (B : Int) (l : List (List Int)) => down_lower HOM.out (B := B) (ls := l) hd)
    have HLE := Lib.hid (fun (k' : Nat) (B : Int) (l : List (List Int)) => down_less HOM.out (most := most.toNat) (K' := k') (B := B) (ls := l))
    have HSD : Hid (SmallM M → kn = 1) := fun h => by rw [← hkn]; exact small_down HOM.out h (by have := HMO.out.2.1; omega)
    have HRD : Hid (RegM M → SmallM M) := fun h => Classical.byContradiction fun h2 => hd (reg_down HOM.out h h2 _)
    rw [hTe] at hT hfi hf HLO HDH ⊢
    rw [hkn] at HLE HLO HDH hd ⊢
    have HK0 : Hid (1 ≤ kn) := by show _ ≤ _; omega
    have HPW : Hid (M.mod ^ kn ≤ 65536) := by
     have h1 := pow_le_pow HOM.out.1 (show kn ≤ most.toNat from HPF.out.1)
     have h2 := HMO.out.2.2
     show _ ≤ _
     omega
    have HAC := Lib.hid (acc_of_found HOM.out hri HK0.out HPW.out HDH.out hT hfi hf)
    have HTT : Hid (0 ≤ T ∧ T ≤ 20000) := ⟨HPF.out.2.1, hT⟩
    have HTD : Hid (dlN T.natAbs ≤ 2000) := dlN_20000 HPF.out.2.1 hT
    have HL9 := Lib.hid hl
    have HZL := Lib.hid hz
    obtain ⟨nl, hnl⟩ : ∃ nl, ls.length = nl := ⟨_, rfl⟩
    rw [hnl]
    have HNL := Lib.hid hnl
    obtain ⟨kz, hkz⟩ : ∃ kz : Int, (kn : Int) = kz := ⟨_, rfl⟩
    rw [hkz]
    have HKZ := Lib.hid hkz
    have hk1 : ¬ kz < 1 := by have := HK0.out; omega
    have hk1d : decide (kz < 1) = false := decide_eq_false hk1
    have hk2 : ¬ most < kz := by have := HPF.out.1; have := HMO.out.2.1; omega
    have hk2d : decide (most < kz) = false := decide_eq_false hk2
    have hk3 : kz ≤ 16 := by have := rests_le HOM.out.1 HPW.out; omega
    clear hkn hTe hd hri hT hfi hl hf hz hnl hkz HDH
    obtain ⟨rg, hrg⟩ : ∃ b : Bool, b = true ↔ RegM M := by
     by_cases h : RegM M
     ·exact ⟨true, by simp [h]⟩
     ·exact ⟨false, by simp [h]⟩
    have HRG : Hid (∀ (u : Value) {W : World}, IsM W u M → Calls Tryz.prog 40 #[u] W fun e w' => e = .returned (.bool rg) ∧ Below W.heap.size W w') := fun u W h1 => Regular_c M u W h1 HOM.out rg hrg
    have HFM : Hid (∀ W : World, LsL W A9 c9 ls → Calls Tryz.prog 24 #[.agg #[.int .i64 kz, .string (tS T), .slice A9 nl c9]] W fun e w' => e = .returned (.bool true) ∧ Below W.heap.size W w') := fun W h1 => by
     have := Form9_c kz (tS T) (ls.map fun l => l.map tS) A9 c9 W (tS_max HTD.out) h1 (fun l hl s hs => by
      obtain ⟨l2, h2, rfl⟩ := List.mem_map.1 hl
      obtain ⟨z, hz, rfl⟩ := List.mem_map.1 hs
      exact tS_max (HZL.out l2 h2 z hz))
     rw [formB_ok HTD.out HZL.out, List.length_map, HNL.out] at this
     exact this
    have HCK : Hid (∀ (u : Value) {W : World}, IsM W u M → LsL W A9 c9 ls → Tb W → Calls Tryz.prog 14 #[u, .agg #[.int .i64 kz, .string (tS T), .slice A9 nl c9]] W fun e w' => e = .returned (.tuple #[.bool true, .int .i64 0]) ∧ Below W.heap.size W w') := fun u W h1 h2 h3 => by
     rw [← HNL.out]
     exact Check_c M kz T ls u A9 c9 W h1 HOM.out HTD.out h2 HZL.out h3 true ⟨fun _ => ⟨by omega, by rw [← HKZ.out, Int.toNat_natCast]; exact HAC.out⟩, fun _ => rfl⟩
    obtain ⟨a7, ha7⟩ : ∃ a, bits BinOp.and IntKind.i64 less 7 = a := ⟨_, rfl⟩
    obtain ⟨a8, ha8⟩ : ∃ a, bits BinOp.and IntKind.i64 less 255 = a := ⟨_, rfl⟩
    have g7 : 0 ≤ a7 ∧ a7 ≤ 7 := by rw [← ha7]; exact H7.out
    have g8 : 0 ≤ a8 ∧ a8 ≤ 255 := by rw [← ha8]; exact H255.out
    obtain ⟨k1, hk1e⟩ : ∃ k1, kz - 1 = k1 := ⟨_, rfl⟩
    obtain ⟨kq, hkq⟩ : ∃ kq, k1 - a7 = kq := ⟨_, rfl⟩
    obtain ⟨d, hd⟩ : ∃ d, 1 + a8 = d := ⟨_, rfl⟩
    obtain ⟨Tz, hTz⟩ : ∃ Tz, T - d = Tz := ⟨_, rfl⟩
    have hw1 : IntKind.i64.wrap (kz - 1) = k1 := by rw [IntKind.wrap_i64]; omega
    have hw2 : IntKind.i64.wrap (k1 - a7) = kq := by rw [IntKind.wrap_i64]; omega
    have hw3 : IntKind.i64.wrap (1 + a8) = d := by rw [IntKind.wrap_i64]; omega
    have HCQ : Hid (∀ (u : Value) {W : World}, IsM W u M → LsL W A9 c9 ls → Tb W → Calls Tryz.prog 14 #[u, .agg #[.int .i64 kq, .string (tS T), .slice A9 nl c9]] W fun e w' => e = .returned (.tuple #[.bool false, .int .i64 0]) ∧ Below W.heap.size W w') := fun u W h1 h2 h3 => by
     rw [← HNL.out]
     exact Check_c M kq T ls u A9 c9 W h1 HOM.out HTD.out h2 HZL.out h3 false ⟨fun h => (by cases h), fun h => absurd h.2 (fun h2 => HLE.out kq.toNat T ls (by have := HKZ.out; omega) h2)⟩
    have HDD : Hid (1 ≤ d ∧ d ≤ 256) := ⟨by omega, by omega⟩
    have HTA : Hid (Tz.natAbs < 10 ^ 5) := by show _ < _; have := HTT.out; omega
    have HCT : Hid (∀ (u : Value) {W : World}, IsM W u M → LsL W A9 c9 ls → Tb W → Calls Tryz.prog 14 #[u, .agg #[.int .i64 kz, .string (tS Tz), .slice A9 nl c9]] W fun e w' => e = .returned (.tuple #[.bool false, .int .i64 0]) ∧ Below W.heap.size W w') := fun u W h1 h2 h3 => by
     rw [← HNL.out]
     exact Check_c M kz Tz ls u A9 c9 W h1 HOM.out (dlN_lt HTA.out) h2 HZL.out h3 false ⟨fun h => (by cases h), fun h => absurd h.2 (fun h2 => HLO.out Tz ls (by omega) (by rw [← HKZ.out, Int.toNat_natCast] at h2; exact h2))⟩
    have HTZ : Hid (∀ (W : World) (u : Value), IsN W u (T - d) → IsN W u Tz) := fun W u h => by rw [← hTz]; exact h
    have HL1 : Hid ((dg B9 T).length ≤ 1000000000000) := by show _ ≤ _; have := len5 (z := T) (by have := HTT.out; omega); omega
    have HL2 : Hid ((dg B9 d).length ≤ 1000000000000) := by show _ ≤ _; have := len5 (z := d) (by have := HDD.out; omega); omega
    have HL3 : Hid ((dg B9 Tz).length ≤ 1000000000) := by show _ ≤ _; have := len5 HTA.out; omega
    clear g7 g8 hk1e hkq hd hTz
    go_upto_region 9 with fail
    have VP := VQ.new (x := .int .i64 kz) (y := .string (tS T)) (z := .slice A9 nl c9) w3 27
    have hb := below_alloc (Below.refl w3.heap.size w3) (Obj.cells #[Value.int .i64 kz, Value.string (tS T), Value.slice A9 nl c9] 27)
    have HLG := Lib.hid (HL9.out.below hb)
    replace V3 := V3.keep hb; replace HB := below_step HB hb
    generalize hWa : w3.alloc (Obj.cells #[Value.int .i64 kz, Value.string (tS T), Value.slice A9 nl c9] 27) = w5 at *
    obtain ⟨b5, hb5⟩ : ∃ b, w3.heap.size = b := ⟨_, rfl⟩
    rw [hb5] at VP ⊢
    clear hWa hb hb5 HL9
    have HG : Below w5.heap.size w5 w5 := Below.refl _ _
    have V3G := V3
    cases sm with
    | true =>
     have hkq1 : kz = 1 := by have h1 := HSD.out (HSM.out.1 rfl); have := HKZ.out; omega
     have hkb1 : (kz == 1) = true := by rw [hkq1]; rfl
     have hkb2 : (kz != 1) = false := by rw [hkq1]; rfl
     clear hkq1
     cases rg with
     | true =>
      clear hrg
      have m0 := V3.c0; have m1 := V3.c1; have m2 := V3.c2
      have p0 := VP.c0; have p1 := VP.c1; have p2 := VP.c2
      go_wp2_with fail
      (with_reducible refine (HFM.out _ (HLG.out.below HG)).mono ?_)
      rintro e w6 ⟨rfl, hb⟩
      clear m0 m1 m2
      clear p0 p1 p2
      replace V3 := V3.keep hb; replace VP := VP.keep hb; replace HB := below_step HB hb; replace HG := below_step HG hb
      clear hb
      have m0 := V3.c0; have m1 := V3.c1; have m2 := V3.c2
      have p0 := VP.c0; have p1 := VP.c1; have p2 := VP.c2
      go_wp2_with fail
      (with_reducible refine (HRG.out _ V3.im.out).mono ?_)
      rintro e w6 ⟨rfl, hb⟩
      clear m0 m1 m2
      clear p0 p1 p2
      replace V3 := V3.keep hb; replace VP := VP.keep hb; replace HB := below_step HB hb; replace HG := below_step HG hb
      clear hb
      clear HFM HRG
      have m0 := V3.c0; have m1 := V3.c1; have m2 := V3.c2
      have p0 := VP.c0; have p1 := VP.c1; have p2 := VP.c2
      go_wp2_with fail
      (with_reducible refine (HCK.out _ V3.im.out (HLG.out.below HG) (HTB.out.below HB)).mono ?_)
      rintro e w7 ⟨rfl, hb⟩
      clear m0 m1 m2
      clear p0 p1 p2
      replace V3 := V3.keep hb; replace VP := VP.keep hb; replace HB := below_step HB hb; replace HG := below_step HG hb
      clear hb
      clear HCK
      have p0 := VP.c0; have p1 := VP.c1; have p2 := VP.c2
      go_upto_region 17 with fail
      have RQ := R3.new (x := .int .i64 kq) (y := .string (tS T)) (z := .slice A9 nl c9) w7 27
      have hb := below_alloc (Below.refl w7.heap.size w7) (Obj.cells #[Value.int .i64 kq, Value.string (tS T), Value.slice A9 nl c9] 27)
      have hge := HG.size
      have hge2 := HB.size
      clear p0 p1 p2
      replace V3 := V3.keep hb; replace VP := VP.keep hb; replace HB := below_step HB hb; replace HG := below_step HG hb
      generalize hWa : w7.alloc (Obj.cells #[Value.int .i64 kq, Value.string (tS T), Value.slice A9 nl c9] 27) = w8 at *
      obtain ⟨b8, hb8⟩ : ∃ b, w7.heap.size = b := ⟨_, rfl⟩
      rw [hb8] at RQ hge hge2 ⊢
      clear hWa hb hb8
      have m0 := V3.c0; have m1 := V3.c1; have m2 := V3.c2
      have q0 := RQ.q.c0; have q1 := RQ.q.c1; have q2 := RQ.q.c2
      go_wp2_with fail
      (with_reducible refine (HCQ.out _ V3.im.out (HLG.out.below HG) (HTB.out.below HB)).mono ?_)
      rintro e w9 ⟨rfl, hb⟩
      clear m0 m1 m2
      clear q0 q1 q2
      replace RQ := RQ.keep hb
      replace V3 := V3.keep hb; replace VP := VP.keep hb; replace HB := below_step HB hb; replace HG := below_step HG hb
      clear hb
      clear HCQ
      go_wp2_with fail
      replace V3 := V3.drew; replace VP := VP.drew; replace RQ := RQ.drew; replace HB := below_drew HB; replace HG := below_drew HG
      generalize hWd : w9.drew = wd at *
      refine wp_region_F (fun w' => w'.cell? ⟨b5, 0, none⟩ = some (.int .i64 kz) ∧ w'.cell? ⟨b5, 1, none⟩ = some (.string (tS T)) ∧ w'.cell? ⟨b5, 2, none⟩ = some (.slice A9 nl c9)) [14] (by kernel_rfl) (by rw [hWd]; exact ⟨VP.c0, VP.c1, VP.c2⟩) (fun hHeld => ?_)
      rw [hWd] at hHeld ⊢
      refine tF 0 od8953 hHeld ?_; try go_frame
      refine tF 1 oe179e hHeld ?_; try go_frame
      refine tF 2 o758be hHeld ?_; try go_frame
      refine tF 3 o79572 hHeld ?_; try go_frame
      refine tF 5 o14190 hHeld ?_; try go_frame
      refine tF 6 o0eee8 hHeld ?_; try go_frame
      refine tF 7 ob6d79 hHeld ?_; try go_frame
      refine tF 11 o3f5e7 hHeld ?_; try go_frame
      refine tF 12 o125a0 hHeld ?_; try go_frame
      refine wpAnyF_one (i := 4) (by kernel_rfl) rfl (fun K hK => ?_)
      go_simp
      (go_at_call 15; (with_reducible refine (Parse_c T _ (by have := HTD.out; omega)).mono ?_); rintro e wa ⟨v, rfl, hv, hb⟩; obtain ⟨n4, A4, m4, k4, rfl, H4⟩ := hv.form; clear hv; replace V3 := V3.keep hb; replace VP := VP.keep hb; replace RQ := RQ.keep hb; replace HB := below_step HB hb; replace HG := below_step HG hb; clear hb)
      refine hK.out _ _ (by exact ⟨VP.c0, VP.c1, VP.c2⟩) (fun hHeld => ?_)
      clear hK K
      try go_frame
      refine wpAnyF_one (i := 8) (by kernel_rfl) rfl (fun K hK => ?_)
      go_simp
      (go_at_call 43; (with_reducible refine (Of_c d _ (by have := HDD.out; omega) (by have := HDD.out; omega)).mono ?_); rintro e wb ⟨v, rfl, hv, hb⟩; obtain ⟨n5, A5, m5, k5, rfl, H5⟩ := hv.form; clear hv; replace H4 := Lib.hid (H4.out.below hb); replace V3 := V3.keep hb; replace VP := VP.keep hb; replace RQ := RQ.keep hb; replace HB := below_step HB hb; replace HG := below_step HG hb; clear hb)
      refine hK.out _ _ (by exact ⟨VP.c0, VP.c1, VP.c2⟩) (fun hHeld => ?_)
      clear hK K
      try go_frame
      refine wpAnyF_one (i := 9) (by kernel_rfl) rfl (fun K hK => ?_)
      go_simp
      (go_at_call 42; (with_reducible refine (Sub_c T d _ _ _ H4.out H5.out HL1.out HL2.out).mono ?_); rintro e wc ⟨v, rfl, hv, hb⟩; replace hv := HTZ.out _ _ hv; obtain ⟨n6, A6, m6, k6, rfl, H6⟩ := hv.form; clear hv; replace V3 := V3.keep hb; replace VP := VP.keep hb; replace RQ := RQ.keep hb; replace HB := below_step HB hb; replace HG := below_step HG hb; clear hb H4 H5)
      refine hK.out _ _ (by exact ⟨VP.c0, VP.c1, VP.c2⟩) (fun hHeld => ?_)
      clear hK K
      try go_frame
      refine wpAnyF_one (i := 10) (by kernel_rfl) rfl (fun K hK => ?_)
      go_simp
      (go_at_call 41; (with_reducible refine (Text_c Tz _ _ H6.out HL3.out).mono ?_); rintro e wf ⟨rfl, hb⟩; replace V3 := V3.keep hb; replace VP := VP.keep hb; replace RQ := RQ.keep hb; replace HB := below_step HB hb; replace HG := below_step HG hb; clear hb H6; have q0 := RQ.q.c0; have q1 := RQ.q.c1; have q2 := RQ.q.c2; have f0 := RQ.f0; have f1 := RQ.f1; have f2 := RQ.f2)
      refine hK.out _ _ (by exact ⟨VP.c0, VP.c1, VP.c2⟩) (fun hHeld => ?_)
      clear hK K
      try go_frame
      refine tF 13 od12b0 hHeld ?_; try go_frame
      refine wpAnyF_st (i := 14) (by kernel_rfl) (by kernel_rfl) rfl (fun K hK => ?_)
      go_simp
      refine hK.out _ _ ?_
      clear hK K
      try go_frame
      refine wpAnyF_done (by kernel_rfl) ?_ _
      clear hHeld hWd
      have V6 := RQ.put (.int .i64 kz) (.string (tS Tz)) (.slice A9 nl c9)
      replace HB := below_set3 HB hge2 (.int .i64 kz) (.string (tS Tz)) (.slice A9 nl c9)
      replace HG := below_set3 HG hge (.int .i64 kz) (.string (tS Tz)) (.slice A9 nl c9)
      clear q0 q1 q2 f0 f1 f2 RQ
      generalize hWs : ((wf.setCell ⟨b8, 0, none⟩ (.int .i64 kz)).setCell ⟨b8, 1, none⟩ (.string (tS Tz))).setCell ⟨b8, 2, none⟩ (.slice A9 nl c9) = ws at *
      clear hWs V3 VP
      have V3 := V3G.keep HG
      have m0 := V3.c0; have m1 := V3.c1; have m2 := V3.c2
      have q0 := V6.c0; have q1 := V6.c1; have q2 := V6.c2
      go_wp2_with fail
      (with_reducible refine (HCT.out _ V3.im.out (HLG.out.below HG) (HTB.out.below HB)).mono ?_)
      rintro e wg ⟨rfl, hb⟩
      replace HB := below_step HB hb
      clear hb m0 m1 m2 q0 q1 q2 V3 V6 HCT
      go_wp2_with fail
      (with_reducible refine (awake9_c _ (HTB.out.below HB)).mono ?_)
      rintro e wz ⟨rfl, hb⟩
      replace HB := below_step HB hb
      clear hb
      go_wp2
      go_ret
      exact ⟨rfl, HB⟩
     | false =>
      clear hrg
      have m0 := V3.c0; have m1 := V3.c1; have m2 := V3.c2
      have p0 := VP.c0; have p1 := VP.c1; have p2 := VP.c2
      go_wp2_with fail
      (with_reducible refine (HFM.out _ (HLG.out.below HG)).mono ?_)
      rintro e w6 ⟨rfl, hb⟩
      clear m0 m1 m2
      clear p0 p1 p2
      replace V3 := V3.keep hb; replace VP := VP.keep hb; replace HB := below_step HB hb; replace HG := below_step HG hb
      clear hb
      have m0 := V3.c0; have m1 := V3.c1; have m2 := V3.c2
      have p0 := VP.c0; have p1 := VP.c1; have p2 := VP.c2
      go_wp2_with fail
      (with_reducible refine (HRG.out _ V3.im.out).mono ?_)
      rintro e w6 ⟨rfl, hb⟩
      clear m0 m1 m2
      clear p0 p1 p2
      replace V3 := V3.keep hb; replace VP := VP.keep hb; replace HB := below_step HB hb; replace HG := below_step HG hb
      clear hb
      clear HFM HRG
      have m0 := V3.c0; have m1 := V3.c1; have m2 := V3.c2
      have p0 := VP.c0; have p1 := VP.c1; have p2 := VP.c2
      go_wp2_with fail
      (with_reducible refine (HCK.out _ V3.im.out (HLG.out.below HG) (HTB.out.below HB)).mono ?_)
      rintro e w7 ⟨rfl, hb⟩
      clear m0 m1 m2
      clear p0 p1 p2
      replace V3 := V3.keep hb; replace VP := VP.keep hb; replace HB := below_step HB hb; replace HG := below_step HG hb
      clear hb
      clear HCK
      have p0 := VP.c0; have p1 := VP.c1; have p2 := VP.c2
      go_upto_region 17 with fail
      have RQ := R3.new (x := .int .i64 kq) (y := .string (tS T)) (z := .slice A9 nl c9) w7 27
      have hb := below_alloc (Below.refl w7.heap.size w7) (Obj.cells #[Value.int .i64 kq, Value.string (tS T), Value.slice A9 nl c9] 27)
      have hge := HG.size
      have hge2 := HB.size
      clear p0 p1 p2
      replace V3 := V3.keep hb; replace VP := VP.keep hb; replace HB := below_step HB hb; replace HG := below_step HG hb
      generalize hWa : w7.alloc (Obj.cells #[Value.int .i64 kq, Value.string (tS T), Value.slice A9 nl c9] 27) = w8 at *
      obtain ⟨b8, hb8⟩ : ∃ b, w7.heap.size = b := ⟨_, rfl⟩
      rw [hb8] at RQ hge hge2 ⊢
      clear hWa hb hb8
      have m0 := V3.c0; have m1 := V3.c1; have m2 := V3.c2
      have q0 := RQ.q.c0; have q1 := RQ.q.c1; have q2 := RQ.q.c2
      go_wp2_with fail
      (with_reducible refine (HCQ.out _ V3.im.out (HLG.out.below HG) (HTB.out.below HB)).mono ?_)
      rintro e w9 ⟨rfl, hb⟩
      clear m0 m1 m2
      clear q0 q1 q2
      replace RQ := RQ.keep hb
      replace V3 := V3.keep hb; replace VP := VP.keep hb; replace HB := below_step HB hb; replace HG := below_step HG hb
      clear hb
      clear HCQ
      go_wp2_with fail
      replace V3 := V3.drew; replace VP := VP.drew; replace RQ := RQ.drew; replace HB := below_drew HB; replace HG := below_drew HG
      generalize hWd : w9.drew = wd at *
      refine wp_region_F (fun w' => w'.cell? ⟨b5, 0, none⟩ = some (.int .i64 kz) ∧ w'.cell? ⟨b5, 1, none⟩ = some (.string (tS T)) ∧ w'.cell? ⟨b5, 2, none⟩ = some (.slice A9 nl c9)) [14] (by kernel_rfl) (by rw [hWd]; exact ⟨VP.c0, VP.c1, VP.c2⟩) (fun hHeld => ?_)
      rw [hWd] at hHeld ⊢
      refine tF 0 od8953 hHeld ?_; try go_frame
      refine tF 1 oe179e hHeld ?_; try go_frame
      refine tF 2 o758be hHeld ?_; try go_frame
      refine tF 3 o79572 hHeld ?_; try go_frame
      refine tF 5 o14190 hHeld ?_; try go_frame
      refine tF 6 o0eee8 hHeld ?_; try go_frame
      refine tF 7 ob6d79 hHeld ?_; try go_frame
      refine tF 11 o3f5e7 hHeld ?_; try go_frame
      refine tF 12 o125a0 hHeld ?_; try go_frame
      refine wpAnyF_one (i := 4) (by kernel_rfl) rfl (fun K hK => ?_)
      go_simp
      (go_at_call 15; (with_reducible refine (Parse_c T _ (by have := HTD.out; omega)).mono ?_); rintro e wa ⟨v, rfl, hv, hb⟩; obtain ⟨n4, A4, m4, k4, rfl, H4⟩ := hv.form; clear hv; replace V3 := V3.keep hb; replace VP := VP.keep hb; replace RQ := RQ.keep hb; replace HB := below_step HB hb; replace HG := below_step HG hb; clear hb)
      refine hK.out _ _ (by exact ⟨VP.c0, VP.c1, VP.c2⟩) (fun hHeld => ?_)
      clear hK K
      try go_frame
      refine wpAnyF_one (i := 8) (by kernel_rfl) rfl (fun K hK => ?_)
      go_simp
      (go_at_call 43; (with_reducible refine (Of_c d _ (by have := HDD.out; omega) (by have := HDD.out; omega)).mono ?_); rintro e wb ⟨v, rfl, hv, hb⟩; obtain ⟨n5, A5, m5, k5, rfl, H5⟩ := hv.form; clear hv; replace H4 := Lib.hid (H4.out.below hb); replace V3 := V3.keep hb; replace VP := VP.keep hb; replace RQ := RQ.keep hb; replace HB := below_step HB hb; replace HG := below_step HG hb; clear hb)
      refine hK.out _ _ (by exact ⟨VP.c0, VP.c1, VP.c2⟩) (fun hHeld => ?_)
      clear hK K
      try go_frame
      refine wpAnyF_one (i := 9) (by kernel_rfl) rfl (fun K hK => ?_)
      go_simp
      (go_at_call 42; (with_reducible refine (Sub_c T d _ _ _ H4.out H5.out HL1.out HL2.out).mono ?_); rintro e wc ⟨v, rfl, hv, hb⟩; replace hv := HTZ.out _ _ hv; obtain ⟨n6, A6, m6, k6, rfl, H6⟩ := hv.form; clear hv; replace V3 := V3.keep hb; replace VP := VP.keep hb; replace RQ := RQ.keep hb; replace HB := below_step HB hb; replace HG := below_step HG hb; clear hb H4 H5)
      refine hK.out _ _ (by exact ⟨VP.c0, VP.c1, VP.c2⟩) (fun hHeld => ?_)
      clear hK K
      try go_frame
      refine wpAnyF_one (i := 10) (by kernel_rfl) rfl (fun K hK => ?_)
      go_simp
      (go_at_call 41; (with_reducible refine (Text_c Tz _ _ H6.out HL3.out).mono ?_); rintro e wf ⟨rfl, hb⟩; replace V3 := V3.keep hb; replace VP := VP.keep hb; replace RQ := RQ.keep hb; replace HB := below_step HB hb; replace HG := below_step HG hb; clear hb H6; have q0 := RQ.q.c0; have q1 := RQ.q.c1; have q2 := RQ.q.c2; have f0 := RQ.f0; have f1 := RQ.f1; have f2 := RQ.f2)
      refine hK.out _ _ (by exact ⟨VP.c0, VP.c1, VP.c2⟩) (fun hHeld => ?_)
      clear hK K
      try go_frame
      refine tF 13 od12b0 hHeld ?_; try go_frame
      refine wpAnyF_st (i := 14) (by kernel_rfl) (by kernel_rfl) rfl (fun K hK => ?_)
      go_simp
      refine hK.out _ _ ?_
      clear hK K
      try go_frame
      refine wpAnyF_done (by kernel_rfl) ?_ _
      clear hHeld hWd
      have V6 := RQ.put (.int .i64 kz) (.string (tS Tz)) (.slice A9 nl c9)
      replace HB := below_set3 HB hge2 (.int .i64 kz) (.string (tS Tz)) (.slice A9 nl c9)
      replace HG := below_set3 HG hge (.int .i64 kz) (.string (tS Tz)) (.slice A9 nl c9)
      clear q0 q1 q2 f0 f1 f2 RQ
      generalize hWs : ((wf.setCell ⟨b8, 0, none⟩ (.int .i64 kz)).setCell ⟨b8, 1, none⟩ (.string (tS Tz))).setCell ⟨b8, 2, none⟩ (.slice A9 nl c9) = ws at *
      clear hWs V3 VP
      have V3 := V3G.keep HG
      have m0 := V3.c0; have m1 := V3.c1; have m2 := V3.c2
      have q0 := V6.c0; have q1 := V6.c1; have q2 := V6.c2
      go_wp2_with fail
      (with_reducible refine (HCT.out _ V3.im.out (HLG.out.below HG) (HTB.out.below HB)).mono ?_)
      rintro e wg ⟨rfl, hb⟩
      replace HB := below_step HB hb
      clear hb m0 m1 m2 q0 q1 q2 V3 V6 HCT
      go_wp2_with fail
      (with_reducible refine (awake9_c _ (HTB.out.below HB)).mono ?_)
      rintro e wz ⟨rfl, hb⟩
      replace HB := below_step HB hb
      clear hb
      go_wp2
      go_ret
      exact ⟨rfl, HB⟩
    | false =>
     cases rg with
     | true =>
      exfalso
      have := HSM.out.2 (HRD.out (hrg.1 rfl))
      cases this
     | false =>
      clear hrg
      have m0 := V3.c0; have m1 := V3.c1; have m2 := V3.c2
      have p0 := VP.c0; have p1 := VP.c1; have p2 := VP.c2
      go_wp2_with fail
      (with_reducible refine (HFM.out _ (HLG.out.below HG)).mono ?_)
      rintro e w6 ⟨rfl, hb⟩
      clear m0 m1 m2
      clear p0 p1 p2
      replace V3 := V3.keep hb; replace VP := VP.keep hb; replace HB := below_step HB hb; replace HG := below_step HG hb
      clear hb
      have m0 := V3.c0; have m1 := V3.c1; have m2 := V3.c2
      have p0 := VP.c0; have p1 := VP.c1; have p2 := VP.c2
      go_wp2_with fail
      (with_reducible refine (HRG.out _ V3.im.out).mono ?_)
      rintro e w6 ⟨rfl, hb⟩
      clear m0 m1 m2
      clear p0 p1 p2
      replace V3 := V3.keep hb; replace VP := VP.keep hb; replace HB := below_step HB hb; replace HG := below_step HG hb
      clear hb
      clear HFM HRG
      have m0 := V3.c0; have m1 := V3.c1; have m2 := V3.c2
      have p0 := VP.c0; have p1 := VP.c1; have p2 := VP.c2
      go_wp2_with fail
      (with_reducible refine (HCK.out _ V3.im.out (HLG.out.below HG) (HTB.out.below HB)).mono ?_)
      rintro e w7 ⟨rfl, hb⟩
      clear m0 m1 m2
      clear p0 p1 p2
      replace V3 := V3.keep hb; replace VP := VP.keep hb; replace HB := below_step HB hb; replace HG := below_step HG hb
      clear hb
      clear HCK
      have p0 := VP.c0; have p1 := VP.c1; have p2 := VP.c2
      go_upto_region 17 with fail
      have RQ := R3.new (x := .int .i64 kq) (y := .string (tS T)) (z := .slice A9 nl c9) w7 27
      have hb := below_alloc (Below.refl w7.heap.size w7) (Obj.cells #[Value.int .i64 kq, Value.string (tS T), Value.slice A9 nl c9] 27)
      have hge := HG.size
      have hge2 := HB.size
      clear p0 p1 p2
      replace V3 := V3.keep hb; replace VP := VP.keep hb; replace HB := below_step HB hb; replace HG := below_step HG hb
      generalize hWa : w7.alloc (Obj.cells #[Value.int .i64 kq, Value.string (tS T), Value.slice A9 nl c9] 27) = w8 at *
      obtain ⟨b8, hb8⟩ : ∃ b, w7.heap.size = b := ⟨_, rfl⟩
      rw [hb8] at RQ hge hge2 ⊢
      clear hWa hb hb8
      have m0 := V3.c0; have m1 := V3.c1; have m2 := V3.c2
      have q0 := RQ.q.c0; have q1 := RQ.q.c1; have q2 := RQ.q.c2
      go_wp2_with fail
      (with_reducible refine (HCQ.out _ V3.im.out (HLG.out.below HG) (HTB.out.below HB)).mono ?_)
      rintro e w9 ⟨rfl, hb⟩
      clear m0 m1 m2
      clear q0 q1 q2
      replace RQ := RQ.keep hb
      replace V3 := V3.keep hb; replace VP := VP.keep hb; replace HB := below_step HB hb; replace HG := below_step HG hb
      clear hb
      clear HCQ
      go_wp2_with fail
      replace V3 := V3.drew; replace VP := VP.drew; replace RQ := RQ.drew; replace HB := below_drew HB; replace HG := below_drew HG
      generalize hWd : w9.drew = wd at *
      refine wp_region_F (fun w' => w'.cell? ⟨b5, 0, none⟩ = some (.int .i64 kz) ∧ w'.cell? ⟨b5, 1, none⟩ = some (.string (tS T)) ∧ w'.cell? ⟨b5, 2, none⟩ = some (.slice A9 nl c9)) [14] (by kernel_rfl) (by rw [hWd]; exact ⟨VP.c0, VP.c1, VP.c2⟩) (fun hHeld => ?_)
      rw [hWd] at hHeld ⊢
      refine tF 0 od8953 hHeld ?_; try go_frame
      refine tF 1 oe179e hHeld ?_; try go_frame
      refine tF 2 o758be hHeld ?_; try go_frame
      refine tF 3 o79572 hHeld ?_; try go_frame
      refine tF 5 o14190 hHeld ?_; try go_frame
      refine tF 6 o0eee8 hHeld ?_; try go_frame
      refine tF 7 ob6d79 hHeld ?_; try go_frame
      refine tF 11 o3f5e7 hHeld ?_; try go_frame
      refine tF 12 o125a0 hHeld ?_; try go_frame
      refine wpAnyF_one (i := 4) (by kernel_rfl) rfl (fun K hK => ?_)
      go_simp
      (go_at_call 15; (with_reducible refine (Parse_c T _ (by have := HTD.out; omega)).mono ?_); rintro e wa ⟨v, rfl, hv, hb⟩; obtain ⟨n4, A4, m4, k4, rfl, H4⟩ := hv.form; clear hv; replace V3 := V3.keep hb; replace VP := VP.keep hb; replace RQ := RQ.keep hb; replace HB := below_step HB hb; replace HG := below_step HG hb; clear hb)
      refine hK.out _ _ (by exact ⟨VP.c0, VP.c1, VP.c2⟩) (fun hHeld => ?_)
      clear hK K
      try go_frame
      refine wpAnyF_one (i := 8) (by kernel_rfl) rfl (fun K hK => ?_)
      go_simp
      (go_at_call 43; (with_reducible refine (Of_c d _ (by have := HDD.out; omega) (by have := HDD.out; omega)).mono ?_); rintro e wb ⟨v, rfl, hv, hb⟩; obtain ⟨n5, A5, m5, k5, rfl, H5⟩ := hv.form; clear hv; replace H4 := Lib.hid (H4.out.below hb); replace V3 := V3.keep hb; replace VP := VP.keep hb; replace RQ := RQ.keep hb; replace HB := below_step HB hb; replace HG := below_step HG hb; clear hb)
      refine hK.out _ _ (by exact ⟨VP.c0, VP.c1, VP.c2⟩) (fun hHeld => ?_)
      clear hK K
      try go_frame
      refine wpAnyF_one (i := 9) (by kernel_rfl) rfl (fun K hK => ?_)
      go_simp
      (go_at_call 42; (with_reducible refine (Sub_c T d _ _ _ H4.out H5.out HL1.out HL2.out).mono ?_); rintro e wc ⟨v, rfl, hv, hb⟩; replace hv := HTZ.out _ _ hv; obtain ⟨n6, A6, m6, k6, rfl, H6⟩ := hv.form; clear hv; replace V3 := V3.keep hb; replace VP := VP.keep hb; replace RQ := RQ.keep hb; replace HB := below_step HB hb; replace HG := below_step HG hb; clear hb H4 H5)
      refine hK.out _ _ (by exact ⟨VP.c0, VP.c1, VP.c2⟩) (fun hHeld => ?_)
      clear hK K
      try go_frame
      refine wpAnyF_one (i := 10) (by kernel_rfl) rfl (fun K hK => ?_)
      go_simp
      (go_at_call 41; (with_reducible refine (Text_c Tz _ _ H6.out HL3.out).mono ?_); rintro e wf ⟨rfl, hb⟩; replace V3 := V3.keep hb; replace VP := VP.keep hb; replace RQ := RQ.keep hb; replace HB := below_step HB hb; replace HG := below_step HG hb; clear hb H6; have q0 := RQ.q.c0; have q1 := RQ.q.c1; have q2 := RQ.q.c2; have f0 := RQ.f0; have f1 := RQ.f1; have f2 := RQ.f2)
      refine hK.out _ _ (by exact ⟨VP.c0, VP.c1, VP.c2⟩) (fun hHeld => ?_)
      clear hK K
      try go_frame
      refine tF 13 od12b0 hHeld ?_; try go_frame
      refine wpAnyF_st (i := 14) (by kernel_rfl) (by kernel_rfl) rfl (fun K hK => ?_)
      go_simp
      refine hK.out _ _ ?_
      clear hK K
      try go_frame
      refine wpAnyF_done (by kernel_rfl) ?_ _
      clear hHeld hWd
      have V6 := RQ.put (.int .i64 kz) (.string (tS Tz)) (.slice A9 nl c9)
      replace HB := below_set3 HB hge2 (.int .i64 kz) (.string (tS Tz)) (.slice A9 nl c9)
      replace HG := below_set3 HG hge (.int .i64 kz) (.string (tS Tz)) (.slice A9 nl c9)
      clear q0 q1 q2 f0 f1 f2 RQ
      generalize hWs : ((wf.setCell ⟨b8, 0, none⟩ (.int .i64 kz)).setCell ⟨b8, 1, none⟩ (.string (tS Tz))).setCell ⟨b8, 2, none⟩ (.slice A9 nl c9) = ws at *
      clear hWs V3 VP
      have V3 := V3G.keep HG
      have m0 := V3.c0; have m1 := V3.c1; have m2 := V3.c2
      have q0 := V6.c0; have q1 := V6.c1; have q2 := V6.c2
      go_wp2_with fail
      (with_reducible refine (HCT.out _ V3.im.out (HLG.out.below HG) (HTB.out.below HB)).mono ?_)
      rintro e wg ⟨rfl, hb⟩
      replace HB := below_step HB hb
      clear hb m0 m1 m2 q0 q1 q2 V3 V6 HCT
      go_wp2_with fail
      (with_reducible refine (awake9_c _ (HTB.out.below HB)).mono ?_)
      rintro e wz ⟨rfl, hb⟩
      replace HB := below_step HB hb
      clear hb
      go_wp2
      go_ret
      exact ⟨rfl, HB⟩
end Go.Proofs.YtibdipfhfaeooaaGreatDoor

