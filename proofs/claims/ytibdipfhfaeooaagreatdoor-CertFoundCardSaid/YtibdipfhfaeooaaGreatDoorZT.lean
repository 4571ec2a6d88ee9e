/- cert.Loops: are loops those of a certificate? No condition but that the library's table lies as it should. -/
import Derived.Test.YtibdipfhfaeooaaGreatDoorZG
import Derived.Maps.RangeWalk
set_option linter.unusedVariables false
set_option linter.unusedSimpArgs false
namespace Go.Proofs.YtibdipfhfaeooaaGreatDoor
open Go.RowKit

abbrev of4b28 : Oper := { dst := some 14, op := Go.Op.load 24 (Go.Operand.tmp 2), type := 24, pos := "cert.go:153", after := #[], guard := none }
abbrev ocd55b : Oper := { dst := some 15, op := Go.Op.fieldAddr 45 (Go.Operand.tmp 6) 0, type := 0, pos := "cert.go:153", after := #[], guard := none }
abbrev o6c60f : Oper := { dst := some 16, op := Go.Op.load 43 (Go.Operand.tmp 15), type := 43, pos := "cert.go:153", after := #[{ on := 1, ground := Go.Ground.data }], guard := none }
abbrev o0b63a : Oper := { dst := some 18, op := Go.Op.unOp Go.UnOp.not 4 (Go.Operand.tmp 17), type := 4, pos := "cert.go:153", after := #[{ on := 3, ground := Go.Ground.data }], guard := none }
abbrev of6abb : Oper := { dst := some 19, op := Go.Op.move (Go.Operand.tmp 18), type := 4, pos := "cert.go:153", after := #[{ on := 4, ground := Go.Ground.data }, { on := 3, ground := Go.Ground.chain }], guard := none }
abbrev o74709 : Oper := { dst := some 20, op := Go.Op.move (Go.Operand.tmp 5), type := 3, pos := "cert.go:153", after := #[{ on := 5, ground := Go.Ground.guard }], guard := some (5, false) }
abbrev o6a615 : Oper := { dst := some 21, op := Go.Op.binOp Go.BinOp.gtr 3 (Go.Operand.tmp 20) (Go.Operand.const (Go.Value.int Go.IntKind.i64 0)) 3, type := 4, pos := "cert.go:153", after := #[{ on := 6, ground := Go.Ground.data }, { on := 5, ground := Go.Ground.guard }], guard := some (5, false) }
abbrev o957f8 : Oper := { dst := some 22, op := Go.Op.move (Go.Operand.tmp 21), type := 4, pos := "cert.go:153", after := #[{ on := 7, ground := Go.Ground.data }, { on := 5, ground := Go.Ground.chain }, { on := 5, ground := Go.Ground.guard }], guard := some (5, false) }
abbrev o02d34 : Oper := { dst := some 23, op := Go.Op.move (Go.Operand.tmp 1), type := 25, pos := "cert.go:153", after := #[{ on := 8, ground := Go.Ground.guard }], guard := some (8, true) }
abbrev o9d8a3 : Oper := { dst := some 24, op := Go.Op.move (Go.Operand.tmp 5), type := 3, pos := "cert.go:153", after := #[{ on := 8, ground := Go.Ground.guard }], guard := some (8, true) }
abbrev od6020 : Oper := { dst := some 25, op := Go.Op.binOp Go.BinOp.sub 3 (Go.Operand.tmp 24) (Go.Operand.const (Go.Value.int Go.IntKind.i64 1)) 3, type := 3, pos := "cert.go:153", after := #[{ on := 10, ground := Go.Ground.data }, { on := 8, ground := Go.Ground.guard }], guard := some (8, true) }
abbrev of3645 : Oper := { dst := some 26, op := Go.Op.indexAddr 25 (Go.Operand.tmp 23) (Go.Operand.tmp 25), type := 0, pos := "cert.go:153", after := #[{ on := 9, ground := Go.Ground.data }, { on := 11, ground := Go.Ground.data }, { on := 8, ground := Go.Ground.guard }], guard := some (8, true) }
abbrev oe9e12 : Oper := { dst := some 27, op := Go.Op.fieldAddr 45 (Go.Operand.tmp 26) 0, type := 0, pos := "cert.go:153", after := #[{ on := 12, ground := Go.Ground.data }, { on := 8, ground := Go.Ground.guard }], guard := some (8, true) }
abbrev of9502 : Oper := { dst := some 28, op := Go.Op.load 43 (Go.Operand.tmp 27), type := 43, pos := "cert.go:153", after := #[{ on := 13, ground := Go.Ground.data }, { on := 8, ground := Go.Ground.guard }], guard := some (8, true) }
abbrev o7f8af : Oper := { dst := some 29, op := Go.Op.indexAddr 43 (Go.Operand.tmp 28) (Go.Operand.const (Go.Value.int Go.IntKind.i64 0)), type := 0, pos := "cert.go:153", after := #[{ on := 14, ground := Go.Ground.data }, { on := 8, ground := Go.Ground.guard }], guard := some (8, true) }
abbrev o4e5bc : Oper := { dst := some 30, op := Go.Op.load 9 (Go.Operand.tmp 29), type := 9, pos := "cert.go:153", after := #[{ on := 15, ground := Go.Ground.data }, { on := 8, ground := Go.Ground.guard }], guard := some (8, true) }
abbrev o42dd9 : Oper := { dst := some 31, op := Go.Op.fieldAddr 45 (Go.Operand.tmp 6) 0, type := 0, pos := "cert.go:153", after := #[{ on := 8, ground := Go.Ground.guard }], guard := some (8, true) }
abbrev o7b624 : Oper := { dst := some 32, op := Go.Op.load 43 (Go.Operand.tmp 31), type := 43, pos := "cert.go:153", after := #[{ on := 17, ground := Go.Ground.data }, { on := 8, ground := Go.Ground.guard }], guard := some (8, true) }
abbrev o7a886 : Oper := { dst := some 33, op := Go.Op.indexAddr 43 (Go.Operand.tmp 32) (Go.Operand.const (Go.Value.int Go.IntKind.i64 0)), type := 0, pos := "cert.go:153", after := #[{ on := 18, ground := Go.Ground.data }, { on := 8, ground := Go.Ground.guard }], guard := some (8, true) }
abbrev o7db0c : Oper := { dst := some 34, op := Go.Op.load 9 (Go.Operand.tmp 33), type := 9, pos := "cert.go:153", after := #[{ on := 19, ground := Go.Ground.data }, { on := 8, ground := Go.Ground.guard }], guard := some (8, true) }
abbrev o0bfbd : Oper := { dst := some 35, op := Go.Op.call { callee := Go.Callee.value (Go.Operand.func 111), args := #[Go.Operand.tmp 30, Go.Operand.tmp 34], argTypes := #[9, 9] }, type := 3, pos := "cert.go:153", after := #[{ on := 16, ground := Go.Ground.data }, { on := 20, ground := Go.Ground.data }, { on := 8, ground := Go.Ground.chain }, { on := 8, ground := Go.Ground.guard }], guard := some (8, true) }
abbrev o5fc97 : Oper := { dst := some 36, op := Go.Op.binOp Go.BinOp.geq 3 (Go.Operand.tmp 35) (Go.Operand.const (Go.Value.int Go.IntKind.i64 0)) 3, type := 4, pos := "cert.go:153", after := #[{ on := 21, ground := Go.Ground.data }, { on := 8, ground := Go.Ground.guard }], guard := some (8, true) }
abbrev o878b1 : Oper := { dst := some 37, op := Go.Op.pick (Go.Operand.tmp 22) (Go.Operand.tmp 36) (Go.Operand.const (Go.Value.bool false)), type := 4, pos := "cert.go:153", after := #[{ on := 8, ground := Go.Ground.data }, { on := 22, ground := Go.Ground.data }, { on := 5, ground := Go.Ground.guard }], guard := some (5, false) }
abbrev oabee7 : Oper := { dst := some 38, op := Go.Op.pick (Go.Operand.tmp 19) (Go.Operand.const (Go.Value.bool true)) (Go.Operand.tmp 37), type := 4, pos := "cert.go:153", after := #[{ on := 5, ground := Go.Ground.data }, { on := 23, ground := Go.Ground.data }], guard := none }
attribute [local go_sem] of4b28 ocd55b o6c60f o0b63a of6abb o74709 o6a615 o957f8 o02d34 o9d8a3 od6020 of3645 oe9e12 of9502 o7f8af o4e5bc o42dd9 o7b624 o7a886 o7db0c o0bfbd o5fc97 o878b1 oabee7
set_option maxRecDepth 100000 in
set_option maxHeartbeats 16000000 in
theorem Loops_c (M : Mp) (ls : List (List Int)) (v : Value) (A : Option Addr) (c : Nat) (w : World) (hM : IsM w v M) (hok : okM M) (hL : LsL w A c ls) (hz : ∀ l ∈ ls, ∀ z ∈ l, dlN z.natAbs ≤ 2000) (ht : Tb w) (B : Bool) (hB : B = true ↔ LoopsOK M ls) :
  Calls Tryz.prog 95 #[v, .slice A ls.length c] w fun e w' => e = .returned (.bool B) ∧ Below w.heap.size w w' := by
 obtain ⟨md, Am, nm, cm, A', n', c', rfl, HM⟩ := hM.form
 have V3 := VM.new w 24 HM.out
 have HB := below_alloc (Below.refl w.heap.size w) (Obj.cells #[Value.int .i64 md, Value.slice Am nm cm, Value.slice A' n' c'] 24)
 have HT := Lib.hid ht
 have HOK := Lib.hid hok
 have HL := Lib.hid hL
 have HZ := Lib.hid hz
 have HBB := Lib.hid hB
 have hF : Hid (¬ LoopsOK M ls → B = false) := fun h => by
  cases e : B with
  | false => rfl
  | true => exact absurd (HBB.out.1 e) h
 have hlc : ls.length ≤ 9223372036854775807 := by
  have := hL.1
  rw [List.length_map] at this
  omega
 obtain ⟨n, hn⟩ : ∃ n, ls.length = n := ⟨_, rfl⟩
 have HN := Lib.hid hn
 rw [hn] at hlc ⊢
 clear hM hok hL hz ht hB HM hn
 go_enter Tryz.func95, Tryz.ntmps95
 go_wp2_with fail
 go_loopg [9] n (fun g iv wr => ∃ i : Nat, g = n - i ∧ iv = .int .i64 i ∧ i ≤ n ∧ VM wr w.heap.size md Am nm cm A' n' c' M ∧ Below w.heap.size w wr ∧ Hid (∀ j, j < i → LoopOK M (lpi ls j) ∧ ∀ k, k + 1 = j → gd (lpi ls k) 0 < gd (lpi ls j) 0))
 case atStart => exact ⟨0, rfl, rfl, Nat.zero_le _, V3, HB, fun j h => absurd h (by omega)⟩
 case round =>
  clear V3 HB
  obtain ⟨i, hgi, rfl, hi, V3, HB, HI⟩ := hrel
  have hi0 : (0 : Int) ≤ (i : Int) := by omega
  by_cases hin : i < n
  ·have hi1 : (i : Int) < (n : Int) := by omega
   have HIL : Hid (i < ls.length) := by show _ < _; rw [HN.out]; exact hin
   obtain ⟨bA, oA, rfl⟩ := HL.out.ptr (by rw [List.length_map]; have := HIL.out; omega)
   obtain ⟨A1, c1, CC, hs1⟩ := (HL.out.below HB).atL (j := i) HIL.out
   obtain ⟨x, hx⟩ : ∃ x, lpi ls i = x := ⟨_, rfl⟩
   rw [hx] at CC hs1
   have HX := Lib.hid hx
   have HZX : Hid (∀ z ∈ x, dlN z.natAbs ≤ 2000) := by show ∀ z ∈ x, _; rw [← hx]; exact HZ.out _ (lpi_mem HIL.out)
   obtain ⟨n1, hn1⟩ : ∃ n1, x.length = n1 := ⟨_, rfl⟩
   rw [hn1] at CC
   have HN1 := Lib.hid hn1
   have HS1 := Lib.hid hs1
   clear hx hn1 hs1
   have x0 := CC.c
   go_upto_region 4 with fail
   have CX := CL.new1 wr 45 (.slice A1 n1 c1)
   have HBX := below_alloc (Below.refl wr.heap.size wr) (Obj.cells #[Value.slice A1 n1 c1] 45)
   replace V3 := V3.keep HBX; replace HB := below_step HB HBX
   generalize hW : wr.alloc (Obj.cells #[Value.slice A1 n1 c1] 45) = wx at *
   obtain ⟨bx, hbx⟩ : ∃ bx, wr.heap.size = bx := ⟨_, rfl⟩
   rw [hbx] at CX ⊢
   clear hW x0
   by_cases hg : LoopOK M x
   ·have HG := Lib.hid hg
    have HLC : Hid (∀ (u : Value) {W : World}, IsM W u M → LsS W A1 c1 (x.map tS) → Tb W → Calls Tryz.prog 134 #[u, .slice A1 n1 c1] W fun e w' => e = .returned (.bool true) ∧ Below W.heap.size W w') := fun u W h1 h2 h3 => by
     rw [← HN1.out]
     exact loop_c M x u A1 c1 W h1 HOK.out h2 HZX.out h3 true ⟨fun _ => HG.out, fun _ => rfl⟩
    clear hg
    by_cases h0 : i = 0
    ·have hip : ¬ (0 : Int) < (i : Int) := by omega
     have hd0 : decide ((0 : Int) < (i : Int)) = false := decide_eq_false hip
     have hd1 : decide (0 < i) = false := decide_eq_false (by omega)
     have HI0 := Lib.hid h0
     clear h0
     replace V3 := V3.drew; replace CX := CX.drew; replace HB := below_drew HB; replace HBX := below_drew HBX
     generalize hWd : wx.drew = wd at *
     clear CC
     refine wp_region_F (fun w' => w'.cell? ⟨w.heap.size, 0, none⟩ = some (.int .i64 md) ∧ w'.cell? ⟨w.heap.size, 1, none⟩ = some (.slice Am nm cm) ∧ w'.cell? ⟨w.heap.size, 2, none⟩ = some (.slice A' n' c') ∧ w'.cell? ⟨bx, 0, none⟩ = some (.slice A1 n1 c1)) [] (by kernel_rfl) (by rw [hWd]; exact ⟨V3.c0, V3.c1, V3.c2, CX.c⟩) (fun hHeld => ?_)
     rw [hWd] at hHeld ⊢
     refine tF 0 of4b28 hHeld ?_; try go_frame
     refine tF 1 ocd55b hHeld ?_; try go_frame
     refine tF 2 o6c60f hHeld ?_; try go_frame
     refine wpAnyF_one (i := 3) (by kernel_rfl) rfl (fun K hK => ?_)
     go_simp
     (go_at_call 134; (with_reducible refine (HLC.out _ V3.im.out (HS1.out.below HBX) (HT.out.below HB)).mono ?_); rintro e w4 ⟨rfl, hb⟩; replace V3 := V3.keep hb; replace CX := CX.keep hb; replace HB := below_step HB hb; clear hb)
     refine hK.out _ _ (by exact ⟨V3.c0, V3.c1, V3.c2, CX.c⟩) (fun hHeld => ?_)
     clear hK K
     try go_frame
     refine tF 4 o0b63a hHeld ?_; try go_frame
     refine tF 5 of6abb hHeld ?_; try go_frame
     refine tF 6 o74709 hHeld ?_; try go_frame
     refine tF 7 o6a615 hHeld ?_; try go_frame
     refine tF 8 o957f8 hHeld ?_; try go_frame
     refine nF 9 o02d34 hHeld ?_; try go_frame
     refine nF 10 o9d8a3 hHeld ?_; try go_frame
     refine nF 11 od6020 hHeld ?_; try go_frame
     refine nF 12 of3645 hHeld ?_; try go_frame
     refine nF 13 oe9e12 hHeld ?_; try go_frame
     refine nF 14 of9502 hHeld ?_; try go_frame
     refine nF 15 o7f8af hHeld ?_; try go_frame
     refine nF 16 o4e5bc hHeld ?_; try go_frame
     refine nF 17 o42dd9 hHeld ?_; try go_frame
     refine nF 18 o7b624 hHeld ?_; try go_frame
     refine nF 19 o7a886 hHeld ?_; try go_frame
     refine nF 20 o7db0c hHeld ?_; try go_frame
     refine nF 21 o0bfbd hHeld ?_; try go_frame
     refine nF 22 o5fc97 hHeld ?_; try go_frame
     refine tF 23 o878b1 hHeld ?_; try go_frame
     refine tF 24 oabee7 hHeld ?_; try go_frame
     refine wpAnyF_done (by kernel_rfl) ?_ _
     clear hHeld hWd
     have HI2 : Hid (∀ j, j < i + 1 → LoopOK M (lpi ls j) ∧ ∀ k, k + 1 = j → gd (lpi ls k) 0 < gd (lpi ls j) 0) := fun j hj => by
      rcases Nat.lt_or_ge j i with h | h
      ·exact HI.out j h
      ·obtain rfl : j = i := by omega
       exact ⟨by rw [HX.out]; exact HG.out, fun k hk => absurd hk (by have := HI0.out; omega)⟩
     clear HI
     go_wp2
     go_roundg (n - (i + 1))
     case measure => omega
     case rel => exact ⟨i + 1, rfl, by go_num, by omega, V3, HB, HI2⟩
    ·obtain ⟨k, hk⟩ : ∃ k, k + 1 = i := ⟨i - 1, by omega⟩
     have HK := Lib.hid hk
     have hip : (0 : Int) < (i : Int) := by omega
     have hip2 : 0 < i := by omega
     have hk0 : (0 : Int) ≤ (k : Int) := by omega
     have hk1 : (k : Int) < (n : Int) := by omega
     have hkw : IntKind.i64.wrap ((i : Int) - 1) = (k : Int) := by rw [IntKind.wrap_i64]; omega
     have HKL : Hid (k < ls.length) := by have := HIL.out; show k < _; omega
     have HGY := Lib.hid (HI.out k (by omega)).1
     obtain ⟨Ap, cp, CP, hsp⟩ := (HL.out.below HB).atL (j := k) HKL.out
     obtain ⟨y, hy⟩ : ∃ y, lpi ls k = y := ⟨_, rfl⟩
     rw [hy] at CP hsp HGY
     have HY := Lib.hid hy
     have HYZ : Hid (dlN (gd y 0).natAbs ≤ 2000) := HZ.out _ (lpi_mem HKL.out) _ (by rw [hy, gd_lt HGY.out.len0]; exact List.getElem_mem HGY.out.len0)
     have HXZ : Hid (dlN (gd x 0).natAbs ≤ 2000) := HZX.out _ (by rw [gd_lt HG.out.len0]; exact List.getElem_mem HG.out.len0)
     obtain ⟨bp, op, rfl, CQ⟩ := hsp.head HGY.out.len0
     obtain ⟨np, hnp⟩ : ∃ np, y.length = np := ⟨_, rfl⟩
     rw [hnp] at CP
     have hnp0 : (0 : Int) < (np : Int) := by have := HGY.out.len0; omega
     have hnp1 : 0 < np := by omega
     obtain ⟨b1, o1, rfl, CS⟩ := (HS1.out.below HBX).head HG.out.len0
     have hn10 : (0 : Int) < (n1 : Int) := by have := HG.out.len0; have := HN1.out; omega
     have hn11 : 0 < n1 := by omega
     clear hk hy hsp hnp h0
     replace V3 := V3.drew; replace CX := CX.drew; replace HB := below_drew HB; replace HBX := below_drew HBX
     replace CP := CP.drew; replace CQ := CQ.drew; replace CS := CS.drew
     generalize hWd : wx.drew = wd at *
     clear CC
     by_cases hlt : gd y 0 < gd x 0
     ·have hcm : ¬ 0 ≤ icmp (gd y 0) (gd x 0) := fun h => by have := (icmp_lt' (gd y 0) (gd x 0)).2 hlt; omega
      have hcmd : decide (0 ≤ icmp (gd y 0) (gd x 0)) = false := decide_eq_false hcm
      have HSTEP : Hid (∀ k2, k2 + 1 = i → gd (lpi ls k2) 0 < gd (lpi ls i) 0) := fun k2 hk2 => by
       have e : k2 = k := by
        have := HK.out
        omega
       rw [e, HY.out, HX.out]
       exact hlt
      clear hlt
      refine wp_region_F (fun w' => w'.cell? ⟨w.heap.size, 0, none⟩ = some (.int .i64 md) ∧ w'.cell? ⟨w.heap.size, 1, none⟩ = some (.slice Am nm cm) ∧ w'.cell? ⟨w.heap.size, 2, none⟩ = some (.slice A' n' c') ∧ w'.cell? ⟨bx, 0, none⟩ = some (.slice (some ⟨b1, o1, none⟩) n1 c1) ∧ w'.cell? ⟨bA, oA + k, none⟩ = some (.slice (some ⟨bp, op, none⟩) np cp) ∧ w'.cell? ⟨bp, op, none⟩ = some (.string (tS (gd y 0))) ∧ w'.cell? ⟨b1, o1, none⟩ = some (.string (tS (gd x 0)))) [] (by kernel_rfl) (by rw [hWd]; exact ⟨V3.c0, V3.c1, V3.c2, CX.c, CP.c, CQ.c, CS.c⟩) (fun hHeld => ?_)
      rw [hWd] at hHeld ⊢
      refine tF 0 of4b28 hHeld ?_; try go_frame
      refine tF 1 ocd55b hHeld ?_; try go_frame
      refine tF 2 o6c60f hHeld ?_; try go_frame
      refine wpAnyF_one (i := 3) (by kernel_rfl) rfl (fun K hK => ?_)
      go_simp
      (go_at_call 134; (with_reducible refine (HLC.out _ V3.im.out (HS1.out.below HBX) (HT.out.below HB)).mono ?_); rintro e w4 ⟨rfl, hb⟩; replace V3 := V3.keep hb; replace CX := CX.keep hb; replace CP := CP.keep hb; replace CQ := CQ.keep hb; replace CS := CS.keep hb; replace HB := below_step HB hb; clear hb)
      refine hK.out _ _ (by exact ⟨V3.c0, V3.c1, V3.c2, CX.c, CP.c, CQ.c, CS.c⟩) (fun hHeld => ?_)
      clear hK K
      try go_frame
      refine tF 4 o0b63a hHeld ?_; try go_frame
      refine tF 5 of6abb hHeld ?_; try go_frame
      refine tF 6 o74709 hHeld ?_; try go_frame
      refine tF 7 o6a615 hHeld ?_; try go_frame
      refine tF 8 o957f8 hHeld ?_; try go_frame
      refine tF 9 o02d34 hHeld ?_; try go_frame
      refine tF 10 o9d8a3 hHeld ?_; try go_frame
      refine tF 11 od6020 hHeld ?_; try go_frame
      refine tF 12 of3645 hHeld ?_; try go_frame
      refine tF 13 oe9e12 hHeld ?_; try go_frame
      refine tF 14 of9502 hHeld ?_; try go_frame
      refine tF 15 o7f8af hHeld ?_; try go_frame
      refine tF 16 o4e5bc hHeld ?_; try go_frame
      refine tF 17 o42dd9 hHeld ?_; try go_frame
      refine tF 18 o7b624 hHeld ?_; try go_frame
      refine tF 19 o7a886 hHeld ?_; try go_frame
      refine tF 20 o7db0c hHeld ?_; try go_frame
      refine wpAnyF_one (i := 21) (by kernel_rfl) rfl (fun K hK => ?_)
      go_simp
      (go_at_call 111; (with_reducible refine (compare9_c (gd y 0) (gd x 0) _ HYZ.out HXZ.out).mono ?_); rintro e w5 ⟨rfl, hb⟩; replace V3 := V3.keep hb; replace CX := CX.keep hb; replace CP := CP.keep hb; replace CQ := CQ.keep hb; replace CS := CS.keep hb; replace HB := below_step HB hb; clear hb)
      refine hK.out _ _ (by exact ⟨V3.c0, V3.c1, V3.c2, CX.c, CP.c, CQ.c, CS.c⟩) (fun hHeld => ?_)
      clear hK K
      try go_frame
      refine tF 22 o5fc97 hHeld ?_; try go_frame
      refine tF 23 o878b1 hHeld ?_; try go_frame
      refine tF 24 oabee7 hHeld ?_; try go_frame
      refine wpAnyF_done (by kernel_rfl) ?_ _
      clear hHeld hWd hcm hcmd
      have HI2 : Hid (∀ j, j < i + 1 → LoopOK M (lpi ls j) ∧ ∀ k, k + 1 = j → gd (lpi ls k) 0 < gd (lpi ls j) 0) := fun j hj => by
       rcases Nat.lt_or_ge j i with h | h
       ·exact HI.out j h
       ·obtain rfl : j = i := by omega
        exact ⟨by rw [HX.out]; exact HG.out, HSTEP.out⟩
      clear HI
      go_wp2
      go_roundg (n - (i + 1))
      case measure => omega
      case rel => exact ⟨i + 1, rfl, by go_num, by omega, V3, HB, HI2⟩
     ·have hcm : 0 ≤ icmp (gd y 0) (gd x 0) := by
       apply Classical.byContradiction
       intro h
       exact hlt ((icmp_lt' (gd y 0) (gd x 0)).1 (by omega))
      have HLT := Lib.hid hlt
      clear hlt
      refine wp_region_F (fun w' => w'.cell? ⟨w.heap.size, 0, none⟩ = some (.int .i64 md) ∧ w'.cell? ⟨w.heap.size, 1, none⟩ = some (.slice Am nm cm) ∧ w'.cell? ⟨w.heap.size, 2, none⟩ = some (.slice A' n' c') ∧ w'.cell? ⟨bx, 0, none⟩ = some (.slice (some ⟨b1, o1, none⟩) n1 c1) ∧ w'.cell? ⟨bA, oA + k, none⟩ = some (.slice (some ⟨bp, op, none⟩) np cp) ∧ w'.cell? ⟨bp, op, none⟩ = some (.string (tS (gd y 0))) ∧ w'.cell? ⟨b1, o1, none⟩ = some (.string (tS (gd x 0)))) [] (by kernel_rfl) (by rw [hWd]; exact ⟨V3.c0, V3.c1, V3.c2, CX.c, CP.c, CQ.c, CS.c⟩) (fun hHeld => ?_)
      rw [hWd] at hHeld ⊢
      refine tF 0 of4b28 hHeld ?_; try go_frame
      refine tF 1 ocd55b hHeld ?_; try go_frame
      refine tF 2 o6c60f hHeld ?_; try go_frame
      refine wpAnyF_one (i := 3) (by kernel_rfl) rfl (fun K hK => ?_)
      go_simp
      (go_at_call 134; (with_reducible refine (HLC.out _ V3.im.out (HS1.out.below HBX) (HT.out.below HB)).mono ?_); rintro e w4 ⟨rfl, hb⟩; replace V3 := V3.keep hb; replace CX := CX.keep hb; replace CP := CP.keep hb; replace CQ := CQ.keep hb; replace CS := CS.keep hb; replace HB := below_step HB hb; clear hb)
      refine hK.out _ _ (by exact ⟨V3.c0, V3.c1, V3.c2, CX.c, CP.c, CQ.c, CS.c⟩) (fun hHeld => ?_)
      clear hK K
      try go_frame
      refine tF 4 o0b63a hHeld ?_; try go_frame
      refine tF 5 of6abb hHeld ?_; try go_frame
      refine tF 6 o74709 hHeld ?_; try go_frame
      refine tF 7 o6a615 hHeld ?_; try go_frame
      refine tF 8 o957f8 hHeld ?_; try go_frame
      refine tF 9 o02d34 hHeld ?_; try go_frame
      refine tF 10 o9d8a3 hHeld ?_; try go_frame
      refine tF 11 od6020 hHeld ?_; try go_frame
      refine tF 12 of3645 hHeld ?_; try go_frame
      refine tF 13 oe9e12 hHeld ?_; try go_frame
      refine tF 14 of9502 hHeld ?_; try go_frame
      refine tF 15 o7f8af hHeld ?_; try go_frame
      refine tF 16 o4e5bc hHeld ?_; try go_frame
      refine tF 17 o42dd9 hHeld ?_; try go_frame
      refine tF 18 o7b624 hHeld ?_; try go_frame
      refine tF 19 o7a886 hHeld ?_; try go_frame
      refine tF 20 o7db0c hHeld ?_; try go_frame
      refine wpAnyF_one (i := 21) (by kernel_rfl) rfl (fun K hK => ?_)
      go_simp
      (go_at_call 111; (with_reducible refine (compare9_c (gd y 0) (gd x 0) _ HYZ.out HXZ.out).mono ?_); rintro e w5 ⟨rfl, hb⟩; replace V3 := V3.keep hb; replace CX := CX.keep hb; replace CP := CP.keep hb; replace CQ := CQ.keep hb; replace CS := CS.keep hb; replace HB := below_step HB hb; clear hb)
      refine hK.out _ _ (by exact ⟨V3.c0, V3.c1, V3.c2, CX.c, CP.c, CQ.c, CS.c⟩) (fun hHeld => ?_)
      clear hK K
      try go_frame
      refine tF 22 o5fc97 hHeld ?_; try go_frame
      refine tF 23 o878b1 hHeld ?_; try go_frame
      refine tF 24 oabee7 hHeld ?_; try go_frame
      refine wpAnyF_done (by kernel_rfl) ?_ _
      clear hHeld hWd hcm
      have HR := Lib.hid (hF.out fun h => by have h1 := h.2 k (by have := HK.out; have := HIL.out; omega); rw [HK.out, HX.out, HY.out] at h1; exact HLT.out h1)
      clear HI
      go_wp2
      go_ret
      exact ⟨by rw [HR.out] <;> rfl, HB⟩
   ·have HG := Lib.hid hg
    have HLC : Hid (∀ (u : Value) {W : World}, IsM W u M → LsS W A1 c1 (x.map tS) → Tb W → Calls Tryz.prog 134 #[u, .slice A1 n1 c1] W fun e w' => e = .returned (.bool false) ∧ Below W.heap.size W w') := fun u W h1 h2 h3 => by
     rw [← HN1.out]
     exact loop_c M x u A1 c1 W h1 HOK.out h2 HZX.out h3 false ⟨fun h => (by cases h), fun h => absurd h HG.out⟩
    clear hg
    replace V3 := V3.drew; replace CX := CX.drew; replace HB := below_drew HB; replace HBX := below_drew HBX
    generalize hWd : wx.drew = wd at *
    clear CC
    refine wp_region_F (fun w' => w'.cell? ⟨w.heap.size, 0, none⟩ = some (.int .i64 md) ∧ w'.cell? ⟨w.heap.size, 1, none⟩ = some (.slice Am nm cm) ∧ w'.cell? ⟨w.heap.size, 2, none⟩ = some (.slice A' n' c') ∧ w'.cell? ⟨bx, 0, none⟩ = some (.slice A1 n1 c1)) [] (by kernel_rfl) (by rw [hWd]; exact ⟨V3.c0, V3.c1, V3.c2, CX.c⟩) (fun hHeld => ?_)
    rw [hWd] at hHeld ⊢
    refine tF 0 of4b28 hHeld ?_; try go_frame
    refine tF 1 ocd55b hHeld ?_; try go_frame
    refine tF 2 o6c60f hHeld ?_; try go_frame
    refine wpAnyF_one (i := 3) (by kernel_rfl) rfl (fun K hK => ?_)
    go_simp
    (go_at_call 134; (with_reducible refine (HLC.out _ V3.im.out (HS1.out.below HBX) (HT.out.below HB)).mono ?_); rintro e w4 ⟨rfl, hb⟩; replace V3 := V3.keep hb; replace CX := CX.keep hb; replace HB := below_step HB hb; clear hb)
    refine hK.out _ _ (by exact ⟨V3.c0, V3.c1, V3.c2, CX.c⟩) (fun hHeld => ?_)
    clear hK K
    try go_frame
    refine tF 4 o0b63a hHeld ?_; try go_frame
    refine tF 5 of6abb hHeld ?_; try go_frame
    refine nF 6 o74709 hHeld ?_; try go_frame
    refine nF 7 o6a615 hHeld ?_; try go_frame
    refine nF 8 o957f8 hHeld ?_; try go_frame
    refine nF 9 o02d34 hHeld ?_; try go_frame
    refine nF 10 o9d8a3 hHeld ?_; try go_frame
    refine nF 11 od6020 hHeld ?_; try go_frame
    refine nF 12 of3645 hHeld ?_; try go_frame
    refine nF 13 oe9e12 hHeld ?_; try go_frame
    refine nF 14 of9502 hHeld ?_; try go_frame
    refine nF 15 o7f8af hHeld ?_; try go_frame
    refine nF 16 o4e5bc hHeld ?_; try go_frame
    refine nF 17 o42dd9 hHeld ?_; try go_frame
    refine nF 18 o7b624 hHeld ?_; try go_frame
    refine nF 19 o7a886 hHeld ?_; try go_frame
    refine nF 20 o7db0c hHeld ?_; try go_frame
    refine nF 21 o0bfbd hHeld ?_; try go_frame
    refine nF 22 o5fc97 hHeld ?_; try go_frame
    refine nF 23 o878b1 hHeld ?_; try go_frame
    refine tF 24 oabee7 hHeld ?_; try go_frame
    refine wpAnyF_done (by kernel_rfl) ?_ _
    clear hHeld hWd
    have HR := Lib.hid (hF.out fun h => by have h1 := h.1 i HIL.out; rw [HX.out] at h1; exact HG.out h1)
    clear HI
    go_wp2
    go_ret
    exact ⟨by rw [HR.out] <;> rfl, HB⟩
  ·obtain rfl : i = n := by omega
   have hi1 : ¬ (i : Int) < (i : Int) := by omega
   have HR : Hid (B = true) := HBB.out.2 ⟨fun j hj => (HI.out j (by have := HN.out; omega)).1, fun j hj => (HI.out (j + 1) (by have := HN.out; omega)).2 j rfl⟩
   clear HI
   go_wp2
   go_ret
   exact ⟨by rw [HR.out] <;> rfl, HB⟩
end Go.Proofs.YtibdipfhfaeooaaGreatDoor

