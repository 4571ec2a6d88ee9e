/- What step.Valid does to memory and what it returns. No condition. -/
import Derived.Test.YtibdipfhfaeooaaGreatDoorZ4
import Derived.Maps.RangeWalk
set_option linter.unusedVariables false
set_option linter.unusedSimpArgs false
namespace Go.Proofs.YtibdipfhfaeooaaGreatDoor
open Go.RowKit

abbrev of6f50 : Oper := { dst := some 33, op := Go.Op.fieldAddr 24 (Go.Operand.tmp 1) 1, type := 0, pos := "step.go:16", after := #[], guard := none }
abbrev ofec9f : Oper := { dst := some 34, op := Go.Op.load 22 (Go.Operand.tmp 33), type := 22, pos := "step.go:16", after := #[{ on := 0, ground := Go.Ground.data }], guard := none }
abbrev odc751 : Oper := { dst := some 35, op := Go.Op.move (Go.Operand.tmp 3), type := 3, pos := "step.go:16", after := #[], guard := none }
abbrev ofe912 : Oper := { dst := some 36, op := Go.Op.indexAddr 22 (Go.Operand.tmp 34) (Go.Operand.tmp 35), type := 0, pos := "step.go:16", after := #[{ on := 1, ground := Go.Ground.data }, { on := 2, ground := Go.Ground.data }], guard := none }
abbrev oa17a9 : Oper := { dst := some 37, op := Go.Op.load 3 (Go.Operand.tmp 36), type := 3, pos := "step.go:16", after := #[{ on := 3, ground := Go.Ground.data }], guard := none }
abbrev oe4710 : Oper := { dst := some 38, op := Go.Op.binOp Go.BinOp.lss 3 (Go.Operand.tmp 37) (Go.Operand.const (Go.Value.int Go.IntKind.i64 1)) 3, type := 4, pos := "step.go:16", after := #[{ on := 4, ground := Go.Ground.data }], guard := none }
abbrev oc0abe : Oper := { dst := some 39, op := Go.Op.move (Go.Operand.tmp 38), type := 4, pos := "step.go:16", after := #[{ on := 5, ground := Go.Ground.data }], guard := none }
abbrev o0916a : Oper := { dst := some 40, op := Go.Op.fieldAddr 24 (Go.Operand.tmp 1) 1, type := 0, pos := "step.go:16", after := #[{ on := 6, ground := Go.Ground.guard }], guard := some (6, false) }
abbrev od2427 : Oper := { dst := some 41, op := Go.Op.load 22 (Go.Operand.tmp 40), type := 22, pos := "step.go:16", after := #[{ on := 7, ground := Go.Ground.data }, { on := 6, ground := Go.Ground.guard }], guard := some (6, false) }
abbrev ob9f76 : Oper := { dst := some 42, op := Go.Op.move (Go.Operand.tmp 3), type := 3, pos := "step.go:16", after := #[{ on := 6, ground := Go.Ground.guard }], guard := some (6, false) }
abbrev o336bc : Oper := { dst := some 43, op := Go.Op.indexAddr 22 (Go.Operand.tmp 41) (Go.Operand.tmp 42), type := 0, pos := "step.go:16", after := #[{ on := 8, ground := Go.Ground.data }, { on := 9, ground := Go.Ground.data }, { on := 6, ground := Go.Ground.guard }], guard := some (6, false) }
abbrev oc4374 : Oper := { dst := some 44, op := Go.Op.load 3 (Go.Operand.tmp 43), type := 3, pos := "step.go:16", after := #[{ on := 10, ground := Go.Ground.data }, { on := 6, ground := Go.Ground.guard }], guard := some (6, false) }
abbrev oea906 : Oper := { dst := some 45, op := Go.Op.binOp Go.BinOp.gtr 3 (Go.Operand.tmp 44) (Go.Operand.const (Go.Value.int Go.IntKind.i64 999)) 3, type := 4, pos := "step.go:16", after := #[{ on := 11, ground := Go.Ground.data }, { on := 6, ground := Go.Ground.guard }], guard := some (6, false) }
abbrev odf3f7 : Oper := { dst := some 46, op := Go.Op.pick (Go.Operand.tmp 39) (Go.Operand.const (Go.Value.bool true)) (Go.Operand.tmp 45), type := 4, pos := "step.go:16", after := #[{ on := 6, ground := Go.Ground.data }, { on := 12, ground := Go.Ground.data }], guard := none }
abbrev o5c1d7 : Oper := { dst := some 47, op := Go.Op.move (Go.Operand.tmp 46), type := 4, pos := "step.go:16", after := #[{ on := 13, ground := Go.Ground.data }, { on := 6, ground := Go.Ground.chain }], guard := none }
abbrev oafdad : Oper := { dst := some 48, op := Go.Op.fieldAddr 24 (Go.Operand.tmp 1) 2, type := 0, pos := "step.go:16", after := #[{ on := 14, ground := Go.Ground.guard }], guard := some (14, false) }
abbrev o7d897 : Oper := { dst := some 49, op := Go.Op.load 22 (Go.Operand.tmp 48), type := 22, pos := "step.go:16", after := #[{ on := 15, ground := Go.Ground.data }, { on := 14, ground := Go.Ground.guard }], guard := some (14, false) }
abbrev od54fe : Oper := { dst := some 50, op := Go.Op.move (Go.Operand.tmp 3), type := 3, pos := "step.go:16", after := #[{ on := 14, ground := Go.Ground.guard }], guard := some (14, false) }
abbrev o47c2b : Oper := { dst := some 51, op := Go.Op.indexAddr 22 (Go.Operand.tmp 49) (Go.Operand.tmp 50), type := 0, pos := "step.go:16", after := #[{ on := 16, ground := Go.Ground.data }, { on := 17, ground := Go.Ground.data }, { on := 14, ground := Go.Ground.guard }], guard := some (14, false) }
abbrev of9e4b : Oper := { dst := some 52, op := Go.Op.load 3 (Go.Operand.tmp 51), type := 3, pos := "step.go:16", after := #[{ on := 18, ground := Go.Ground.data }, { on := 14, ground := Go.Ground.guard }], guard := some (14, false) }
abbrev o6be12 : Oper := { dst := some 53, op := Go.Op.binOp Go.BinOp.lss 3 (Go.Operand.tmp 52) (Go.Operand.const (Go.Value.int Go.IntKind.i64 (-999999))) 3, type := 4, pos := "step.go:16", after := #[{ on := 19, ground := Go.Ground.data }, { on := 14, ground := Go.Ground.guard }], guard := some (14, false) }
abbrev o44200 : Oper := { dst := some 54, op := Go.Op.pick (Go.Operand.tmp 47) (Go.Operand.const (Go.Value.bool true)) (Go.Operand.tmp 53), type := 4, pos := "step.go:16", after := #[{ on := 14, ground := Go.Ground.data }, { on := 20, ground := Go.Ground.data }], guard := none }
abbrev o953fc : Oper := { dst := some 55, op := Go.Op.move (Go.Operand.tmp 54), type := 4, pos := "step.go:16", after := #[{ on := 21, ground := Go.Ground.data }, { on := 14, ground := Go.Ground.chain }], guard := none }
abbrev o263cf : Oper := { dst := some 56, op := Go.Op.fieldAddr 24 (Go.Operand.tmp 1) 2, type := 0, pos := "step.go:16", after := #[{ on := 22, ground := Go.Ground.guard }], guard := some (22, false) }
abbrev o7ccb6 : Oper := { dst := some 57, op := Go.Op.load 22 (Go.Operand.tmp 56), type := 22, pos := "step.go:16", after := #[{ on := 23, ground := Go.Ground.data }, { on := 22, ground := Go.Ground.guard }], guard := some (22, false) }
abbrev o954c6 : Oper := { dst := some 58, op := Go.Op.move (Go.Operand.tmp 3), type := 3, pos := "step.go:16", after := #[{ on := 22, ground := Go.Ground.guard }], guard := some (22, false) }
abbrev o6794c : Oper := { dst := some 59, op := Go.Op.indexAddr 22 (Go.Operand.tmp 57) (Go.Operand.tmp 58), type := 0, pos := "step.go:16", after := #[{ on := 24, ground := Go.Ground.data }, { on := 25, ground := Go.Ground.data }, { on := 22, ground := Go.Ground.guard }], guard := some (22, false) }
abbrev o87dd2 : Oper := { dst := some 60, op := Go.Op.load 3 (Go.Operand.tmp 59), type := 3, pos := "step.go:16", after := #[{ on := 26, ground := Go.Ground.data }, { on := 22, ground := Go.Ground.guard }], guard := some (22, false) }
abbrev o55d76 : Oper := { dst := some 61, op := Go.Op.binOp Go.BinOp.gtr 3 (Go.Operand.tmp 60) (Go.Operand.const (Go.Value.int Go.IntKind.i64 999999)) 3, type := 4, pos := "step.go:16", after := #[{ on := 27, ground := Go.Ground.data }, { on := 22, ground := Go.Ground.guard }], guard := some (22, false) }
abbrev o5a1ed : Oper := { dst := some 62, op := Go.Op.pick (Go.Operand.tmp 55) (Go.Operand.const (Go.Value.bool true)) (Go.Operand.tmp 61), type := 4, pos := "step.go:16", after := #[{ on := 22, ground := Go.Ground.data }, { on := 28, ground := Go.Ground.data }], guard := none }
abbrev o6cbfc : Oper := { dst := some 63, op := Go.Op.move (Go.Operand.tmp 62), type := 4, pos := "step.go:16", after := #[{ on := 29, ground := Go.Ground.data }, { on := 22, ground := Go.Ground.chain }], guard := none }
abbrev o03879 : Oper := { dst := some 64, op := Go.Op.fieldAddr 24 (Go.Operand.tmp 1) 1, type := 0, pos := "step.go:16", after := #[{ on := 30, ground := Go.Ground.guard }], guard := some (30, false) }
abbrev o2fd4b : Oper := { dst := some 65, op := Go.Op.load 22 (Go.Operand.tmp 64), type := 22, pos := "step.go:16", after := #[{ on := 31, ground := Go.Ground.data }, { on := 30, ground := Go.Ground.guard }], guard := some (30, false) }
abbrev ob3a4c : Oper := { dst := some 66, op := Go.Op.move (Go.Operand.tmp 3), type := 3, pos := "step.go:16", after := #[{ on := 30, ground := Go.Ground.guard }], guard := some (30, false) }
abbrev o9b6c7 : Oper := { dst := some 67, op := Go.Op.indexAddr 22 (Go.Operand.tmp 65) (Go.Operand.tmp 66), type := 0, pos := "step.go:16", after := #[{ on := 32, ground := Go.Ground.data }, { on := 33, ground := Go.Ground.data }, { on := 30, ground := Go.Ground.guard }], guard := some (30, false) }
abbrev ofad4d : Oper := { dst := some 68, op := Go.Op.load 3 (Go.Operand.tmp 67), type := 3, pos := "step.go:16", after := #[{ on := 34, ground := Go.Ground.data }, { on := 30, ground := Go.Ground.guard }], guard := some (30, false) }
abbrev o3488e : Oper := { dst := some 69, op := Go.Op.move (Go.Operand.tmp 3), type := 3, pos := "step.go:16", after := #[{ on := 30, ground := Go.Ground.guard }], guard := some (30, false) }
abbrev ocd0bf : Oper := { dst := some 70, op := Go.Op.binOp Go.BinOp.mul 3 (Go.Operand.tmp 68) (Go.Operand.tmp 69) 3, type := 3, pos := "step.go:16", after := #[{ on := 35, ground := Go.Ground.data }, { on := 36, ground := Go.Ground.data }, { on := 30, ground := Go.Ground.guard }], guard := some (30, false) }
abbrev o6f5c9 : Oper := { dst := some 71, op := Go.Op.fieldAddr 24 (Go.Operand.tmp 1) 2, type := 0, pos := "step.go:16", after := #[{ on := 30, ground := Go.Ground.guard }], guard := some (30, false) }
abbrev o261c3 : Oper := { dst := some 72, op := Go.Op.load 22 (Go.Operand.tmp 71), type := 22, pos := "step.go:16", after := #[{ on := 38, ground := Go.Ground.data }, { on := 30, ground := Go.Ground.guard }], guard := some (30, false) }
abbrev oc1fa6 : Oper := { dst := some 73, op := Go.Op.move (Go.Operand.tmp 3), type := 3, pos := "step.go:16", after := #[{ on := 30, ground := Go.Ground.guard }], guard := some (30, false) }
abbrev o7bd15 : Oper := { dst := some 74, op := Go.Op.indexAddr 22 (Go.Operand.tmp 72) (Go.Operand.tmp 73), type := 0, pos := "step.go:16", after := #[{ on := 39, ground := Go.Ground.data }, { on := 40, ground := Go.Ground.data }, { on := 30, ground := Go.Ground.guard }], guard := some (30, false) }
abbrev o81eb1 : Oper := { dst := some 75, op := Go.Op.load 3 (Go.Operand.tmp 74), type := 3, pos := "step.go:16", after := #[{ on := 41, ground := Go.Ground.data }, { on := 30, ground := Go.Ground.guard }], guard := some (30, false) }
abbrev o80e28 : Oper := { dst := some 76, op := Go.Op.binOp Go.BinOp.add 3 (Go.Operand.tmp 70) (Go.Operand.tmp 75) 3, type := 3, pos := "step.go:16", after := #[{ on := 37, ground := Go.Ground.data }, { on := 42, ground := Go.Ground.data }, { on := 30, ground := Go.Ground.guard }], guard := some (30, false) }
abbrev o34a4a : Oper := { dst := some 77, op := Go.Op.fieldAddr 24 (Go.Operand.tmp 1) 0, type := 0, pos := "step.go:16", after := #[{ on := 30, ground := Go.Ground.guard }], guard := some (30, false) }
abbrev o027ce : Oper := { dst := some 78, op := Go.Op.load 3 (Go.Operand.tmp 77), type := 3, pos := "step.go:16", after := #[{ on := 44, ground := Go.Ground.data }, { on := 30, ground := Go.Ground.guard }], guard := some (30, false) }
abbrev o6ef8c : Oper := { dst := some 79, op := Go.Op.binOp Go.BinOp.rem 3 (Go.Operand.tmp 76) (Go.Operand.tmp 78) 3, type := 3, pos := "step.go:16", after := #[{ on := 43, ground := Go.Ground.data }, { on := 45, ground := Go.Ground.data }, { on := 30, ground := Go.Ground.guard }], guard := some (30, false) }
abbrev of6ecb : Oper := { dst := some 80, op := Go.Op.binOp Go.BinOp.neq 3 (Go.Operand.tmp 79) (Go.Operand.const (Go.Value.int Go.IntKind.i64 0)) 3, type := 4, pos := "step.go:16", after := #[{ on := 46, ground := Go.Ground.data }, { on := 30, ground := Go.Ground.guard }], guard := some (30, false) }
abbrev o5736d : Oper := { dst := some 81, op := Go.Op.pick (Go.Operand.tmp 63) (Go.Operand.const (Go.Value.bool true)) (Go.Operand.tmp 80), type := 4, pos := "step.go:16", after := #[{ on := 30, ground := Go.Ground.data }, { on := 47, ground := Go.Ground.data }], guard := none }
attribute [local go_sem] of6f50 ofec9f odc751 ofe912 oa17a9 oe4710 oc0abe o0916a od2427 ob9f76 o336bc oc4374 oea906 odf3f7 o5c1d7 oafdad o7d897 od54fe o47c2b of9e4b o6be12 o44200 o953fc o263cf o7ccb6 o954c6 o6794c o87dd2 o55d76 o5a1ed o6cbfc o03879 o2fd4b ob3a4c o9b6c7 ofad4d o3488e ocd0bf o6f5c9 o261c3 oc1fa6 o7bd15 o81eb1 o80e28 o34a4a o027ce o6ef8c of6ecb o5736d
set_option maxRecDepth 100000 in
set_option maxHeartbeats 4000000 in
theorem SValid_c (M : Mp) (v : Value) (w : World) (h : IsM w v M) :
  Calls Tryz.prog 47 #[v] w fun e w' => e = .returned (.bool (okB M)) ∧ Below w.heap.size w w' := by
 obtain ⟨A, c, A', c', rfl, HA, HA'⟩ := h
 have hcl := HA.2
 have hcl' := HA'.2
 have H1 := Lib.hid HA
 have H2 := Lib.hid HA'
 clear HA HA'
 generalize hw1 : M.mul.length = L1 at *
 generalize hw2 : M.add.length = L2 at *
 have HL1 := Lib.hid hw1
 have HL2 := Lib.hid hw2
 clear hw1 hw2
 have hB : ∀ o n, Below w.heap.size w ((w.alloc o).drewN n) := fun o n => below_drewN (below_alloc (Below.refl _ _) _) n
 obtain ⟨m, hm⟩ : ∃ m, M.mod = m := ⟨_, rfl⟩
 rw [hm]
 have HM := Lib.hid hm
 clear hm
 by_cases h1 : m < 2
 ·have HR : Hid (okB M = false) := by show _ = _; unfold okB; rw [HM.out, decide_eq_false (show ¬ 2 ≤ m by omega)]; simp
  go_enter Tryz.func47, Tryz.ntmps47
  go_wp2
  go_ret
  exact ⟨by rw [HR.out] <;> rfl, below_alloc (Below.refl _ _) _⟩
 ·by_cases h2 : 12 < m
  ·have HR : Hid (okB M = false) := by show _ = _; unfold okB; rw [HM.out, decide_eq_false (show ¬ m ≤ 12 by omega)]; simp
   go_enter Tryz.func47, Tryz.ntmps47
   go_wp2
   go_ret
   exact ⟨by rw [HR.out] <;> rfl, below_alloc (Below.refl _ _) _⟩
  ·by_cases h3 : (L1 : Int) = m
   rotate_left
   ·have HR : Hid (okB M = false) := by show _ = _; unfold okB; rw [HM.out, HL1.out, decide_eq_false h3]; simp
    have h3b : ((L1 : Int) == m) = false := by simpa using h3
    go_enter Tryz.func47, Tryz.ntmps47
    go_wp2
    go_ret
    exact ⟨by rw [HR.out] <;> rfl, below_alloc (Below.refl _ _) _⟩
   ·by_cases h4 : (L2 : Int) = m
    rotate_left
    ·have HR : Hid (okB M = false) := by show _ = _; unfold okB; rw [HM.out, HL2.out, decide_eq_false h4]; simp
     have h4b : ((L2 : Int) == m) = false := by simpa using h4
     subst h3
     go_enter Tryz.func47, Tryz.ntmps47
     go_wp2
     go_ret
     exact ⟨by rw [HR.out] <;> rfl, below_alloc (Below.refl _ _) _⟩
    ·obtain ⟨m', rfl⟩ := Int.eq_ofNat_of_zero_le (show 0 ≤ m by omega)
     have hl1 : L1 = m' := by omega
     have hl2 : m' = L2 := by omega
     subst hl1
     clear h3 h4
     subst hl2
     have HR0 : Hid (okB M = okRs M L1) := by show _ = _; unfold okB; rw [HM.out, HL1.out, HL2.out, decide_eq_true (show 2 ≤ (L1 : Int) by omega), decide_eq_true (show (L1 : Int) ≤ 12 by omega)]; simp
     have hVM : VM (w.alloc (Obj.cells #[Value.int .i64 L1, Value.slice A L1 c, Value.slice A' L1 c'] 24)) w.heap.size L1 A L1 c A' L1 c' M := VM.new w _ ⟨A, c, A', c', by rw [HM.out, HL1.out, HL2.out], H1.out, H2.out⟩
     have HB := below_alloc (Below.refl w.heap.size w) (Obj.cells #[Value.int .i64 L1, Value.slice A L1 c, Value.slice A' L1 c'] 24)
     clear HM
     go_enter Tryz.func47, Tryz.ntmps47
     go_wp2_with fail
     generalize hW : (w.alloc (Obj.cells #[Value.int .i64 L1, Value.slice A L1 c, Value.slice A' L1 c'] 24)) = W at *
     generalize hb0 : w.heap.size = b at *
     clear hW hB
     go_loopg [30] L1 (fun g iv wr => ∃ (r : Nat), g = L1 - r ∧ iv = .int .i64 r ∧ r ≤ L1 ∧ VM wr b L1 A L1 c A' L1 c' M ∧ Below b w wr ∧ Hid (∀ r', r' < r → okR M r'))
     case atStart => exact ⟨0, rfl, rfl, by omega, hVM, HB, fun r' h => absurd h (by omega)⟩
     case round =>
      clear hVM HB
      obtain ⟨r, hgk, rfl, hr, V, HB, HI⟩ := hrel
      have c0 := V.c0
      have c1 := V.c1
      have c2 := V.c2
      by_cases hrl : r < L1
      ·obtain ⟨-, -, -, s1, s2⟩ := V.sl
       obtain ⟨bA, oA, rfl, hlA, cA⟩ := s1.cell (j := r) (by rw [HL1.out]; exact hrl)
       obtain ⟨bB, oB, rfl, hlB, cB⟩ := s2.cell (j := r) (by rw [HL2.out]; exact hrl)
       clear s1 s2
       obtain ⟨x, hx⟩ : ∃ x, gd M.mul r = x := ⟨_, rfl⟩
       obtain ⟨y, hy⟩ : ∃ y, gd M.add r = y := ⟨_, rfl⟩
       rw [hx] at cA
       rw [hy] at cB
       have HX := Lib.hid hx
       have HY := Lib.hid hy
       clear hx hy
       have hi0 : (0 : Int) ≤ (r : Int) := by omega
       have hi1 : (r : Int) < (L1 : Int) := by omega
       have HNO : Hid (¬ okR M r → okB M = false) := fun h => by
        rw [HR0.out]
        cases ho : okRs M L1 with
        | false => rfl
        | true => exact absurd (okRs_iff.1 ho r hrl) h
       by_cases q1 : x < 1
       ·have HR : Hid (okB M = false) := HNO.out (fun h => by have := h.1; rw [HX.out] at this; omega)

        go_wp2_with fail
        have V1 := V.drew
        have cA1 : wr.drew.cell? ⟨bA, oA + r, none⟩ = some (.int .i64 x) := cA
        have cB1 : wr.drew.cell? ⟨bB, oB + r, none⟩ = some (.int .i64 y) := cB
        have HB1 := below_drew HB
        generalize hWd : wr.drew = wd at *
        refine wp_region_F (fun w' => w'.cell? ⟨b, 0, none⟩ = some (.int .i64 L1) ∧ w'.cell? ⟨b, 1, none⟩ = some (.slice (some ⟨bA, oA, none⟩) L1 c) ∧ w'.cell? ⟨b, 2, none⟩ = some (.slice (some ⟨bB, oB, none⟩) L1 c') ∧ w'.cell? ⟨bA, oA + r, none⟩ = some (.int .i64 x) ∧ w'.cell? ⟨bB, oB + r, none⟩ = some (.int .i64 y)) [] (by kernel_rfl) (by rw [hWd]; exact ⟨V1.c0, V1.c1, V1.c2, cA1, cB1⟩) (fun hHeld => ?_)
        rw [hWd] at hHeld ⊢
        refine tF 0 of6f50 hHeld ?_; try go_frame
        refine tF 1 ofec9f hHeld ?_; try go_frame
        refine tF 2 odc751 hHeld ?_; try go_frame
        refine tF 3 ofe912 hHeld ?_; try go_frame
        refine tF 4 oa17a9 hHeld ?_; try go_frame
        refine tF 5 oe4710 hHeld ?_; try go_frame
        refine tF 6 oc0abe hHeld ?_; try go_frame
        refine nF 7 o0916a hHeld ?_; try go_frame
        refine nF 8 od2427 hHeld ?_; try go_frame
        refine nF 9 ob9f76 hHeld ?_; try go_frame
        refine nF 10 o336bc hHeld ?_; try go_frame
        refine nF 11 oc4374 hHeld ?_; try go_frame
        refine nF 12 oea906 hHeld ?_; try go_frame
        refine tF 13 odf3f7 hHeld ?_; try go_frame
        refine tF 14 o5c1d7 hHeld ?_; try go_frame
        refine nF 15 oafdad hHeld ?_; try go_frame
        refine nF 16 o7d897 hHeld ?_; try go_frame
        refine nF 17 od54fe hHeld ?_; try go_frame
        refine nF 18 o47c2b hHeld ?_; try go_frame
        refine nF 19 of9e4b hHeld ?_; try go_frame
        refine nF 20 o6be12 hHeld ?_; try go_frame
        refine tF 21 o44200 hHeld ?_; try go_frame
        refine tF 22 o953fc hHeld ?_; try go_frame
        refine nF 23 o263cf hHeld ?_; try go_frame
        refine nF 24 o7ccb6 hHeld ?_; try go_frame
        refine nF 25 o954c6 hHeld ?_; try go_frame
        refine nF 26 o6794c hHeld ?_; try go_frame
        refine nF 27 o87dd2 hHeld ?_; try go_frame
        refine nF 28 o55d76 hHeld ?_; try go_frame
        refine tF 29 o5a1ed hHeld ?_; try go_frame
        refine tF 30 o6cbfc hHeld ?_; try go_frame
        refine nF 31 o03879 hHeld ?_; try go_frame
        refine nF 32 o2fd4b hHeld ?_; try go_frame
        refine nF 33 ob3a4c hHeld ?_; try go_frame
        refine nF 34 o9b6c7 hHeld ?_; try go_frame
        refine nF 35 ofad4d hHeld ?_; try go_frame
        refine nF 36 o3488e hHeld ?_; try go_frame
        refine nF 37 ocd0bf hHeld ?_; try go_frame
        refine nF 38 o6f5c9 hHeld ?_; try go_frame
        refine nF 39 o261c3 hHeld ?_; try go_frame
        refine nF 40 oc1fa6 hHeld ?_; try go_frame
        refine nF 41 o7bd15 hHeld ?_; try go_frame
        refine nF 42 o81eb1 hHeld ?_; try go_frame
        refine nF 43 o80e28 hHeld ?_; try go_frame
        refine nF 44 o34a4a hHeld ?_; try go_frame
        refine nF 45 o027ce hHeld ?_; try go_frame
        refine nF 46 o6ef8c hHeld ?_; try go_frame
        refine nF 47 of6ecb hHeld ?_; try go_frame
        refine tF 48 o5736d hHeld ?_; try go_frame
        refine wpAnyF_done (by kernel_rfl) ?_ _
        clear hHeld
        go_wp2
        go_ret
        exact ⟨by rw [HR.out] <;> rfl, by rw [hb0]; exact HB1⟩
       ·have q1b : decide (x < 1) = false := decide_eq_false q1
        by_cases q2 : 999 < x
        ·have HR : Hid (okB M = false) := HNO.out (fun h => by have := h.2.1; rw [HX.out] at this; omega)
         go_wp2_with fail
         have V1 := V.drew
         have cA1 : wr.drew.cell? ⟨bA, oA + r, none⟩ = some (.int .i64 x) := cA
         have cB1 : wr.drew.cell? ⟨bB, oB + r, none⟩ = some (.int .i64 y) := cB
         have HB1 := below_drew HB
         generalize hWd : wr.drew = wd at *
         refine wp_region_F (fun w' => w'.cell? ⟨b, 0, none⟩ = some (.int .i64 L1) ∧ w'.cell? ⟨b, 1, none⟩ = some (.slice (some ⟨bA, oA, none⟩) L1 c) ∧ w'.cell? ⟨b, 2, none⟩ = some (.slice (some ⟨bB, oB, none⟩) L1 c') ∧ w'.cell? ⟨bA, oA + r, none⟩ = some (.int .i64 x) ∧ w'.cell? ⟨bB, oB + r, none⟩ = some (.int .i64 y)) [] (by kernel_rfl) (by rw [hWd]; exact ⟨V1.c0, V1.c1, V1.c2, cA1, cB1⟩) (fun hHeld => ?_)
         rw [hWd] at hHeld ⊢
         refine tF 0 of6f50 hHeld ?_; try go_frame
         refine tF 1 ofec9f hHeld ?_; try go_frame
         refine tF 2 odc751 hHeld ?_; try go_frame
         refine tF 3 ofe912 hHeld ?_; try go_frame
         refine tF 4 oa17a9 hHeld ?_; try go_frame
         refine tF 5 oe4710 hHeld ?_; try go_frame
         refine tF 6 oc0abe hHeld ?_; try go_frame
         refine tF 7 o0916a hHeld ?_; try go_frame
         refine tF 8 od2427 hHeld ?_; try go_frame
         refine tF 9 ob9f76 hHeld ?_; try go_frame
         refine tF 10 o336bc hHeld ?_; try go_frame
         refine tF 11 oc4374 hHeld ?_; try go_frame
         refine tF 12 oea906 hHeld ?_; try go_frame
         refine tF 13 odf3f7 hHeld ?_; try go_frame
         refine tF 14 o5c1d7 hHeld ?_; try go_frame
         refine nF 15 oafdad hHeld ?_; try go_frame
         refine nF 16 o7d897 hHeld ?_; try go_frame
         refine nF 17 od54fe hHeld ?_; try go_frame
         refine nF 18 o47c2b hHeld ?_; try go_frame
         refine nF 19 of9e4b hHeld ?_; try go_frame
         refine nF 20 o6be12 hHeld ?_; try go_frame
         refine tF 21 o44200 hHeld ?_; try go_frame
         refine tF 22 o953fc hHeld ?_; try go_frame
         refine nF 23 o263cf hHeld ?_; try go_frame
         refine nF 24 o7ccb6 hHeld ?_; try go_frame
         refine nF 25 o954c6 hHeld ?_; try go_frame
         refine nF 26 o6794c hHeld ?_; try go_frame
         refine nF 27 o87dd2 hHeld ?_; try go_frame
         refine nF 28 o55d76 hHeld ?_; try go_frame
         refine tF 29 o5a1ed hHeld ?_; try go_frame
         refine tF 30 o6cbfc hHeld ?_; try go_frame
         refine nF 31 o03879 hHeld ?_; try go_frame
         refine nF 32 o2fd4b hHeld ?_; try go_frame
         refine nF 33 ob3a4c hHeld ?_; try go_frame
         refine nF 34 o9b6c7 hHeld ?_; try go_frame
         refine nF 35 ofad4d hHeld ?_; try go_frame
         refine nF 36 o3488e hHeld ?_; try go_frame
         refine nF 37 ocd0bf hHeld ?_; try go_frame
         refine nF 38 o6f5c9 hHeld ?_; try go_frame
         refine nF 39 o261c3 hHeld ?_; try go_frame
         refine nF 40 oc1fa6 hHeld ?_; try go_frame
         refine nF 41 o7bd15 hHeld ?_; try go_frame
         refine nF 42 o81eb1 hHeld ?_; try go_frame
         refine nF 43 o80e28 hHeld ?_; try go_frame
         refine nF 44 o34a4a hHeld ?_; try go_frame
         refine nF 45 o027ce hHeld ?_; try go_frame
         refine nF 46 o6ef8c hHeld ?_; try go_frame
         refine nF 47 of6ecb hHeld ?_; try go_frame
         refine tF 48 o5736d hHeld ?_; try go_frame
         refine wpAnyF_done (by kernel_rfl) ?_ _
         clear hHeld
         go_wp2
         go_ret
         exact ⟨by rw [HR.out] <;> rfl, by rw [hb0]; exact HB1⟩
        ·have q2b : decide (999 < x) = false := decide_eq_false q2
         by_cases q3 : y < -999999
         ·have HR : Hid (okB M = false) := HNO.out (fun h => by have := h.2.2.1; rw [HY.out] at this; omega)
          go_wp2_with fail
          have V1 := V.drew
          have cA1 : wr.drew.cell? ⟨bA, oA + r, none⟩ = some (.int .i64 x) := cA
          have cB1 : wr.drew.cell? ⟨bB, oB + r, none⟩ = some (.int .i64 y) := cB
          have HB1 := below_drew HB
          generalize hWd : wr.drew = wd at *
          refine wp_region_F (fun w' => w'.cell? ⟨b, 0, none⟩ = some (.int .i64 L1) ∧ w'.cell? ⟨b, 1, none⟩ = some (.slice (some ⟨bA, oA, none⟩) L1 c) ∧ w'.cell? ⟨b, 2, none⟩ = some (.slice (some ⟨bB, oB, none⟩) L1 c') ∧ w'.cell? ⟨bA, oA + r, none⟩ = some (.int .i64 x) ∧ w'.cell? ⟨bB, oB + r, none⟩ = some (.int .i64 y)) [] (by kernel_rfl) (by rw [hWd]; exact ⟨V1.c0, V1.c1, V1.c2, cA1, cB1⟩) (fun hHeld => ?_)
          rw [hWd] at hHeld ⊢
          refine tF 0 of6f50 hHeld ?_; try go_frame
          refine tF 1 ofec9f hHeld ?_; try go_frame
          refine tF 2 odc751 hHeld ?_; try go_frame
          refine tF 3 ofe912 hHeld ?_; try go_frame
          refine tF 4 oa17a9 hHeld ?_; try go_frame
          refine tF 5 oe4710 hHeld ?_; try go_frame
          refine tF 6 oc0abe hHeld ?_; try go_frame
          refine tF 7 o0916a hHeld ?_; try go_frame
          refine tF 8 od2427 hHeld ?_; try go_frame
          refine tF 9 ob9f76 hHeld ?_; try go_frame
          refine tF 10 o336bc hHeld ?_; try go_frame
          refine tF 11 oc4374 hHeld ?_; try go_frame
          refine tF 12 oea906 hHeld ?_; try go_frame
          refine tF 13 odf3f7 hHeld ?_; try go_frame
          refine tF 14 o5c1d7 hHeld ?_; try go_frame
          refine tF 15 oafdad hHeld ?_; try go_frame
          refine tF 16 o7d897 hHeld ?_; try go_frame
          refine tF 17 od54fe hHeld ?_; try go_frame
          refine tF 18 o47c2b hHeld ?_; try go_frame
          refine tF 19 of9e4b hHeld ?_; try go_frame
          refine tF 20 o6be12 hHeld ?_; try go_frame
          refine tF 21 o44200 hHeld ?_; try go_frame
          refine tF 22 o953fc hHeld ?_; try go_frame
          refine nF 23 o263cf hHeld ?_; try go_frame
          refine nF 24 o7ccb6 hHeld ?_; try go_frame
          refine nF 25 o954c6 hHeld ?_; try go_frame
          refine nF 26 o6794c hHeld ?_; try go_frame
          refine nF 27 o87dd2 hHeld ?_; try go_frame
          refine nF 28 o55d76 hHeld ?_; try go_frame
          refine tF 29 o5a1ed hHeld ?_; try go_frame
          refine tF 30 o6cbfc hHeld ?_; try go_frame
          refine nF 31 o03879 hHeld ?_; try go_frame
          refine nF 32 o2fd4b hHeld ?_; try go_frame
          refine nF 33 ob3a4c hHeld ?_; try go_frame
          refine nF 34 o9b6c7 hHeld ?_; try go_frame
          refine nF 35 ofad4d hHeld ?_; try go_frame
          refine nF 36 o3488e hHeld ?_; try go_frame
          refine nF 37 ocd0bf hHeld ?_; try go_frame
          refine nF 38 o6f5c9 hHeld ?_; try go_frame
          refine nF 39 o261c3 hHeld ?_; try go_frame
          refine nF 40 oc1fa6 hHeld ?_; try go_frame
          refine nF 41 o7bd15 hHeld ?_; try go_frame
          refine nF 42 o81eb1 hHeld ?_; try go_frame
          refine nF 43 o80e28 hHeld ?_; try go_frame
          refine nF 44 o34a4a hHeld ?_; try go_frame
          refine nF 45 o027ce hHeld ?_; try go_frame
          refine nF 46 o6ef8c hHeld ?_; try go_frame
          refine nF 47 of6ecb hHeld ?_; try go_frame
          refine tF 48 o5736d hHeld ?_; try go_frame
          refine wpAnyF_done (by kernel_rfl) ?_ _
          clear hHeld
          go_wp2
          go_ret
          exact ⟨by rw [HR.out] <;> rfl, by rw [hb0]; exact HB1⟩
         ·have q3b : decide (y < -999999) = false := decide_eq_false q3
          by_cases q4 : 999999 < y
          ·have HR : Hid (okB M = false) := HNO.out (fun h => by have := h.2.2.2.1; rw [HY.out] at this; omega)
           go_wp2_with fail
           have V1 := V.drew
           have cA1 : wr.drew.cell? ⟨bA, oA + r, none⟩ = some (.int .i64 x) := cA
           have cB1 : wr.drew.cell? ⟨bB, oB + r, none⟩ = some (.int .i64 y) := cB
           have HB1 := below_drew HB
           generalize hWd : wr.drew = wd at *
           refine wp_region_F (fun w' => w'.cell? ⟨b, 0, none⟩ = some (.int .i64 L1) ∧ w'.cell? ⟨b, 1, none⟩ = some (.slice (some ⟨bA, oA, none⟩) L1 c) ∧ w'.cell? ⟨b, 2, none⟩ = some (.slice (some ⟨bB, oB, none⟩) L1 c') ∧ w'.cell? ⟨bA, oA + r, none⟩ = some (.int .i64 x) ∧ w'.cell? ⟨bB, oB + r, none⟩ = some (.int .i64 y)) [] (by kernel_rfl) (by rw [hWd]; exact ⟨V1.c0, V1.c1, V1.c2, cA1, cB1⟩) (fun hHeld => ?_)
           rw [hWd] at hHeld ⊢
           refine tF 0 of6f50 hHeld ?_; try go_frame
           refine tF 1 ofec9f hHeld ?_; try go_frame
           refine tF 2 odc751 hHeld ?_; try go_frame
           refine tF 3 ofe912 hHeld ?_; try go_frame
           refine tF 4 oa17a9 hHeld ?_; try go_frame
           refine tF 5 oe4710 hHeld ?_; try go_frame
           refine tF 6 oc0abe hHeld ?_; try go_frame
           refine tF 7 o0916a hHeld ?_; try go_frame
           refine tF 8 od2427 hHeld ?_; try go_frame
           refine tF 9 ob9f76 hHeld ?_; try go_frame
           refine tF 10 o336bc hHeld ?_; try go_frame
           refine tF 11 oc4374 hHeld ?_; try go_frame
           refine tF 12 oea906 hHeld ?_; try go_frame
           refine tF 13 odf3f7 hHeld ?_; try go_frame
           refine tF 14 o5c1d7 hHeld ?_; try go_frame
           refine tF 15 oafdad hHeld ?_; try go_frame
           refine tF 16 o7d897 hHeld ?_; try go_frame
           refine tF 17 od54fe hHeld ?_; try go_frame
           refine tF 18 o47c2b hHeld ?_; try go_frame
           refine tF 19 of9e4b hHeld ?_; try go_frame
           refine tF 20 o6be12 hHeld ?_; try go_frame
           refine tF 21 o44200 hHeld ?_; try go_frame
           refine tF 22 o953fc hHeld ?_; try go_frame
           refine tF 23 o263cf hHeld ?_; try go_frame
           refine tF 24 o7ccb6 hHeld ?_; try go_frame
           refine tF 25 o954c6 hHeld ?_; try go_frame
           refine tF 26 o6794c hHeld ?_; try go_frame
           refine tF 27 o87dd2 hHeld ?_; try go_frame
           refine tF 28 o55d76 hHeld ?_; try go_frame
           refine tF 29 o5a1ed hHeld ?_; try go_frame
           refine tF 30 o6cbfc hHeld ?_; try go_frame
           refine nF 31 o03879 hHeld ?_; try go_frame
           refine nF 32 o2fd4b hHeld ?_; try go_frame
           refine nF 33 ob3a4c hHeld ?_; try go_frame
           refine nF 34 o9b6c7 hHeld ?_; try go_frame
           refine nF 35 ofad4d hHeld ?_; try go_frame
           refine nF 36 o3488e hHeld ?_; try go_frame
           refine nF 37 ocd0bf hHeld ?_; try go_frame
           refine nF 38 o6f5c9 hHeld ?_; try go_frame
           refine nF 39 o261c3 hHeld ?_; try go_frame
           refine nF 40 oc1fa6 hHeld ?_; try go_frame
           refine nF 41 o7bd15 hHeld ?_; try go_frame
           refine nF 42 o81eb1 hHeld ?_; try go_frame
           refine nF 43 o80e28 hHeld ?_; try go_frame
           refine nF 44 o34a4a hHeld ?_; try go_frame
           refine nF 45 o027ce hHeld ?_; try go_frame
           refine nF 46 o6ef8c hHeld ?_; try go_frame
           refine nF 47 of6ecb hHeld ?_; try go_frame
           refine tF 48 o5736d hHeld ?_; try go_frame
           refine wpAnyF_done (by kernel_rfl) ?_ _
           clear hHeld
           go_wp2
           go_ret
           exact ⟨by rw [HR.out] <;> rfl, by rw [hb0]; exact HB1⟩
          ·have q4b : decide (999999 < y) = false := decide_eq_false q4
           have p0 : 0 ≤ x * (r : Int) := Int.mul_nonneg (by omega) hi0
           have p1 : x * (r : Int) ≤ 999 * 12 := Int.mul_le_mul (by omega) (by omega) hi0 (by omega)
           obtain ⟨p, hp⟩ : ∃ p, x * (r : Int) = p := ⟨_, rfl⟩
           rw [hp] at p0 p1
           obtain ⟨t, ht⟩ : ∃ t, (p + y).tmod (L1 : Int) = t := ⟨_, rfl⟩
           have HT : Hid (okR M r ↔ t = 0) := by
            show _ ↔ _
            unfold okR
            rw [HX.out, HY.out, hp, ← ht, tmod_zero, ← V.sl.1]
            exact ⟨fun h => h.2.2.2.2, fun h => ⟨by omega, by omega, by omega, by omega, h⟩⟩
           have n0 : ¬ L1 = 0 := by omega
           have hw1 : IntKind.i64.wrap p = p := by rw [IntKind.wrap_i64]; omega
           have hw2 : IntKind.i64.wrap (p + y) = p + y := by rw [IntKind.wrap_i64]; omega
           by_cases q5 : t = 0
           ·have HOK := Lib.hid (HT.out.2 q5)
            have q5b : (t == 0) = true := by simpa using q5
            clear q5
            go_wp2_with fail
            have V1 := V.drew
            have cA1 : wr.drew.cell? ⟨bA, oA + r, none⟩ = some (.int .i64 x) := cA
            have cB1 : wr.drew.cell? ⟨bB, oB + r, none⟩ = some (.int .i64 y) := cB
            have HB1 := below_drew HB
            generalize hWd : wr.drew = wd at *
            refine wp_region_F (fun w' => w'.cell? ⟨b, 0, none⟩ = some (.int .i64 L1) ∧ w'.cell? ⟨b, 1, none⟩ = some (.slice (some ⟨bA, oA, none⟩) L1 c) ∧ w'.cell? ⟨b, 2, none⟩ = some (.slice (some ⟨bB, oB, none⟩) L1 c') ∧ w'.cell? ⟨bA, oA + r, none⟩ = some (.int .i64 x) ∧ w'.cell? ⟨bB, oB + r, none⟩ = some (.int .i64 y)) [] (by kernel_rfl) (by rw [hWd]; exact ⟨V1.c0, V1.c1, V1.c2, cA1, cB1⟩) (fun hHeld => ?_)
            rw [hWd] at hHeld ⊢
            refine tF 0 of6f50 hHeld ?_; try go_frame
            refine tF 1 ofec9f hHeld ?_; try go_frame
            refine tF 2 odc751 hHeld ?_; try go_frame
            refine tF 3 ofe912 hHeld ?_; try go_frame
            refine tF 4 oa17a9 hHeld ?_; try go_frame
            refine tF 5 oe4710 hHeld ?_; try go_frame
            refine tF 6 oc0abe hHeld ?_; try go_frame
            refine tF 7 o0916a hHeld ?_; try go_frame
            refine tF 8 od2427 hHeld ?_; try go_frame
            refine tF 9 ob9f76 hHeld ?_; try go_frame
            refine tF 10 o336bc hHeld ?_; try go_frame
            refine tF 11 oc4374 hHeld ?_; try go_frame
            refine tF 12 oea906 hHeld ?_; try go_frame
            refine tF 13 odf3f7 hHeld ?_; try go_frame
            refine tF 14 o5c1d7 hHeld ?_; try go_frame
            refine tF 15 oafdad hHeld ?_; try go_frame
            refine tF 16 o7d897 hHeld ?_; try go_frame
            refine tF 17 od54fe hHeld ?_; try go_frame
            refine tF 18 o47c2b hHeld ?_; try go_frame
            refine tF 19 of9e4b hHeld ?_; try go_frame
            refine tF 20 o6be12 hHeld ?_; try go_frame
            refine tF 21 o44200 hHeld ?_; try go_frame
            refine tF 22 o953fc hHeld ?_; try go_frame
            refine tF 23 o263cf hHeld ?_; try go_frame
            refine tF 24 o7ccb6 hHeld ?_; try go_frame
            refine tF 25 o954c6 hHeld ?_; try go_frame
            refine tF 26 o6794c hHeld ?_; try go_frame
            refine tF 27 o87dd2 hHeld ?_; try go_frame
            refine tF 28 o55d76 hHeld ?_; try go_frame
            refine tF 29 o5a1ed hHeld ?_; try go_frame
            refine tF 30 o6cbfc hHeld ?_; try go_frame
            refine tF 31 o03879 hHeld ?_; try go_frame
            refine tF 32 o2fd4b hHeld ?_; try go_frame
            refine tF 33 ob3a4c hHeld ?_; try go_frame
            refine tF 34 o9b6c7 hHeld ?_; try go_frame
            refine tF 35 ofad4d hHeld ?_; try go_frame
            refine tF 36 o3488e hHeld ?_; try go_frame
            refine tF 37 ocd0bf hHeld ?_; try go_frame
            refine tF 38 o6f5c9 hHeld ?_; try go_frame
            refine tF 39 o261c3 hHeld ?_; try go_frame
            refine tF 40 oc1fa6 hHeld ?_; try go_frame
            refine tF 41 o7bd15 hHeld ?_; try go_frame
            refine tF 42 o81eb1 hHeld ?_; try go_frame
            refine tF 43 o80e28 hHeld ?_; try go_frame
            refine tF 44 o34a4a hHeld ?_; try go_frame
            refine tF 45 o027ce hHeld ?_; try go_frame
            refine tF 46 o6ef8c hHeld ?_; try go_frame
            refine tF 47 of6ecb hHeld ?_; try go_frame
            refine tF 48 o5736d hHeld ?_; try go_frame
            refine wpAnyF_done (by kernel_rfl) ?_ _
            clear hHeld
            go_wp2
            go_roundg (L1 - (r + 1))
            case measure => omega
            case rel => exact ⟨r + 1, rfl, by go_num, by omega, V1, HB1, fun r' h => by
             rcases Nat.lt_or_ge r' r with h2 | h2
             ·exact HI.out r' h2
             ·obtain rfl : r' = r := by omega
              exact HOK.out⟩
           ·have HR : Hid (okB M = false) := HNO.out (fun h => q5 (HT.out.1 h))
            have q5b : (t == 0) = false := by simpa using q5
            clear q5
            go_wp2_with fail
            have V1 := V.drew
            have cA1 : wr.drew.cell? ⟨bA, oA + r, none⟩ = some (.int .i64 x) := cA
            have cB1 : wr.drew.cell? ⟨bB, oB + r, none⟩ = some (.int .i64 y) := cB
            have HB1 := below_drew HB
            generalize hWd : wr.drew = wd at *
            refine wp_region_F (fun w' => w'.cell? ⟨b, 0, none⟩ = some (.int .i64 L1) ∧ w'.cell? ⟨b, 1, none⟩ = some (.slice (some ⟨bA, oA, none⟩) L1 c) ∧ w'.cell? ⟨b, 2, none⟩ = some (.slice (some ⟨bB, oB, none⟩) L1 c') ∧ w'.cell? ⟨bA, oA + r, none⟩ = some (.int .i64 x) ∧ w'.cell? ⟨bB, oB + r, none⟩ = some (.int .i64 y)) [] (by kernel_rfl) (by rw [hWd]; exact ⟨V1.c0, V1.c1, V1.c2, cA1, cB1⟩) (fun hHeld => ?_)
            rw [hWd] at hHeld ⊢
            refine tF 0 of6f50 hHeld ?_; try go_frame
            refine tF 1 ofec9f hHeld ?_; try go_frame
            refine tF 2 odc751 hHeld ?_; try go_frame
            refine tF 3 ofe912 hHeld ?_; try go_frame
            refine tF 4 oa17a9 hHeld ?_; try go_frame
            refine tF 5 oe4710 hHeld ?_; try go_frame
            refine tF 6 oc0abe hHeld ?_; try go_frame
            refine tF 7 o0916a hHeld ?_; try go_frame
            refine tF 8 od2427 hHeld ?_; try go_frame
            refine tF 9 ob9f76 hHeld ?_; try go_frame
            refine tF 10 o336bc hHeld ?_; try go_frame
            refine tF 11 oc4374 hHeld ?_; try go_frame
            refine tF 12 oea906 hHeld ?_; try go_frame
            refine tF 13 odf3f7 hHeld ?_; try go_frame
            refine tF 14 o5c1d7 hHeld ?_; try go_frame
            refine tF 15 oafdad hHeld ?_; try go_frame
            refine tF 16 o7d897 hHeld ?_; try go_frame
            refine tF 17 od54fe hHeld ?_; try go_frame
            refine tF 18 o47c2b hHeld ?_; try go_frame
            refine tF 19 of9e4b hHeld ?_; try go_frame
            refine tF 20 o6be12 hHeld ?_; try go_frame
            refine tF 21 o44200 hHeld ?_; try go_frame
            refine tF 22 o953fc hHeld ?_; try go_frame
            refine tF 23 o263cf hHeld ?_; try go_frame
            refine tF 24 o7ccb6 hHeld ?_; try go_frame
            refine tF 25 o954c6 hHeld ?_; try go_frame
            refine tF 26 o6794c hHeld ?_; try go_frame
            refine tF 27 o87dd2 hHeld ?_; try go_frame
            refine tF 28 o55d76 hHeld ?_; try go_frame
            refine tF 29 o5a1ed hHeld ?_; try go_frame
            refine tF 30 o6cbfc hHeld ?_; try go_frame
            refine tF 31 o03879 hHeld ?_; try go_frame
            refine tF 32 o2fd4b hHeld ?_; try go_frame
            refine tF 33 ob3a4c hHeld ?_; try go_frame
            refine tF 34 o9b6c7 hHeld ?_; try go_frame
            refine tF 35 ofad4d hHeld ?_; try go_frame
            refine tF 36 o3488e hHeld ?_; try go_frame
            refine tF 37 ocd0bf hHeld ?_; try go_frame
            refine tF 38 o6f5c9 hHeld ?_; try go_frame
            refine tF 39 o261c3 hHeld ?_; try go_frame
            refine tF 40 oc1fa6 hHeld ?_; try go_frame
            refine tF 41 o7bd15 hHeld ?_; try go_frame
            refine tF 42 o81eb1 hHeld ?_; try go_frame
            refine tF 43 o80e28 hHeld ?_; try go_frame
            refine tF 44 o34a4a hHeld ?_; try go_frame
            refine tF 45 o027ce hHeld ?_; try go_frame
            refine tF 46 o6ef8c hHeld ?_; try go_frame
            refine tF 47 of6ecb hHeld ?_; try go_frame
            refine tF 48 o5736d hHeld ?_; try go_frame
            refine wpAnyF_done (by kernel_rfl) ?_ _
            clear hHeld
            go_wp2
            go_ret
            exact ⟨by rw [HR.out] <;> rfl, by rw [hb0]; exact HB1⟩
      ·have HR : Hid (okB M = true) := by
        show _ = _
        rw [HR0.out, okRs_iff]
        exact fun r' h => HI.out r' (by omega)
       go_wp2
       go_ret
       exact ⟨by rw [HR.out] <;> rfl, by rw [hb0]; exact HB⟩
end Go.Proofs.YtibdipfhfaeooaaGreatDoor

