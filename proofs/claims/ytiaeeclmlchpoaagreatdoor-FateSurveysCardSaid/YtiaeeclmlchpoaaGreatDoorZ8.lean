/- What step.Valid does to memory and what it returns. No condition. -/
import Derived.Test.YtiaeeclmlchpoaaGreatDoorZ2
import Derived.Maps.RangeWalk
set_option linter.unusedVariables false
set_option linter.unusedSimpArgs false
namespace Go.Proofs.YtiaeeclmlchpoaaGreatDoor
open Go.RowKit

abbrev opf6f50bad : Oper := { dst := some 33, op := Go.Op.fieldAddr 24 (Go.Operand.tmp 1) 1, type := 0, pos := "step.go:16", after := #[], guard := none }
abbrev opfec9fbd3 : Oper := { dst := some 34, op := Go.Op.load 22 (Go.Operand.tmp 33), type := 22, pos := "step.go:16", after := #[{ on := 0, ground := Go.Ground.data }], guard := none }
abbrev opdc751262 : Oper := { dst := some 35, op := Go.Op.move (Go.Operand.tmp 3), type := 3, pos := "step.go:16", after := #[], guard := none }
abbrev opfe91221d : Oper := { dst := some 36, op := Go.Op.indexAddr 22 (Go.Operand.tmp 34) (Go.Operand.tmp 35), type := 0, pos := "step.go:16", after := #[{ on := 1, ground := Go.Ground.data }, { on := 2, ground := Go.Ground.data }], guard := none }
abbrev opa17a9525 : Oper := { dst := some 37, op := Go.Op.load 3 (Go.Operand.tmp 36), type := 3, pos := "step.go:16", after := #[{ on := 3, ground := Go.Ground.data }], guard := none }
abbrev ope471006d : Oper := { dst := some 38, op := Go.Op.binOp Go.BinOp.lss 3 (Go.Operand.tmp 37) (Go.Operand.const (Go.Value.int Go.IntKind.i64 1)) 3, type := 4, pos := "step.go:16", after := #[{ on := 4, ground := Go.Ground.data }], guard := none }
abbrev opc0abe06b : Oper := { dst := some 39, op := Go.Op.move (Go.Operand.tmp 38), type := 4, pos := "step.go:16", after := #[{ on := 5, ground := Go.Ground.data }], guard := none }
abbrev op0916a3f7 : Oper := { dst := some 40, op := Go.Op.fieldAddr 24 (Go.Operand.tmp 1) 1, type := 0, pos := "step.go:16", after := #[{ on := 6, ground := Go.Ground.guard }], guard := some (6, false) }
abbrev opd2427a63 : Oper := { dst := some 41, op := Go.Op.load 22 (Go.Operand.tmp 40), type := 22, pos := "step.go:16", after := #[{ on := 7, ground := Go.Ground.data }, { on := 6, ground := Go.Ground.guard }], guard := some (6, false) }
abbrev opb9f769c4 : Oper := { dst := some 42, op := Go.Op.move (Go.Operand.tmp 3), type := 3, pos := "step.go:16", after := #[{ on := 6, ground := Go.Ground.guard }], guard := some (6, false) }
abbrev op336bc7d6 : Oper := { dst := some 43, op := Go.Op.indexAddr 22 (Go.Operand.tmp 41) (Go.Operand.tmp 42), type := 0, pos := "step.go:16", after := #[{ on := 8, ground := Go.Ground.data }, { on := 9, ground := Go.Ground.data }, { on := 6, ground := Go.Ground.guard }], guard := some (6, false) }
abbrev opc4374836 : Oper := { dst := some 44, op := Go.Op.load 3 (Go.Operand.tmp 43), type := 3, pos := "step.go:16", after := #[{ on := 10, ground := Go.Ground.data }, { on := 6, ground := Go.Ground.guard }], guard := some (6, false) }
abbrev opea90698e : Oper := { dst := some 45, op := Go.Op.binOp Go.BinOp.gtr 3 (Go.Operand.tmp 44) (Go.Operand.const (Go.Value.int Go.IntKind.i64 999)) 3, type := 4, pos := "step.go:16", after := #[{ on := 11, ground := Go.Ground.data }, { on := 6, ground := Go.Ground.guard }], guard := some (6, false) }
abbrev opdf3f76a5 : Oper := { dst := some 46, op := Go.Op.pick (Go.Operand.tmp 39) (Go.Operand.const (Go.Value.bool true)) (Go.Operand.tmp 45), type := 4, pos := "step.go:16", after := #[{ on := 6, ground := Go.Ground.data }, { on := 12, ground := Go.Ground.data }], guard := none }
abbrev op5c1d7a25 : Oper := { dst := some 47, op := Go.Op.move (Go.Operand.tmp 46), type := 4, pos := "step.go:16", after := #[{ on := 13, ground := Go.Ground.data }, { on := 6, ground := Go.Ground.chain }], guard := none }
abbrev opafdad9eb : Oper := { dst := some 48, op := Go.Op.fieldAddr 24 (Go.Operand.tmp 1) 2, type := 0, pos := "step.go:16", after := #[{ on := 14, ground := Go.Ground.guard }], guard := some (14, false) }
abbrev op7d897505 : Oper := { dst := some 49, op := Go.Op.load 22 (Go.Operand.tmp 48), type := 22, pos := "step.go:16", after := #[{ on := 15, ground := Go.Ground.data }, { on := 14, ground := Go.Ground.guard }], guard := some (14, false) }
abbrev opd54fe462 : Oper := { dst := some 50, op := Go.Op.move (Go.Operand.tmp 3), type := 3, pos := "step.go:16", after := #[{ on := 14, ground := Go.Ground.guard }], guard := some (14, false) }
abbrev op47c2bc4d : Oper := { dst := some 51, op := Go.Op.indexAddr 22 (Go.Operand.tmp 49) (Go.Operand.tmp 50), type := 0, pos := "step.go:16", after := #[{ on := 16, ground := Go.Ground.data }, { on := 17, ground := Go.Ground.data }, { on := 14, ground := Go.Ground.guard }], guard := some (14, false) }
abbrev opf9e4b20e : Oper := { dst := some 52, op := Go.Op.load 3 (Go.Operand.tmp 51), type := 3, pos := "step.go:16", after := #[{ on := 18, ground := Go.Ground.data }, { on := 14, ground := Go.Ground.guard }], guard := some (14, false) }
abbrev op6be12908 : Oper := { dst := some 53, op := Go.Op.binOp Go.BinOp.lss 3 (Go.Operand.tmp 52) (Go.Operand.const (Go.Value.int Go.IntKind.i64 (-999999))) 3, type := 4, pos := "step.go:16", after := #[{ on := 19, ground := Go.Ground.data }, { on := 14, ground := Go.Ground.guard }], guard := some (14, false) }
abbrev op44200171 : Oper := { dst := some 54, op := Go.Op.pick (Go.Operand.tmp 47) (Go.Operand.const (Go.Value.bool true)) (Go.Operand.tmp 53), type := 4, pos := "step.go:16", after := #[{ on := 14, ground := Go.Ground.data }, { on := 20, ground := Go.Ground.data }], guard := none }
abbrev op953fc2eb : Oper := { dst := some 55, op := Go.Op.move (Go.Operand.tmp 54), type := 4, pos := "step.go:16", after := #[{ on := 21, ground := Go.Ground.data }, { on := 14, ground := Go.Ground.chain }], guard := none }
abbrev op263cfc1f : Oper := { dst := some 56, op := Go.Op.fieldAddr 24 (Go.Operand.tmp 1) 2, type := 0, pos := "step.go:16", after := #[{ on := 22, ground := Go.Ground.guard }], guard := some (22, false) }
abbrev op7ccb6552 : Oper := { dst := some 57, op := Go.Op.load 22 (Go.Operand.tmp 56), type := 22, pos := "step.go:16", after := #[{ on := 23, ground := Go.Ground.data }, { on := 22, ground := Go.Ground.guard }], guard := some (22, false) }
abbrev op954c6ff4 : Oper := { dst := some 58, op := Go.Op.move (Go.Operand.tmp 3), type := 3, pos := "step.go:16", after := #[{ on := 22, ground := Go.Ground.guard }], guard := some (22, false) }
abbrev op6794c89b : Oper := { dst := some 59, op := Go.Op.indexAddr 22 (Go.Operand.tmp 57) (Go.Operand.tmp 58), type := 0, pos := "step.go:16", after := #[{ on := 24, ground := Go.Ground.data }, { on := 25, ground := Go.Ground.data }, { on := 22, ground := Go.Ground.guard }], guard := some (22, false) }
abbrev op87dd2451 : Oper := { dst := some 60, op := Go.Op.load 3 (Go.Operand.tmp 59), type := 3, pos := "step.go:16", after := #[{ on := 26, ground := Go.Ground.data }, { on := 22, ground := Go.Ground.guard }], guard := some (22, false) }
abbrev op55d76491 : Oper := { dst := some 61, op := Go.Op.binOp Go.BinOp.gtr 3 (Go.Operand.tmp 60) (Go.Operand.const (Go.Value.int Go.IntKind.i64 999999)) 3, type := 4, pos := "step.go:16", after := #[{ on := 27, ground := Go.Ground.data }, { on := 22, ground := Go.Ground.guard }], guard := some (22, false) }
abbrev op5a1ed440 : Oper := { dst := some 62, op := Go.Op.pick (Go.Operand.tmp 55) (Go.Operand.const (Go.Value.bool true)) (Go.Operand.tmp 61), type := 4, pos := "step.go:16", after := #[{ on := 22, ground := Go.Ground.data }, { on := 28, ground := Go.Ground.data }], guard := none }
abbrev op6cbfc3d4 : Oper := { dst := some 63, op := Go.Op.move (Go.Operand.tmp 62), type := 4, pos := "step.go:16", after := #[{ on := 29, ground := Go.Ground.data }, { on := 22, ground := Go.Ground.chain }], guard := none }
abbrev op03879ad8 : Oper := { dst := some 64, op := Go.Op.fieldAddr 24 (Go.Operand.tmp 1) 1, type := 0, pos := "step.go:16", after := #[{ on := 30, ground := Go.Ground.guard }], guard := some (30, false) }
abbrev op2fd4be1d : Oper := { dst := some 65, op := Go.Op.load 22 (Go.Operand.tmp 64), type := 22, pos := "step.go:16", after := #[{ on := 31, ground := Go.Ground.data }, { on := 30, ground := Go.Ground.guard }], guard := some (30, false) }
abbrev opb3a4c920 : Oper := { dst := some 66, op := Go.Op.move (Go.Operand.tmp 3), type := 3, pos := "step.go:16", after := #[{ on := 30, ground := Go.Ground.guard }], guard := some (30, false) }
abbrev op9b6c763c : Oper := { dst := some 67, op := Go.Op.indexAddr 22 (Go.Operand.tmp 65) (Go.Operand.tmp 66), type := 0, pos := "step.go:16", after := #[{ on := 32, ground := Go.Ground.data }, { on := 33, ground := Go.Ground.data }, { on := 30, ground := Go.Ground.guard }], guard := some (30, false) }
abbrev opfad4d3cd : Oper := { dst := some 68, op := Go.Op.load 3 (Go.Operand.tmp 67), type := 3, pos := "step.go:16", after := #[{ on := 34, ground := Go.Ground.data }, { on := 30, ground := Go.Ground.guard }], guard := some (30, false) }
abbrev op3488e887 : Oper := { dst := some 69, op := Go.Op.move (Go.Operand.tmp 3), type := 3, pos := "step.go:16", after := #[{ on := 30, ground := Go.Ground.guard }], guard := some (30, false) }
abbrev opcd0bfc77 : Oper := { dst := some 70, op := Go.Op.binOp Go.BinOp.mul 3 (Go.Operand.tmp 68) (Go.Operand.tmp 69) 3, type := 3, pos := "step.go:16", after := #[{ on := 35, ground := Go.Ground.data }, { on := 36, ground := Go.Ground.data }, { on := 30, ground := Go.Ground.guard }], guard := some (30, false) }
abbrev op6f5c92e1 : Oper := { dst := some 71, op := Go.Op.fieldAddr 24 (Go.Operand.tmp 1) 2, type := 0, pos := "step.go:16", after := #[{ on := 30, ground := Go.Ground.guard }], guard := some (30, false) }
abbrev op261c3369 : Oper := { dst := some 72, op := Go.Op.load 22 (Go.Operand.tmp 71), type := 22, pos := "step.go:16", after := #[{ on := 38, ground := Go.Ground.data }, { on := 30, ground := Go.Ground.guard }], guard := some (30, false) }
abbrev opc1fa65b9 : Oper := { dst := some 73, op := Go.Op.move (Go.Operand.tmp 3), type := 3, pos := "step.go:16", after := #[{ on := 30, ground := Go.Ground.guard }], guard := some (30, false) }
abbrev op7bd15cba : Oper := { dst := some 74, op := Go.Op.indexAddr 22 (Go.Operand.tmp 72) (Go.Operand.tmp 73), type := 0, pos := "step.go:16", after := #[{ on := 39, ground := Go.Ground.data }, { on := 40, ground := Go.Ground.data }, { on := 30, ground := Go.Ground.guard }], guard := some (30, false) }
abbrev op81eb16be : Oper := { dst := some 75, op := Go.Op.load 3 (Go.Operand.tmp 74), type := 3, pos := "step.go:16", after := #[{ on := 41, ground := Go.Ground.data }, { on := 30, ground := Go.Ground.guard }], guard := some (30, false) }
abbrev op80e285af : Oper := { dst := some 76, op := Go.Op.binOp Go.BinOp.add 3 (Go.Operand.tmp 70) (Go.Operand.tmp 75) 3, type := 3, pos := "step.go:16", after := #[{ on := 37, ground := Go.Ground.data }, { on := 42, ground := Go.Ground.data }, { on := 30, ground := Go.Ground.guard }], guard := some (30, false) }
abbrev op34a4a282 : Oper := { dst := some 77, op := Go.Op.fieldAddr 24 (Go.Operand.tmp 1) 0, type := 0, pos := "step.go:16", after := #[{ on := 30, ground := Go.Ground.guard }], guard := some (30, false) }
abbrev op027ce521 : Oper := { dst := some 78, op := Go.Op.load 3 (Go.Operand.tmp 77), type := 3, pos := "step.go:16", after := #[{ on := 44, ground := Go.Ground.data }, { on := 30, ground := Go.Ground.guard }], guard := some (30, false) }
abbrev op6ef8c42a : Oper := { dst := some 79, op := Go.Op.binOp Go.BinOp.rem 3 (Go.Operand.tmp 76) (Go.Operand.tmp 78) 3, type := 3, pos := "step.go:16", after := #[{ on := 43, ground := Go.Ground.data }, { on := 45, ground := Go.Ground.data }, { on := 30, ground := Go.Ground.guard }], guard := some (30, false) }
abbrev opf6ecbe67 : Oper := { dst := some 80, op := Go.Op.binOp Go.BinOp.neq 3 (Go.Operand.tmp 79) (Go.Operand.const (Go.Value.int Go.IntKind.i64 0)) 3, type := 4, pos := "step.go:16", after := #[{ on := 46, ground := Go.Ground.data }, { on := 30, ground := Go.Ground.guard }], guard := some (30, false) }
abbrev op5736d430 : Oper := { dst := some 81, op := Go.Op.pick (Go.Operand.tmp 63) (Go.Operand.const (Go.Value.bool true)) (Go.Operand.tmp 80), type := 4, pos := "step.go:16", after := #[{ on := 30, ground := Go.Ground.data }, { on := 47, ground := Go.Ground.data }], guard := none }
attribute [local go_sem] opf6f50bad opfec9fbd3 opdc751262 opfe91221d opa17a9525 ope471006d opc0abe06b op0916a3f7 opd2427a63 opb9f769c4 op336bc7d6 opc4374836 opea90698e opdf3f76a5 op5c1d7a25 opafdad9eb op7d897505 opd54fe462 op47c2bc4d opf9e4b20e op6be12908 op44200171 op953fc2eb op263cfc1f op7ccb6552 op954c6ff4 op6794c89b op87dd2451 op55d76491 op5a1ed440 op6cbfc3d4 op03879ad8 op2fd4be1d opb3a4c920 op9b6c763c opfad4d3cd op3488e887 opcd0bfc77 op6f5c92e1 op261c3369 opc1fa65b9 op7bd15cba op81eb16be op80e285af op34a4a282 op027ce521 op6ef8c42a opf6ecbe67 op5736d430
set_option maxRecDepth 100000 in
set_option maxHeartbeats 4000000 in
theorem SValid_c (M : Mp) (v : Value) (w : World) (h : IsM w v M) :
    Calls Tryz.prog 22 #[v] w fun e w' => e = .returned (.bool (okB M)) ∧ Below w.heap.size w w' := by
  obtain ⟨A, c, A', c', rfl, HA, HA'⟩ := h
  have hcl := HA.2
  have hcl' := HA'.2
  have H1 := Lib.hid HA
  have H2 := Lib.hid HA'
  clear HA HA'
  generalize hw1 : M.mul.length = L1 at *
  generalize hw2 : M.add.length = L2 at *
  have HL1 := Lib.hid hw1
  have HL2 := Lib.hid hw2
  clear hw1 hw2
  have hB : ∀ o n, Below w.heap.size w ((w.alloc o).drewN n) := fun o n => below_drewN (below_alloc (Below.refl _ _) _) n
  obtain ⟨m, hm⟩ : ∃ m, M.mod = m := ⟨_, rfl⟩
  rw [hm]
  have HM := Lib.hid hm
  clear hm
  by_cases h1 : m < 2
  · have HR : Hid (okB M = false) := by show _ = _; unfold okB; rw [HM.out, decide_eq_false (show ¬ 2 ≤ m by omega)]; simp
    go_enter Tryz.func22, Tryz.ntmps22
    go_wp2
    go_ret
    exact ⟨by rw [HR.out] <;> rfl, below_alloc (Below.refl _ _) _⟩
  · by_cases h2 : 12 < m
    · have HR : Hid (okB M = false) := by show _ = _; unfold okB; rw [HM.out, decide_eq_false (show ¬ m ≤ 12 by omega)]; simp
      go_enter Tryz.func22, Tryz.ntmps22
      go_wp2
      go_ret
      exact ⟨by rw [HR.out] <;> rfl, below_alloc (Below.refl _ _) _⟩
    · by_cases h3 : (L1 : Int) = m
      rotate_left
      · have HR : Hid (okB M = false) := by show _ = _; unfold okB; rw [HM.out, HL1.out, decide_eq_false h3]; simp
        have h3b : ((L1 : Int) == m) = false := by simpa using h3
        go_enter Tryz.func22, Tryz.ntmps22
        go_wp2
        go_ret
        exact ⟨by rw [HR.out] <;> rfl, below_alloc (Below.refl _ _) _⟩
      · by_cases h4 : (L2 : Int) = m
        rotate_left
        · have HR : Hid (okB M = false) := by show _ = _; unfold okB; rw [HM.out, HL2.out, decide_eq_false h4]; simp
          have h4b : ((L2 : Int) == m) = false := by simpa using h4
          subst h3
          go_enter Tryz.func22, Tryz.ntmps22
          go_wp2
          go_ret
          exact ⟨by rw [HR.out] <;> rfl, below_alloc (Below.refl _ _) _⟩
        · obtain ⟨m', rfl⟩ := Int.eq_ofNat_of_zero_le (show 0 ≤ m by omega)
          have hl1 : L1 = m' := by omega
          have hl2 : m' = L2 := by omega
          subst hl1
          clear h3 h4
          subst hl2
          have HR0 : Hid (okB M = okRs M L1) := by show _ = _; unfold okB; rw [HM.out, HL1.out, HL2.out, decide_eq_true (show 2 ≤ (L1 : Int) by omega), decide_eq_true (show (L1 : Int) ≤ 12 by omega)]; simp
          have hVM : VM (w.alloc (Obj.cells #[Value.int .i64 L1, Value.slice A L1 c, Value.slice A' L1 c'] 24)) w.heap.size L1 A L1 c A' L1 c' M := VM.new w _ ⟨A, c, A', c', by rw [HM.out, HL1.out, HL2.out], H1.out, H2.out⟩
          have HB := below_alloc (Below.refl w.heap.size w) (Obj.cells #[Value.int .i64 L1, Value.slice A L1 c, Value.slice A' L1 c'] 24)
          clear HM
          go_enter Tryz.func22, Tryz.ntmps22
          go_wp2_with fail
          generalize hW : (w.alloc (Obj.cells #[Value.int .i64 L1, Value.slice A L1 c, Value.slice A' L1 c'] 24)) = W at *
          generalize hb0 : w.heap.size = b at *
          clear hW hB
          go_loopg [30] L1 (fun g iv wr => ∃ (r : Nat), g = L1 - r ∧ iv = .int .i64 r ∧ r ≤ L1 ∧ VM wr b L1 A L1 c A' L1 c' M ∧ Below b w wr ∧ Hid (∀ r', r' < r → okR M r'))
          case atStart => exact ⟨0, rfl, rfl, by omega, hVM, HB, fun r' h => absurd h (by omega)⟩
          case round =>
            clear hVM HB
            obtain ⟨r, hgk, rfl, hr, V, HB, HI⟩ := hrel
            have c0 := V.c0
            have c1 := V.c1
            have c2 := V.c2
            by_cases hrl : r < L1
            · obtain ⟨-, -, -, s1, s2⟩ := V.sl
              obtain ⟨bA, oA, rfl, hlA, cA⟩ := s1.cell (j := r) (by rw [HL1.out]; exact hrl)
              obtain ⟨bB, oB, rfl, hlB, cB⟩ := s2.cell (j := r) (by rw [HL2.out]; exact hrl)
              clear s1 s2
              obtain ⟨x, hx⟩ : ∃ x, gd M.mul r = x := ⟨_, rfl⟩
              obtain ⟨y, hy⟩ : ∃ y, gd M.add r = y := ⟨_, rfl⟩
              rw [hx] at cA
              rw [hy] at cB
              have HX := Lib.hid hx
              have HY := Lib.hid hy
              clear hx hy
              have hi0 : (0 : Int) ≤ (r : Int) := by omega
              have hi1 : (r : Int) < (L1 : Int) := by omega
              have HNO : Hid (¬ okR M r → okB M = false) := fun h => by
                rw [HR0.out]
                cases ho : okRs M L1 with
                | false => rfl
                | true => exact absurd (okRs_iff.1 ho r hrl) h
              by_cases q1 : x < 1
              · have HR : Hid (okB M = false) := HNO.out (fun h => by have := h.1; rw [HX.out] at this; omega)

                go_wp2_with fail
                have V1 := V.drew
                have cA1 : wr.drew.cell? ⟨bA, oA + r, none⟩ = some (.int .i64 x) := cA
                have cB1 : wr.drew.cell? ⟨bB, oB + r, none⟩ = some (.int .i64 y) := cB
                have HB1 := below_drew HB
                generalize hWd : wr.drew = wd at *
                refine wp_region_F (fun w' => w'.cell? ⟨b, 0, none⟩ = some (.int .i64 L1) ∧ w'.cell? ⟨b, 1, none⟩ = some (.slice (some ⟨bA, oA, none⟩) L1 c) ∧ w'.cell? ⟨b, 2, none⟩ = some (.slice (some ⟨bB, oB, none⟩) L1 c') ∧ w'.cell? ⟨bA, oA + r, none⟩ = some (.int .i64 x) ∧ w'.cell? ⟨bB, oB + r, none⟩ = some (.int .i64 y)) [] (by kernel_rfl) (by rw [hWd]; exact ⟨V1.c0, V1.c1, V1.c2, cA1, cB1⟩) (fun hHeld => ?_)
                rw [hWd] at hHeld ⊢
                refine wpF_t (i := 0) (oi := opf6f50bad) (v := ?_) rfl (by kernel_rfl) (fun _ _ _ h => h) (Or.inl ⟨by rfl, ?_⟩) hHeld ?_; rotate_left
                · intro w_ hSw_; (try dsimp only at hSw_); go_simp; (try with_reducible rfl)
                try go_frame
                refine wpF_t (i := 1) (oi := opfec9fbd3) (v := ?_) rfl (by kernel_rfl) (fun _ _ _ h => h) (Or.inl ⟨by rfl, ?_⟩) hHeld ?_; rotate_left
                · intro w_ hSw_; (try dsimp only at hSw_); go_simp; (try with_reducible rfl)
                try go_frame
                refine wpF_t (i := 2) (oi := opdc751262) (v := ?_) rfl (by kernel_rfl) (fun _ _ _ h => h) (Or.inl ⟨by rfl, ?_⟩) hHeld ?_; rotate_left
                · intro w_ hSw_; (try dsimp only at hSw_); go_simp; (try with_reducible rfl)
                try go_frame
                refine wpF_t (i := 3) (oi := opfe91221d) (v := ?_) rfl (by kernel_rfl) (fun _ _ _ h => h) (Or.inl ⟨by rfl, ?_⟩) hHeld ?_; rotate_left
                · intro w_ hSw_; (try dsimp only at hSw_); go_simp; (try with_reducible rfl)
                try go_frame
                refine wpF_t (i := 4) (oi := opa17a9525) (v := ?_) rfl (by kernel_rfl) (fun _ _ _ h => h) (Or.inl ⟨by rfl, ?_⟩) hHeld ?_; rotate_left
                · intro w_ hSw_; (try dsimp only at hSw_); go_simp; (try with_reducible rfl)
                try go_frame
                refine wpF_t (i := 5) (oi := ope471006d) (v := ?_) rfl (by kernel_rfl) (fun _ _ _ h => h) (Or.inl ⟨by rfl, ?_⟩) hHeld ?_; rotate_left
                · intro w_ hSw_; (try dsimp only at hSw_); go_simp; (try with_reducible rfl)
                try go_frame
                refine wpF_t (i := 6) (oi := opc0abe06b) (v := ?_) rfl (by kernel_rfl) (fun _ _ _ h => h) (Or.inl ⟨by rfl, ?_⟩) hHeld ?_; rotate_left
                · intro w_ hSw_; (try dsimp only at hSw_); go_simp; (try with_reducible rfl)
                try go_frame
                refine wpF_t (i := 7) (oi := op0916a3f7) rfl (by kernel_rfl) (fun _ _ _ h => h) (Or.inr ⟨by rfl, rfl⟩) hHeld ?_
                try go_frame
                refine wpF_t (i := 8) (oi := opd2427a63) rfl (by kernel_rfl) (fun _ _ _ h => h) (Or.inr ⟨by rfl, rfl⟩) hHeld ?_
                try go_frame
                refine wpF_t (i := 9) (oi := opb9f769c4) rfl (by kernel_rfl) (fun _ _ _ h => h) (Or.inr ⟨by rfl, rfl⟩) hHeld ?_
                try go_frame
                refine wpF_t (i := 10) (oi := op336bc7d6) rfl (by kernel_rfl) (fun _ _ _ h => h) (Or.inr ⟨by rfl, rfl⟩) hHeld ?_
                try go_frame
                refine wpF_t (i := 11) (oi := opc4374836) rfl (by kernel_rfl) (fun _ _ _ h => h) (Or.inr ⟨by rfl, rfl⟩) hHeld ?_
                try go_frame
                refine wpF_t (i := 12) (oi := opea90698e) rfl (by kernel_rfl) (fun _ _ _ h => h) (Or.inr ⟨by rfl, rfl⟩) hHeld ?_
                try go_frame
                refine wpF_t (i := 13) (oi := opdf3f76a5) (v := ?_) rfl (by kernel_rfl) (fun _ _ _ h => h) (Or.inl ⟨by rfl, ?_⟩) hHeld ?_; rotate_left
                · intro w_ hSw_; (try dsimp only at hSw_); go_simp; (try with_reducible rfl)
                try go_frame
                refine wpF_t (i := 14) (oi := op5c1d7a25) (v := ?_) rfl (by kernel_rfl) (fun _ _ _ h => h) (Or.inl ⟨by rfl, ?_⟩) hHeld ?_; rotate_left
                · intro w_ hSw_; (try dsimp only at hSw_); go_simp; (try with_reducible rfl)
                try go_frame
                refine wpF_t (i := 15) (oi := opafdad9eb) rfl (by kernel_rfl) (fun _ _ _ h => h) (Or.inr ⟨by rfl, rfl⟩) hHeld ?_
                try go_frame
                refine wpF_t (i := 16) (oi := op7d897505) rfl (by kernel_rfl) (fun _ _ _ h => h) (Or.inr ⟨by rfl, rfl⟩) hHeld ?_
                try go_frame
                refine wpF_t (i := 17) (oi := opd54fe462) rfl (by kernel_rfl) (fun _ _ _ h => h) (Or.inr ⟨by rfl, rfl⟩) hHeld ?_
                try go_frame
                refine wpF_t (i := 18) (oi := op47c2bc4d) rfl (by kernel_rfl) (fun _ _ _ h => h) (Or.inr ⟨by rfl, rfl⟩) hHeld ?_
                try go_frame
                refine wpF_t (i := 19) (oi := opf9e4b20e) rfl (by kernel_rfl) (fun _ _ _ h => h) (Or.inr ⟨by rfl, rfl⟩) hHeld ?_
                try go_frame
                refine wpF_t (i := 20) (oi := op6be12908) rfl (by kernel_rfl) (fun _ _ _ h => h) (Or.inr ⟨by rfl, rfl⟩) hHeld ?_
                try go_frame
                refine wpF_t (i := 21) (oi := op44200171) (v := ?_) rfl (by kernel_rfl) (fun _ _ _ h => h) (Or.inl ⟨by rfl, ?_⟩) hHeld ?_; rotate_left
                · intro w_ hSw_; (try dsimp only at hSw_); go_simp; (try with_reducible rfl)
                try go_frame
                refine wpF_t (i := 22) (oi := op953fc2eb) (v := ?_) rfl (by kernel_rfl) (fun _ _ _ h => h) (Or.inl ⟨by rfl, ?_⟩) hHeld ?_; rotate_left
                · intro w_ hSw_; (try dsimp only at hSw_); go_simp; (try with_reducible rfl)
                try go_frame
                refine wpF_t (i := 23) (oi := op263cfc1f) rfl (by kernel_rfl) (fun _ _ _ h => h) (Or.inr ⟨by rfl, rfl⟩) hHeld ?_
                try go_frame
                refine wpF_t (i := 24) (oi := op7ccb6552) rfl (by kernel_rfl) (fun _ _ _ h => h) (Or.inr ⟨by rfl, rfl⟩) hHeld ?_
                try go_frame
                refine wpF_t (i := 25) (oi := op954c6ff4) rfl (by kernel_rfl) (fun _ _ _ h => h) (Or.inr ⟨by rfl, rfl⟩) hHeld ?_
                try go_frame
                refine wpF_t (i := 26) (oi := op6794c89b) rfl (by kernel_rfl) (fun _ _ _ h => h) (Or.inr ⟨by rfl, rfl⟩) hHeld ?_
                try go_frame
                refine wpF_t (i := 27) (oi := op87dd2451) rfl (by kernel_rfl) (fun _ _ _ h => h) (Or.inr ⟨by rfl, rfl⟩) hHeld ?_
                try go_frame
                refine wpF_t (i := 28) (oi := op55d76491) rfl (by kernel_rfl) (fun _ _ _ h => h) (Or.inr ⟨by rfl, rfl⟩) hHeld ?_
                try go_frame
                refine wpF_t (i := 29) (oi := op5a1ed440) (v := ?_) rfl (by kernel_rfl) (fun _ _ _ h => h) (Or.inl ⟨by rfl, ?_⟩) hHeld ?_; rotate_left
                · intro w_ hSw_; (try dsimp only at hSw_); go_simp; (try with_reducible rfl)
                try go_frame
                refine wpF_t (i := 30) (oi := op6cbfc3d4) (v := ?_) rfl (by kernel_rfl) (fun _ _ _ h => h) (Or.inl ⟨by rfl, ?_⟩) hHeld ?_; rotate_left
                · intro w_ hSw_; (try dsimp only at hSw_); go_simp; (try with_reducible rfl)
                try go_frame
                refine wpF_t (i := 31) (oi := op03879ad8) rfl (by kernel_rfl) (fun _ _ _ h => h) (Or.inr ⟨by rfl, rfl⟩) hHeld ?_
                try go_frame
                refine wpF_t (i := 32) (oi := op2fd4be1d) rfl (by kernel_rfl) (fun _ _ _ h => h) (Or.inr ⟨by rfl, rfl⟩) hHeld ?_
                try go_frame
                refine wpF_t (i := 33) (oi := opb3a4c920) rfl (by kernel_rfl) (fun _ _ _ h => h) (Or.inr ⟨by rfl, rfl⟩) hHeld ?_
                try go_frame
                refine wpF_t (i := 34) (oi := op9b6c763c) rfl (by kernel_rfl) (fun _ _ _ h => h) (Or.inr ⟨by rfl, rfl⟩) hHeld ?_
                try go_frame
                refine wpF_t (i := 35) (oi := opfad4d3cd) rfl (by kernel_rfl) (fun _ _ _ h => h) (Or.inr ⟨by rfl, rfl⟩) hHeld ?_
                try go_frame
                refine wpF_t (i := 36) (oi := op3488e887) rfl (by kernel_rfl) (fun _ _ _ h => h) (Or.inr ⟨by rfl, rfl⟩) hHeld ?_
                try go_frame
                refine wpF_t (i := 37) (oi := opcd0bfc77) rfl (by kernel_rfl) (fun _ _ _ h => h) (Or.inr ⟨by rfl, rfl⟩) hHeld ?_
                try go_frame
                refine wpF_t (i := 38) (oi := op6f5c92e1) rfl (by kernel_rfl) (fun _ _ _ h => h) (Or.inr ⟨by rfl, rfl⟩) hHeld ?_
                try go_frame
                refine wpF_t (i := 39) (oi := op261c3369) rfl (by kernel_rfl) (fun _ _ _ h => h) (Or.inr ⟨by rfl, rfl⟩) hHeld ?_
                try go_frame
                refine wpF_t (i := 40) (oi := opc1fa65b9) rfl (by kernel_rfl) (fun _ _ _ h => h) (Or.inr ⟨by rfl, rfl⟩) hHeld ?_
                try go_frame
                refine wpF_t (i := 41) (oi := op7bd15cba) rfl (by kernel_rfl) (fun _ _ _ h => h) (Or.inr ⟨by rfl, rfl⟩) hHeld ?_
                try go_frame
                refine wpF_t (i := 42) (oi := op81eb16be) rfl (by kernel_rfl) (fun _ _ _ h => h) (Or.inr ⟨by rfl, rfl⟩) hHeld ?_
                try go_frame
                refine wpF_t (i := 43) (oi := op80e285af) rfl (by kernel_rfl) (fun _ _ _ h => h) (Or.inr ⟨by rfl, rfl⟩) hHeld ?_
                try go_frame
                refine wpF_t (i := 44) (oi := op34a4a282) rfl (by kernel_rfl) (fun _ _ _ h => h) (Or.inr ⟨by rfl, rfl⟩) hHeld ?_
                try go_frame
                refine wpF_t (i := 45) (oi := op027ce521) rfl (by kernel_rfl) (fun _ _ _ h => h) (Or.inr ⟨by rfl, rfl⟩) hHeld ?_
                try go_frame
                refine wpF_t (i := 46) (oi := op6ef8c42a) rfl (by kernel_rfl) (fun _ _ _ h => h) (Or.inr ⟨by rfl, rfl⟩) hHeld ?_
                try go_frame
                refine wpF_t (i := 47) (oi := opf6ecbe67) rfl (by kernel_rfl) (fun _ _ _ h => h) (Or.inr ⟨by rfl, rfl⟩) hHeld ?_
                try go_frame
                refine wpF_t (i := 48) (oi := op5736d430) (v := ?_) rfl (by kernel_rfl) (fun _ _ _ h => h) (Or.inl ⟨by rfl, ?_⟩) hHeld ?_; rotate_left
                · intro w_ hSw_; (try dsimp only at hSw_); go_simp; (try with_reducible rfl)
                try go_frame
                refine wpAnyF_done (by kernel_rfl) ?_ _
                clear hHeld
                go_wp2
                go_ret
                exact ⟨by rw [HR.out] <;> rfl, by rw [hb0]; exact HB1⟩
              · have q1b : decide (x < 1) = false := decide_eq_false q1
                by_cases q2 : 999 < x
                · have HR : Hid (okB M = false) := HNO.out (fun h => by have := h.2.1; rw [HX.out] at this; omega)
                  go_wp2_with fail
                  have V1 := V.drew
                  have cA1 : wr.drew.cell? ⟨bA, oA + r, none⟩ = some (.int .i64 x) := cA
                  have cB1 : wr.drew.cell? ⟨bB, oB + r, none⟩ = some (.int .i64 y) := cB
                  have HB1 := below_drew HB
                  generalize hWd : wr.drew = wd at *
                  refine wp_region_F (fun w' => w'.cell? ⟨b, 0, none⟩ = some (.int .i64 L1) ∧ w'.cell? ⟨b, 1, none⟩ = some (.slice (some ⟨bA, oA, none⟩) L1 c) ∧ w'.cell? ⟨b, 2, none⟩ = some (.slice (some ⟨bB, oB, none⟩) L1 c') ∧ w'.cell? ⟨bA, oA + r, none⟩ = some (.int .i64 x) ∧ w'.cell? ⟨bB, oB + r, none⟩ = some (.int .i64 y)) [] (by kernel_rfl) (by rw [hWd]; exact ⟨V1.c0, V1.c1, V1.c2, cA1, cB1⟩) (fun hHeld => ?_)
                  rw [hWd] at hHeld ⊢
                  refine wpF_t (i := 0) (oi := opf6f50bad) (v := ?_) rfl (by kernel_rfl) (fun _ _ _ h => h) (Or.inl ⟨by rfl, ?_⟩) hHeld ?_; rotate_left
                  · intro w_ hSw_; (try dsimp only at hSw_); go_simp; (try with_reducible rfl)
                  try go_frame
                  refine wpF_t (i := 1) (oi := opfec9fbd3) (v := ?_) rfl (by kernel_rfl) (fun _ _ _ h => h) (Or.inl ⟨by rfl, ?_⟩) hHeld ?_; rotate_left
                  · intro w_ hSw_; (try dsimp only at hSw_); go_simp; (try with_reducible rfl)
                  try go_frame
                  refine wpF_t (i := 2) (oi := opdc751262) (v := ?_) rfl (by kernel_rfl) (fun _ _ _ h => h) (Or.inl ⟨by rfl, ?_⟩) hHeld ?_; rotate_left
                  · intro w_ hSw_; (try dsimp only at hSw_); go_simp; (try with_reducible rfl)
                  try go_frame
                  refine wpF_t (i := 3) (oi := opfe91221d) (v := ?_) rfl (by kernel_rfl) (fun _ _ _ h => h) (Or.inl ⟨by rfl, ?_⟩) hHeld ?_; rotate_left
                  · intro w_ hSw_; (try dsimp only at hSw_); go_simp; (try with_reducible rfl)
                  try go_frame
                  refine wpF_t (i := 4) (oi := opa17a9525) (v := ?_) rfl (by kernel_rfl) (fun _ _ _ h => h) (Or.inl ⟨by rfl, ?_⟩) hHeld ?_; rotate_left
                  · intro w_ hSw_; (try dsimp only at hSw_); go_simp; (try with_reducible rfl)
                  try go_frame
                  refine wpF_t (i := 5) (oi := ope471006d) (v := ?_) rfl (by kernel_rfl) (fun _ _ _ h => h) (Or.inl ⟨by rfl, ?_⟩) hHeld ?_; rotate_left
                  · intro w_ hSw_; (try dsimp only at hSw_); go_simp; (try with_reducible rfl)
                  try go_frame
                  refine wpF_t (i := 6) (oi := opc0abe06b) (v := ?_) rfl (by kernel_rfl) (fun _ _ _ h => h) (Or.inl ⟨by rfl, ?_⟩) hHeld ?_; rotate_left
                  · intro w_ hSw_; (try dsimp only at hSw_); go_simp; (try with_reducible rfl)
                  try go_frame
                  refine wpF_t (i := 7) (oi := op0916a3f7) (v := ?_) rfl (by kernel_rfl) (fun _ _ _ h => h) (Or.inl ⟨by rfl, ?_⟩) hHeld ?_; rotate_left
                  · intro w_ hSw_; (try dsimp only at hSw_); go_simp; (try with_reducible rfl)
                  try go_frame
                  refine wpF_t (i := 8) (oi := opd2427a63) (v := ?_) rfl (by kernel_rfl) (fun _ _ _ h => h) (Or.inl ⟨by rfl, ?_⟩) hHeld ?_; rotate_left
                  · intro w_ hSw_; (try dsimp only at hSw_); go_simp; (try with_reducible rfl)
                  try go_frame
                  refine wpF_t (i := 9) (oi := opb9f769c4) (v := ?_) rfl (by kernel_rfl) (fun _ _ _ h => h) (Or.inl ⟨by rfl, ?_⟩) hHeld ?_; rotate_left
                  · intro w_ hSw_; (try dsimp only at hSw_); go_simp; (try with_reducible rfl)
                  try go_frame
                  refine wpF_t (i := 10) (oi := op336bc7d6) (v := ?_) rfl (by kernel_rfl) (fun _ _ _ h => h) (Or.inl ⟨by rfl, ?_⟩) hHeld ?_; rotate_left
                  · intro w_ hSw_; (try dsimp only at hSw_); go_simp; (try with_reducible rfl)
                  try go_frame
                  refine wpF_t (i := 11) (oi := opc4374836) (v := ?_) rfl (by kernel_rfl) (fun _ _ _ h => h) (Or.inl ⟨by rfl, ?_⟩) hHeld ?_; rotate_left
                  · intro w_ hSw_; (try dsimp only at hSw_); go_simp; (try with_reducible rfl)
                  try go_frame
                  refine wpF_t (i := 12) (oi := opea90698e) (v := ?_) rfl (by kernel_rfl) (fun _ _ _ h => h) (Or.inl ⟨by rfl, ?_⟩) hHeld ?_; rotate_left
                  · intro w_ hSw_; (try dsimp only at hSw_); go_simp; (try with_reducible rfl)
                  try go_frame
                  refine wpF_t (i := 13) (oi := opdf3f76a5) (v := ?_) rfl (by kernel_rfl) (fun _ _ _ h => h) (Or.inl ⟨by rfl, ?_⟩) hHeld ?_; rotate_left
                  · intro w_ hSw_; (try dsimp only at hSw_); go_simp; (try with_reducible rfl)
                  try go_frame
                  refine wpF_t (i := 14) (oi := op5c1d7a25) (v := ?_) rfl (by kernel_rfl) (fun _ _ _ h => h) (Or.inl ⟨by rfl, ?_⟩) hHeld ?_; rotate_left
                  · intro w_ hSw_; (try dsimp only at hSw_); go_simp; (try with_reducible rfl)
                  try go_frame
                  refine wpF_t (i := 15) (oi := opafdad9eb) rfl (by kernel_rfl) (fun _ _ _ h => h) (Or.inr ⟨by rfl, rfl⟩) hHeld ?_
                  try go_frame
                  refine wpF_t (i := 16) (oi := op7d897505) rfl (by kernel_rfl) (fun _ _ _ h => h) (Or.inr ⟨by rfl, rfl⟩) hHeld ?_
                  try go_frame
                  refine wpF_t (i := 17) (oi := opd54fe462) rfl (by kernel_rfl) (fun _ _ _ h => h) (Or.inr ⟨by rfl, rfl⟩) hHeld ?_
                  try go_frame
                  refine wpF_t (i := 18) (oi := op47c2bc4d) rfl (by kernel_rfl) (fun _ _ _ h => h) (Or.inr ⟨by rfl, rfl⟩) hHeld ?_
                  try go_frame
                  refine wpF_t (i := 19) (oi := opf9e4b20e) rfl (by kernel_rfl) (fun _ _ _ h => h) (Or.inr ⟨by rfl, rfl⟩) hHeld ?_
                  try go_frame
                  refine wpF_t (i := 20) (oi := op6be12908) rfl (by kernel_rfl) (fun _ _ _ h => h) (Or.inr ⟨by rfl, rfl⟩) hHeld ?_
                  try go_frame
                  refine wpF_t (i := 21) (oi := op44200171) (v := ?_) rfl (by kernel_rfl) (fun _ _ _ h => h) (Or.inl ⟨by rfl, ?_⟩) hHeld ?_; rotate_left
                  · intro w_ hSw_; (try dsimp only at hSw_); go_simp; (try with_reducible rfl)
                  try go_frame
                  refine wpF_t (i := 22) (oi := op953fc2eb) (v := ?_) rfl (by kernel_rfl) (fun _ _ _ h => h) (Or.inl ⟨by rfl, ?_⟩) hHeld ?_; rotate_left
                  · intro w_ hSw_; (try dsimp only at hSw_); go_simp; (try with_reducible rfl)
                  try go_frame
                  refine wpF_t (i := 23) (oi := op263cfc1f) rfl (by kernel_rfl) (fun _ _ _ h => h) (Or.inr ⟨by rfl, rfl⟩) hHeld ?_
                  try go_frame
                  refine wpF_t (i := 24) (oi := op7ccb6552) rfl (by kernel_rfl) (fun _ _ _ h => h) (Or.inr ⟨by rfl, rfl⟩) hHeld ?_
                  try go_frame
                  refine wpF_t (i := 25) (oi := op954c6ff4) rfl (by kernel_rfl) (fun _ _ _ h => h) (Or.inr ⟨by rfl, rfl⟩) hHeld ?_
                  try go_frame
                  refine wpF_t (i := 26) (oi := op6794c89b) rfl (by kernel_rfl) (fun _ _ _ h => h) (Or.inr ⟨by rfl, rfl⟩) hHeld ?_
                  try go_frame
                  refine wpF_t (i := 27) (oi := op87dd2451) rfl (by kernel_rfl) (fun _ _ _ h => h) (Or.inr ⟨by rfl, rfl⟩) hHeld ?_
                  try go_frame
                  refine wpF_t (i := 28) (oi := op55d76491) rfl (by kernel_rfl) (fun _ _ _ h => h) (Or.inr ⟨by rfl, rfl⟩) hHeld ?_
                  try go_frame
                  refine wpF_t (i := 29) (oi := op5a1ed440) (v := ?_) rfl (by kernel_rfl) (fun _ _ _ h => h) (Or.inl ⟨by rfl, ?_⟩) hHeld ?_; rotate_left
                  · intro w_ hSw_; (try dsimp only at hSw_); go_simp; (try with_reducible rfl)
                  try go_frame
                  refine wpF_t (i := 30) (oi := op6cbfc3d4) (v := ?_) rfl (by kernel_rfl) (fun _ _ _ h => h) (Or.inl ⟨by rfl, ?_⟩) hHeld ?_; rotate_left
                  · intro w_ hSw_; (try dsimp only at hSw_); go_simp; (try with_reducible rfl)
                  try go_frame
                  refine wpF_t (i := 31) (oi := op03879ad8) rfl (by kernel_rfl) (fun _ _ _ h => h) (Or.inr ⟨by rfl, rfl⟩) hHeld ?_
                  try go_frame
                  refine wpF_t (i := 32) (oi := op2fd4be1d) rfl (by kernel_rfl) (fun _ _ _ h => h) (Or.inr ⟨by rfl, rfl⟩) hHeld ?_
                  try go_frame
                  refine wpF_t (i := 33) (oi := opb3a4c920) rfl (by kernel_rfl) (fun _ _ _ h => h) (Or.inr ⟨by rfl, rfl⟩) hHeld ?_
                  try go_frame
                  refine wpF_t (i := 34) (oi := op9b6c763c) rfl (by kernel_rfl) (fun _ _ _ h => h) (Or.inr ⟨by rfl, rfl⟩) hHeld ?_
                  try go_frame
                  refine wpF_t (i := 35) (oi := opfad4d3cd) rfl (by kernel_rfl) (fun _ _ _ h => h) (Or.inr ⟨by rfl, rfl⟩) hHeld ?_
                  try go_frame
                  refine wpF_t (i := 36) (oi := op3488e887) rfl (by kernel_rfl) (fun _ _ _ h => h) (Or.inr ⟨by rfl, rfl⟩) hHeld ?_
                  try go_frame
                  refine wpF_t (i := 37) (oi := opcd0bfc77) rfl (by kernel_rfl) (fun _ _ _ h => h) (Or.inr ⟨by rfl, rfl⟩) hHeld ?_
                  try go_frame
                  refine wpF_t (i := 38) (oi := op6f5c92e1) rfl (by kernel_rfl) (fun _ _ _ h => h) (Or.inr ⟨by rfl, rfl⟩) hHeld ?_
                  try go_frame
                  refine wpF_t (i := 39) (oi := op261c3369) rfl (by kernel_rfl) (fun _ _ _ h => h) (Or.inr ⟨by rfl, rfl⟩) hHeld ?_
                  try go_frame
                  refine wpF_t (i := 40) (oi := opc1fa65b9) rfl (by kernel_rfl) (fun _ _ _ h => h) (Or.inr ⟨by rfl, rfl⟩) hHeld ?_
                  try go_frame
                  refine wpF_t (i := 41) (oi := op7bd15cba) rfl (by kernel_rfl) (fun _ _ _ h => h) (Or.inr ⟨by rfl, rfl⟩) hHeld ?_
                  try go_frame
                  refine wpF_t (i := 42) (oi := op81eb16be) rfl (by kernel_rfl) (fun _ _ _ h => h) (Or.inr ⟨by rfl, rfl⟩) hHeld ?_
                  try go_frame
                  refine wpF_t (i := 43) (oi := op80e285af) rfl (by kernel_rfl) (fun _ _ _ h => h) (Or.inr ⟨by rfl, rfl⟩) hHeld ?_
                  try go_frame
                  refine wpF_t (i := 44) (oi := op34a4a282) rfl (by kernel_rfl) (fun _ _ _ h => h) (Or.inr ⟨by rfl, rfl⟩) hHeld ?_
                  try go_frame
                  refine wpF_t (i := 45) (oi := op027ce521) rfl (by kernel_rfl) (fun _ _ _ h => h) (Or.inr ⟨by rfl, rfl⟩) hHeld ?_
                  try go_frame
                  refine wpF_t (i := 46) (oi := op6ef8c42a) rfl (by kernel_rfl) (fun _ _ _ h => h) (Or.inr ⟨by rfl, rfl⟩) hHeld ?_
                  try go_frame
                  refine wpF_t (i := 47) (oi := opf6ecbe67) rfl (by kernel_rfl) (fun _ _ _ h => h) (Or.inr ⟨by rfl, rfl⟩) hHeld ?_
                  try go_frame
                  refine wpF_t (i := 48) (oi := op5736d430) (v := ?_) rfl (by kernel_rfl) (fun _ _ _ h => h) (Or.inl ⟨by rfl, ?_⟩) hHeld ?_; rotate_left
                  · intro w_ hSw_; (try dsimp only at hSw_); go_simp; (try with_reducible rfl)
                  try go_frame
                  refine wpAnyF_done (by kernel_rfl) ?_ _
                  clear hHeld
                  go_wp2
                  go_ret
                  exact ⟨by rw [HR.out] <;> rfl, by rw [hb0]; exact HB1⟩
                · have q2b : decide (999 < x) = false := decide_eq_false q2
                  by_cases q3 : y < -999999
                  · have HR : Hid (okB M = false) := HNO.out (fun h => by have := h.2.2.1; rw [HY.out] at this; omega)
                    go_wp2_with fail
                    have V1 := V.drew
                    have cA1 : wr.drew.cell? ⟨bA, oA + r, none⟩ = some (.int .i64 x) := cA
                    have cB1 : wr.drew.cell? ⟨bB, oB + r, none⟩ = some (.int .i64 y) := cB
                    have HB1 := below_drew HB
                    generalize hWd : wr.drew = wd at *
                    refine wp_region_F (fun w' => w'.cell? ⟨b, 0, none⟩ = some (.int .i64 L1) ∧ w'.cell? ⟨b, 1, none⟩ = some (.slice (some ⟨bA, oA, none⟩) L1 c) ∧ w'.cell? ⟨b, 2, none⟩ = some (.slice (some ⟨bB, oB, none⟩) L1 c') ∧ w'.cell? ⟨bA, oA + r, none⟩ = some (.int .i64 x) ∧ w'.cell? ⟨bB, oB + r, none⟩ = some (.int .i64 y)) [] (by kernel_rfl) (by rw [hWd]; exact ⟨V1.c0, V1.c1, V1.c2, cA1, cB1⟩) (fun hHeld => ?_)
                    rw [hWd] at hHeld ⊢
                    refine wpF_t (i := 0) (oi := opf6f50bad) (v := ?_) rfl (by kernel_rfl) (fun _ _ _ h => h) (Or.inl ⟨by rfl, ?_⟩) hHeld ?_; rotate_left
                    · intro w_ hSw_; (try dsimp only at hSw_); go_simp; (try with_reducible rfl)
                    try go_frame
                    refine wpF_t (i := 1) (oi := opfec9fbd3) (v := ?_) rfl (by kernel_rfl) (fun _ _ _ h => h) (Or.inl ⟨by rfl, ?_⟩) hHeld ?_; rotate_left
                    · intro w_ hSw_; (try dsimp only at hSw_); go_simp; (try with_reducible rfl)
                    try go_frame
                    refine wpF_t (i := 2) (oi := opdc751262) (v := ?_) rfl (by kernel_rfl) (fun _ _ _ h => h) (Or.inl ⟨by rfl, ?_⟩) hHeld ?_; rotate_left
                    · intro w_ hSw_; (try dsimp only at hSw_); go_simp; (try with_reducible rfl)
                    try go_frame
                    refine wpF_t (i := 3) (oi := opfe91221d) (v := ?_) rfl (by kernel_rfl) (fun _ _ _ h => h) (Or.inl ⟨by rfl, ?_⟩) hHeld ?_; rotate_left
                    · intro w_ hSw_; (try dsimp only at hSw_); go_simp; (try with_reducible rfl)
                    try go_frame
                    refine wpF_t (i := 4) (oi := opa17a9525) (v := ?_) rfl (by kernel_rfl) (fun _ _ _ h => h) (Or.inl ⟨by rfl, ?_⟩) hHeld ?_; rotate_left
                    · intro w_ hSw_; (try dsimp only at hSw_); go_simp; (try with_reducible rfl)
                    try go_frame
                    refine wpF_t (i := 5) (oi := ope471006d) (v := ?_) rfl (by kernel_rfl) (fun _ _ _ h => h) (Or.inl ⟨by rfl, ?_⟩) hHeld ?_; rotate_left
                    · intro w_ hSw_; (try dsimp only at hSw_); go_simp; (try with_reducible rfl)
                    try go_frame
                    refine wpF_t (i := 6) (oi := opc0abe06b) (v := ?_) rfl (by kernel_rfl) (fun _ _ _ h => h) (Or.inl ⟨by rfl, ?_⟩) hHeld ?_; rotate_left
                    · intro w_ hSw_; (try dsimp only at hSw_); go_simp; (try with_reducible rfl)
                    try go_frame
                    refine wpF_t (i := 7) (oi := op0916a3f7) (v := ?_) rfl (by kernel_rfl) (fun _ _ _ h => h) (Or.inl ⟨by rfl, ?_⟩) hHeld ?_; rotate_left
                    · intro w_ hSw_; (try dsimp only at hSw_); go_simp; (try with_reducible rfl)
                    try go_frame
                    refine wpF_t (i := 8) (oi := opd2427a63) (v := ?_) rfl (by kernel_rfl) (fun _ _ _ h => h) (Or.inl ⟨by rfl, ?_⟩) hHeld ?_; rotate_left
                    · intro w_ hSw_; (try dsimp only at hSw_); go_simp; (try with_reducible rfl)
                    try go_frame
                    refine wpF_t (i := 9) (oi := opb9f769c4) (v := ?_) rfl (by kernel_rfl) (fun _ _ _ h => h) (Or.inl ⟨by rfl, ?_⟩) hHeld ?_; rotate_left
                    · intro w_ hSw_; (try dsimp only at hSw_); go_simp; (try with_reducible rfl)
                    try go_frame
                    refine wpF_t (i := 10) (oi := op336bc7d6) (v := ?_) rfl (by kernel_rfl) (fun _ _ _ h => h) (Or.inl ⟨by rfl, ?_⟩) hHeld ?_; rotate_left
                    · intro w_ hSw_; (try dsimp only at hSw_); go_simp; (try with_reducible rfl)
                    try go_frame
                    refine wpF_t (i := 11) (oi := opc4374836) (v := ?_) rfl (by kernel_rfl) (fun _ _ _ h => h) (Or.inl ⟨by rfl, ?_⟩) hHeld ?_; rotate_left
                    · intro w_ hSw_; (try dsimp only at hSw_); go_simp; (try with_reducible rfl)
                    try go_frame
                    refine wpF_t (i := 12) (oi := opea90698e) (v := ?_) rfl (by kernel_rfl) (fun _ _ _ h => h) (Or.inl ⟨by rfl, ?_⟩) hHeld ?_; rotate_left
                    · intro w_ hSw_; (try dsimp only at hSw_); go_simp; (try with_reducible rfl)
                    try go_frame
                    refine wpF_t (i := 13) (oi := opdf3f76a5) (v := ?_) rfl (by kernel_rfl) (fun _ _ _ h => h) (Or.inl ⟨by rfl, ?_⟩) hHeld ?_; rotate_left
                    · intro w_ hSw_; (try dsimp only at hSw_); go_simp; (try with_reducible rfl)
                    try go_frame
                    refine wpF_t (i := 14) (oi := op5c1d7a25) (v := ?_) rfl (by kernel_rfl) (fun _ _ _ h => h) (Or.inl ⟨by rfl, ?_⟩) hHeld ?_; rotate_left
                    · intro w_ hSw_; (try dsimp only at hSw_); go_simp; (try with_reducible rfl)
                    try go_frame
                    refine wpF_t (i := 15) (oi := opafdad9eb) (v := ?_) rfl (by kernel_rfl) (fun _ _ _ h => h) (Or.inl ⟨by rfl, ?_⟩) hHeld ?_; rotate_left
                    · intro w_ hSw_; (try dsimp only at hSw_); go_simp; (try with_reducible rfl)
                    try go_frame
                    refine wpF_t (i := 16) (oi := op7d897505) (v := ?_) rfl (by kernel_rfl) (fun _ _ _ h => h) (Or.inl ⟨by rfl, ?_⟩) hHeld ?_; rotate_left
                    · intro w_ hSw_; (try dsimp only at hSw_); go_simp; (try with_reducible rfl)
                    try go_frame
                    refine wpF_t (i := 17) (oi := opd54fe462) (v := ?_) rfl (by kernel_rfl) (fun _ _ _ h => h) (Or.inl ⟨by rfl, ?_⟩) hHeld ?_; rotate_left
                    · intro w_ hSw_; (try dsimp only at hSw_); go_simp; (try with_reducible rfl)
                    try go_frame
                    refine wpF_t (i := 18) (oi := op47c2bc4d) (v := ?_) rfl (by kernel_rfl) (fun _ _ _ h => h) (Or.inl ⟨by rfl, ?_⟩) hHeld ?_; rotate_left
                    · intro w_ hSw_; (try dsimp only at hSw_); go_simp; (try with_reducible rfl)
                    try go_frame
                    refine wpF_t (i := 19) (oi := opf9e4b20e) (v := ?_) rfl (by kernel_rfl) (fun _ _ _ h => h) (Or.inl ⟨by rfl, ?_⟩) hHeld ?_; rotate_left
                    · intro w_ hSw_; (try dsimp only at hSw_); go_simp; (try with_reducible rfl)
                    try go_frame
                    refine wpF_t (i := 20) (oi := op6be12908) (v := ?_) rfl (by kernel_rfl) (fun _ _ _ h => h) (Or.inl ⟨by rfl, ?_⟩) hHeld ?_; rotate_left
                    · intro w_ hSw_; (try dsimp only at hSw_); go_simp; (try with_reducible rfl)
                    try go_frame
                    refine wpF_t (i := 21) (oi := op44200171) (v := ?_) rfl (by kernel_rfl) (fun _ _ _ h => h) (Or.inl ⟨by rfl, ?_⟩) hHeld ?_; rotate_left
                    · intro w_ hSw_; (try dsimp only at hSw_); go_simp; (try with_reducible rfl)
                    try go_frame
                    refine wpF_t (i := 22) (oi := op953fc2eb) (v := ?_) rfl (by kernel_rfl) (fun _ _ _ h => h) (Or.inl ⟨by rfl, ?_⟩) hHeld ?_; rotate_left
                    · intro w_ hSw_; (try dsimp only at hSw_); go_simp; (try with_reducible rfl)
                    try go_frame
                    refine wpF_t (i := 23) (oi := op263cfc1f) rfl (by kernel_rfl) (fun _ _ _ h => h) (Or.inr ⟨by rfl, rfl⟩) hHeld ?_
                    try go_frame
                    refine wpF_t (i := 24) (oi := op7ccb6552) rfl (by kernel_rfl) (fun _ _ _ h => h) (Or.inr ⟨by rfl, rfl⟩) hHeld ?_
                    try go_frame
                    refine wpF_t (i := 25) (oi := op954c6ff4) rfl (by kernel_rfl) (fun _ _ _ h => h) (Or.inr ⟨by rfl, rfl⟩) hHeld ?_
                    try go_frame
                    refine wpF_t (i := 26) (oi := op6794c89b) rfl (by kernel_rfl) (fun _ _ _ h => h) (Or.inr ⟨by rfl, rfl⟩) hHeld ?_
                    try go_frame
                    refine wpF_t (i := 27) (oi := op87dd2451) rfl (by kernel_rfl) (fun _ _ _ h => h) (Or.inr ⟨by rfl, rfl⟩) hHeld ?_
                    try go_frame
                    refine wpF_t (i := 28) (oi := op55d76491) rfl (by kernel_rfl) (fun _ _ _ h => h) (Or.inr ⟨by rfl, rfl⟩) hHeld ?_
                    try go_frame
                    refine wpF_t (i := 29) (oi := op5a1ed440) (v := ?_) rfl (by kernel_rfl) (fun _ _ _ h => h) (Or.inl ⟨by rfl, ?_⟩) hHeld ?_; rotate_left
                    · intro w_ hSw_; (try dsimp only at hSw_); go_simp; (try with_reducible rfl)
                    try go_frame
                    refine wpF_t (i := 30) (oi := op6cbfc3d4) (v := ?_) rfl (by kernel_rfl) (fun _ _ _ h => h) (Or.inl ⟨by rfl, ?_⟩) hHeld ?_; rotate_left
                    · intro w_ hSw_; (try dsimp only at hSw_); go_simp; (try with_reducible rfl)
                    try go_frame
                    refine wpF_t (i := 31) (oi := op03879ad8) rfl (by kernel_rfl) (fun _ _ _ h => h) (Or.inr ⟨by rfl, rfl⟩) hHeld ?_
                    try go_frame
                    refine wpF_t (i := 32) (oi := op2fd4be1d) rfl (by kernel_rfl) (fun _ _ _ h => h) (Or.inr ⟨by rfl, rfl⟩) hHeld ?_
                    try go_frame
                    refine wpF_t (i := 33) (oi := opb3a4c920) rfl (by kernel_rfl) (fun _ _ _ h => h) (Or.inr ⟨by rfl, rfl⟩) hHeld ?_
                    try go_frame
                    refine wpF_t (i := 34) (oi := op9b6c763c) rfl (by kernel_rfl) (fun _ _ _ h => h) (Or.inr ⟨by rfl, rfl⟩) hHeld ?_
                    try go_frame
                    refine wpF_t (i := 35) (oi := opfad4d3cd) rfl (by kernel_rfl) (fun _ _ _ h => h) (Or.inr ⟨by rfl, rfl⟩) hHeld ?_
                    try go_frame
                    refine wpF_t (i := 36) (oi := op3488e887) rfl (by kernel_rfl) (fun _ _ _ h => h) (Or.inr ⟨by rfl, rfl⟩) hHeld ?_
                    try go_frame
                    refine wpF_t (i := 37) (oi := opcd0bfc77) rfl (by kernel_rfl) (fun _ _ _ h => h) (Or.inr ⟨by rfl, rfl⟩) hHeld ?_
                    try go_frame
                    refine wpF_t (i := 38) (oi := op6f5c92e1) rfl (by kernel_rfl) (fun _ _ _ h => h) (Or.inr ⟨by rfl, rfl⟩) hHeld ?_
                    try go_frame
                    refine wpF_t (i := 39) (oi := op261c3369) rfl (by kernel_rfl) (fun _ _ _ h => h) (Or.inr ⟨by rfl, rfl⟩) hHeld ?_
                    try go_frame
                    refine wpF_t (i := 40) (oi := opc1fa65b9) rfl (by kernel_rfl) (fun _ _ _ h => h) (Or.inr ⟨by rfl, rfl⟩) hHeld ?_
                    try go_frame
                    refine wpF_t (i := 41) (oi := op7bd15cba) rfl (by kernel_rfl) (fun _ _ _ h => h) (Or.inr ⟨by rfl, rfl⟩) hHeld ?_
                    try go_frame
                    refine wpF_t (i := 42) (oi := op81eb16be) rfl (by kernel_rfl) (fun _ _ _ h => h) (Or.inr ⟨by rfl, rfl⟩) hHeld ?_
                    try go_frame
                    refine wpF_t (i := 43) (oi := op80e285af) rfl (by kernel_rfl) (fun _ _ _ h => h) (Or.inr ⟨by rfl, rfl⟩) hHeld ?_
                    try go_frame
                    refine wpF_t (i := 44) (oi := op34a4a282) rfl (by kernel_rfl) (fun _ _ _ h => h) (Or.inr ⟨by rfl, rfl⟩) hHeld ?_
                    try go_frame
                    refine wpF_t (i := 45) (oi := op027ce521) rfl (by kernel_rfl) (fun _ _ _ h => h) (Or.inr ⟨by rfl, rfl⟩) hHeld ?_
                    try go_frame
                    refine wpF_t (i := 46) (oi := op6ef8c42a) rfl (by kernel_rfl) (fun _ _ _ h => h) (Or.inr ⟨by rfl, rfl⟩) hHeld ?_
                    try go_frame
                    refine wpF_t (i := 47) (oi := opf6ecbe67) rfl (by kernel_rfl) (fun _ _ _ h => h) (Or.inr ⟨by rfl, rfl⟩) hHeld ?_
                    try go_frame
                    refine wpF_t (i := 48) (oi := op5736d430) (v := ?_) rfl (by kernel_rfl) (fun _ _ _ h => h) (Or.inl ⟨by rfl, ?_⟩) hHeld ?_; rotate_left
                    · intro w_ hSw_; (try dsimp only at hSw_); go_simp; (try with_reducible rfl)
                    try go_frame
                    refine wpAnyF_done (by kernel_rfl) ?_ _
                    clear hHeld
                    go_wp2
                    go_ret
                    exact ⟨by rw [HR.out] <;> rfl, by rw [hb0]; exact HB1⟩
                  · have q3b : decide (y < -999999) = false := decide_eq_false q3
                    by_cases q4 : 999999 < y
                    · have HR : Hid (okB M = false) := HNO.out (fun h => by have := h.2.2.2.1; rw [HY.out] at this; omega)
                      go_wp2_with fail
                      have V1 := V.drew
                      have cA1 : wr.drew.cell? ⟨bA, oA + r, none⟩ = some (.int .i64 x) := cA
                      have cB1 : wr.drew.cell? ⟨bB, oB + r, none⟩ = some (.int .i64 y) := cB
                      have HB1 := below_drew HB
                      generalize hWd : wr.drew = wd at *
                      refine wp_region_F (fun w' => w'.cell? ⟨b, 0, none⟩ = some (.int .i64 L1) ∧ w'.cell? ⟨b, 1, none⟩ = some (.slice (some ⟨bA, oA, none⟩) L1 c) ∧ w'.cell? ⟨b, 2, none⟩ = some (.slice (some ⟨bB, oB, none⟩) L1 c') ∧ w'.cell? ⟨bA, oA + r, none⟩ = some (.int .i64 x) ∧ w'.cell? ⟨bB, oB + r, none⟩ = some (.int .i64 y)) [] (by kernel_rfl) (by rw [hWd]; exact ⟨V1.c0, V1.c1, V1.c2, cA1, cB1⟩) (fun hHeld => ?_)
                      rw [hWd] at hHeld ⊢
                      refine wpF_t (i := 0) (oi := opf6f50bad) (v := ?_) rfl (by kernel_rfl) (fun _ _ _ h => h) (Or.inl ⟨by rfl, ?_⟩) hHeld ?_; rotate_left
                      · intro w_ hSw_; (try dsimp only at hSw_); go_simp; (try with_reducible rfl)
                      try go_frame
                      refine wpF_t (i := 1) (oi := opfec9fbd3) (v := ?_) rfl (by kernel_rfl) (fun _ _ _ h => h) (Or.inl ⟨by rfl, ?_⟩) hHeld ?_; rotate_left
                      · intro w_ hSw_; (try dsimp only at hSw_); go_simp; (try with_reducible rfl)
                      try go_frame
                      refine wpF_t (i := 2) (oi := opdc751262) (v := ?_) rfl (by kernel_rfl) (fun _ _ _ h => h) (Or.inl ⟨by rfl, ?_⟩) hHeld ?_; rotate_left
                      · intro w_ hSw_; (try dsimp only at hSw_); go_simp; (try with_reducible rfl)
                      try go_frame
                      refine wpF_t (i := 3) (oi := opfe91221d) (v := ?_) rfl (by kernel_rfl) (fun _ _ _ h => h) (Or.inl ⟨by rfl, ?_⟩) hHeld ?_; rotate_left
                      · intro w_ hSw_; (try dsimp only at hSw_); go_simp; (try with_reducible rfl)
                      try go_frame
                      refine wpF_t (i := 4) (oi := opa17a9525) (v := ?_) rfl (by kernel_rfl) (fun _ _ _ h => h) (Or.inl ⟨by rfl, ?_⟩) hHeld ?_; rotate_left
                      · intro w_ hSw_; (try dsimp only at hSw_); go_simp; (try with_reducible rfl)
                      try go_frame
                      refine wpF_t (i := 5) (oi := ope471006d) (v := ?_) rfl (by kernel_rfl) (fun _ _ _ h => h) (Or.inl ⟨by rfl, ?_⟩) hHeld ?_; rotate_left
                      · intro w_ hSw_; (try dsimp only at hSw_); go_simp; (try with_reducible rfl)
                      try go_frame
                      refine wpF_t (i := 6) (oi := opc0abe06b) (v := ?_) rfl (by kernel_rfl) (fun _ _ _ h => h) (Or.inl ⟨by rfl, ?_⟩) hHeld ?_; rotate_left
                      · intro w_ hSw_; (try dsimp only at hSw_); go_simp; (try with_reducible rfl)
                      try go_frame
                      refine wpF_t (i := 7) (oi := op0916a3f7) (v := ?_) rfl (by kernel_rfl) (fun _ _ _ h => h) (Or.inl ⟨by rfl, ?_⟩) hHeld ?_; rotate_left
                      · intro w_ hSw_; (try dsimp only at hSw_); go_simp; (try with_reducible rfl)
                      try go_frame
                      refine wpF_t (i := 8) (oi := opd2427a63) (v := ?_) rfl (by kernel_rfl) (fun _ _ _ h => h) (Or.inl ⟨by rfl, ?_⟩) hHeld ?_; rotate_left
                      · intro w_ hSw_; (try dsimp only at hSw_); go_simp; (try with_reducible rfl)
                      try go_frame
                      refine wpF_t (i := 9) (oi := opb9f769c4) (v := ?_) rfl (by kernel_rfl) (fun _ _ _ h => h) (Or.inl ⟨by rfl, ?_⟩) hHeld ?_; rotate_left
                      · intro w_ hSw_; (try dsimp only at hSw_); go_simp; (try with_reducible rfl)
                      try go_frame
                      refine wpF_t (i := 10) (oi := op336bc7d6) (v := ?_) rfl (by kernel_rfl) (fun _ _ _ h => h) (Or.inl ⟨by rfl, ?_⟩) hHeld ?_; rotate_left
                      · intro w_ hSw_; (try dsimp only at hSw_); go_simp; (try with_reducible rfl)
                      try go_frame
                      refine wpF_t (i := 11) (oi := opc4374836) (v := ?_) rfl (by kernel_rfl) (fun _ _ _ h => h) (Or.inl ⟨by rfl, ?_⟩) hHeld ?_; rotate_left
                      · intro w_ hSw_; (try dsimp only at hSw_); go_simp; (try with_reducible rfl)
                      try go_frame
                      refine wpF_t (i := 12) (oi := opea90698e) (v := ?_) rfl (by kernel_rfl) (fun _ _ _ h => h) (Or.inl ⟨by rfl, ?_⟩) hHeld ?_; rotate_left
                      · intro w_ hSw_; (try dsimp only at hSw_); go_simp; (try with_reducible rfl)
                      try go_frame
                      refine wpF_t (i := 13) (oi := opdf3f76a5) (v := ?_) rfl (by kernel_rfl) (fun _ _ _ h => h) (Or.inl ⟨by rfl, ?_⟩) hHeld ?_; rotate_left
                      · intro w_ hSw_; (try dsimp only at hSw_); go_simp; (try with_reducible rfl)
                      try go_frame
                      refine wpF_t (i := 14) (oi := op5c1d7a25) (v := ?_) rfl (by kernel_rfl) (fun _ _ _ h => h) (Or.inl ⟨by rfl, ?_⟩) hHeld ?_; rotate_left
                      · intro w_ hSw_; (try dsimp only at hSw_); go_simp; (try with_reducible rfl)
                      try go_frame
                      refine wpF_t (i := 15) (oi := opafdad9eb) (v := ?_) rfl (by kernel_rfl) (fun _ _ _ h => h) (Or.inl ⟨by rfl, ?_⟩) hHeld ?_; rotate_left
                      · intro w_ hSw_; (try dsimp only at hSw_); go_simp; (try with_reducible rfl)
                      try go_frame
                      refine wpF_t (i := 16) (oi := op7d897505) (v := ?_) rfl (by kernel_rfl) (fun _ _ _ h => h) (Or.inl ⟨by rfl, ?_⟩) hHeld ?_; rotate_left
                      · intro w_ hSw_; (try dsimp only at hSw_); go_simp; (try with_reducible rfl)
                      try go_frame
                      refine wpF_t (i := 17) (oi := opd54fe462) (v := ?_) rfl (by kernel_rfl) (fun _ _ _ h => h) (Or.inl ⟨by rfl, ?_⟩) hHeld ?_; rotate_left
                      · intro w_ hSw_; (try dsimp only at hSw_); go_simp; (try with_reducible rfl)
                      try go_frame
                      refine wpF_t (i := 18) (oi := op47c2bc4d) (v := ?_) rfl (by kernel_rfl) (fun _ _ _ h => h) (Or.inl ⟨by rfl, ?_⟩) hHeld ?_; rotate_left
                      · intro w_ hSw_; (try dsimp only at hSw_); go_simp; (try with_reducible rfl)
                      try go_frame
                      refine wpF_t (i := 19) (oi := opf9e4b20e) (v := ?_) rfl (by kernel_rfl) (fun _ _ _ h => h) (Or.inl ⟨by rfl, ?_⟩) hHeld ?_; rotate_left
                      · intro w_ hSw_; (try dsimp only at hSw_); go_simp; (try with_reducible rfl)
                      try go_frame
                      refine wpF_t (i := 20) (oi := op6be12908) (v := ?_) rfl (by kernel_rfl) (fun _ _ _ h => h) (Or.inl ⟨by rfl, ?_⟩) hHeld ?_; rotate_left
                      · intro w_ hSw_; (try dsimp only at hSw_); go_simp; (try with_reducible rfl)
                      try go_frame
                      refine wpF_t (i := 21) (oi := op44200171) (v := ?_) rfl (by kernel_rfl) (fun _ _ _ h => h) (Or.inl ⟨by rfl, ?_⟩) hHeld ?_; rotate_left
                      · intro w_ hSw_; (try dsimp only at hSw_); go_simp; (try with_reducible rfl)
                      try go_frame
                      refine wpF_t (i := 22) (oi := op953fc2eb) (v := ?_) rfl (by kernel_rfl) (fun _ _ _ h => h) (Or.inl ⟨by rfl, ?_⟩) hHeld ?_; rotate_left
                      · intro w_ hSw_; (try dsimp only at hSw_); go_simp; (try with_reducible rfl)
                      try go_frame
                      refine wpF_t (i := 23) (oi := op263cfc1f) (v := ?_) rfl (by kernel_rfl) (fun _ _ _ h => h) (Or.inl ⟨by rfl, ?_⟩) hHeld ?_; rotate_left
                      · intro w_ hSw_; (try dsimp only at hSw_); go_simp; (try with_reducible rfl)
                      try go_frame
                      refine wpF_t (i := 24) (oi := op7ccb6552) (v := ?_) rfl (by kernel_rfl) (fun _ _ _ h => h) (Or.inl ⟨by rfl, ?_⟩) hHeld ?_; rotate_left
                      · intro w_ hSw_; (try dsimp only at hSw_); go_simp; (try with_reducible rfl)
                      try go_frame
                      refine wpF_t (i := 25) (oi := op954c6ff4) (v := ?_) rfl (by kernel_rfl) (fun _ _ _ h => h) (Or.inl ⟨by rfl, ?_⟩) hHeld ?_; rotate_left
                      · intro w_ hSw_; (try dsimp only at hSw_); go_simp; (try with_reducible rfl)
                      try go_frame
                      refine wpF_t (i := 26) (oi := op6794c89b) (v := ?_) rfl (by kernel_rfl) (fun _ _ _ h => h) (Or.inl ⟨by rfl, ?_⟩) hHeld ?_; rotate_left
                      · intro w_ hSw_; (try dsimp only at hSw_); go_simp; (try with_reducible rfl)
                      try go_frame
                      refine wpF_t (i := 27) (oi := op87dd2451) (v := ?_) rfl (by kernel_rfl) (fun _ _ _ h => h) (Or.inl ⟨by rfl, ?_⟩) hHeld ?_; rotate_left
                      · intro w_ hSw_; (try dsimp only at hSw_); go_simp; (try with_reducible rfl)
                      try go_frame
                      refine wpF_t (i := 28) (oi := op55d76491) (v := ?_) rfl (by kernel_rfl) (fun _ _ _ h => h) (Or.inl ⟨by rfl, ?_⟩) hHeld ?_; rotate_left
                      · intro w_ hSw_; (try dsimp only at hSw_); go_simp; (try with_reducible rfl)
                      try go_frame
                      refine wpF_t (i := 29) (oi := op5a1ed440) (v := ?_) rfl (by kernel_rfl) (fun _ _ _ h => h) (Or.inl ⟨by rfl, ?_⟩) hHeld ?_; rotate_left
                      · intro w_ hSw_; (try dsimp only at hSw_); go_simp; (try with_reducible rfl)
                      try go_frame
                      refine wpF_t (i := 30) (oi := op6cbfc3d4) (v := ?_) rfl (by kernel_rfl) (fun _ _ _ h => h) (Or.inl ⟨by rfl, ?_⟩) hHeld ?_; rotate_left
                      · intro w_ hSw_; (try dsimp only at hSw_); go_simp; (try with_reducible rfl)
                      try go_frame
                      refine wpF_t (i := 31) (oi := op03879ad8) rfl (by kernel_rfl) (fun _ _ _ h => h) (Or.inr ⟨by rfl, rfl⟩) hHeld ?_
                      try go_frame
                      refine wpF_t (i := 32) (oi := op2fd4be1d) rfl (by kernel_rfl) (fun _ _ _ h => h) (Or.inr ⟨by rfl, rfl⟩) hHeld ?_
                      try go_frame
                      refine wpF_t (i := 33) (oi := opb3a4c920) rfl (by kernel_rfl) (fun _ _ _ h => h) (Or.inr ⟨by rfl, rfl⟩) hHeld ?_
                      try go_frame
                      refine wpF_t (i := 34) (oi := op9b6c763c) rfl (by kernel_rfl) (fun _ _ _ h => h) (Or.inr ⟨by rfl, rfl⟩) hHeld ?_
                      try go_frame
                      refine wpF_t (i := 35) (oi := opfad4d3cd) rfl (by kernel_rfl) (fun _ _ _ h => h) (Or.inr ⟨by rfl, rfl⟩) hHeld ?_
                      try go_frame
                      refine wpF_t (i := 36) (oi := op3488e887) rfl (by kernel_rfl) (fun _ _ _ h => h) (Or.inr ⟨by rfl, rfl⟩) hHeld ?_
                      try go_frame
                      refine wpF_t (i := 37) (oi := opcd0bfc77) rfl (by kernel_rfl) (fun _ _ _ h => h) (Or.inr ⟨by rfl, rfl⟩) hHeld ?_
                      try go_frame
                      refine wpF_t (i := 38) (oi := op6f5c92e1) rfl (by kernel_rfl) (fun _ _ _ h => h) (Or.inr ⟨by rfl, rfl⟩) hHeld ?_
                      try go_frame
                      refine wpF_t (i := 39) (oi := op261c3369) rfl (by kernel_rfl) (fun _ _ _ h => h) (Or.inr ⟨by rfl, rfl⟩) hHeld ?_
                      try go_frame
                      refine wpF_t (i := 40) (oi := opc1fa65b9) rfl (by kernel_rfl) (fun _ _ _ h => h) (Or.inr ⟨by rfl, rfl⟩) hHeld ?_
                      try go_frame
                      refine wpF_t (i := 41) (oi := op7bd15cba) rfl (by kernel_rfl) (fun _ _ _ h => h) (Or.inr ⟨by rfl, rfl⟩) hHeld ?_
                      try go_frame
                      refine wpF_t (i := 42) (oi := op81eb16be) rfl (by kernel_rfl) (fun _ _ _ h => h) (Or.inr ⟨by rfl, rfl⟩) hHeld ?_
                      try go_frame
                      refine wpF_t (i := 43) (oi := op80e285af) rfl (by kernel_rfl) (fun _ _ _ h => h) (Or.inr ⟨by rfl, rfl⟩) hHeld ?_
                      try go_frame
                      refine wpF_t (i := 44) (oi := op34a4a282) rfl (by kernel_rfl) (fun _ _ _ h => h) (Or.inr ⟨by rfl, rfl⟩) hHeld ?_
                      try go_frame
                      refine wpF_t (i := 45) (oi := op027ce521) rfl (by kernel_rfl) (fun _ _ _ h => h) (Or.inr ⟨by rfl, rfl⟩) hHeld ?_
                      try go_frame
                      refine wpF_t (i := 46) (oi := op6ef8c42a) rfl (by kernel_rfl) (fun _ _ _ h => h) (Or.inr ⟨by rfl, rfl⟩) hHeld ?_
                      try go_frame
                      refine wpF_t (i := 47) (oi := opf6ecbe67) rfl (by kernel_rfl) (fun _ _ _ h => h) (Or.inr ⟨by rfl, rfl⟩) hHeld ?_
                      try go_frame
                      refine wpF_t (i := 48) (oi := op5736d430) (v := ?_) rfl (by kernel_rfl) (fun _ _ _ h => h) (Or.inl ⟨by rfl, ?_⟩) hHeld ?_; rotate_left
                      · intro w_ hSw_; (try dsimp only at hSw_); go_simp; (try with_reducible rfl)
                      try go_frame
                      refine wpAnyF_done (by kernel_rfl) ?_ _
                      clear hHeld
                      go_wp2
                      go_ret
                      exact ⟨by rw [HR.out] <;> rfl, by rw [hb0]; exact HB1⟩
                    · have q4b : decide (999999 < y) = false := decide_eq_false q4
                      have p0 : 0 ≤ x * (r : Int) := Int.mul_nonneg (by omega) hi0
                      have p1 : x * (r : Int) ≤ 999 * 12 := Int.mul_le_mul (by omega) (by omega) hi0 (by omega)
                      obtain ⟨p, hp⟩ : ∃ p, x * (r : Int) = p := ⟨_, rfl⟩
                      rw [hp] at p0 p1
                      obtain ⟨t, ht⟩ : ∃ t, (p + y).tmod (L1 : Int) = t := ⟨_, rfl⟩
                      have HT : Hid (okR M r ↔ t = 0) := by
                        show _ ↔ _
                        unfold okR
                        rw [HX.out, HY.out, hp, ← ht, tmod_zero, ← V.sl.1]
                        exact ⟨fun h => h.2.2.2.2, fun h => ⟨by omega, by omega, by omega, by omega, h⟩⟩
                      have n0 : ¬ L1 = 0 := by omega
                      have hw1 : IntKind.i64.wrap p = p := by rw [IntKind.wrap_i64]; omega
                      have hw2 : IntKind.i64.wrap (p + y) = p + y := by rw [IntKind.wrap_i64]; omega
                      by_cases q5 : t = 0
                      · have HOK := Lib.hid (HT.out.2 q5)
                        have q5b : (t == 0) = true := by simpa using q5
                        clear q5
                        go_wp2_with fail
                        have V1 := V.drew
                        have cA1 : wr.drew.cell? ⟨bA, oA + r, none⟩ = some (.int .i64 x) := cA
                        have cB1 : wr.drew.cell? ⟨bB, oB + r, none⟩ = some (.int .i64 y) := cB
                        have HB1 := below_drew HB
                        generalize hWd : wr.drew = wd at *
                        refine wp_region_F (fun w' => w'.cell? ⟨b, 0, none⟩ = some (.int .i64 L1) ∧ w'.cell? ⟨b, 1, none⟩ = some (.slice (some ⟨bA, oA, none⟩) L1 c) ∧ w'.cell? ⟨b, 2, none⟩ = some (.slice (some ⟨bB, oB, none⟩) L1 c') ∧ w'.cell? ⟨bA, oA + r, none⟩ = some (.int .i64 x) ∧ w'.cell? ⟨bB, oB + r, none⟩ = some (.int .i64 y)) [] (by kernel_rfl) (by rw [hWd]; exact ⟨V1.c0, V1.c1, V1.c2, cA1, cB1⟩) (fun hHeld => ?_)
                        rw [hWd] at hHeld ⊢
                        refine wpF_t (i := 0) (oi := opf6f50bad) (v := ?_) rfl (by kernel_rfl) (fun _ _ _ h => h) (Or.inl ⟨by rfl, ?_⟩) hHeld ?_; rotate_left
                        · intro w_ hSw_; (try dsimp only at hSw_); go_simp; (try with_reducible rfl)
                        try go_frame
                        refine wpF_t (i := 1) (oi := opfec9fbd3) (v := ?_) rfl (by kernel_rfl) (fun _ _ _ h => h) (Or.inl ⟨by rfl, ?_⟩) hHeld ?_; rotate_left
                        · intro w_ hSw_; (try dsimp only at hSw_); go_simp; (try with_reducible rfl)
                        try go_frame
                        refine wpF_t (i := 2) (oi := opdc751262) (v := ?_) rfl (by kernel_rfl) (fun _ _ _ h => h) (Or.inl ⟨by rfl, ?_⟩) hHeld ?_; rotate_left
                        · intro w_ hSw_; (try dsimp only at hSw_); go_simp; (try with_reducible rfl)
                        try go_frame
                        refine wpF_t (i := 3) (oi := opfe91221d) (v := ?_) rfl (by kernel_rfl) (fun _ _ _ h => h) (Or.inl ⟨by rfl, ?_⟩) hHeld ?_; rotate_left
                        · intro w_ hSw_; (try dsimp only at hSw_); go_simp; (try with_reducible rfl)
                        try go_frame
                        refine wpF_t (i := 4) (oi := opa17a9525) (v := ?_) rfl (by kernel_rfl) (fun _ _ _ h => h) (Or.inl ⟨by rfl, ?_⟩) hHeld ?_; rotate_left
                        · intro w_ hSw_; (try dsimp only at hSw_); go_simp; (try with_reducible rfl)
                        try go_frame
                        refine wpF_t (i := 5) (oi := ope471006d) (v := ?_) rfl (by kernel_rfl) (fun _ _ _ h => h) (Or.inl ⟨by rfl, ?_⟩) hHeld ?_; rotate_left
                        · intro w_ hSw_; (try dsimp only at hSw_); go_simp; (try with_reducible rfl)
                        try go_frame
                        refine wpF_t (i := 6) (oi := opc0abe06b) (v := ?_) rfl (by kernel_rfl) (fun _ _ _ h => h) (Or.inl ⟨by rfl, ?_⟩) hHeld ?_; rotate_left
                        · intro w_ hSw_; (try dsimp only at hSw_); go_simp; (try with_reducible rfl)
                        try go_frame
                        refine wpF_t (i := 7) (oi := op0916a3f7) (v := ?_) rfl (by kernel_rfl) (fun _ _ _ h => h) (Or.inl ⟨by rfl, ?_⟩) hHeld ?_; rotate_left
                        · intro w_ hSw_; (try dsimp only at hSw_); go_simp; (try with_reducible rfl)
                        try go_frame
                        refine wpF_t (i := 8) (oi := opd2427a63) (v := ?_) rfl (by kernel_rfl) (fun _ _ _ h => h) (Or.inl ⟨by rfl, ?_⟩) hHeld ?_; rotate_left
                        · intro w_ hSw_; (try dsimp only at hSw_); go_simp; (try with_reducible rfl)
                        try go_frame
                        refine wpF_t (i := 9) (oi := opb9f769c4) (v := ?_) rfl (by kernel_rfl) (fun _ _ _ h => h) (Or.inl ⟨by rfl, ?_⟩) hHeld ?_; rotate_left
                        · intro w_ hSw_; (try dsimp only at hSw_); go_simp; (try with_reducible rfl)
                        try go_frame
                        refine wpF_t (i := 10) (oi := op336bc7d6) (v := ?_) rfl (by kernel_rfl) (fun _ _ _ h => h) (Or.inl ⟨by rfl, ?_⟩) hHeld ?_; rotate_left
                        · intro w_ hSw_; (try dsimp only at hSw_); go_simp; (try with_reducible rfl)
                        try go_frame
                        refine wpF_t (i := 11) (oi := opc4374836) (v := ?_) rfl (by kernel_rfl) (fun _ _ _ h => h) (Or.inl ⟨by rfl, ?_⟩) hHeld ?_; rotate_left
                        · intro w_ hSw_; (try dsimp only at hSw_); go_simp; (try with_reducible rfl)
                        try go_frame
                        refine wpF_t (i := 12) (oi := opea90698e) (v := ?_) rfl (by kernel_rfl) (fun _ _ _ h => h) (Or.inl ⟨by rfl, ?_⟩) hHeld ?_; rotate_left
                        · intro w_ hSw_; (try dsimp only at hSw_); go_simp; (try with_reducible rfl)
                        try go_frame
                        refine wpF_t (i := 13) (oi := opdf3f76a5) (v := ?_) rfl (by kernel_rfl) (fun _ _ _ h => h) (Or.inl ⟨by rfl, ?_⟩) hHeld ?_; rotate_left
                        · intro w_ hSw_; (try dsimp only at hSw_); go_simp; (try with_reducible rfl)
                        try go_frame
                        refine wpF_t (i := 14) (oi := op5c1d7a25) (v := ?_) rfl (by kernel_rfl) (fun _ _ _ h => h) (Or.inl ⟨by rfl, ?_⟩) hHeld ?_; rotate_left
                        · intro w_ hSw_; (try dsimp only at hSw_); go_simp; (try with_reducible rfl)
                        try go_frame
                        refine wpF_t (i := 15) (oi := opafdad9eb) (v := ?_) rfl (by kernel_rfl) (fun _ _ _ h => h) (Or.inl ⟨by rfl, ?_⟩) hHeld ?_; rotate_left
                        · intro w_ hSw_; (try dsimp only at hSw_); go_simp; (try with_reducible rfl)
                        try go_frame
                        refine wpF_t (i := 16) (oi := op7d897505) (v := ?_) rfl (by kernel_rfl) (fun _ _ _ h => h) (Or.inl ⟨by rfl, ?_⟩) hHeld ?_; rotate_left
                        · intro w_ hSw_; (try dsimp only at hSw_); go_simp; (try with_reducible rfl)
                        try go_frame
                        refine wpF_t (i := 17) (oi := opd54fe462) (v := ?_) rfl (by kernel_rfl) (fun _ _ _ h => h) (Or.inl ⟨by rfl, ?_⟩) hHeld ?_; rotate_left
                        · intro w_ hSw_; (try dsimp only at hSw_); go_simp; (try with_reducible rfl)
                        try go_frame
                        refine wpF_t (i := 18) (oi := op47c2bc4d) (v := ?_) rfl (by kernel_rfl) (fun _ _ _ h => h) (Or.inl ⟨by rfl, ?_⟩) hHeld ?_; rotate_left
                        · intro w_ hSw_; (try dsimp only at hSw_); go_simp; (try with_reducible rfl)
                        try go_frame
                        refine wpF_t (i := 19) (oi := opf9e4b20e) (v := ?_) rfl (by kernel_rfl) (fun _ _ _ h => h) (Or.inl ⟨by rfl, ?_⟩) hHeld ?_; rotate_left
                        · intro w_ hSw_; (try dsimp only at hSw_); go_simp; (try with_reducible rfl)
                        try go_frame
                        refine wpF_t (i := 20) (oi := op6be12908) (v := ?_) rfl (by kernel_rfl) (fun _ _ _ h => h) (Or.inl ⟨by rfl, ?_⟩) hHeld ?_; rotate_left
                        · intro w_ hSw_; (try dsimp only at hSw_); go_simp; (try with_reducible rfl)
                        try go_frame
                        refine wpF_t (i := 21) (oi := op44200171) (v := ?_) rfl (by kernel_rfl) (fun _ _ _ h => h) (Or.inl ⟨by rfl, ?_⟩) hHeld ?_; rotate_left
                        · intro w_ hSw_; (try dsimp only at hSw_); go_simp; (try with_reducible rfl)
                        try go_frame
                        refine wpF_t (i := 22) (oi := op953fc2eb) (v := ?_) rfl (by kernel_rfl) (fun _ _ _ h => h) (Or.inl ⟨by rfl, ?_⟩) hHeld ?_; rotate_left
                        · intro w_ hSw_; (try dsimp only at hSw_); go_simp; (try with_reducible rfl)
                        try go_frame
                        refine wpF_t (i := 23) (oi := op263cfc1f) (v := ?_) rfl (by kernel_rfl) (fun _ _ _ h => h) (Or.inl ⟨by rfl, ?_⟩) hHeld ?_; rotate_left
                        · intro w_ hSw_; (try dsimp only at hSw_); go_simp; (try with_reducible rfl)
                        try go_frame
                        refine wpF_t (i := 24) (oi := op7ccb6552) (v := ?_) rfl (by kernel_rfl) (fun _ _ _ h => h) (Or.inl ⟨by rfl, ?_⟩) hHeld ?_; rotate_left
                        · intro w_ hSw_; (try dsimp only at hSw_); go_simp; (try with_reducible rfl)
                        try go_frame
                        refine wpF_t (i := 25) (oi := op954c6ff4) (v := ?_) rfl (by kernel_rfl) (fun _ _ _ h => h) (Or.inl ⟨by rfl, ?_⟩) hHeld ?_; rotate_left
                        · intro w_ hSw_; (try dsimp only at hSw_); go_simp; (try with_reducible rfl)
                        try go_frame
                        refine wpF_t (i := 26) (oi := op6794c89b) (v := ?_) rfl (by kernel_rfl) (fun _ _ _ h => h) (Or.inl ⟨by rfl, ?_⟩) hHeld ?_; rotate_left
                        · intro w_ hSw_; (try dsimp only at hSw_); go_simp; (try with_reducible rfl)
                        try go_frame
                        refine wpF_t (i := 27) (oi := op87dd2451) (v := ?_) rfl (by kernel_rfl) (fun _ _ _ h => h) (Or.inl ⟨by rfl, ?_⟩) hHeld ?_; rotate_left
                        · intro w_ hSw_; (try dsimp only at hSw_); go_simp; (try with_reducible rfl)
                        try go_frame
                        refine wpF_t (i := 28) (oi := op55d76491) (v := ?_) rfl (by kernel_rfl) (fun _ _ _ h => h) (Or.inl ⟨by rfl, ?_⟩) hHeld ?_; rotate_left
                        · intro w_ hSw_; (try dsimp only at hSw_); go_simp; (try with_reducible rfl)
                        try go_frame
                        refine wpF_t (i := 29) (oi := op5a1ed440) (v := ?_) rfl (by kernel_rfl) (fun _ _ _ h => h) (Or.inl ⟨by rfl, ?_⟩) hHeld ?_; rotate_left
                        · intro w_ hSw_; (try dsimp only at hSw_); go_simp; (try with_reducible rfl)
                        try go_frame
                        refine wpF_t (i := 30) (oi := op6cbfc3d4) (v := ?_) rfl (by kernel_rfl) (fun _ _ _ h => h) (Or.inl ⟨by rfl, ?_⟩) hHeld ?_; rotate_left
                        · intro w_ hSw_; (try dsimp only at hSw_); go_simp; (try with_reducible rfl)
                        try go_frame
                        refine wpF_t (i := 31) (oi := op03879ad8) (v := ?_) rfl (by kernel_rfl) (fun _ _ _ h => h) (Or.inl ⟨by rfl, ?_⟩) hHeld ?_; rotate_left
                        · intro w_ hSw_; (try dsimp only at hSw_); go_simp; (try with_reducible rfl)
                        try go_frame
                        refine wpF_t (i := 32) (oi := op2fd4be1d) (v := ?_) rfl (by kernel_rfl) (fun _ _ _ h => h) (Or.inl ⟨by rfl, ?_⟩) hHeld ?_; rotate_left
                        · intro w_ hSw_; (try dsimp only at hSw_); go_simp; (try with_reducible rfl)
                        try go_frame
                        refine wpF_t (i := 33) (oi := opb3a4c920) (v := ?_) rfl (by kernel_rfl) (fun _ _ _ h => h) (Or.inl ⟨by rfl, ?_⟩) hHeld ?_; rotate_left
                        · intro w_ hSw_; (try dsimp only at hSw_); go_simp; (try with_reducible rfl)
                        try go_frame
                        refine wpF_t (i := 34) (oi := op9b6c763c) (v := ?_) rfl (by kernel_rfl) (fun _ _ _ h => h) (Or.inl ⟨by rfl, ?_⟩) hHeld ?_; rotate_left
                        · intro w_ hSw_; (try dsimp only at hSw_); go_simp; (try with_reducible rfl)
                        try go_frame
                        refine wpF_t (i := 35) (oi := opfad4d3cd) (v := ?_) rfl (by kernel_rfl) (fun _ _ _ h => h) (Or.inl ⟨by rfl, ?_⟩) hHeld ?_; rotate_left
                        · intro w_ hSw_; (try dsimp only at hSw_); go_simp; (try with_reducible rfl)
                        try go_frame
                        refine wpF_t (i := 36) (oi := op3488e887) (v := ?_) rfl (by kernel_rfl) (fun _ _ _ h => h) (Or.inl ⟨by rfl, ?_⟩) hHeld ?_; rotate_left
                        · intro w_ hSw_; (try dsimp only at hSw_); go_simp; (try with_reducible rfl)
                        try go_frame
                        refine wpF_t (i := 37) (oi := opcd0bfc77) (v := ?_) rfl (by kernel_rfl) (fun _ _ _ h => h) (Or.inl ⟨by rfl, ?_⟩) hHeld ?_; rotate_left
                        · intro w_ hSw_; (try dsimp only at hSw_); go_simp; (try with_reducible rfl)
                        try go_frame
                        refine wpF_t (i := 38) (oi := op6f5c92e1) (v := ?_) rfl (by kernel_rfl) (fun _ _ _ h => h) (Or.inl ⟨by rfl, ?_⟩) hHeld ?_; rotate_left
                        · intro w_ hSw_; (try dsimp only at hSw_); go_simp; (try with_reducible rfl)
                        try go_frame
                        refine wpF_t (i := 39) (oi := op261c3369) (v := ?_) rfl (by kernel_rfl) (fun _ _ _ h => h) (Or.inl ⟨by rfl, ?_⟩) hHeld ?_; rotate_left
                        · intro w_ hSw_; (try dsimp only at hSw_); go_simp; (try with_reducible rfl)
                        try go_frame
                        refine wpF_t (i := 40) (oi := opc1fa65b9) (v := ?_) rfl (by kernel_rfl) (fun _ _ _ h => h) (Or.inl ⟨by rfl, ?_⟩) hHeld ?_; rotate_left
                        · intro w_ hSw_; (try dsimp only at hSw_); go_simp; (try with_reducible rfl)
                        try go_frame
                        refine wpF_t (i := 41) (oi := op7bd15cba) (v := ?_) rfl (by kernel_rfl) (fun _ _ _ h => h) (Or.inl ⟨by rfl, ?_⟩) hHeld ?_; rotate_left
                        · intro w_ hSw_; (try dsimp only at hSw_); go_simp; (try with_reducible rfl)
                        try go_frame
                        refine wpF_t (i := 42) (oi := op81eb16be) (v := ?_) rfl (by kernel_rfl) (fun _ _ _ h => h) (Or.inl ⟨by rfl, ?_⟩) hHeld ?_; rotate_left
                        · intro w_ hSw_; (try dsimp only at hSw_); go_simp; (try with_reducible rfl)
                        try go_frame
                        refine wpF_t (i := 43) (oi := op80e285af) (v := ?_) rfl (by kernel_rfl) (fun _ _ _ h => h) (Or.inl ⟨by rfl, ?_⟩) hHeld ?_; rotate_left
                        · intro w_ hSw_; (try dsimp only at hSw_); go_simp; (try with_reducible rfl)
                        try go_frame
                        refine wpF_t (i := 44) (oi := op34a4a282) (v := ?_) rfl (by kernel_rfl) (fun _ _ _ h => h) (Or.inl ⟨by rfl, ?_⟩) hHeld ?_; rotate_left
                        · intro w_ hSw_; (try dsimp only at hSw_); go_simp; (try with_reducible rfl)
                        try go_frame
                        refine wpF_t (i := 45) (oi := op027ce521) (v := ?_) rfl (by kernel_rfl) (fun _ _ _ h => h) (Or.inl ⟨by rfl, ?_⟩) hHeld ?_; rotate_left
                        · intro w_ hSw_; (try dsimp only at hSw_); go_simp; (try with_reducible rfl)
                        try go_frame
                        refine wpF_t (i := 46) (oi := op6ef8c42a) (v := ?_) rfl (by kernel_rfl) (fun _ _ _ h => h) (Or.inl ⟨by rfl, ?_⟩) hHeld ?_; rotate_left
                        · intro w_ hSw_; (try dsimp only at hSw_); go_simp; (try with_reducible rfl)
                        try go_frame
                        refine wpF_t (i := 47) (oi := opf6ecbe67) (v := ?_) rfl (by kernel_rfl) (fun _ _ _ h => h) (Or.inl ⟨by rfl, ?_⟩) hHeld ?_; rotate_left
                        · intro w_ hSw_; (try dsimp only at hSw_); go_simp; (try with_reducible rfl)
                        try go_frame
                        refine wpF_t (i := 48) (oi := op5736d430) (v := ?_) rfl (by kernel_rfl) (fun _ _ _ h => h) (Or.inl ⟨by rfl, ?_⟩) hHeld ?_; rotate_left
                        · intro w_ hSw_; (try dsimp only at hSw_); go_simp; (try with_reducible rfl)
                        try go_frame
                        refine wpAnyF_done (by kernel_rfl) ?_ _
                        clear hHeld
                        go_wp2
                        go_roundg (L1 - (r + 1))
                        case measure => omega
                        case rel => exact ⟨r + 1, rfl, by go_num, by omega, V1, HB1, fun r' h => by
                          rcases Nat.lt_or_ge r' r with h2 | h2
                          · exact HI.out r' h2
                          · obtain rfl : r' = r := by omega
                            exact HOK.out⟩
                      · have HR : Hid (okB M = false) := HNO.out (fun h => q5 (HT.out.1 h))
                        have q5b : (t == 0) = false := by simpa using q5
                        clear q5
                        go_wp2_with fail
                        have V1 := V.drew
                        have cA1 : wr.drew.cell? ⟨bA, oA + r, none⟩ = some (.int .i64 x) := cA
                        have cB1 : wr.drew.cell? ⟨bB, oB + r, none⟩ = some (.int .i64 y) := cB
                        have HB1 := below_drew HB
                        generalize hWd : wr.drew = wd at *
                        refine wp_region_F (fun w' => w'.cell? ⟨b, 0, none⟩ = some (.int .i64 L1) ∧ w'.cell? ⟨b, 1, none⟩ = some (.slice (some ⟨bA, oA, none⟩) L1 c) ∧ w'.cell? ⟨b, 2, none⟩ = some (.slice (some ⟨bB, oB, none⟩) L1 c') ∧ w'.cell? ⟨bA, oA + r, none⟩ = some (.int .i64 x) ∧ w'.cell? ⟨bB, oB + r, none⟩ = some (.int .i64 y)) [] (by kernel_rfl) (by rw [hWd]; exact ⟨V1.c0, V1.c1, V1.c2, cA1, cB1⟩) (fun hHeld => ?_)
                        rw [hWd] at hHeld ⊢
                        refine wpF_t (i := 0) (oi := opf6f50bad) (v := ?_) rfl (by kernel_rfl) (fun _ _ _ h => h) (Or.inl ⟨by rfl, ?_⟩) hHeld ?_; rotate_left
                        · intro w_ hSw_; (try dsimp only at hSw_); go_simp; (try with_reducible rfl)
                        try go_frame
                        refine wpF_t (i := 1) (oi := opfec9fbd3) (v := ?_) rfl (by kernel_rfl) (fun _ _ _ h => h) (Or.inl ⟨by rfl, ?_⟩) hHeld ?_; rotate_left
                        · intro w_ hSw_; (try dsimp only at hSw_); go_simp; (try with_reducible rfl)
                        try go_frame
                        refine wpF_t (i := 2) (oi := opdc751262) (v := ?_) rfl (by kernel_rfl) (fun _ _ _ h => h) (Or.inl ⟨by rfl, ?_⟩) hHeld ?_; rotate_left
                        · intro w_ hSw_; (try dsimp only at hSw_); go_simp; (try with_reducible rfl)
                        try go_frame
                        refine wpF_t (i := 3) (oi := opfe91221d) (v := ?_) rfl (by kernel_rfl) (fun _ _ _ h => h) (Or.inl ⟨by rfl, ?_⟩) hHeld ?_; rotate_left
                        · intro w_ hSw_; (try dsimp only at hSw_); go_simp; (try with_reducible rfl)
                        try go_frame
                        refine wpF_t (i := 4) (oi := opa17a9525) (v := ?_) rfl (by kernel_rfl) (fun _ _ _ h => h) (Or.inl ⟨by rfl, ?_⟩) hHeld ?_; rotate_left
                        · intro w_ hSw_; (try dsimp only at hSw_); go_simp; (try with_reducible rfl)
                        try go_frame
                        refine wpF_t (i := 5) (oi := ope471006d) (v := ?_) rfl (by kernel_rfl) (fun _ _ _ h => h) (Or.inl ⟨by rfl, ?_⟩) hHeld ?_; rotate_left
                        · intro w_ hSw_; (try dsimp only at hSw_); go_simp; (try with_reducible rfl)
                        try go_frame
                        refine wpF_t (i := 6) (oi := opc0abe06b) (v := ?_) rfl (by kernel_rfl) (fun _ _ _ h => h) (Or.inl ⟨by rfl, ?_⟩) hHeld ?_; rotate_left
                        · intro w_ hSw_; (try dsimp only at hSw_); go_simp; (try with_reducible rfl)
                        try go_frame
                        refine wpF_t (i := 7) (oi := op0916a3f7) (v := ?_) rfl (by kernel_rfl) (fun _ _ _ h => h) (Or.inl ⟨by rfl, ?_⟩) hHeld ?_; rotate_left
                        · intro w_ hSw_; (try dsimp only at hSw_); go_simp; (try with_reducible rfl)
                        try go_frame
                        refine wpF_t (i := 8) (oi := opd2427a63) (v := ?_) rfl (by kernel_rfl) (fun _ _ _ h => h) (Or.inl ⟨by rfl, ?_⟩) hHeld ?_; rotate_left
                        · intro w_ hSw_; (try dsimp only at hSw_); go_simp; (try with_reducible rfl)
                        try go_frame
                        refine wpF_t (i := 9) (oi := opb9f769c4) (v := ?_) rfl (by kernel_rfl) (fun _ _ _ h => h) (Or.inl ⟨by rfl, ?_⟩) hHeld ?_; rotate_left
                        · intro w_ hSw_; (try dsimp only at hSw_); go_simp; (try with_reducible rfl)
                        try go_frame
                        refine wpF_t (i := 10) (oi := op336bc7d6) (v := ?_) rfl (by kernel_rfl) (fun _ _ _ h => h) (Or.inl ⟨by rfl, ?_⟩) hHeld ?_; rotate_left
                        · intro w_ hSw_; (try dsimp only at hSw_); go_simp; (try with_reducible rfl)
                        try go_frame
                        refine wpF_t (i := 11) (oi := opc4374836) (v := ?_) rfl (by kernel_rfl) (fun _ _ _ h => h) (Or.inl ⟨by rfl, ?_⟩) hHeld ?_; rotate_left
                        · intro w_ hSw_; (try dsimp only at hSw_); go_simp; (try with_reducible rfl)
                        try go_frame
                        refine wpF_t (i := 12) (oi := opea90698e) (v := ?_) rfl (by kernel_rfl) (fun _ _ _ h => h) (Or.inl ⟨by rfl, ?_⟩) hHeld ?_; rotate_left
                        · intro w_ hSw_; (try dsimp only at hSw_); go_simp; (try with_reducible rfl)
                        try go_frame
                        refine wpF_t (i := 13) (oi := opdf3f76a5) (v := ?_) rfl (by kernel_rfl) (fun _ _ _ h => h) (Or.inl ⟨by rfl, ?_⟩) hHeld ?_; rotate_left
                        · intro w_ hSw_; (try dsimp only at hSw_); go_simp; (try with_reducible rfl)
                        try go_frame
                        refine wpF_t (i := 14) (oi := op5c1d7a25) (v := ?_) rfl (by kernel_rfl) (fun _ _ _ h => h) (Or.inl ⟨by rfl, ?_⟩) hHeld ?_; rotate_left
                        · intro w_ hSw_; (try dsimp only at hSw_); go_simp; (try with_reducible rfl)
                        try go_frame
                        refine wpF_t (i := 15) (oi := opafdad9eb) (v := ?_) rfl (by kernel_rfl) (fun _ _ _ h => h) (Or.inl ⟨by rfl, ?_⟩) hHeld ?_; rotate_left
                        · intro w_ hSw_; (try dsimp only at hSw_); go_simp; (try with_reducible rfl)
                        try go_frame
                        refine wpF_t (i := 16) (oi := op7d897505) (v := ?_) rfl (by kernel_rfl) (fun _ _ _ h => h) (Or.inl ⟨by rfl, ?_⟩) hHeld ?_; rotate_left
                        · intro w_ hSw_; (try dsimp only at hSw_); go_simp; (try with_reducible rfl)
                        try go_frame
                        refine wpF_t (i := 17) (oi := opd54fe462) (v := ?_) rfl (by kernel_rfl) (fun _ _ _ h => h) (Or.inl ⟨by rfl, ?_⟩) hHeld ?_; rotate_left
                        · intro w_ hSw_; (try dsimp only at hSw_); go_simp; (try with_reducible rfl)
                        try go_frame
                        refine wpF_t (i := 18) (oi := op47c2bc4d) (v := ?_) rfl (by kernel_rfl) (fun _ _ _ h => h) (Or.inl ⟨by rfl, ?_⟩) hHeld ?_; rotate_left
                        · intro w_ hSw_; (try dsimp only at hSw_); go_simp; (try with_reducible rfl)
                        try go_frame
                        refine wpF_t (i := 19) (oi := opf9e4b20e) (v := ?_) rfl (by kernel_rfl) (fun _ _ _ h => h) (Or.inl ⟨by rfl, ?_⟩) hHeld ?_; rotate_left
                        · intro w_ hSw_; (try dsimp only at hSw_); go_simp; (try with_reducible rfl)
                        try go_frame
                        refine wpF_t (i := 20) (oi := op6be12908) (v := ?_) rfl (by kernel_rfl) (fun _ _ _ h => h) (Or.inl ⟨by rfl, ?_⟩) hHeld ?_; rotate_left
                        · intro w_ hSw_; (try dsimp only at hSw_); go_simp; (try with_reducible rfl)
                        try go_frame
                        refine wpF_t (i := 21) (oi := op44200171) (v := ?_) rfl (by kernel_rfl) (fun _ _ _ h => h) (Or.inl ⟨by rfl, ?_⟩) hHeld ?_; rotate_left
                        · intro w_ hSw_; (try dsimp only at hSw_); go_simp; (try with_reducible rfl)
                        try go_frame
                        refine wpF_t (i := 22) (oi := op953fc2eb) (v := ?_) rfl (by kernel_rfl) (fun _ _ _ h => h) (Or.inl ⟨by rfl, ?_⟩) hHeld ?_; rotate_left
                        · intro w_ hSw_; (try dsimp only at hSw_); go_simp; (try with_reducible rfl)
                        try go_frame
                        refine wpF_t (i := 23) (oi := op263cfc1f) (v := ?_) rfl (by kernel_rfl) (fun _ _ _ h => h) (Or.inl ⟨by rfl, ?_⟩) hHeld ?_; rotate_left
                        · intro w_ hSw_; (try dsimp only at hSw_); go_simp; (try with_reducible rfl)
                        try go_frame
                        refine wpF_t (i := 24) (oi := op7ccb6552) (v := ?_) rfl (by kernel_rfl) (fun _ _ _ h => h) (Or.inl ⟨by rfl, ?_⟩) hHeld ?_; rotate_left
                        · intro w_ hSw_; (try dsimp only at hSw_); go_simp; (try with_reducible rfl)
                        try go_frame
                        refine wpF_t (i := 25) (oi := op954c6ff4) (v := ?_) rfl (by kernel_rfl) (fun _ _ _ h => h) (Or.inl ⟨by rfl, ?_⟩) hHeld ?_; rotate_left
                        · intro w_ hSw_; (try dsimp only at hSw_); go_simp; (try with_reducible rfl)
                        try go_frame
                        refine wpF_t (i := 26) (oi := op6794c89b) (v := ?_) rfl (by kernel_rfl) (fun _ _ _ h => h) (Or.inl ⟨by rfl, ?_⟩) hHeld ?_; rotate_left
                        · intro w_ hSw_; (try dsimp only at hSw_); go_simp; (try with_reducible rfl)
                        try go_frame
                        refine wpF_t (i := 27) (oi := op87dd2451) (v := ?_) rfl (by kernel_rfl) (fun _ _ _ h => h) (Or.inl ⟨by rfl, ?_⟩) hHeld ?_; rotate_left
                        · intro w_ hSw_; (try dsimp only at hSw_); go_simp; (try with_reducible rfl)
                        try go_frame
                        refine wpF_t (i := 28) (oi := op55d76491) (v := ?_) rfl (by kernel_rfl) (fun _ _ _ h => h) (Or.inl ⟨by rfl, ?_⟩) hHeld ?_; rotate_left
                        · intro w_ hSw_; (try dsimp only at hSw_); go_simp; (try with_reducible rfl)
                        try go_frame
                        refine wpF_t (i := 29) (oi := op5a1ed440) (v := ?_) rfl (by kernel_rfl) (fun _ _ _ h => h) (Or.inl ⟨by rfl, ?_⟩) hHeld ?_; rotate_left
                        · intro w_ hSw_; (try dsimp only at hSw_); go_simp; (try with_reducible rfl)
                        try go_frame
                        refine wpF_t (i := 30) (oi := op6cbfc3d4) (v := ?_) rfl (by kernel_rfl) (fun _ _ _ h => h) (Or.inl ⟨by rfl, ?_⟩) hHeld ?_; rotate_left
                        · intro w_ hSw_; (try dsimp only at hSw_); go_simp; (try with_reducible rfl)
                        try go_frame
                        refine wpF_t (i := 31) (oi := op03879ad8) (v := ?_) rfl (by kernel_rfl) (fun _ _ _ h => h) (Or.inl ⟨by rfl, ?_⟩) hHeld ?_; rotate_left
                        · intro w_ hSw_; (try dsimp only at hSw_); go_simp; (try with_reducible rfl)
                        try go_frame
                        refine wpF_t (i := 32) (oi := op2fd4be1d) (v := ?_) rfl (by kernel_rfl) (fun _ _ _ h => h) (Or.inl ⟨by rfl, ?_⟩) hHeld ?_; rotate_left
                        · intro w_ hSw_; (try dsimp only at hSw_); go_simp; (try with_reducible rfl)
                        try go_frame
                        refine wpF_t (i := 33) (oi := opb3a4c920) (v := ?_) rfl (by kernel_rfl) (fun _ _ _ h => h) (Or.inl ⟨by rfl, ?_⟩) hHeld ?_; rotate_left
                        · intro w_ hSw_; (try dsimp only at hSw_); go_simp; (try with_reducible rfl)
                        try go_frame
                        refine wpF_t (i := 34) (oi := op9b6c763c) (v := ?_) rfl (by kernel_rfl) (fun _ _ _ h => h) (Or.inl ⟨by rfl, ?_⟩) hHeld ?_; rotate_left
                        · intro w_ hSw_; (try dsimp only at hSw_); go_simp; (try with_reducible rfl)
                        try go_frame
                        refine wpF_t (i := 35) (oi := opfad4d3cd) (v := ?_) rfl (by kernel_rfl) (fun _ _ _ h => h) (Or.inl ⟨by rfl, ?_⟩) hHeld ?_; rotate_left
                        · intro w_ hSw_; (try dsimp only at hSw_); go_simp; (try with_reducible rfl)
                        try go_frame
                        refine wpF_t (i := 36) (oi := op3488e887) (v := ?_) rfl (by kernel_rfl) (fun _ _ _ h => h) (Or.inl ⟨by rfl, ?_⟩) hHeld ?_; rotate_left
                        · intro w_ hSw_; (try dsimp only at hSw_); go_simp; (try with_reducible rfl)
                        try go_frame
                        refine wpF_t (i := 37) (oi := opcd0bfc77) (v := ?_) rfl (by kernel_rfl) (fun _ _ _ h => h) (Or.inl ⟨by rfl, ?_⟩) hHeld ?_; rotate_left
                        · intro w_ hSw_; (try dsimp only at hSw_); go_simp; (try with_reducible rfl)
                        try go_frame
                        refine wpF_t (i := 38) (oi := op6f5c92e1) (v := ?_) rfl (by kernel_rfl) (fun _ _ _ h => h) (Or.inl ⟨by rfl, ?_⟩) hHeld ?_; rotate_left
                        · intro w_ hSw_; (try dsimp only at hSw_); go_simp; (try with_reducible rfl)
                        try go_frame
                        refine wpF_t (i := 39) (oi := op261c3369) (v := ?_) rfl (by kernel_rfl) (fun _ _ _ h => h) (Or.inl ⟨by rfl, ?_⟩) hHeld ?_; rotate_left
                        · intro w_ hSw_; (try dsimp only at hSw_); go_simp; (try with_reducible rfl)
                        try go_frame
                        refine wpF_t (i := 40) (oi := opc1fa65b9) (v := ?_) rfl (by kernel_rfl) (fun _ _ _ h => h) (Or.inl ⟨by rfl, ?_⟩) hHeld ?_; rotate_left
                        · intro w_ hSw_; (try dsimp only at hSw_); go_simp; (try with_reducible rfl)
                        try go_frame
                        refine wpF_t (i := 41) (oi := op7bd15cba) (v := ?_) rfl (by kernel_rfl) (fun _ _ _ h => h) (Or.inl ⟨by rfl, ?_⟩) hHeld ?_; rotate_left
                        · intro w_ hSw_; (try dsimp only at hSw_); go_simp; (try with_reducible rfl)
                        try go_frame
                        refine wpF_t (i := 42) (oi := op81eb16be) (v := ?_) rfl (by kernel_rfl) (fun _ _ _ h => h) (Or.inl ⟨by rfl, ?_⟩) hHeld ?_; rotate_left
                        · intro w_ hSw_; (try dsimp only at hSw_); go_simp; (try with_reducible rfl)
                        try go_frame
                        refine wpF_t (i := 43) (oi := op80e285af) (v := ?_) rfl (by kernel_rfl) (fun _ _ _ h => h) (Or.inl ⟨by rfl, ?_⟩) hHeld ?_; rotate_left
                        · intro w_ hSw_; (try dsimp only at hSw_); go_simp; (try with_reducible rfl)
                        try go_frame
                        refine wpF_t (i := 44) (oi := op34a4a282) (v := ?_) rfl (by kernel_rfl) (fun _ _ _ h => h) (Or.inl ⟨by rfl, ?_⟩) hHeld ?_; rotate_left
                        · intro w_ hSw_; (try dsimp only at hSw_); go_simp; (try with_reducible rfl)
                        try go_frame
                        refine wpF_t (i := 45) (oi := op027ce521) (v := ?_) rfl (by kernel_rfl) (fun _ _ _ h => h) (Or.inl ⟨by rfl, ?_⟩) hHeld ?_; rotate_left
                        · intro w_ hSw_; (try dsimp only at hSw_); go_simp; (try with_reducible rfl)
                        try go_frame
                        refine wpF_t (i := 46) (oi := op6ef8c42a) (v := ?_) rfl (by kernel_rfl) (fun _ _ _ h => h) (Or.inl ⟨by rfl, ?_⟩) hHeld ?_; rotate_left
                        · intro w_ hSw_; (try dsimp only at hSw_); go_simp; (try with_reducible rfl)
                        try go_frame
                        refine wpF_t (i := 47) (oi := opf6ecbe67) (v := ?_) rfl (by kernel_rfl) (fun _ _ _ h => h) (Or.inl ⟨by rfl, ?_⟩) hHeld ?_; rotate_left
                        · intro w_ hSw_; (try dsimp only at hSw_); go_simp; (try with_reducible rfl)
                        try go_frame
                        refine wpF_t (i := 48) (oi := op5736d430) (v := ?_) rfl (by kernel_rfl) (fun _ _ _ h => h) (Or.inl ⟨by rfl, ?_⟩) hHeld ?_; rotate_left
                        · intro w_ hSw_; (try dsimp only at hSw_); go_simp; (try with_reducible rfl)
                        try go_frame
                        refine wpAnyF_done (by kernel_rfl) ?_ _
                        clear hHeld
                        go_wp2
                        go_ret
                        exact ⟨by rw [HR.out] <;> rfl, by rw [hb0]; exact HB1⟩
            · have HR : Hid (okB M = true) := by
                show _ = _
                rw [HR0.out, okRs_iff]
                exact fun r' h => HI.out r' (by omega)
              go_wp2
              go_ret
              exact ⟨by rw [HR.out] <;> rfl, by rw [hb0]; exact HB⟩
end Go.Proofs.YtiaeeclmlchpoaaGreatDoor
