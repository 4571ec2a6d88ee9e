/- The law FateParts. No condition but that the library's table lies as it should. -/
import Derived.Test.YtiaeeclmlchpoaaDoorZA
import Derived.Test.YtiaeeclmlchpoaaDoorZK
import Derived.Test.YtiaeeclmlchpoaaDoorZI
import Derived.Maps.RangeWalk
set_option linter.unusedVariables false
set_option linter.unusedSimpArgs false
namespace Go.Proofs.YtiaeeclmlchpoaaDoor
open Go.RowKit

abbrev op1c52524a : Oper := { dst := some 75, op := Go.Op.load 39 (Go.Operand.tmp 11), type := 39, pos := "law.go:218", after := #[], guard := none }
abbrev opda935f34 : Oper := { dst := some 76, op := Go.Op.move (Go.Operand.tmp 2), type := 3, pos := "law.go:218", after := #[], guard := none }
abbrev op1f7f3e89 : Oper := { dst := some 80, op := Go.Op.unOp Go.UnOp.not 4 (Go.Operand.tmp 79), type := 4, pos := "law.go:218", after := #[{ on := 4, ground := Go.Ground.data }], guard := none }
abbrev opc6cabf31 : Oper := { dst := some 81, op := Go.Op.move (Go.Operand.tmp 80), type := 4, pos := "law.go:218", after := #[{ on := 5, ground := Go.Ground.data }, { on := 4, ground := Go.Ground.chain }], guard := none }
abbrev op59cab412 : Oper := { dst := some 82, op := Go.Op.load 39 (Go.Operand.tmp 11), type := 39, pos := "law.go:218", after := #[{ on := 6, ground := Go.Ground.guard }], guard := some (6, false) }
abbrev op780186ee : Oper := { dst := some 83, op := Go.Op.move (Go.Operand.tmp 2), type := 3, pos := "law.go:218", after := #[{ on := 6, ground := Go.Ground.guard }], guard := some (6, false) }
abbrev op45b45a26 : Oper := { dst := some 84, op := Go.Op.move (Go.Operand.tmp 3), type := 3, pos := "law.go:218", after := #[{ on := 6, ground := Go.Ground.guard }], guard := some (6, false) }
abbrev opb85b40b4 : Oper := { dst := some 85, op := Go.Op.binOp Go.BinOp.add 3 (Go.Operand.tmp 83) (Go.Operand.tmp 84) 3, type := 3, pos := "law.go:218", after := #[{ on := 8, ground := Go.Ground.data }, { on := 9, ground := Go.Ground.data }, { on := 6, ground := Go.Ground.guard }], guard := some (6, false) }
abbrev op53a4b3c9 : Oper := { dst := some 86, op := Go.Op.call { callee := Go.Callee.value (Go.Operand.func 23), args := #[Go.Operand.tmp 85], argTypes := #[3] }, type := 39, pos := "law.go:218", after := #[{ on := 10, ground := Go.Ground.data }, { on := 6, ground := Go.Ground.chain }, { on := 6, ground := Go.Ground.guard }], guard := some (6, false) }
abbrev op5e2efdcb : Oper := { dst := some 87, op := Go.Op.call { callee := Go.Callee.value (Go.Operand.func 31), args := #[Go.Operand.tmp 82, Go.Operand.tmp 86], argTypes := #[39, 39] }, type := 39, pos := "law.go:218", after := #[{ on := 7, ground := Go.Ground.data }, { on := 11, ground := Go.Ground.data }, { on := 11, ground := Go.Ground.chain }, { on := 6, ground := Go.Ground.guard }], guard := some (6, false) }
abbrev op0e170d34 : Oper := { dst := some 88, op := Go.Op.call { callee := Go.Callee.value (Go.Operand.func 30), args := #[Go.Operand.tmp 87], argTypes := #[39] }, type := 4, pos := "law.go:218", after := #[{ on := 12, ground := Go.Ground.data }, { on := 12, ground := Go.Ground.chain }, { on := 6, ground := Go.Ground.guard }], guard := some (6, false) }
abbrev op902faa70 : Oper := { dst := some 89, op := Go.Op.unOp Go.UnOp.not 4 (Go.Operand.tmp 88), type := 4, pos := "law.go:218", after := #[{ on := 13, ground := Go.Ground.data }, { on := 6, ground := Go.Ground.guard }], guard := some (6, false) }
abbrev op522560a3 : Oper := { dst := some 90, op := Go.Op.pick (Go.Operand.tmp 81) (Go.Operand.const (Go.Value.bool true)) (Go.Operand.tmp 89), type := 4, pos := "law.go:218", after := #[{ on := 6, ground := Go.Ground.data }, { on := 14, ground := Go.Ground.data }], guard := none }
abbrev ope5b603c6 : Oper := { dst := some 101, op := Go.Op.load 24 (Go.Operand.tmp 5), type := 24, pos := "law.go:222", after := #[], guard := none }
abbrev opf5419050 : Oper := { dst := some 102, op := Go.Op.load 39 (Go.Operand.tmp 11), type := 39, pos := "law.go:222", after := #[], guard := none }
abbrev op06a50a45 : Oper := { dst := some 103, op := Go.Op.move (Go.Operand.tmp 2), type := 3, pos := "law.go:222", after := #[], guard := none }
abbrev op76b8c2d8 : Oper := { dst := some 107, op := Go.Op.move (Go.Operand.tmp 3), type := 3, pos := "law.go:222", after := #[], guard := none }
abbrev opceb5ff3f : Oper := { dst := some 108, op := Go.Op.move (Go.Operand.tmp 4), type := 3, pos := "law.go:222", after := #[], guard := none }
abbrev op40eae79f : Oper := { dst := some 100, op := Go.Op.move (Go.Operand.tmp 109), type := 65, pos := "law.go:222", after := #[{ on := 8, ground := Go.Ground.data }], guard := none }
abbrev op7757caee : Oper := { dst := some 110, op := Go.Op.extract (Go.Operand.tmp 100) 0, type := 64, pos := "law.go:222", after := #[{ on := 9, ground := Go.Ground.data }], guard := none }
abbrev op2c33c549 : Oper := { dst := some 111, op := Go.Op.extract (Go.Operand.tmp 100) 1, type := 27, pos := "law.go:222", after := #[{ on := 9, ground := Go.Ground.data }, { on := 12, ground := Go.Ground.gcOnly Go.Departure.lateStores }], guard := none }
abbrev op7a038200 : Oper := { dst := some 14, op := Go.Op.assign (Go.Operand.tmp 110), type := 64, pos := "law.go:222", after := #[{ on := 10, ground := Go.Ground.data }, { on := 8, ground := Go.Ground.chain }, { on := 0, ground := Go.Ground.phase }, { on := 1, ground := Go.Ground.phase }, { on := 2, ground := Go.Ground.phase }, { on := 3, ground := Go.Ground.phase }, { on := 4, ground := Go.Ground.phase }, { on := 5, ground := Go.Ground.phase }, { on := 6, ground := Go.Ground.phase }, { on := 7, ground := Go.Ground.phase }, { on := 8, ground := Go.Ground.phase }, { on := 9, ground := Go.Ground.phase }, { on := 10, ground := Go.Ground.phase }, { on := 11, ground := Go.Ground.textOnly Go.Departure.lateStores }], guard := none }
abbrev opc14cf3da : Oper := { dst := some 15, op := Go.Op.assign (Go.Operand.tmp 111), type := 27, pos := "law.go:222", after := #[{ on := 11, ground := Go.Ground.data }, { on := 12, ground := Go.Ground.chain }, { on := 0, ground := Go.Ground.phase }, { on := 1, ground := Go.Ground.phase }, { on := 2, ground := Go.Ground.phase }, { on := 3, ground := Go.Ground.phase }, { on := 4, ground := Go.Ground.phase }, { on := 5, ground := Go.Ground.phase }, { on := 6, ground := Go.Ground.phase }, { on := 7, ground := Go.Ground.phase }, { on := 8, ground := Go.Ground.phase }, { on := 9, ground := Go.Ground.phase }, { on := 10, ground := Go.Ground.phase }, { on := 11, ground := Go.Ground.phase }, { on := 12, ground := Go.Ground.phase }], guard := none }
abbrev op53260b07 : Oper := { dst := some 145, op := Go.Op.move (Go.Operand.tmp 16), type := 64, pos := "law.go:230", after := #[], guard := none }
abbrev op33944e84 : Oper := { dst := some 146, op := Go.Op.move (Go.Operand.tmp 19), type := 3, pos := "law.go:230", after := #[], guard := none }
abbrev opea774595 : Oper := { dst := some 147, op := Go.Op.indexAddr 64 (Go.Operand.tmp 145) (Go.Operand.tmp 146), type := 0, pos := "law.go:230", after := #[{ on := 0, ground := Go.Ground.data }, { on := 1, ground := Go.Ground.data }], guard := none }
abbrev op4b42854e : Oper := { dst := some 148, op := Go.Op.fieldAddr 68 (Go.Operand.tmp 147) 1, type := 0, pos := "law.go:230", after := #[{ on := 2, ground := Go.Ground.data }], guard := none }
abbrev op3ab64d3d : Oper := { dst := some 149, op := Go.Op.load 3 (Go.Operand.tmp 148), type := 3, pos := "law.go:230", after := #[{ on := 3, ground := Go.Ground.data }], guard := none }
abbrev op8880c0ef : Oper := { dst := some 150, op := Go.Op.move (Go.Operand.tmp 12), type := 64, pos := "law.go:230", after := #[], guard := none }
abbrev op4ace6c28 : Oper := { dst := some 151, op := Go.Op.move (Go.Operand.tmp 16), type := 64, pos := "law.go:230", after := #[], guard := none }
abbrev opc61f2439 : Oper := { dst := some 152, op := Go.Op.move (Go.Operand.tmp 19), type := 3, pos := "law.go:230", after := #[], guard := none }
abbrev opb276cef4 : Oper := { dst := some 153, op := Go.Op.indexAddr 64 (Go.Operand.tmp 151) (Go.Operand.tmp 152), type := 0, pos := "law.go:230", after := #[{ on := 6, ground := Go.Ground.data }, { on := 7, ground := Go.Ground.data }], guard := none }
abbrev opd3c698e7 : Oper := { dst := some 154, op := Go.Op.fieldAddr 68 (Go.Operand.tmp 153) 0, type := 0, pos := "law.go:230", after := #[{ on := 8, ground := Go.Ground.data }], guard := none }
abbrev op0fa1bab7 : Oper := { dst := some 155, op := Go.Op.load 9 (Go.Operand.tmp 154), type := 9, pos := "law.go:230", after := #[{ on := 9, ground := Go.Ground.data }], guard := none }
abbrev op4b68613c : Oper := { dst := some 157, op := Go.Op.move (Go.Operand.tmp 14), type := 64, pos := "law.go:230", after := #[], guard := none }
abbrev op00693b94 : Oper := { dst := some 158, op := Go.Op.move (Go.Operand.tmp 16), type := 64, pos := "law.go:230", after := #[], guard := none }
abbrev opa5353560 : Oper := { dst := some 159, op := Go.Op.move (Go.Operand.tmp 19), type := 3, pos := "law.go:230", after := #[], guard := none }
abbrev opeb033b5a : Oper := { dst := some 160, op := Go.Op.indexAddr 64 (Go.Operand.tmp 158) (Go.Operand.tmp 159), type := 0, pos := "law.go:230", after := #[{ on := 13, ground := Go.Ground.data }, { on := 14, ground := Go.Ground.data }], guard := none }
abbrev op65825fb4 : Oper := { dst := some 161, op := Go.Op.fieldAddr 68 (Go.Operand.tmp 160) 0, type := 0, pos := "law.go:230", after := #[{ on := 15, ground := Go.Ground.data }], guard := none }
abbrev op53a1d5c0 : Oper := { dst := some 162, op := Go.Op.load 9 (Go.Operand.tmp 161), type := 9, pos := "law.go:230", after := #[{ on := 16, ground := Go.Ground.data }], guard := none }
abbrev op3a12648f : Oper := { dst := some 164, op := Go.Op.binOp Go.BinOp.add 3 (Go.Operand.tmp 156) (Go.Operand.tmp 163) 3, type := 3, pos := "law.go:230", after := #[{ on := 11, ground := Go.Ground.data }, { on := 18, ground := Go.Ground.data }], guard := none }
abbrev op1a45f953 : Oper := { dst := some 165, op := Go.Op.binOp Go.BinOp.neq 3 (Go.Operand.tmp 149) (Go.Operand.tmp 164) 3, type := 4, pos := "law.go:230", after := #[{ on := 4, ground := Go.Ground.data }, { on := 19, ground := Go.Ground.data }], guard := none }
abbrev op4268aef8 : Oper := { dst := some 166, op := Go.Op.move (Go.Operand.tmp 165), type := 4, pos := "law.go:230", after := #[{ on := 20, ground := Go.Ground.data }, { on := 18, ground := Go.Ground.chain }], guard := none }
abbrev opcede512d : Oper := { dst := some 167, op := Go.Op.move (Go.Operand.tmp 16), type := 64, pos := "law.go:230", after := #[{ on := 21, ground := Go.Ground.guard }], guard := some (21, false) }
abbrev opba2a491f : Oper := { dst := some 168, op := Go.Op.move (Go.Operand.tmp 19), type := 3, pos := "law.go:230", after := #[{ on := 21, ground := Go.Ground.guard }], guard := some (21, false) }
abbrev opb757a7d3 : Oper := { dst := some 169, op := Go.Op.indexAddr 64 (Go.Operand.tmp 167) (Go.Operand.tmp 168), type := 0, pos := "law.go:230", after := #[{ on := 22, ground := Go.Ground.data }, { on := 23, ground := Go.Ground.data }, { on := 21, ground := Go.Ground.guard }], guard := some (21, false) }
abbrev op5a29c9ce : Oper := { dst := some 170, op := Go.Op.fieldAddr 68 (Go.Operand.tmp 169) 1, type := 0, pos := "law.go:230", after := #[{ on := 24, ground := Go.Ground.data }, { on := 21, ground := Go.Ground.guard }], guard := some (21, false) }
abbrev op50318d02 : Oper := { dst := some 171, op := Go.Op.load 3 (Go.Operand.tmp 170), type := 3, pos := "law.go:230", after := #[{ on := 25, ground := Go.Ground.data }, { on := 21, ground := Go.Ground.guard }], guard := some (21, false) }
abbrev ope088f6c0 : Oper := { dst := some 172, op := Go.Op.binOp Go.BinOp.lss 3 (Go.Operand.tmp 171) (Go.Operand.const (Go.Value.int Go.IntKind.i64 1)) 3, type := 4, pos := "law.go:230", after := #[{ on := 26, ground := Go.Ground.data }, { on := 21, ground := Go.Ground.guard }], guard := some (21, false) }
abbrev op3d994046 : Oper := { dst := some 173, op := Go.Op.pick (Go.Operand.tmp 166) (Go.Operand.const (Go.Value.bool true)) (Go.Operand.tmp 172), type := 4, pos := "law.go:230", after := #[{ on := 21, ground := Go.Ground.data }, { on := 27, ground := Go.Ground.data }], guard := none }
attribute [local go_sem] op1c52524a opda935f34 op1f7f3e89 opc6cabf31 op59cab412 op780186ee op45b45a26 opb85b40b4 op53a4b3c9 op5e2efdcb op0e170d34 op902faa70 op522560a3 ope5b603c6 opf5419050 op06a50a45 op76b8c2d8 opceb5ff3f op40eae79f op7757caee op2c33c549 op7a038200 opc14cf3da op53260b07 op33944e84 opea774595 op4b42854e op3ab64d3d op8880c0ef op4ace6c28 opc61f2439 opb276cef4 opd3c698e7 op0fa1bab7 op4b68613c op00693b94 opa5353560 opeb033b5a op65825fb4 op53a1d5c0 op3a12648f op1a45f953 op4268aef8 opcede512d opba2a491f opb757a7d3 op5a29c9ce op50318d02 ope088f6c0 op3d994046
theorem littleP_c (a b : Nat) (w : World) (h0 : a ≤ 20000) (h1 : b ≤ 20000) : Calls Tryd.prog 19 #[.int .i64 a, .int .i64 b] w fun e w' => e = .returned (.bool (decide (a * (b + 1) ≤ 100000))) ∧ Below w.heap.size w w' := by
  have hB := Below.refl w.heap.size w
  have hp : a * (b + 1) ≤ 20000 * 20001 := Nat.mul_le_mul h0 (by omega)
  have e1 : ((a : Int) * ((b : Int) + 1)) = ((a * (b + 1) : Nat) : Int) := by rw [Int.natCast_mul]; rfl
  have hb : (b : Int) ≤ 20000 := by omega
  have hb0 : (0 : Int) ≤ (b : Int) := by omega
  obtain ⟨p, hp2⟩ : ∃ p, a * (b + 1) = p := ⟨_, rfl⟩
  rw [hp2] at e1 hp ⊢
  clear hp2
  by_cases h : (p : Int) ≤ 100000
  · have HD : Hid (decide (p ≤ 100000) = true) := decide_eq_true (by omega)
    have h2 : (p : Int) ≤ 400020000 := by omega
    have h3 : (0 : Int) ≤ (p : Int) := by omega
    have hw : IntKind.i64.wrap (p : Int) = p := by rw [IntKind.wrap_i64]; omega
    go_enter Tryd.func19, Tryd.ntmps19
    go_wp2
    go_ret
    exact ⟨by rw [HD.out] <;> rfl, hB⟩
  · have HD : Hid (decide (p ≤ 100000) = false) := decide_eq_false (by omega)
    have h2 : (p : Int) ≤ 400020000 := by omega
    have h3 : (0 : Int) ≤ (p : Int) := by omega
    have hw : IntKind.i64.wrap (p : Int) = p := by rw [IntKind.wrap_i64]; omega
    go_enter Tryd.func19, Tryd.ntmps19
    go_wp2
    go_ret
    exact ⟨by rw [HD.out] <;> rfl, hB⟩
set_option maxRecDepth 100000 in
set_option maxHeartbeats 8000000 in
theorem FP_bad (M : Mp) (s : ByteArray) (a b most : Int) (v : Value) (w : World) (hM : IsM w v M) (ht : Tb w) (hs : s.size ≤ 9223372036854775807) (hbad : okB M = false ∨ vldL (codes s) = false) : Calls Tryd.prog 8 #[v, .string s, .int .i64 a, .int .i64 b, .int .i64 most] w fun e w' => e = .returned (.bool true) ∧ Below w.heap.size w w' := by
  obtain ⟨md, A, n, c, A', n', c', rfl, HM⟩ := hM.form
  have V3 := VM.new w 24 HM.out
  have HB := below_alloc (Below.refl w.heap.size w) (Obj.cells #[Value.int .i64 md, Value.slice A n c, Value.slice A' n' c'] 24)
  have HT := Lib.hid ht
  by_cases hok : okB M = true
  · have HOK := Lib.hid hok
    have HV : Hid (vldL (codes s) = false) := hbad.resolve_left (by rw [hok]; simp)
    clear hok hbad ht hM
    go_enter Tryd.func8, Tryd.ntmps8
    have m0 := V3.c0; have m1 := V3.c1; have m2 := V3.c2
    go_wp2_with fail
    (with_reducible refine (MValid_c M _ _ V3.im.out).mono ?_)
    rintro e w2 ⟨he, hb⟩
    replace HB := below_step HB hb
    replace V3 := V3.keep hb
    clear hb
    obtain rfl : e = .returned (.bool true) := by rw [he, HOK.out] <;> rfl
    clear he
    clear m0 m1 m2
    go_wp2_with fail
    (with_reducible refine (Valid_c s _ hs).mono ?_)
    rintro e w9 ⟨rfl, rfl⟩
    rw [HV.out]
    go_wp2_with fail
    (with_reducible refine (awake5_c _ (HT.out.below HB)).mono ?_)
    rintro e w20 ⟨he, hb⟩
    replace HB := below_step HB hb
    clear hb
    subst he
    go_wp2
    go_ret
    exact ⟨rfl, HB⟩
  · have HOK : Hid (okB M = false) := by show _ = _; revert hok; cases okB M <;> simp
    clear hok hbad ht hM
    go_enter Tryd.func8, Tryd.ntmps8
    have m0 := V3.c0; have m1 := V3.c1; have m2 := V3.c2
    go_wp2_with fail
    (with_reducible refine (MValid_c M _ _ V3.im.out).mono ?_)
    rintro e w2 ⟨he, hb⟩
    replace HB := below_step HB hb
    replace V3 := V3.keep hb
    clear hb
    obtain rfl : e = .returned (.bool false) := by rw [he, HOK.out] <;> rfl
    clear he
    clear m0 m1 m2
    go_wp2_with fail
    (with_reducible refine (awake5_c _ (HT.out.below HB)).mono ?_)
    rintro e w20 ⟨he, hb⟩
    replace HB := below_step HB hb
    clear hb
    subst he
    go_wp2
    go_ret
    exact ⟨rfl, HB⟩
set_option maxRecDepth 100000 in
set_option maxHeartbeats 8000000 in
theorem FP_arg (M : Mp) (z a b most : Int) (v : Value) (w : World) (hM : IsM w v M) (ht : Tb w) (hok : okM M) (hz : dlN z.natAbs ≤ 2000) (hbad : a < 0 ∨ b < 0 ∨ 20000 < a ∨ 20000 - a < b ∨ most < 0 ∨ 20000 < most) : Calls Tryd.prog 8 #[v, .string (tS z), .int .i64 a, .int .i64 b, .int .i64 most] w fun e w' => e = .returned (.bool true) ∧ Below w.heap.size w w' := by
  obtain ⟨md, A, n, c, A', n', c', rfl, HM⟩ := hM.form
  have V3 := VM.new w 24 HM.out
  have HB := below_alloc (Below.refl w.heap.size w) (Obj.cells #[Value.int .i64 md, Value.slice A n c, Value.slice A' n' c'] 24)
  have HT := Lib.hid ht
  have HOK : Hid (okB M = true) := okB_iff.2 hok
  have HV := Lib.hid (vld_tS hz)
  have hs := tS_sz hz
  clear hok ht hM hz
  by_cases h1 : a < 0
  · clear hbad
    go_enter Tryd.func8, Tryd.ntmps8
    have m0 := V3.c0; have m1 := V3.c1; have m2 := V3.c2
    go_wp2_with fail
    (with_reducible refine (MValid_c M _ _ V3.im.out).mono ?_)
    rintro e w2 ⟨he, hb⟩
    replace HB := below_step HB hb
    replace V3 := V3.keep hb
    clear hb
    obtain rfl : e = .returned (.bool true) := by rw [he, HOK.out] <;> rfl
    clear he
    clear m0 m1 m2
    go_wp2_with fail
    (with_reducible refine (Valid_c (tS z) _ hs).mono ?_)
    rintro e w9 ⟨rfl, rfl⟩
    rw [HV.out]
    go_wp2_with fail
    (with_reducible refine (awake5_c _ (HT.out.below HB)).mono ?_)
    rintro e w20 ⟨he, hb⟩
    replace HB := below_step HB hb
    clear hb
    subst he
    go_wp2
    go_ret
    exact ⟨rfl, HB⟩
  by_cases h2 : b < 0
  · clear hbad
    go_enter Tryd.func8, Tryd.ntmps8
    have m0 := V3.c0; have m1 := V3.c1; have m2 := V3.c2
    go_wp2_with fail
    (with_reducible refine (MValid_c M _ _ V3.im.out).mono ?_)
    rintro e w2 ⟨he, hb⟩
    replace HB := below_step HB hb
    replace V3 := V3.keep hb
    clear hb
    obtain rfl : e = .returned (.bool true) := by rw [he, HOK.out] <;> rfl
    clear he
    clear m0 m1 m2
    go_wp2_with fail
    (with_reducible refine (Valid_c (tS z) _ hs).mono ?_)
    rintro e w9 ⟨rfl, rfl⟩
    rw [HV.out]
    go_wp2_with fail
    (with_reducible refine (awake5_c _ (HT.out.below HB)).mono ?_)
    rintro e w20 ⟨he, hb⟩
    replace HB := below_step HB hb
    clear hb
    subst he
    go_wp2
    go_ret
    exact ⟨rfl, HB⟩
  by_cases h3 : 20000 < a
  · clear hbad
    go_enter Tryd.func8, Tryd.ntmps8
    have m0 := V3.c0; have m1 := V3.c1; have m2 := V3.c2
    go_wp2_with fail
    (with_reducible refine (MValid_c M _ _ V3.im.out).mono ?_)
    rintro e w2 ⟨he, hb⟩
    replace HB := below_step HB hb
    replace V3 := V3.keep hb
    clear hb
    obtain rfl : e = .returned (.bool true) := by rw [he, HOK.out] <;> rfl
    clear he
    clear m0 m1 m2
    go_wp2_with fail
    (with_reducible refine (Valid_c (tS z) _ hs).mono ?_)
    rintro e w9 ⟨rfl, rfl⟩
    rw [HV.out]
    go_wp2_with fail
    (with_reducible refine (awake5_c _ (HT.out.below HB)).mono ?_)
    rintro e w20 ⟨he, hb⟩
    replace HB := below_step HB hb
    clear hb
    subst he
    go_wp2
    go_ret
    exact ⟨rfl, HB⟩
  have hw : IntKind.i64.wrap (20000 - a) = 20000 - a := by rw [IntKind.wrap_i64]; omega
  by_cases h4 : 20000 - a < b
  · clear hbad
    go_enter Tryd.func8, Tryd.ntmps8
    have m0 := V3.c0; have m1 := V3.c1; have m2 := V3.c2
    go_wp2_with fail
    (with_reducible refine (MValid_c M _ _ V3.im.out).mono ?_)
    rintro e w2 ⟨he, hb⟩
    replace HB := below_step HB hb
    replace V3 := V3.keep hb
    clear hb
    obtain rfl : e = .returned (.bool true) := by rw [he, HOK.out] <;> rfl
    clear he
    clear m0 m1 m2
    go_wp2_with fail
    (with_reducible refine (Valid_c (tS z) _ hs).mono ?_)
    rintro e w9 ⟨rfl, rfl⟩
    rw [HV.out]
    go_wp2_with fail
    (with_reducible refine (awake5_c _ (HT.out.below HB)).mono ?_)
    rintro e w20 ⟨he, hb⟩
    replace HB := below_step HB hb
    clear hb
    subst he
    go_wp2
    go_ret
    exact ⟨rfl, HB⟩
  have HW : Hid (most < 0 ∨ 20000 < most) := hbad.resolve_left h1 |>.resolve_left h2 |>.resolve_left h3 |>.resolve_left h4
  clear hbad
  go_enter Tryd.func8, Tryd.ntmps8
  have m0 := V3.c0; have m1 := V3.c1; have m2 := V3.c2
  go_wp2_with fail
  (with_reducible refine (MValid_c M _ _ V3.im.out).mono ?_)
  rintro e w2 ⟨he, hb⟩
  replace HB := below_step HB hb
  replace V3 := V3.keep hb
  clear hb
  obtain rfl : e = .returned (.bool true) := by rw [he, HOK.out] <;> rfl
  clear he
  clear m0 m1 m2
  go_wp2_with fail
  (with_reducible refine (Valid_c (tS z) _ hs).mono ?_)
  rintro e w9 ⟨rfl, rfl⟩
  rw [HV.out]
  go_wp2_with fail
  (with_reducible refine (within_no most _ HW.out).mono ?_)
  rintro e w3 ⟨he, hb⟩
  replace HB := below_step HB hb
  replace V3 := V3.keep hb
  clear hb
  subst he
  go_wp2_with fail
  (with_reducible refine (awake5_c _ (HT.out.below HB)).mono ?_)
  rintro e w20 ⟨he, hb⟩
  replace HB := below_step HB hb
  clear hb
  subst he
  go_wp2
  go_ret
  exact ⟨rfl, HB⟩
set_option maxRecDepth 100000 in
set_option maxHeartbeats 8000000 in
theorem FP_big (M : Mp) (z : Int) (a b most N p : Nat) (v : Value) (w : World) (hM : IsM w v M) (ht : Tb w) (hok : okM M) (hz : dlN z.natAbs ≤ 2000) (hN0 : a + b = N) (hN : N ≤ 20000) (hmo : most ≤ 20000) (hp : N * (most + 1) = p) (hli : ¬ p ≤ 100000) (hbad : 30 < (tS z).size ∨ 2000000 < p) : Calls Tryd.prog 8 #[v, .string (tS z), .int .i64 a, .int .i64 b, .int .i64 most] w fun e w' => e = .returned (.bool true) ∧ Below w.heap.size w w' := by
  obtain ⟨md, A, n, c, A', n', c', rfl, HM⟩ := hM.form
  have V3 := VM.new w 24 HM.out
  have HB := below_alloc (Below.refl w.heap.size w) (Obj.cells #[Value.int .i64 md, Value.slice A n c, Value.slice A' n' c'] 24)
  have HT := Lib.hid ht
  have HOK : Hid (okB M = true) := okB_iff.2 hok
  have HOKM := Lib.hid hok
  have HV := Lib.hid (vld_tS hz)
  have hs := tS_sz hz
  have HZ := Lib.hid hz
  have hm0 : (0 : Int) ≤ (most : Int) := by omega
  have hm1 : (most : Int) ≤ 20000 := by omega
  have ha0 : (0 : Int) ≤ (a : Int) := by omega
  have ha1 : (a : Int) ≤ 20000 := by omega
  have hb0 : (0 : Int) ≤ (b : Int) := by omega
  have hw : IntKind.i64.wrap (20000 - (a : Int)) = 20000 - (a : Int) := by rw [IntKind.wrap_i64]; omega
  have hb1 : ¬ 20000 - (a : Int) < (b : Int) := by omega
  have hwn : IntKind.i64.wrap ((a : Int) + (b : Int)) = (N : Int) := by rw [IntKind.wrap_i64]; omega
  have hn0 : (0 : Int) ≤ (N : Int) := by omega
  have hn1 : (N : Int) ≤ 20000 := by omega
  have HN0 := Lib.hid hN0
  clear hN0
  have HLI : Hid (decide (N * (most + 1) ≤ 100000) = false) := by show _ = _; rw [hp]; exact decide_eq_false hli
  have hp1 : N * (most + 1) ≤ 20000 * 20001 := Nat.mul_le_mul hN (by omega)
  have hpi : ((N : Int) * ((most : Int) + 1)) = (p : Int) := by rw [← hp, Int.natCast_mul]; rfl
  have HP := Lib.hid hp
  rw [hp] at hp1
  have hpw : IntKind.i64.wrap (p : Int) = p := by rw [IntKind.wrap_i64]; omega
  clear hp
  clear hok ht hM hz hli
  by_cases h1 : 30 < (tS z).size
  · have h2 : (30 : Int) < ((tS z).size : Int) := by omega
    clear hbad
    go_enter Tryd.func8, Tryd.ntmps8
    have m0 := V3.c0; have m1 := V3.c1; have m2 := V3.c2
    go_wp2_with fail
    (with_reducible refine (MValid_c M _ _ V3.im.out).mono ?_)
    rintro e w2 ⟨he, hb⟩
    replace HB := below_step HB hb
    replace V3 := V3.keep hb
    clear hb
    obtain rfl : e = .returned (.bool true) := by rw [he, HOK.out] <;> rfl
    clear he
    clear m0 m1 m2
    go_wp2_with fail
    (with_reducible refine (Valid_c (tS z) _ hs).mono ?_)
    rintro e w9 ⟨rfl, rfl⟩
    rw [HV.out]
    go_wp2_with fail
    (with_reducible refine (within_yes (most : Int) _ hm0 hm1).mono ?_)
    rintro e w3 ⟨he, hb⟩
    replace HB := below_step HB hb
    replace V3 := V3.keep hb
    clear hb
    subst he
    go_wp2_with fail
    (with_reducible refine (littleP_c N most _ hN hmo).mono ?_)
    rintro e w3b ⟨he, hb⟩
    replace HB := below_step HB hb
    replace V3 := V3.keep hb
    clear hb
    obtain rfl : e = .returned (.bool false) := by rw [he, HLI.out] <;> rfl
    clear he
    go_wp2_with fail
    (with_reducible refine (awake5_c _ (HT.out.below HB)).mono ?_)
    rintro e w20 ⟨he, hb⟩
    replace HB := below_step HB hb
    clear hb
    subst he
    go_wp2
    go_ret
    exact ⟨rfl, HB⟩
  · have h2 : ¬ (30 : Int) < ((tS z).size : Int) := by omega
    have h3 : (2000000 : Int) < (p : Int) := by have := hbad.resolve_left h1; omega
    clear hbad
    go_enter Tryd.func8, Tryd.ntmps8
    have m0 := V3.c0; have m1 := V3.c1; have m2 := V3.c2
    go_wp2_with fail
    (with_reducible refine (MValid_c M _ _ V3.im.out).mono ?_)
    rintro e w2 ⟨he, hb⟩
    replace HB := below_step HB hb
    replace V3 := V3.keep hb
    clear hb
    obtain rfl : e = .returned (.bool true) := by rw [he, HOK.out] <;> rfl
    clear he
    clear m0 m1 m2
    go_wp2_with fail
    (with_reducible refine (Valid_c (tS z) _ hs).mono ?_)
    rintro e w9 ⟨rfl, rfl⟩
    rw [HV.out]
    go_wp2_with fail
    (with_reducible refine (within_yes (most : Int) _ hm0 hm1).mono ?_)
    rintro e w3 ⟨he, hb⟩
    replace HB := below_step HB hb
    replace V3 := V3.keep hb
    clear hb
    subst he
    go_wp2_with fail
    (with_reducible refine (littleP_c N most _ hN hmo).mono ?_)
    rintro e w3b ⟨he, hb⟩
    replace HB := below_step HB hb
    replace V3 := V3.keep hb
    clear hb
    obtain rfl : e = .returned (.bool false) := by rw [he, HLI.out] <;> rfl
    clear he
    go_wp2_with fail
    (with_reducible refine (awake5_c _ (HT.out.below HB)).mono ?_)
    rintro e w20 ⟨he, hb⟩
    replace HB := below_step HB hb
    clear hb
    subst he
    go_wp2
    go_ret
    exact ⟨rfl, HB⟩
set_option maxRecDepth 100000 in
set_option maxHeartbeats 8000000 in
theorem FP_size1T (M : Mp) (z : Int) (a b most N p : Nat) (v : Value) (w : World) (hM : IsM w v M) (ht : Tb w) (hok : okM M) (hz : dlN z.natAbs ≤ 2000) (hN0 : a + b = N) (hN : N ≤ 20000) (hmo : most ≤ 20000) (hp : N * (most + 1) = p) (hli : p ≤ 100000) (hf1 : decide (dl (z + (a : Int)) ≤ 2000) = false) : Calls Tryd.prog 8 #[v, .string (tS z), .int .i64 a, .int .i64 b, .int .i64 most] w fun e w' => e = .returned (.bool true) ∧ Below w.heap.size w w' := by
  have HF1 := Lib.hid hf1
  clear hf1
  obtain ⟨md, A, n, c, A', n', c', rfl, HM⟩ := hM.form
  have V3 := VM.new w 24 HM.out
  have HB := below_alloc (Below.refl w.heap.size w) (Obj.cells #[Value.int .i64 md, Value.slice A n c, Value.slice A' n' c'] 24)
  have HT := Lib.hid ht
  have HOK : Hid (okB M = true) := okB_iff.2 hok
  have HOKM := Lib.hid hok
  have HV := Lib.hid (vld_tS hz)
  have hs := tS_sz hz
  have HZ := Lib.hid hz
  have hm0 : (0 : Int) ≤ (most : Int) := by omega
  have hm1 : (most : Int) ≤ 20000 := by omega
  have ha0 : (0 : Int) ≤ (a : Int) := by omega
  have ha1 : (a : Int) ≤ 20000 := by omega
  have hb0 : (0 : Int) ≤ (b : Int) := by omega
  have hw : IntKind.i64.wrap (20000 - (a : Int)) = 20000 - (a : Int) := by rw [IntKind.wrap_i64]; omega
  have hb1 : ¬ 20000 - (a : Int) < (b : Int) := by omega
  have hwn : IntKind.i64.wrap ((a : Int) + (b : Int)) = (N : Int) := by rw [IntKind.wrap_i64]; omega
  have hn0 : (0 : Int) ≤ (N : Int) := by omega
  have hn1 : (N : Int) ≤ 20000 := by omega
  have HN0 := Lib.hid hN0
  clear hN0
  have HLI : Hid (decide (N * (most + 1) ≤ 100000) = true) := by show _ = _; rw [hp]; exact decide_eq_true hli
  have hp1 : N * (most + 1) ≤ 20000 * 20001 := Nat.mul_le_mul hN (by omega)
  have hpi : ((N : Int) * ((most : Int) + 1)) = (p : Int) := by rw [← hp, Int.natCast_mul]; rfl
  have HP := Lib.hid hp
  rw [hp] at hp1
  have hpw : IntKind.i64.wrap (p : Int) = p := by rw [IntKind.wrap_i64]; omega
  clear hp
  have HL4 : Hid ((dg B9 z).length ≤ 2000) := by have := len_dlN hz; show _ ≤ _; omega
  have hla : (dg B9 (a : Int)).length ≤ 2 := len_small (by omega) (by omega)
  have hln : (dg B9 (N : Int)).length ≤ 2 := len_small (by omega) (by omega)
  have HLa : Hid ((dg B9 (a : Int)).length ≤ 1000000000000) := by show _ ≤ _; omega
  have HLn : Hid ((dg B9 (N : Int)).length ≤ 1000000000000) := by show _ ≤ _; omega
  have HL8 : Hid ((dg B9 (z + (a : Int))).length ≤ 1000000000) := by
    have h1 := len_add B9two z (a : Int)
    have h2 := HL4.out
    show _ ≤ _
    omega
  have HL9 : Hid ((dg B9 (z + (N : Int))).length ≤ 1000000000) := by
    have h1 := len_add B9two z (N : Int)
    have h2 := HL4.out
    show _ ≤ _
    omega
  clear hla hln
  clear hok ht hM hz hli
  go_enter Tryd.func8, Tryd.ntmps8
  have m0 := V3.c0; have m1 := V3.c1; have m2 := V3.c2
  go_wp2_with fail
  (with_reducible refine (MValid_c M _ _ V3.im.out).mono ?_)
  rintro e w2 ⟨he, hb⟩
  replace HB := below_step HB hb
  replace V3 := V3.keep hb
  clear hb
  obtain rfl : e = .returned (.bool true) := by rw [he, HOK.out] <;> rfl
  clear he
  clear m0 m1 m2
  go_wp2_with fail
  (with_reducible refine (Valid_c (tS z) _ hs).mono ?_)
  rintro e w9 ⟨rfl, rfl⟩
  rw [HV.out]
  go_wp2_with fail
  (with_reducible refine (within_yes (most : Int) _ hm0 hm1).mono ?_)
  rintro e w3 ⟨he, hb⟩
  replace HB := below_step HB hb
  replace V3 := V3.keep hb
  clear hb
  subst he
  go_wp2_with fail
  (with_reducible refine (littleP_c N most _ hN hmo).mono ?_)
  rintro e w3b ⟨he, hb⟩
  replace HB := below_step HB hb
  replace V3 := V3.keep hb
  clear hb
  obtain rfl : e = .returned (.bool true) := by rw [he, HLI.out] <;> rfl
  clear he
  go_wp2_with fail
  (with_reducible refine (Parse_c z _ (by have := HZ.out; omega)).mono ?_)
  rintro e w6 ⟨v, rfl, hv, hb⟩
  obtain ⟨n4, A4, m4, k4, rfl, H4⟩ := hv.form; clear hv
  replace V3 := V3.keep hb
  replace HB := below_step HB hb
  clear hb
  go_wp2_with fail
  have VA := VX.new w6 39 H4.out
  have hb := below_alloc (Below.refl w6.heap.size w6) (Obj.cells #[Value.bool n4, Value.slice A4 m4 k4] 39)
  replace V3 := V3.keep hb
  replace HB := below_step HB hb
  clear hb H4
  generalize hba : w6.heap.size = ba at *
  generalize hwa : w6.alloc (Obj.cells #[Value.bool n4, Value.slice A4 m4 k4] 39) = wa at *
  replace V3 := V3.drew; replace VA := VA.drew; replace HB := below_drew HB
  generalize hWd : wa.drew = wd at *
  clear hwa
  refine wp_region_F (fun w' => w'.cell? ⟨ba, 0, none⟩ = some (.bool n4) ∧ w'.cell? ⟨ba, 1, none⟩ = some (.slice A4 m4 k4)) [] (by kernel_rfl) (by rw [hWd]; exact ⟨VA.c0, VA.c1⟩) (fun hHeld => ?_)
  rw [hWd] at hHeld ⊢
  refine wpF_t (i := 0) (oi := op1c52524a) (v := ?_) rfl (by kernel_rfl) (fun _ _ _ h => h) (Or.inl ⟨by rfl, ?_⟩) hHeld ?_; rotate_left
  · intro w_ hSw_; (try dsimp only at hSw_); go_simp; (try with_reducible rfl)
  try go_frame
  refine wpF_t (i := 1) (oi := opda935f34) (v := ?_) rfl (by kernel_rfl) (fun _ _ _ h => h) (Or.inl ⟨by rfl, ?_⟩) hHeld ?_; rotate_left
  · intro w_ hSw_; (try dsimp only at hSw_); go_simp; (try with_reducible rfl)
  try go_frame
  refine wpAnyF_one (i := 2) (by kernel_rfl) rfl (fun K hK => ?_)
  go_simp
  (go_at_call 23; (with_reducible refine (Of_c (a : Int) _ (by omega) (by omega)).mono ?_); rintro e w7 ⟨v, rfl, hv, hb⟩; obtain ⟨n7, A7, m7, k7, rfl, H7⟩ := hv.form; clear hv; replace V3 := V3.keep hb; replace VA := VA.keep hb; replace HB := below_step HB hb; clear hb)
  refine hK.out _ _ (by exact ⟨VA.c0, VA.c1⟩) (fun hHeld => ?_)
  clear hK K
  try go_frame
  refine wpAnyF_one (i := 3) (by kernel_rfl) rfl (fun K hK => ?_)
  go_simp
  (go_at_call 31; (with_reducible refine (Add_c z (a : Int) _ _ _ VA.iz.out H7.out (by have := HL4.out; omega) HLa.out).mono ?_); rintro e w8 ⟨v, rfl, hv, hb⟩; obtain ⟨n8, A8, m8, k8, rfl, H8⟩ := hv.form; clear hv; replace V3 := V3.keep hb; replace VA := VA.keep hb; replace HB := below_step HB hb; clear hb)
  refine hK.out _ _ (by exact ⟨VA.c0, VA.c1⟩) (fun hHeld => ?_)
  clear hK K
  try go_frame
  refine wpAnyF_one (i := 4) (by kernel_rfl) rfl (fun K hK => ?_)
  go_simp
  (go_at_call 30; (with_reducible refine (Fits_c (z + (a : Int)) _ _ H8.out (by have := HL8.out; omega)).mono ?_); rintro e w9 ⟨he, hb⟩; obtain rfl : e = .returned (.bool false) := (by rw [he, HF1.out] <;> rfl); clear he; replace V3 := V3.keep hb; replace VA := VA.keep hb; replace HB := below_step HB hb; clear hb)
  refine hK.out _ _ (by exact ⟨VA.c0, VA.c1⟩) (fun hHeld => ?_)
  clear hK K
  try go_frame
  refine wpF_t (i := 5) (oi := op1f7f3e89) (v := ?_) rfl (by kernel_rfl) (fun _ _ _ h => h) (Or.inl ⟨by rfl, ?_⟩) hHeld ?_; rotate_left
  · intro w_ hSw_; (try dsimp only at hSw_); go_simp; (try with_reducible rfl)
  try go_frame
  refine wpF_t (i := 6) (oi := opc6cabf31) (v := ?_) rfl (by kernel_rfl) (fun _ _ _ h => h) (Or.inl ⟨by rfl, ?_⟩) hHeld ?_; rotate_left
  · intro w_ hSw_; (try dsimp only at hSw_); go_simp; (try with_reducible rfl)
  try go_frame
  refine wpF_t (i := 7) (oi := op59cab412) rfl (by kernel_rfl) (fun _ _ _ h => h) (Or.inr ⟨by rfl, rfl⟩) hHeld ?_
  try go_frame
  refine wpF_t (i := 8) (oi := op780186ee) rfl (by kernel_rfl) (fun _ _ _ h => h) (Or.inr ⟨by rfl, rfl⟩) hHeld ?_
  try go_frame
  refine wpF_t (i := 9) (oi := op45b45a26) rfl (by kernel_rfl) (fun _ _ _ h => h) (Or.inr ⟨by rfl, rfl⟩) hHeld ?_
  try go_frame
  refine wpF_t (i := 10) (oi := opb85b40b4) rfl (by kernel_rfl) (fun _ _ _ h => h) (Or.inr ⟨by rfl, rfl⟩) hHeld ?_
  try go_frame
  refine wpF_t (i := 11) (oi := op53a4b3c9) rfl (by kernel_rfl) (fun _ _ _ h => h) (Or.inr ⟨by rfl, rfl⟩) hHeld ?_
  try go_frame
  refine wpF_t (i := 12) (oi := op5e2efdcb) rfl (by kernel_rfl) (fun _ _ _ h => h) (Or.inr ⟨by rfl, rfl⟩) hHeld ?_
  try go_frame
  refine wpF_t (i := 13) (oi := op0e170d34) rfl (by kernel_rfl) (fun _ _ _ h => h) (Or.inr ⟨by rfl, rfl⟩) hHeld ?_
  try go_frame
  refine wpF_t (i := 14) (oi := op902faa70) rfl (by kernel_rfl) (fun _ _ _ h => h) (Or.inr ⟨by rfl, rfl⟩) hHeld ?_
  try go_frame
  refine wpF_t (i := 15) (oi := op522560a3) (v := ?_) rfl (by kernel_rfl) (fun _ _ _ h => h) (Or.inl ⟨by rfl, ?_⟩) hHeld ?_; rotate_left
  · intro w_ hSw_; (try dsimp only at hSw_); go_simp; (try with_reducible rfl)
  try go_frame
  refine wpAnyF_done (by kernel_rfl) ?_ _
  clear hHeld hWd
  go_wp2_with fail
  (with_reducible refine (awake5_c _ (HT.out.below HB)).mono ?_)
  rintro e w20 ⟨he, hb⟩
  replace HB := below_step HB hb
  clear hb
  subst he
  go_wp2
  go_ret
  exact ⟨rfl, HB⟩
set_option maxRecDepth 100000 in
set_option maxHeartbeats 8000000 in
theorem FP_size2T (M : Mp) (z : Int) (a b most N p : Nat) (v : Value) (w : World) (hM : IsM w v M) (ht : Tb w) (hok : okM M) (hz : dlN z.natAbs ≤ 2000) (hN0 : a + b = N) (hN : N ≤ 20000) (hmo : most ≤ 20000) (hp : N * (most + 1) = p) (hli : p ≤ 100000) (hf1 : decide (dl (z + (a : Int)) ≤ 2000) = true) (hf2 : decide (dl (z + (N : Int)) ≤ 2000) = false) : Calls Tryd.prog 8 #[v, .string (tS z), .int .i64 a, .int .i64 b, .int .i64 most] w fun e w' => e = .returned (.bool true) ∧ Below w.heap.size w w' := by
  have HF1 := Lib.hid hf1
  have HF2 := Lib.hid hf2
  clear hf1 hf2
  obtain ⟨md, A, n, c, A', n', c', rfl, HM⟩ := hM.form
  have V3 := VM.new w 24 HM.out
  have HB := below_alloc (Below.refl w.heap.size w) (Obj.cells #[Value.int .i64 md, Value.slice A n c, Value.slice A' n' c'] 24)
  have HT := Lib.hid ht
  have HOK : Hid (okB M = true) := okB_iff.2 hok
  have HOKM := Lib.hid hok
  have HV := Lib.hid (vld_tS hz)
  have hs := tS_sz hz
  have HZ := Lib.hid hz
  have hm0 : (0 : Int) ≤ (most : Int) := by omega
  have hm1 : (most : Int) ≤ 20000 := by omega
  have ha0 : (0 : Int) ≤ (a : Int) := by omega
  have ha1 : (a : Int) ≤ 20000 := by omega
  have hb0 : (0 : Int) ≤ (b : Int) := by omega
  have hw : IntKind.i64.wrap (20000 - (a : Int)) = 20000 - (a : Int) := by rw [IntKind.wrap_i64]; omega
  have hb1 : ¬ 20000 - (a : Int) < (b : Int) := by omega
  have hwn : IntKind.i64.wrap ((a : Int) + (b : Int)) = (N : Int) := by rw [IntKind.wrap_i64]; omega
  have hn0 : (0 : Int) ≤ (N : Int) := by omega
  have hn1 : (N : Int) ≤ 20000 := by omega
  have HN0 := Lib.hid hN0
  clear hN0
  have HLI : Hid (decide (N * (most + 1) ≤ 100000) = true) := by show _ = _; rw [hp]; exact decide_eq_true hli
  have hp1 : N * (most + 1) ≤ 20000 * 20001 := Nat.mul_le_mul hN (by omega)
  have hpi : ((N : Int) * ((most : Int) + 1)) = (p : Int) := by rw [← hp, Int.natCast_mul]; rfl
  have HP := Lib.hid hp
  rw [hp] at hp1
  have hpw : IntKind.i64.wrap (p : Int) = p := by rw [IntKind.wrap_i64]; omega
  clear hp
  have HL4 : Hid ((dg B9 z).length ≤ 2000) := by have := len_dlN hz; show _ ≤ _; omega
  have hla : (dg B9 (a : Int)).length ≤ 2 := len_small (by omega) (by omega)
  have hln : (dg B9 (N : Int)).length ≤ 2 := len_small (by omega) (by omega)
  have HLa : Hid ((dg B9 (a : Int)).length ≤ 1000000000000) := by show _ ≤ _; omega
  have HLn : Hid ((dg B9 (N : Int)).length ≤ 1000000000000) := by show _ ≤ _; omega
  have HL8 : Hid ((dg B9 (z + (a : Int))).length ≤ 1000000000) := by
    have h1 := len_add B9two z (a : Int)
    have h2 := HL4.out
    show _ ≤ _
    omega
  have HL9 : Hid ((dg B9 (z + (N : Int))).length ≤ 1000000000) := by
    have h1 := len_add B9two z (N : Int)
    have h2 := HL4.out
    show _ ≤ _
    omega
  clear hla hln
  clear hok ht hM hz hli
  go_enter Tryd.func8, Tryd.ntmps8
  have m0 := V3.c0; have m1 := V3.c1; have m2 := V3.c2
  go_wp2_with fail
  (with_reducible refine (MValid_c M _ _ V3.im.out).mono ?_)
  rintro e w2 ⟨he, hb⟩
  replace HB := below_step HB hb
  replace V3 := V3.keep hb
  clear hb
  obtain rfl : e = .returned (.bool true) := by rw [he, HOK.out] <;> rfl
  clear he
  clear m0 m1 m2
  go_wp2_with fail
  (with_reducible refine (Valid_c (tS z) _ hs).mono ?_)
  rintro e w9 ⟨rfl, rfl⟩
  rw [HV.out]
  go_wp2_with fail
  (with_reducible refine (within_yes (most : Int) _ hm0 hm1).mono ?_)
  rintro e w3 ⟨he, hb⟩
  replace HB := below_step HB hb
  replace V3 := V3.keep hb
  clear hb
  subst he
  go_wp2_with fail
  (with_reducible refine (littleP_c N most _ hN hmo).mono ?_)
  rintro e w3b ⟨he, hb⟩
  replace HB := below_step HB hb
  replace V3 := V3.keep hb
  clear hb
  obtain rfl : e = .returned (.bool true) := by rw [he, HLI.out] <;> rfl
  clear he
  go_wp2_with fail
  (with_reducible refine (Parse_c z _ (by have := HZ.out; omega)).mono ?_)
  rintro e w6 ⟨v, rfl, hv, hb⟩
  obtain ⟨n4, A4, m4, k4, rfl, H4⟩ := hv.form; clear hv
  replace V3 := V3.keep hb
  replace HB := below_step HB hb
  clear hb
  go_wp2_with fail
  have VA := VX.new w6 39 H4.out
  have hb := below_alloc (Below.refl w6.heap.size w6) (Obj.cells #[Value.bool n4, Value.slice A4 m4 k4] 39)
  replace V3 := V3.keep hb
  replace HB := below_step HB hb
  clear hb H4
  generalize hba : w6.heap.size = ba at *
  generalize hwa : w6.alloc (Obj.cells #[Value.bool n4, Value.slice A4 m4 k4] 39) = wa at *
  replace V3 := V3.drew; replace VA := VA.drew; replace HB := below_drew HB
  generalize hWd : wa.drew = wd at *
  clear hwa
  refine wp_region_F (fun w' => w'.cell? ⟨ba, 0, none⟩ = some (.bool n4) ∧ w'.cell? ⟨ba, 1, none⟩ = some (.slice A4 m4 k4)) [] (by kernel_rfl) (by rw [hWd]; exact ⟨VA.c0, VA.c1⟩) (fun hHeld => ?_)
  rw [hWd] at hHeld ⊢
  refine wpF_t (i := 0) (oi := op1c52524a) (v := ?_) rfl (by kernel_rfl) (fun _ _ _ h => h) (Or.inl ⟨by rfl, ?_⟩) hHeld ?_; rotate_left
  · intro w_ hSw_; (try dsimp only at hSw_); go_simp; (try with_reducible rfl)
  try go_frame
  refine wpF_t (i := 1) (oi := opda935f34) (v := ?_) rfl (by kernel_rfl) (fun _ _ _ h => h) (Or.inl ⟨by rfl, ?_⟩) hHeld ?_; rotate_left
  · intro w_ hSw_; (try dsimp only at hSw_); go_simp; (try with_reducible rfl)
  try go_frame
  refine wpAnyF_one (i := 2) (by kernel_rfl) rfl (fun K hK => ?_)
  go_simp
  (go_at_call 23; (with_reducible refine (Of_c (a : Int) _ (by omega) (by omega)).mono ?_); rintro e w7 ⟨v, rfl, hv, hb⟩; obtain ⟨n7, A7, m7, k7, rfl, H7⟩ := hv.form; clear hv; replace V3 := V3.keep hb; replace VA := VA.keep hb; replace HB := below_step HB hb; clear hb)
  refine hK.out _ _ (by exact ⟨VA.c0, VA.c1⟩) (fun hHeld => ?_)
  clear hK K
  try go_frame
  refine wpAnyF_one (i := 3) (by kernel_rfl) rfl (fun K hK => ?_)
  go_simp
  (go_at_call 31; (with_reducible refine (Add_c z (a : Int) _ _ _ VA.iz.out H7.out (by have := HL4.out; omega) HLa.out).mono ?_); rintro e w8 ⟨v, rfl, hv, hb⟩; obtain ⟨n8, A8, m8, k8, rfl, H8⟩ := hv.form; clear hv; replace V3 := V3.keep hb; replace VA := VA.keep hb; replace HB := below_step HB hb; clear hb)
  refine hK.out _ _ (by exact ⟨VA.c0, VA.c1⟩) (fun hHeld => ?_)
  clear hK K
  try go_frame
  refine wpAnyF_one (i := 4) (by kernel_rfl) rfl (fun K hK => ?_)
  go_simp
  (go_at_call 30; (with_reducible refine (Fits_c (z + (a : Int)) _ _ H8.out (by have := HL8.out; omega)).mono ?_); rintro e w9 ⟨he, hb⟩; obtain rfl : e = .returned (.bool true) := (by rw [he, HF1.out] <;> rfl); clear he; replace V3 := V3.keep hb; replace VA := VA.keep hb; replace HB := below_step HB hb; clear hb)
  refine hK.out _ _ (by exact ⟨VA.c0, VA.c1⟩) (fun hHeld => ?_)
  clear hK K
  try go_frame
  refine wpF_t (i := 5) (oi := op1f7f3e89) (v := ?_) rfl (by kernel_rfl) (fun _ _ _ h => h) (Or.inl ⟨by rfl, ?_⟩) hHeld ?_; rotate_left
  · intro w_ hSw_; (try dsimp only at hSw_); go_simp; (try with_reducible rfl)
  try go_frame
  refine wpF_t (i := 6) (oi := opc6cabf31) (v := ?_) rfl (by kernel_rfl) (fun _ _ _ h => h) (Or.inl ⟨by rfl, ?_⟩) hHeld ?_; rotate_left
  · intro w_ hSw_; (try dsimp only at hSw_); go_simp; (try with_reducible rfl)
  try go_frame
  refine wpF_t (i := 7) (oi := op59cab412) (v := ?_) rfl (by kernel_rfl) (fun _ _ _ h => h) (Or.inl ⟨by rfl, ?_⟩) hHeld ?_; rotate_left
  · intro w_ hSw_; (try dsimp only at hSw_); go_simp; (try with_reducible rfl)
  try go_frame
  refine wpF_t (i := 8) (oi := op780186ee) (v := ?_) rfl (by kernel_rfl) (fun _ _ _ h => h) (Or.inl ⟨by rfl, ?_⟩) hHeld ?_; rotate_left
  · intro w_ hSw_; (try dsimp only at hSw_); go_simp; (try with_reducible rfl)
  try go_frame
  refine wpF_t (i := 9) (oi := op45b45a26) (v := ?_) rfl (by kernel_rfl) (fun _ _ _ h => h) (Or.inl ⟨by rfl, ?_⟩) hHeld ?_; rotate_left
  · intro w_ hSw_; (try dsimp only at hSw_); go_simp; (try with_reducible rfl)
  try go_frame
  refine wpF_t (i := 10) (oi := opb85b40b4) (v := ?_) rfl (by kernel_rfl) (fun _ _ _ h => h) (Or.inl ⟨by rfl, ?_⟩) hHeld ?_; rotate_left
  · intro w_ hSw_; (try dsimp only at hSw_); go_simp; (try with_reducible rfl)
  try go_frame
  refine wpAnyF_one (i := 11) (by kernel_rfl) rfl (fun K hK => ?_)
  go_simp
  (go_at_call 23; (with_reducible refine (Of_c (N : Int) _ (by omega) (by omega)).mono ?_); rintro e w10 ⟨v, rfl, hv, hb⟩; obtain ⟨n10, A10, m10, k10, rfl, H10⟩ := hv.form; clear hv; replace V3 := V3.keep hb; replace VA := VA.keep hb; replace HB := below_step HB hb; clear hb)
  refine hK.out _ _ (by exact ⟨VA.c0, VA.c1⟩) (fun hHeld => ?_)
  clear hK K
  try go_frame
  refine wpAnyF_one (i := 12) (by kernel_rfl) rfl (fun K hK => ?_)
  go_simp
  (go_at_call 31; (with_reducible refine (Add_c z (N : Int) _ _ _ VA.iz.out H10.out (by have := HL4.out; omega) HLn.out).mono ?_); rintro e w11 ⟨v, rfl, hv, hb⟩; obtain ⟨n11, A11, m11, k11, rfl, H11⟩ := hv.form; clear hv; replace V3 := V3.keep hb; replace VA := VA.keep hb; replace HB := below_step HB hb; clear hb)
  refine hK.out _ _ (by exact ⟨VA.c0, VA.c1⟩) (fun hHeld => ?_)
  clear hK K
  try go_frame
  refine wpAnyF_one (i := 13) (by kernel_rfl) rfl (fun K hK => ?_)
  go_simp
  (go_at_call 30; (with_reducible refine (Fits_c (z + (N : Int)) _ _ H11.out (by have := HL9.out; omega)).mono ?_); rintro e w12 ⟨he, hb⟩; obtain rfl : e = .returned (.bool false) := (by rw [he, HF2.out] <;> rfl); clear he; replace V3 := V3.keep hb; replace VA := VA.keep hb; replace HB := below_step HB hb; clear hb)
  refine hK.out _ _ (by exact ⟨VA.c0, VA.c1⟩) (fun hHeld => ?_)
  clear hK K
  try go_frame
  refine wpF_t (i := 14) (oi := op902faa70) (v := ?_) rfl (by kernel_rfl) (fun _ _ _ h => h) (Or.inl ⟨by rfl, ?_⟩) hHeld ?_; rotate_left
  · intro w_ hSw_; (try dsimp only at hSw_); go_simp; (try with_reducible rfl)
  try go_frame
  refine wpF_t (i := 15) (oi := op522560a3) (v := ?_) rfl (by kernel_rfl) (fun _ _ _ h => h) (Or.inl ⟨by rfl, ?_⟩) hHeld ?_; rotate_left
  · intro w_ hSw_; (try dsimp only at hSw_); go_simp; (try with_reducible rfl)
  try go_frame
  refine wpAnyF_done (by kernel_rfl) ?_ _
  clear hHeld hWd
  go_wp2_with fail
  (with_reducible refine (awake5_c _ (HT.out.below HB)).mono ?_)
  rintro e w20 ⟨he, hb⟩
  replace HB := below_step HB hb
  clear hb
  subst he
  go_wp2
  go_ret
  exact ⟨rfl, HB⟩
set_option maxRecDepth 100000 in
set_option maxHeartbeats 8000000 in
theorem FP_size1F (M : Mp) (z : Int) (a b most N p : Nat) (v : Value) (w : World) (hM : IsM w v M) (ht : Tb w) (hok : okM M) (hz : dlN z.natAbs ≤ 2000) (hN0 : a + b = N) (hN : N ≤ 20000) (hmo : most ≤ 20000) (hp : N * (most + 1) = p) (hli : ¬ p ≤ 100000) (hsz : ¬ 30 < (tS z).size) (hpp : ¬ 2000000 < p) (hf1 : decide (dl (z + (a : Int)) ≤ 2000) = false) : Calls Tryd.prog 8 #[v, .string (tS z), .int .i64 a, .int .i64 b, .int .i64 most] w fun e w' => e = .returned (.bool true) ∧ Below w.heap.size w w' := by
  have HF1 := Lib.hid hf1
  clear hf1
  obtain ⟨md, A, n, c, A', n', c', rfl, HM⟩ := hM.form
  have V3 := VM.new w 24 HM.out
  have HB := below_alloc (Below.refl w.heap.size w) (Obj.cells #[Value.int .i64 md, Value.slice A n c, Value.slice A' n' c'] 24)
  have HT := Lib.hid ht
  have HOK : Hid (okB M = true) := okB_iff.2 hok
  have HOKM := Lib.hid hok
  have HV := Lib.hid (vld_tS hz)
  have hs := tS_sz hz
  have HZ := Lib.hid hz
  have hm0 : (0 : Int) ≤ (most : Int) := by omega
  have hm1 : (most : Int) ≤ 20000 := by omega
  have ha0 : (0 : Int) ≤ (a : Int) := by omega
  have ha1 : (a : Int) ≤ 20000 := by omega
  have hb0 : (0 : Int) ≤ (b : Int) := by omega
  have hw : IntKind.i64.wrap (20000 - (a : Int)) = 20000 - (a : Int) := by rw [IntKind.wrap_i64]; omega
  have hb1 : ¬ 20000 - (a : Int) < (b : Int) := by omega
  have hwn : IntKind.i64.wrap ((a : Int) + (b : Int)) = (N : Int) := by rw [IntKind.wrap_i64]; omega
  have hn0 : (0 : Int) ≤ (N : Int) := by omega
  have hn1 : (N : Int) ≤ 20000 := by omega
  have HN0 := Lib.hid hN0
  clear hN0
  have HLI : Hid (decide (N * (most + 1) ≤ 100000) = false) := by show _ = _; rw [hp]; exact decide_eq_false hli
  have hp1 : N * (most + 1) ≤ 20000 * 20001 := Nat.mul_le_mul hN (by omega)
  have hpi : ((N : Int) * ((most : Int) + 1)) = (p : Int) := by rw [← hp, Int.natCast_mul]; rfl
  have HP := Lib.hid hp
  rw [hp] at hp1
  have hpw : IntKind.i64.wrap (p : Int) = p := by rw [IntKind.wrap_i64]; omega
  clear hp
  have h2 : ¬ (30 : Int) < ((tS z).size : Int) := by omega
  have h3 : ¬ (2000000 : Int) < (p : Int) := by omega
  have HL4 : Hid ((dg B9 z).length ≤ 2000) := by have := len_dlN hz; show _ ≤ _; omega
  have hla : (dg B9 (a : Int)).length ≤ 2 := len_small (by omega) (by omega)
  have hln : (dg B9 (N : Int)).length ≤ 2 := len_small (by omega) (by omega)
  have HLa : Hid ((dg B9 (a : Int)).length ≤ 1000000000000) := by show _ ≤ _; omega
  have HLn : Hid ((dg B9 (N : Int)).length ≤ 1000000000000) := by show _ ≤ _; omega
  have HL8 : Hid ((dg B9 (z + (a : Int))).length ≤ 1000000000) := by
    have h1 := len_add B9two z (a : Int)
    have h2 := HL4.out
    show _ ≤ _
    omega
  have HL9 : Hid ((dg B9 (z + (N : Int))).length ≤ 1000000000) := by
    have h1 := len_add B9two z (N : Int)
    have h2 := HL4.out
    show _ ≤ _
    omega
  clear hla hln
  clear hok ht hM hz hli
  go_enter Tryd.func8, Tryd.ntmps8
  have m0 := V3.c0; have m1 := V3.c1; have m2 := V3.c2
  go_wp2_with fail
  (with_reducible refine (MValid_c M _ _ V3.im.out).mono ?_)
  rintro e w2 ⟨he, hb⟩
  replace HB := below_step HB hb
  replace V3 := V3.keep hb
  clear hb
  obtain rfl : e = .returned (.bool true) := by rw [he, HOK.out] <;> rfl
  clear he
  clear m0 m1 m2
  go_wp2_with fail
  (with_reducible refine (Valid_c (tS z) _ hs).mono ?_)
  rintro e w9 ⟨rfl, rfl⟩
  rw [HV.out]
  go_wp2_with fail
  (with_reducible refine (within_yes (most : Int) _ hm0 hm1).mono ?_)
  rintro e w3 ⟨he, hb⟩
  replace HB := below_step HB hb
  replace V3 := V3.keep hb
  clear hb
  subst he
  go_wp2_with fail
  (with_reducible refine (littleP_c N most _ hN hmo).mono ?_)
  rintro e w3b ⟨he, hb⟩
  replace HB := below_step HB hb
  replace V3 := V3.keep hb
  clear hb
  obtain rfl : e = .returned (.bool false) := by rw [he, HLI.out] <;> rfl
  clear he
  go_wp2_with fail
  (with_reducible refine (Parse_c z _ (by have := HZ.out; omega)).mono ?_)
  rintro e w6 ⟨v, rfl, hv, hb⟩
  obtain ⟨n4, A4, m4, k4, rfl, H4⟩ := hv.form; clear hv
  replace V3 := V3.keep hb
  replace HB := below_step HB hb
  clear hb
  go_wp2_with fail
  have VA := VX.new w6 39 H4.out
  have hb := below_alloc (Below.refl w6.heap.size w6) (Obj.cells #[Value.bool n4, Value.slice A4 m4 k4] 39)
  replace V3 := V3.keep hb
  replace HB := below_step HB hb
  clear hb H4
  generalize hba : w6.heap.size = ba at *
  generalize hwa : w6.alloc (Obj.cells #[Value.bool n4, Value.slice A4 m4 k4] 39) = wa at *
  replace V3 := V3.drew; replace VA := VA.drew; replace HB := below_drew HB
  generalize hWd : wa.drew = wd at *
  clear hwa
  refine wp_region_F (fun w' => w'.cell? ⟨ba, 0, none⟩ = some (.bool n4) ∧ w'.cell? ⟨ba, 1, none⟩ = some (.slice A4 m4 k4)) [] (by kernel_rfl) (by rw [hWd]; exact ⟨VA.c0, VA.c1⟩) (fun hHeld => ?_)
  rw [hWd] at hHeld ⊢
  refine wpF_t (i := 0) (oi := op1c52524a) (v := ?_) rfl (by kernel_rfl) (fun _ _ _ h => h) (Or.inl ⟨by rfl, ?_⟩) hHeld ?_; rotate_left
  · intro w_ hSw_; (try dsimp only at hSw_); go_simp; (try with_reducible rfl)
  try go_frame
  refine wpF_t (i := 1) (oi := opda935f34) (v := ?_) rfl (by kernel_rfl) (fun _ _ _ h => h) (Or.inl ⟨by rfl, ?_⟩) hHeld ?_; rotate_left
  · intro w_ hSw_; (try dsimp only at hSw_); go_simp; (try with_reducible rfl)
  try go_frame
  refine wpAnyF_one (i := 2) (by kernel_rfl) rfl (fun K hK => ?_)
  go_simp
  (go_at_call 23; (with_reducible refine (Of_c (a : Int) _ (by omega) (by omega)).mono ?_); rintro e w7 ⟨v, rfl, hv, hb⟩; obtain ⟨n7, A7, m7, k7, rfl, H7⟩ := hv.form; clear hv; replace V3 := V3.keep hb; replace VA := VA.keep hb; replace HB := below_step HB hb; clear hb)
  refine hK.out _ _ (by exact ⟨VA.c0, VA.c1⟩) (fun hHeld => ?_)
  clear hK K
  try go_frame
  refine wpAnyF_one (i := 3) (by kernel_rfl) rfl (fun K hK => ?_)
  go_simp
  (go_at_call 31; (with_reducible refine (Add_c z (a : Int) _ _ _ VA.iz.out H7.out (by have := HL4.out; omega) HLa.out).mono ?_); rintro e w8 ⟨v, rfl, hv, hb⟩; obtain ⟨n8, A8, m8, k8, rfl, H8⟩ := hv.form; clear hv; replace V3 := V3.keep hb; replace VA := VA.keep hb; replace HB := below_step HB hb; clear hb)
  refine hK.out _ _ (by exact ⟨VA.c0, VA.c1⟩) (fun hHeld => ?_)
  clear hK K
  try go_frame
  refine wpAnyF_one (i := 4) (by kernel_rfl) rfl (fun K hK => ?_)
  go_simp
  (go_at_call 30; (with_reducible refine (Fits_c (z + (a : Int)) _ _ H8.out (by have := HL8.out; omega)).mono ?_); rintro e w9 ⟨he, hb⟩; obtain rfl : e = .returned (.bool false) := (by rw [he, HF1.out] <;> rfl); clear he; replace V3 := V3.keep hb; replace VA := VA.keep hb; replace HB := below_step HB hb; clear hb)
  refine hK.out _ _ (by exact ⟨VA.c0, VA.c1⟩) (fun hHeld => ?_)
  clear hK K
  try go_frame
  refine wpF_t (i := 5) (oi := op1f7f3e89) (v := ?_) rfl (by kernel_rfl) (fun _ _ _ h => h) (Or.inl ⟨by rfl, ?_⟩) hHeld ?_; rotate_left
  · intro w_ hSw_; (try dsimp only at hSw_); go_simp; (try with_reducible rfl)
  try go_frame
  refine wpF_t (i := 6) (oi := opc6cabf31) (v := ?_) rfl (by kernel_rfl) (fun _ _ _ h => h) (Or.inl ⟨by rfl, ?_⟩) hHeld ?_; rotate_left
  · intro w_ hSw_; (try dsimp only at hSw_); go_simp; (try with_reducible rfl)
  try go_frame
  refine wpF_t (i := 7) (oi := op59cab412) rfl (by kernel_rfl) (fun _ _ _ h => h) (Or.inr ⟨by rfl, rfl⟩) hHeld ?_
  try go_frame
  refine wpF_t (i := 8) (oi := op780186ee) rfl (by kernel_rfl) (fun _ _ _ h => h) (Or.inr ⟨by rfl, rfl⟩) hHeld ?_
  try go_frame
  refine wpF_t (i := 9) (oi := op45b45a26) rfl (by kernel_rfl) (fun _ _ _ h => h) (Or.inr ⟨by rfl, rfl⟩) hHeld ?_
  try go_frame
  refine wpF_t (i := 10) (oi := opb85b40b4) rfl (by kernel_rfl) (fun _ _ _ h => h) (Or.inr ⟨by rfl, rfl⟩) hHeld ?_
  try go_frame
  refine wpF_t (i := 11) (oi := op53a4b3c9) rfl (by kernel_rfl) (fun _ _ _ h => h) (Or.inr ⟨by rfl, rfl⟩) hHeld ?_
  try go_frame
  refine wpF_t (i := 12) (oi := op5e2efdcb) rfl (by kernel_rfl) (fun _ _ _ h => h) (Or.inr ⟨by rfl, rfl⟩) hHeld ?_
  try go_frame
  refine wpF_t (i := 13) (oi := op0e170d34) rfl (by kernel_rfl) (fun _ _ _ h => h) (Or.inr ⟨by rfl, rfl⟩) hHeld ?_
  try go_frame
  refine wpF_t (i := 14) (oi := op902faa70) rfl (by kernel_rfl) (fun _ _ _ h => h) (Or.inr ⟨by rfl, rfl⟩) hHeld ?_
  try go_frame
  refine wpF_t (i := 15) (oi := op522560a3) (v := ?_) rfl (by kernel_rfl) (fun _ _ _ h => h) (Or.inl ⟨by rfl, ?_⟩) hHeld ?_; rotate_left
  · intro w_ hSw_; (try dsimp only at hSw_); go_simp; (try with_reducible rfl)
  try go_frame
  refine wpAnyF_done (by kernel_rfl) ?_ _
  clear hHeld hWd
  go_wp2_with fail
  (with_reducible refine (awake5_c _ (HT.out.below HB)).mono ?_)
  rintro e w20 ⟨he, hb⟩
  replace HB := below_step HB hb
  clear hb
  subst he
  go_wp2
  go_ret
  exact ⟨rfl, HB⟩
set_option maxRecDepth 100000 in
set_option maxHeartbeats 8000000 in
theorem FP_size2F (M : Mp) (z : Int) (a b most N p : Nat) (v : Value) (w : World) (hM : IsM w v M) (ht : Tb w) (hok : okM M) (hz : dlN z.natAbs ≤ 2000) (hN0 : a + b = N) (hN : N ≤ 20000) (hmo : most ≤ 20000) (hp : N * (most + 1) = p) (hli : ¬ p ≤ 100000) (hsz : ¬ 30 < (tS z).size) (hpp : ¬ 2000000 < p) (hf1 : decide (dl (z + (a : Int)) ≤ 2000) = true) (hf2 : decide (dl (z + (N : Int)) ≤ 2000) = false) : Calls Tryd.prog 8 #[v, .string (tS z), .int .i64 a, .int .i64 b, .int .i64 most] w fun e w' => e = .returned (.bool true) ∧ Below w.heap.size w w' := by
  have HF1 := Lib.hid hf1
  have HF2 := Lib.hid hf2
  clear hf1 hf2
  obtain ⟨md, A, n, c, A', n', c', rfl, HM⟩ := hM.form
  have V3 := VM.new w 24 HM.out
  have HB := below_alloc (Below.refl w.heap.size w) (Obj.cells #[Value.int .i64 md, Value.slice A n c, Value.slice A' n' c'] 24)
  have HT := Lib.hid ht
  have HOK : Hid (okB M = true) := okB_iff.2 hok
  have HOKM := Lib.hid hok
  have HV := Lib.hid (vld_tS hz)
  have hs := tS_sz hz
  have HZ := Lib.hid hz
  have hm0 : (0 : Int) ≤ (most : Int) := by omega
  have hm1 : (most : Int) ≤ 20000 := by omega
  have ha0 : (0 : Int) ≤ (a : Int) := by omega
  have ha1 : (a : Int) ≤ 20000 := by omega
  have hb0 : (0 : Int) ≤ (b : Int) := by omega
  have hw : IntKind.i64.wrap (20000 - (a : Int)) = 20000 - (a : Int) := by rw [IntKind.wrap_i64]; omega
  have hb1 : ¬ 20000 - (a : Int) < (b : Int) := by omega
  have hwn : IntKind.i64.wrap ((a : Int) + (b : Int)) = (N : Int) := by rw [IntKind.wrap_i64]; omega
  have hn0 : (0 : Int) ≤ (N : Int) := by omega
  have hn1 : (N : Int) ≤ 20000 := by omega
  have HN0 := Lib.hid hN0
  clear hN0
  have HLI : Hid (decide (N * (most + 1) ≤ 100000) = false) := by show _ = _; rw [hp]; exact decide_eq_false hli
  have hp1 : N * (most + 1) ≤ 20000 * 20001 := Nat.mul_le_mul hN (by omega)
  have hpi : ((N : Int) * ((most : Int) + 1)) = (p : Int) := by rw [← hp, Int.natCast_mul]; rfl
  have HP := Lib.hid hp
  rw [hp] at hp1
  have hpw : IntKind.i64.wrap (p : Int) = p := by rw [IntKind.wrap_i64]; omega
  clear hp
  have h2 : ¬ (30 : Int) < ((tS z).size : Int) := by omega
  have h3 : ¬ (2000000 : Int) < (p : Int) := by omega
  have HL4 : Hid ((dg B9 z).length ≤ 2000) := by have := len_dlN hz; show _ ≤ _; omega
  have hla : (dg B9 (a : Int)).length ≤ 2 := len_small (by omega) (by omega)
  have hln : (dg B9 (N : Int)).length ≤ 2 := len_small (by omega) (by omega)
  have HLa : Hid ((dg B9 (a : Int)).length ≤ 1000000000000) := by show _ ≤ _; omega
  have HLn : Hid ((dg B9 (N : Int)).length ≤ 1000000000000) := by show _ ≤ _; omega
  have HL8 : Hid ((dg B9 (z + (a : Int))).length ≤ 1000000000) := by
    have h1 := len_add B9two z (a : Int)
    have h2 := HL4.out
    show _ ≤ _
    omega
  have HL9 : Hid ((dg B9 (z + (N : Int))).length ≤ 1000000000) := by
    have h1 := len_add B9two z (N : Int)
    have h2 := HL4.out
    show _ ≤ _
    omega
  clear hla hln
  clear hok ht hM hz hli
  go_enter Tryd.func8, Tryd.ntmps8
  have m0 := V3.c0; have m1 := V3.c1; have m2 := V3.c2
  go_wp2_with fail
  (with_reducible refine (MValid_c M _ _ V3.im.out).mono ?_)
  rintro e w2 ⟨he, hb⟩
  replace HB := below_step HB hb
  replace V3 := V3.keep hb
  clear hb
  obtain rfl : e = .returned (.bool true) := by rw [he, HOK.out] <;> rfl
  clear he
  clear m0 m1 m2
  go_wp2_with fail
  (with_reducible refine (Valid_c (tS z) _ hs).mono ?_)
  rintro e w9 ⟨rfl, rfl⟩
  rw [HV.out]
  go_wp2_with fail
  (with_reducible refine (within_yes (most : Int) _ hm0 hm1).mono ?_)
  rintro e w3 ⟨he, hb⟩
  replace HB := below_step HB hb
  replace V3 := V3.keep hb
  clear hb
  subst he
  go_wp2_with fail
  (with_reducible refine (littleP_c N most _ hN hmo).mono ?_)
  rintro e w3b ⟨he, hb⟩
  replace HB := below_step HB hb
  replace V3 := V3.keep hb
  clear hb
  obtain rfl : e = .returned (.bool false) := by rw [he, HLI.out] <;> rfl
  clear he
  go_wp2_with fail
  (with_reducible refine (Parse_c z _ (by have := HZ.out; omega)).mono ?_)
  rintro e w6 ⟨v, rfl, hv, hb⟩
  obtain ⟨n4, A4, m4, k4, rfl, H4⟩ := hv.form; clear hv
  replace V3 := V3.keep hb
  replace HB := below_step HB hb
  clear hb
  go_wp2_with fail
  have VA := VX.new w6 39 H4.out
  have hb := below_alloc (Below.refl w6.heap.size w6) (Obj.cells #[Value.bool n4, Value.slice A4 m4 k4] 39)
  replace V3 := V3.keep hb
  replace HB := below_step HB hb
  clear hb H4
  generalize hba : w6.heap.size = ba at *
  generalize hwa : w6.alloc (Obj.cells #[Value.bool n4, Value.slice A4 m4 k4] 39) = wa at *
  replace V3 := V3.drew; replace VA := VA.drew; replace HB := below_drew HB
  generalize hWd : wa.drew = wd at *
  clear hwa
  refine wp_region_F (fun w' => w'.cell? ⟨ba, 0, none⟩ = some (.bool n4) ∧ w'.cell? ⟨ba, 1, none⟩ = some (.slice A4 m4 k4)) [] (by kernel_rfl) (by rw [hWd]; exact ⟨VA.c0, VA.c1⟩) (fun hHeld => ?_)
  rw [hWd] at hHeld ⊢
  refine wpF_t (i := 0) (oi := op1c52524a) (v := ?_) rfl (by kernel_rfl) (fun _ _ _ h => h) (Or.inl ⟨by rfl, ?_⟩) hHeld ?_; rotate_left
  · intro w_ hSw_; (try dsimp only at hSw_); go_simp; (try with_reducible rfl)
  try go_frame
  refine wpF_t (i := 1) (oi := opda935f34) (v := ?_) rfl (by kernel_rfl) (fun _ _ _ h => h) (Or.inl ⟨by rfl, ?_⟩) hHeld ?_; rotate_left
  · intro w_ hSw_; (try dsimp only at hSw_); go_simp; (try with_reducible rfl)
  try go_frame
  refine wpAnyF_one (i := 2) (by kernel_rfl) rfl (fun K hK => ?_)
  go_simp
  (go_at_call 23; (with_reducible refine (Of_c (a : Int) _ (by omega) (by omega)).mono ?_); rintro e w7 ⟨v, rfl, hv, hb⟩; obtain ⟨n7, A7, m7, k7, rfl, H7⟩ := hv.form; clear hv; replace V3 := V3.keep hb; replace VA := VA.keep hb; replace HB := below_step HB hb; clear hb)
  refine hK.out _ _ (by exact ⟨VA.c0, VA.c1⟩) (fun hHeld => ?_)
  clear hK K
  try go_frame
  refine wpAnyF_one (i := 3) (by kernel_rfl) rfl (fun K hK => ?_)
  go_simp
  (go_at_call 31; (with_reducible refine (Add_c z (a : Int) _ _ _ VA.iz.out H7.out (by have := HL4.out; omega) HLa.out).mono ?_); rintro e w8 ⟨v, rfl, hv, hb⟩; obtain ⟨n8, A8, m8, k8, rfl, H8⟩ := hv.form; clear hv; replace V3 := V3.keep hb; replace VA := VA.keep hb; replace HB := below_step HB hb; clear hb)
  refine hK.out _ _ (by exact ⟨VA.c0, VA.c1⟩) (fun hHeld => ?_)
  clear hK K
  try go_frame
  refine wpAnyF_one (i := 4) (by kernel_rfl) rfl (fun K hK => ?_)
  go_simp
  (go_at_call 30; (with_reducible refine (Fits_c (z + (a : Int)) _ _ H8.out (by have := HL8.out; omega)).mono ?_); rintro e w9 ⟨he, hb⟩; obtain rfl : e = .returned (.bool true) := (by rw [he, HF1.out] <;> rfl); clear he; replace V3 := V3.keep hb; replace VA := VA.keep hb; replace HB := below_step HB hb; clear hb)
  refine hK.out _ _ (by exact ⟨VA.c0, VA.c1⟩) (fun hHeld => ?_)
  clear hK K
  try go_frame
  refine wpF_t (i := 5) (oi := op1f7f3e89) (v := ?_) rfl (by kernel_rfl) (fun _ _ _ h => h) (Or.inl ⟨by rfl, ?_⟩) hHeld ?_; rotate_left
  · intro w_ hSw_; (try dsimp only at hSw_); go_simp; (try with_reducible rfl)
  try go_frame
  refine wpF_t (i := 6) (oi := opc6cabf31) (v := ?_) rfl (by kernel_rfl) (fun _ _ _ h => h) (Or.inl ⟨by rfl, ?_⟩) hHeld ?_; rotate_left
  · intro w_ hSw_; (try dsimp only at hSw_); go_simp; (try with_reducible rfl)
  try go_frame
  refine wpF_t (i := 7) (oi := op59cab412) (v := ?_) rfl (by kernel_rfl) (fun _ _ _ h => h) (Or.inl ⟨by rfl, ?_⟩) hHeld ?_; rotate_left
  · intro w_ hSw_; (try dsimp only at hSw_); go_simp; (try with_reducible rfl)
  try go_frame
  refine wpF_t (i := 8) (oi := op780186ee) (v := ?_) rfl (by kernel_rfl) (fun _ _ _ h => h) (Or.inl ⟨by rfl, ?_⟩) hHeld ?_; rotate_left
  · intro w_ hSw_; (try dsimp only at hSw_); go_simp; (try with_reducible rfl)
  try go_frame
  refine wpF_t (i := 9) (oi := op45b45a26) (v := ?_) rfl (by kernel_rfl) (fun _ _ _ h => h) (Or.inl ⟨by rfl, ?_⟩) hHeld ?_; rotate_left
  · intro w_ hSw_; (try dsimp only at hSw_); go_simp; (try with_reducible rfl)
  try go_frame
  refine wpF_t (i := 10) (oi := opb85b40b4) (v := ?_) rfl (by kernel_rfl) (fun _ _ _ h => h) (Or.inl ⟨by rfl, ?_⟩) hHeld ?_; rotate_left
  · intro w_ hSw_; (try dsimp only at hSw_); go_simp; (try with_reducible rfl)
  try go_frame
  refine wpAnyF_one (i := 11) (by kernel_rfl) rfl (fun K hK => ?_)
  go_simp
  (go_at_call 23; (with_reducible refine (Of_c (N : Int) _ (by omega) (by omega)).mono ?_); rintro e w10 ⟨v, rfl, hv, hb⟩; obtain ⟨n10, A10, m10, k10, rfl, H10⟩ := hv.form; clear hv; replace V3 := V3.keep hb; replace VA := VA.keep hb; replace HB := below_step HB hb; clear hb)
  refine hK.out _ _ (by exact ⟨VA.c0, VA.c1⟩) (fun hHeld => ?_)
  clear hK K
  try go_frame
  refine wpAnyF_one (i := 12) (by kernel_rfl) rfl (fun K hK => ?_)
  go_simp
  (go_at_call 31; (with_reducible refine (Add_c z (N : Int) _ _ _ VA.iz.out H10.out (by have := HL4.out; omega) HLn.out).mono ?_); rintro e w11 ⟨v, rfl, hv, hb⟩; obtain ⟨n11, A11, m11, k11, rfl, H11⟩ := hv.form; clear hv; replace V3 := V3.keep hb; replace VA := VA.keep hb; replace HB := below_step HB hb; clear hb)
  refine hK.out _ _ (by exact ⟨VA.c0, VA.c1⟩) (fun hHeld => ?_)
  clear hK K
  try go_frame
  refine wpAnyF_one (i := 13) (by kernel_rfl) rfl (fun K hK => ?_)
  go_simp
  (go_at_call 30; (with_reducible refine (Fits_c (z + (N : Int)) _ _ H11.out (by have := HL9.out; omega)).mono ?_); rintro e w12 ⟨he, hb⟩; obtain rfl : e = .returned (.bool false) := (by rw [he, HF2.out] <;> rfl); clear he; replace V3 := V3.keep hb; replace VA := VA.keep hb; replace HB := below_step HB hb; clear hb)
  refine hK.out _ _ (by exact ⟨VA.c0, VA.c1⟩) (fun hHeld => ?_)
  clear hK K
  try go_frame
  refine wpF_t (i := 14) (oi := op902faa70) (v := ?_) rfl (by kernel_rfl) (fun _ _ _ h => h) (Or.inl ⟨by rfl, ?_⟩) hHeld ?_; rotate_left
  · intro w_ hSw_; (try dsimp only at hSw_); go_simp; (try with_reducible rfl)
  try go_frame
  refine wpF_t (i := 15) (oi := op522560a3) (v := ?_) rfl (by kernel_rfl) (fun _ _ _ h => h) (Or.inl ⟨by rfl, ?_⟩) hHeld ?_; rotate_left
  · intro w_ hSw_; (try dsimp only at hSw_); go_simp; (try with_reducible rfl)
  try go_frame
  refine wpAnyF_done (by kernel_rfl) ?_ _
  clear hHeld hWd
  go_wp2_with fail
  (with_reducible refine (awake5_c _ (HT.out.below HB)).mono ?_)
  rintro e w20 ⟨he, hb⟩
  replace HB := below_step HB hb
  clear hb
  subst he
  go_wp2
  go_ret
  exact ⟨rfl, HB⟩
set_option maxRecDepth 100000 in
set_option maxHeartbeats 8000000 in
theorem FP_okT (M : Mp) (z : Int) (a b most N p : Nat) (v : Value) (w : World) (hM : IsM w v M) (ht : Tb w) (hok : okM M) (hz : dlN z.natAbs ≤ 2000) (hN0 : a + b = N) (hN : N ≤ 20000) (hmo : most ≤ 20000) (hp : N * (most + 1) = p) (hli : p ≤ 100000) (hf1 : decide (dl (z + (a : Int)) ≤ 2000) = true) (hf2 : decide (dl (z + (N : Int)) ≤ 2000) = true) : Calls Tryd.prog 8 #[v, .string (tS z), .int .i64 a, .int .i64 b, .int .i64 most] w fun e w' => e = .returned (.bool true) ∧ Below w.heap.size w w' := by
  have HFA : Hid (¬ 2000 < dl (z + (a : Int))) := by have := of_decide_eq_true hf1; show ¬ _; omega
  have HFN : Hid (¬ 2000 < dl (z + (N : Int))) := by have := of_decide_eq_true hf2; show ¬ _; omega
  have HFB : Hid (¬ 2000 < dl (z + (a : Int) + (b : Int))) := by rw [show z + (a : Int) + (b : Int) = z + (N : Int) by omega]; exact HFN
  have HZa : Hid (dlN (z + (a : Int)).natAbs ≤ 2000) := by show _ ≤ _; rw [← dl_dlN]; exact of_decide_eq_true hf1
  have HF1 := Lib.hid hf1
  have HF2 := Lib.hid hf2
  clear hf1 hf2
  obtain ⟨md, A, n, c, A', n', c', rfl, HM⟩ := hM.form
  have V3 := VM.new w 24 HM.out
  have HB := below_alloc (Below.refl w.heap.size w) (Obj.cells #[Value.int .i64 md, Value.slice A n c, Value.slice A' n' c'] 24)
  have HT := Lib.hid ht
  have HOK : Hid (okB M = true) := okB_iff.2 hok
  have HOKM := Lib.hid hok
  have HV := Lib.hid (vld_tS hz)
  have hs := tS_sz hz
  have HZ := Lib.hid hz
  have hm0 : (0 : Int) ≤ (most : Int) := by omega
  have hm1 : (most : Int) ≤ 20000 := by omega
  have ha0 : (0 : Int) ≤ (a : Int) := by omega
  have ha1 : (a : Int) ≤ 20000 := by omega
  have hb0 : (0 : Int) ≤ (b : Int) := by omega
  have hw : IntKind.i64.wrap (20000 - (a : Int)) = 20000 - (a : Int) := by rw [IntKind.wrap_i64]; omega
  have hb1 : ¬ 20000 - (a : Int) < (b : Int) := by omega
  have hwn : IntKind.i64.wrap ((a : Int) + (b : Int)) = (N : Int) := by rw [IntKind.wrap_i64]; omega
  have hn0 : (0 : Int) ≤ (N : Int) := by omega
  have hn1 : (N : Int) ≤ 20000 := by omega
  have HN0 := Lib.hid hN0
  clear hN0
  have HLI : Hid (decide (N * (most + 1) ≤ 100000) = true) := by show _ = _; rw [hp]; exact decide_eq_true hli
  have hp1 : N * (most + 1) ≤ 20000 * 20001 := Nat.mul_le_mul hN (by omega)
  have hpi : ((N : Int) * ((most : Int) + 1)) = (p : Int) := by rw [← hp, Int.natCast_mul]; rfl
  have HP := Lib.hid hp
  rw [hp] at hp1
  have hpw : IntKind.i64.wrap (p : Int) = p := by rw [IntKind.wrap_i64]; omega
  clear hp
  have HL4 : Hid ((dg B9 z).length ≤ 2000) := by have := len_dlN hz; show _ ≤ _; omega
  have hla : (dg B9 (a : Int)).length ≤ 2 := len_small (by omega) (by omega)
  have hln : (dg B9 (N : Int)).length ≤ 2 := len_small (by omega) (by omega)
  have HLa : Hid ((dg B9 (a : Int)).length ≤ 1000000000000) := by show _ ≤ _; omega
  have HLn : Hid ((dg B9 (N : Int)).length ≤ 1000000000000) := by show _ ≤ _; omega
  have HL8 : Hid ((dg B9 (z + (a : Int))).length ≤ 1000000000) := by
    have h1 := len_add B9two z (a : Int)
    have h2 := HL4.out
    show _ ≤ _
    omega
  have HL9 : Hid ((dg B9 (z + (N : Int))).length ≤ 1000000000) := by
    have h1 := len_add B9two z (N : Int)
    have h2 := HL4.out
    show _ ≤ _
    omega
  clear hla hln
  clear hok ht hM hz hli
  go_enter Tryd.func8, Tryd.ntmps8
  have m0 := V3.c0; have m1 := V3.c1; have m2 := V3.c2
  go_wp2_with fail
  (with_reducible refine (MValid_c M _ _ V3.im.out).mono ?_)
  rintro e w2 ⟨he, hb⟩
  replace HB := below_step HB hb
  replace V3 := V3.keep hb
  clear hb
  obtain rfl : e = .returned (.bool true) := by rw [he, HOK.out] <;> rfl
  clear he
  clear m0 m1 m2
  go_wp2_with fail
  (with_reducible refine (Valid_c (tS z) _ hs).mono ?_)
  rintro e w9 ⟨rfl, rfl⟩
  rw [HV.out]
  go_wp2_with fail
  (with_reducible refine (within_yes (most : Int) _ hm0 hm1).mono ?_)
  rintro e w3 ⟨he, hb⟩
  replace HB := below_step HB hb
  replace V3 := V3.keep hb
  clear hb
  subst he
  go_wp2_with fail
  (with_reducible refine (littleP_c N most _ hN hmo).mono ?_)
  rintro e w3b ⟨he, hb⟩
  replace HB := below_step HB hb
  replace V3 := V3.keep hb
  clear hb
  obtain rfl : e = .returned (.bool true) := by rw [he, HLI.out] <;> rfl
  clear he
  go_wp2_with fail
  (with_reducible refine (Parse_c z _ (by have := HZ.out; omega)).mono ?_)
  rintro e w6 ⟨v, rfl, hv, hb⟩
  obtain ⟨n4, A4, m4, k4, rfl, H4⟩ := hv.form; clear hv
  replace V3 := V3.keep hb
  replace HB := below_step HB hb
  clear hb
  go_wp2_with fail
  have VA := VX.new w6 39 H4.out
  have hb := below_alloc (Below.refl w6.heap.size w6) (Obj.cells #[Value.bool n4, Value.slice A4 m4 k4] 39)
  replace V3 := V3.keep hb
  replace HB := below_step HB hb
  clear hb H4
  generalize hba : w6.heap.size = ba at *
  generalize hwa : w6.alloc (Obj.cells #[Value.bool n4, Value.slice A4 m4 k4] 39) = wa at *
  replace V3 := V3.drew; replace VA := VA.drew; replace HB := below_drew HB
  generalize hWd : wa.drew = wd at *
  clear hwa
  refine wp_region_F (fun w' => w'.cell? ⟨ba, 0, none⟩ = some (.bool n4) ∧ w'.cell? ⟨ba, 1, none⟩ = some (.slice A4 m4 k4)) [] (by kernel_rfl) (by rw [hWd]; exact ⟨VA.c0, VA.c1⟩) (fun hHeld => ?_)
  rw [hWd] at hHeld ⊢
  refine wpF_t (i := 0) (oi := op1c52524a) (v := ?_) rfl (by kernel_rfl) (fun _ _ _ h => h) (Or.inl ⟨by rfl, ?_⟩) hHeld ?_; rotate_left
  · intro w_ hSw_; (try dsimp only at hSw_); go_simp; (try with_reducible rfl)
  try go_frame
  refine wpF_t (i := 1) (oi := opda935f34) (v := ?_) rfl (by kernel_rfl) (fun _ _ _ h => h) (Or.inl ⟨by rfl, ?_⟩) hHeld ?_; rotate_left
  · intro w_ hSw_; (try dsimp only at hSw_); go_simp; (try with_reducible rfl)
  try go_frame
  refine wpAnyF_one (i := 2) (by kernel_rfl) rfl (fun K hK => ?_)
  go_simp
  (go_at_call 23; (with_reducible refine (Of_c (a : Int) _ (by omega) (by omega)).mono ?_); rintro e w7 ⟨v, rfl, hv, hb⟩; obtain ⟨n7, A7, m7, k7, rfl, H7⟩ := hv.form; clear hv; replace V3 := V3.keep hb; replace VA := VA.keep hb; replace HB := below_step HB hb; clear hb)
  refine hK.out _ _ (by exact ⟨VA.c0, VA.c1⟩) (fun hHeld => ?_)
  clear hK K
  try go_frame
  refine wpAnyF_one (i := 3) (by kernel_rfl) rfl (fun K hK => ?_)
  go_simp
  (go_at_call 31; (with_reducible refine (Add_c z (a : Int) _ _ _ VA.iz.out H7.out (by have := HL4.out; omega) HLa.out).mono ?_); rintro e w8 ⟨v, rfl, hv, hb⟩; obtain ⟨n8, A8, m8, k8, rfl, H8⟩ := hv.form; clear hv; replace V3 := V3.keep hb; replace VA := VA.keep hb; replace HB := below_step HB hb; clear hb)
  refine hK.out _ _ (by exact ⟨VA.c0, VA.c1⟩) (fun hHeld => ?_)
  clear hK K
  try go_frame
  refine wpAnyF_one (i := 4) (by kernel_rfl) rfl (fun K hK => ?_)
  go_simp
  (go_at_call 30; (with_reducible refine (Fits_c (z + (a : Int)) _ _ H8.out (by have := HL8.out; omega)).mono ?_); rintro e w9 ⟨he, hb⟩; obtain rfl : e = .returned (.bool true) := (by rw [he, HF1.out] <;> rfl); clear he; replace V3 := V3.keep hb; replace VA := VA.keep hb; replace HB := below_step HB hb; clear hb)
  refine hK.out _ _ (by exact ⟨VA.c0, VA.c1⟩) (fun hHeld => ?_)
  clear hK K
  try go_frame
  refine wpF_t (i := 5) (oi := op1f7f3e89) (v := ?_) rfl (by kernel_rfl) (fun _ _ _ h => h) (Or.inl ⟨by rfl, ?_⟩) hHeld ?_; rotate_left
  · intro w_ hSw_; (try dsimp only at hSw_); go_simp; (try with_reducible rfl)
  try go_frame
  refine wpF_t (i := 6) (oi := opc6cabf31) (v := ?_) rfl (by kernel_rfl) (fun _ _ _ h => h) (Or.inl ⟨by rfl, ?_⟩) hHeld ?_; rotate_left
  · intro w_ hSw_; (try dsimp only at hSw_); go_simp; (try with_reducible rfl)
  try go_frame
  refine wpF_t (i := 7) (oi := op59cab412) (v := ?_) rfl (by kernel_rfl) (fun _ _ _ h => h) (Or.inl ⟨by rfl, ?_⟩) hHeld ?_; rotate_left
  · intro w_ hSw_; (try dsimp only at hSw_); go_simp; (try with_reducible rfl)
  try go_frame
  refine wpF_t (i := 8) (oi := op780186ee) (v := ?_) rfl (by kernel_rfl) (fun _ _ _ h => h) (Or.inl ⟨by rfl, ?_⟩) hHeld ?_; rotate_left
  · intro w_ hSw_; (try dsimp only at hSw_); go_simp; (try with_reducible rfl)
  try go_frame
  refine wpF_t (i := 9) (oi := op45b45a26) (v := ?_) rfl (by kernel_rfl) (fun _ _ _ h => h) (Or.inl ⟨by rfl, ?_⟩) hHeld ?_; rotate_left
  · intro w_ hSw_; (try dsimp only at hSw_); go_simp; (try with_reducible rfl)
  try go_frame
  refine wpF_t (i := 10) (oi := opb85b40b4) (v := ?_) rfl (by kernel_rfl) (fun _ _ _ h => h) (Or.inl ⟨by rfl, ?_⟩) hHeld ?_; rotate_left
  · intro w_ hSw_; (try dsimp only at hSw_); go_simp; (try with_reducible rfl)
  try go_frame
  refine wpAnyF_one (i := 11) (by kernel_rfl) rfl (fun K hK => ?_)
  go_simp
  (go_at_call 23; (with_reducible refine (Of_c (N : Int) _ (by omega) (by omega)).mono ?_); rintro e w10 ⟨v, rfl, hv, hb⟩; obtain ⟨n10, A10, m10, k10, rfl, H10⟩ := hv.form; clear hv; replace V3 := V3.keep hb; replace VA := VA.keep hb; replace HB := below_step HB hb; clear hb)
  refine hK.out _ _ (by exact ⟨VA.c0, VA.c1⟩) (fun hHeld => ?_)
  clear hK K
  try go_frame
  refine wpAnyF_one (i := 12) (by kernel_rfl) rfl (fun K hK => ?_)
  go_simp
  (go_at_call 31; (with_reducible refine (Add_c z (N : Int) _ _ _ VA.iz.out H10.out (by have := HL4.out; omega) HLn.out).mono ?_); rintro e w11 ⟨v, rfl, hv, hb⟩; obtain ⟨n11, A11, m11, k11, rfl, H11⟩ := hv.form; clear hv; replace V3 := V3.keep hb; replace VA := VA.keep hb; replace HB := below_step HB hb; clear hb)
  refine hK.out _ _ (by exact ⟨VA.c0, VA.c1⟩) (fun hHeld => ?_)
  clear hK K
  try go_frame
  refine wpAnyF_one (i := 13) (by kernel_rfl) rfl (fun K hK => ?_)
  go_simp
  (go_at_call 30; (with_reducible refine (Fits_c (z + (N : Int)) _ _ H11.out (by have := HL9.out; omega)).mono ?_); rintro e w12 ⟨he, hb⟩; obtain rfl : e = .returned (.bool true) := (by rw [he, HF2.out] <;> rfl); clear he; replace V3 := V3.keep hb; replace VA := VA.keep hb; replace HB := below_step HB hb; clear hb)
  refine hK.out _ _ (by exact ⟨VA.c0, VA.c1⟩) (fun hHeld => ?_)
  clear hK K
  try go_frame
  refine wpF_t (i := 14) (oi := op902faa70) (v := ?_) rfl (by kernel_rfl) (fun _ _ _ h => h) (Or.inl ⟨by rfl, ?_⟩) hHeld ?_; rotate_left
  · intro w_ hSw_; (try dsimp only at hSw_); go_simp; (try with_reducible rfl)
  try go_frame
  refine wpF_t (i := 15) (oi := op522560a3) (v := ?_) rfl (by kernel_rfl) (fun _ _ _ h => h) (Or.inl ⟨by rfl, ?_⟩) hHeld ?_; rotate_left
  · intro w_ hSw_; (try dsimp only at hSw_); go_simp; (try with_reducible rfl)
  try go_frame
  refine wpAnyF_done (by kernel_rfl) ?_ _
  clear hHeld hWd
  have m0 := V3.c0; have m1 := V3.c1; have m2 := V3.c2
  go_wp2_with fail
  (with_reducible refine (Srv_ok M z a most _ _ V3.im.out HOKM.out HZ.out (by omega) hmo (HT.out.below HB) HFA.out).mono ?_)
  rintro e w10b ⟨L1, q1, A1, c1, rfl, hq1, hs1, HC1, hb⟩
  replace V3 := V3.keep hb; replace VA := VA.keep hb; replace HB := below_step HB hb
  clear hb m0 m1 m2
  go_wp2_with fail
  replace V3 := V3.drew; replace VA := VA.drew; replace HB := below_drew HB
  replace HC1 := Lib.hid (HC1.out.below (below_drew (Below.refl _ _)))
  generalize hWd : w10b.drew = wd at *
  refine wp_region_F (fun w' => w'.cell? ⟨w.heap.size, 0, none⟩ = some (.int .i64 md) ∧ w'.cell? ⟨w.heap.size, 1, none⟩ = some (.slice A n c) ∧ w'.cell? ⟨w.heap.size, 2, none⟩ = some (.slice A' n' c') ∧ w'.cell? ⟨ba, 0, none⟩ = some (.bool n4) ∧ w'.cell? ⟨ba, 1, none⟩ = some (.slice A4 m4 k4)) [] (by kernel_rfl) (by rw [hWd]; exact ⟨V3.c0, V3.c1, V3.c2, VA.c0, VA.c1⟩) (fun hHeld => ?_)
  rw [hWd] at hHeld ⊢
  refine wpF_t (i := 0) (oi := ope5b603c6) (v := ?_) rfl (by kernel_rfl) (fun _ _ _ h => h) (Or.inl ⟨by rfl, ?_⟩) hHeld ?_; rotate_left
  · intro w_ hSw_; (try dsimp only at hSw_); go_simp; (try with_reducible rfl)
  try go_frame
  refine wpF_t (i := 1) (oi := opf5419050) (v := ?_) rfl (by kernel_rfl) (fun _ _ _ h => h) (Or.inl ⟨by rfl, ?_⟩) hHeld ?_; rotate_left
  · intro w_ hSw_; (try dsimp only at hSw_); go_simp; (try with_reducible rfl)
  try go_frame
  refine wpF_t (i := 2) (oi := op06a50a45) (v := ?_) rfl (by kernel_rfl) (fun _ _ _ h => h) (Or.inl ⟨by rfl, ?_⟩) hHeld ?_; rotate_left
  · intro w_ hSw_; (try dsimp only at hSw_); go_simp; (try with_reducible rfl)
  try go_frame
  refine wpF_t (i := 6) (oi := op76b8c2d8) (v := ?_) rfl (by kernel_rfl) (fun _ _ _ h => h) (Or.inl ⟨by rfl, ?_⟩) hHeld ?_; rotate_left
  · intro w_ hSw_; (try dsimp only at hSw_); go_simp; (try with_reducible rfl)
  try go_frame
  refine wpF_t (i := 7) (oi := opceb5ff3f) (v := ?_) rfl (by kernel_rfl) (fun _ _ _ h => h) (Or.inl ⟨by rfl, ?_⟩) hHeld ?_; rotate_left
  · intro w_ hSw_; (try dsimp only at hSw_); go_simp; (try with_reducible rfl)
  try go_frame
  refine wpAnyF_one (i := 3) (by kernel_rfl) rfl (fun K hK => ?_)
  go_simp
  (go_at_call 23; (with_reducible refine (Of_c (a : Int) _ (by omega) (by omega)).mono ?_); rintro e w13 ⟨v, rfl, hv, hb⟩; obtain ⟨n13, A13, m13, k13, rfl, H13⟩ := hv.form; clear hv; replace V3 := V3.keep hb; replace VA := VA.keep hb; replace HB := below_step HB hb; replace HC1 := Lib.hid (HC1.out.below hb); clear hb)
  refine hK.out _ _ (by exact ⟨V3.c0, V3.c1, V3.c2, VA.c0, VA.c1⟩) (fun hHeld => ?_)
  clear hK K
  try go_frame
  refine wpAnyF_one (i := 4) (by kernel_rfl) rfl (fun K hK => ?_)
  go_simp
  (go_at_call 31; (with_reducible refine (Add_c z (a : Int) _ _ _ VA.iz.out H13.out (by have := HL4.out; omega) HLa.out).mono ?_); rintro e w14 ⟨v, rfl, hv, hb⟩; obtain ⟨n14, A14, m14, k14, rfl, H14⟩ := hv.form; clear hv; replace V3 := V3.keep hb; replace VA := VA.keep hb; replace HB := below_step HB hb; replace HC1 := Lib.hid (HC1.out.below hb); clear hb)
  refine hK.out _ _ (by exact ⟨V3.c0, V3.c1, V3.c2, VA.c0, VA.c1⟩) (fun hHeld => ?_)
  clear hK K
  try go_frame
  refine wpAnyF_one (i := 5) (by kernel_rfl) rfl (fun K hK => ?_)
  go_simp
  (go_at_call 18; (with_reducible refine (Text_c (z + (a : Int)) _ _ H14.out (by have := HL8.out; omega)).mono ?_); rintro e w15 ⟨rfl, hb⟩; replace V3 := V3.keep hb; replace VA := VA.keep hb; replace HB := below_step HB hb; replace HC1 := Lib.hid (HC1.out.below hb); clear hb)
  refine hK.out _ _ (by exact ⟨V3.c0, V3.c1, V3.c2, VA.c0, VA.c1⟩) (fun hHeld => ?_)
  clear hK K
  try go_frame
  refine wpAnyF_one (i := 8) (by kernel_rfl) rfl (fun K hK => ?_)
  go_simp
  (go_at_call 32; (with_reducible refine (Srv_ok M (z + (a : Int)) b most _ _ V3.im.out HOKM.out HZa.out (by omega) hmo (HT.out.below HB) HFB.out).mono ?_); rintro e w16 ⟨L2, q2, A2, c2, rfl, hq2, hs2, HC2, hb⟩; replace V3 := V3.keep hb; replace VA := VA.keep hb; replace HB := below_step HB hb; replace HC1 := Lib.hid (HC1.out.below hb); clear hb)
  refine hK.out _ _ (by exact ⟨V3.c0, V3.c1, V3.c2, VA.c0, VA.c1⟩) (fun hHeld => ?_)
  clear hK K
  try go_frame
  refine wpF_t (i := 9) (oi := op40eae79f) (v := ?_) rfl (by kernel_rfl) (fun _ _ _ h => h) (Or.inl ⟨by rfl, ?_⟩) hHeld ?_; rotate_left
  · intro w_ hSw_; (try dsimp only at hSw_); go_simp; (try with_reducible rfl)
  try go_frame
  refine wpF_t (i := 10) (oi := op7757caee) (v := ?_) rfl (by kernel_rfl) (fun _ _ _ h => h) (Or.inl ⟨by rfl, ?_⟩) hHeld ?_; rotate_left
  · intro w_ hSw_; (try dsimp only at hSw_); go_simp; (try with_reducible rfl)
  try go_frame
  refine wpF_t (i := 11) (oi := op2c33c549) (v := ?_) rfl (by kernel_rfl) (fun _ _ _ h => h) (Or.inl ⟨by rfl, ?_⟩) hHeld ?_; rotate_left
  · intro w_ hSw_; (try dsimp only at hSw_); go_simp; (try with_reducible rfl)
  try go_frame
  refine wpF_t (i := 12) (oi := op7a038200) (v := ?_) rfl (by kernel_rfl) (fun _ _ _ h => h) (Or.inl ⟨by rfl, ?_⟩) hHeld ?_; rotate_left
  · intro w_ hSw_; (try dsimp only at hSw_); go_simp; (try with_reducible rfl)
  try go_frame
  refine wpF_t (i := 13) (oi := opc14cf3da) (v := ?_) rfl (by kernel_rfl) (fun _ _ _ h => h) (Or.inl ⟨by rfl, ?_⟩) hHeld ?_; rotate_left
  · intro w_ hSw_; (try dsimp only at hSw_); go_simp; (try with_reducible rfl)
  try go_frame
  refine wpAnyF_done (by kernel_rfl) ?_ _
  clear hHeld hWd
  have m0 := V3.c0; have m1 := V3.c1; have m2 := V3.c2
  go_wp2_with fail
  (with_reducible refine (Srv_ok M z N most _ _ V3.im.out HOKM.out HZ.out (by omega) hmo (HT.out.below HB) HFN.out).mono ?_)
  rintro e w17 ⟨L3, q3, A3, c3, rfl, hq3, hs3, HC3, hb⟩
  replace HC1 := Lib.hid (HC1.out.below hb); replace HC2 := Lib.hid (HC2.out.below hb); replace HB := below_step HB hb
  clear hb m0 m1 m2 V3 VA
  have hcs : lsts M most z N = lsts M most z a ++ lsts M most (z + (a : Int)) b := by rw [← HN0.out]; exact lsts_add M most z a b
  rw [hcs] at hq3 hs3
  rw [List.length_append] at hq3
  obtain rfl : q3 = q1 + q2 := by have := HN0.out; omega
  have HPART : Hid (∀ i, i < (cnL L3 (q1 + q2)).length → (gc (cnL L3 (q1 + q2)) i).2 = ofL (cnL L1 q1) (gc (cnL L3 (q1 + q2)) i).1 + ofL (cnL L2 q2) (gc (cnL L3 (q1 + q2)) i).1 ∧ 1 ≤ (gc (cnL L3 (q1 + q2)) i).2) := fun i hi => parts_at hs1 hs2 hs3 q1 q2 hi
  have HSUM : Hid (sumC (cnL L3 (q1 + q2)) (cnL L3 (q1 + q2)).length = N) := by show _ = _; rw [sumC_all hs3, List.length_append]; omega
  generalize cnL L1 q1 = l1 at *
  generalize cnL L2 q2 = l2 at *
  generalize cnL L3 (q1 + q2) = l3 at *
  have hcl := HC3.out.2
  clear hcs hq1 hq2 hq3 hs1 hs2 hs3
  have HBW := HB
  clear HB
  go_wp2_with fail
  go_loopg [18, 19] l3.length (fun g sv iv wr => ∃ i : Nat, g = l3.length - i ∧ sv = .int .i64 (sumC l3 i : Nat) ∧ iv = .int .i64 i ∧ i ≤ l3.length ∧ Below w17.heap.size w17 wr)
  case atStart => exact ⟨0, rfl, rfl, rfl, Nat.zero_le _, Below.refl _ _⟩
  case round =>
    obtain ⟨i, hgk, rfl, rfl, hi, HB⟩ := hrel
    have hi0 : (0 : Int) ≤ (i : Int) := by omega
    by_cases hil : i < l3.length
    · have hi1 : (i : Int) < (l3.length : Int) := by omega
      obtain ⟨b9, o9, rfl, g0, g1⟩ := (HC3.out.below HB).el (j := i) hil
      obtain ⟨hpa, hp1'⟩ := HPART.out i hil
      have hS1 := sumC_succ hil
      have hS2 := sumC_le l3 (i + 1) hil
      rw [HSUM.out] at hS2
      obtain ⟨x, hx⟩ : ∃ x, (gc l3 i).1 = x := ⟨_, rfl⟩
      obtain ⟨m, hm⟩ : ∃ m, (gc l3 i).2 = m := ⟨_, rfl⟩
      rw [hx, hm] at hpa
      rw [hm] at hp1' hS1
      rw [hx] at g0
      rw [hm] at g1
      have hw17 : IntKind.i64.wrap ((sumC l3 i : Int) + (m : Int)) = (sumC l3 (i + 1) : Int) := by rw [IntKind.wrap_i64]; omega
      have hw18 : IntKind.i64.wrap ((ofL l1 x : Int) + (ofL l2 x : Int)) = (m : Int) := by rw [IntKind.wrap_i64]; omega
      have hd1 : decide ((m : Int) < 1) = false := decide_eq_false (by omega)
      have hd2 : decide (m < 1) = false := decide_eq_false (by omega)
      have hd3 : decide (m = 0) = false := decide_eq_false (by omega)
      have p0 := g0.c; have p1 := g1.c
      clear hpa hp1' hS1 hS2 hx hm
      go_wp2_with fail
      clear p0 p1
      replace g0 := g0.drew; replace g1 := g1.drew; replace HB := below_drew HB
      generalize hWd : wr.drew = wd at *
      refine wp_region_F (fun w' => w'.cell? ⟨b9, o9 + i * 2, none⟩ = some (.string x) ∧ w'.cell? ⟨b9, o9 + i * 2 + 1, none⟩ = some (.int .i64 (m : Int))) [] (by kernel_rfl) (by rw [hWd]; exact ⟨g0.c, g1.c⟩) (fun hHeld => ?_)
      rw [hWd] at hHeld ⊢
      refine wpF_t (i := 0) (oi := op53260b07) (v := ?_) rfl (by kernel_rfl) (fun _ _ _ h => h) (Or.inl ⟨by rfl, ?_⟩) hHeld ?_; rotate_left
      · intro w_ hSw_; (try dsimp only at hSw_); go_simp; (try with_reducible rfl)
      try go_frame
      refine wpF_t (i := 1) (oi := op33944e84) (v := ?_) rfl (by kernel_rfl) (fun _ _ _ h => h) (Or.inl ⟨by rfl, ?_⟩) hHeld ?_; rotate_left
      · intro w_ hSw_; (try dsimp only at hSw_); go_simp; (try with_reducible rfl)
      try go_frame
      refine wpF_t (i := 2) (oi := opea774595) (v := ?_) rfl (by kernel_rfl) (fun _ _ _ h => h) (Or.inl ⟨by rfl, ?_⟩) hHeld ?_; rotate_left
      · intro w_ hSw_; (try dsimp only at hSw_); go_simp; (try with_reducible rfl)
      try go_frame
      refine wpF_t (i := 3) (oi := op4b42854e) (v := ?_) rfl (by kernel_rfl) (fun _ _ _ h => h) (Or.inl ⟨by rfl, ?_⟩) hHeld ?_; rotate_left
      · intro w_ hSw_; (try dsimp only at hSw_); go_simp; (try with_reducible rfl)
      try go_frame
      refine wpF_t (i := 4) (oi := op3ab64d3d) (v := ?_) rfl (by kernel_rfl) (fun _ _ _ h => h) (Or.inl ⟨by rfl, ?_⟩) hHeld ?_; rotate_left
      · intro w_ hSw_; (try dsimp only at hSw_); go_simp; (try with_reducible rfl)
      try go_frame
      refine wpF_t (i := 5) (oi := op8880c0ef) (v := ?_) rfl (by kernel_rfl) (fun _ _ _ h => h) (Or.inl ⟨by rfl, ?_⟩) hHeld ?_; rotate_left
      · intro w_ hSw_; (try dsimp only at hSw_); go_simp; (try with_reducible rfl)
      try go_frame
      refine wpF_t (i := 6) (oi := op4ace6c28) (v := ?_) rfl (by kernel_rfl) (fun _ _ _ h => h) (Or.inl ⟨by rfl, ?_⟩) hHeld ?_; rotate_left
      · intro w_ hSw_; (try dsimp only at hSw_); go_simp; (try with_reducible rfl)
      try go_frame
      refine wpF_t (i := 7) (oi := opc61f2439) (v := ?_) rfl (by kernel_rfl) (fun _ _ _ h => h) (Or.inl ⟨by rfl, ?_⟩) hHeld ?_; rotate_left
      · intro w_ hSw_; (try dsimp only at hSw_); go_simp; (try with_reducible rfl)
      try go_frame
      refine wpF_t (i := 8) (oi := opb276cef4) (v := ?_) rfl (by kernel_rfl) (fun _ _ _ h => h) (Or.inl ⟨by rfl, ?_⟩) hHeld ?_; rotate_left
      · intro w_ hSw_; (try dsimp only at hSw_); go_simp; (try with_reducible rfl)
      try go_frame
      refine wpF_t (i := 9) (oi := opd3c698e7) (v := ?_) rfl (by kernel_rfl) (fun _ _ _ h => h) (Or.inl ⟨by rfl, ?_⟩) hHeld ?_; rotate_left
      · intro w_ hSw_; (try dsimp only at hSw_); go_simp; (try with_reducible rfl)
      try go_frame
      refine wpF_t (i := 10) (oi := op0fa1bab7) (v := ?_) rfl (by kernel_rfl) (fun _ _ _ h => h) (Or.inl ⟨by rfl, ?_⟩) hHeld ?_; rotate_left
      · intro w_ hSw_; (try dsimp only at hSw_); go_simp; (try with_reducible rfl)
      try go_frame
      refine wpF_t (i := 12) (oi := op4b68613c) (v := ?_) rfl (by kernel_rfl) (fun _ _ _ h => h) (Or.inl ⟨by rfl, ?_⟩) hHeld ?_; rotate_left
      · intro w_ hSw_; (try dsimp only at hSw_); go_simp; (try with_reducible rfl)
      try go_frame
      refine wpF_t (i := 13) (oi := op00693b94) (v := ?_) rfl (by kernel_rfl) (fun _ _ _ h => h) (Or.inl ⟨by rfl, ?_⟩) hHeld ?_; rotate_left
      · intro w_ hSw_; (try dsimp only at hSw_); go_simp; (try with_reducible rfl)
      try go_frame
      refine wpF_t (i := 14) (oi := opa5353560) (v := ?_) rfl (by kernel_rfl) (fun _ _ _ h => h) (Or.inl ⟨by rfl, ?_⟩) hHeld ?_; rotate_left
      · intro w_ hSw_; (try dsimp only at hSw_); go_simp; (try with_reducible rfl)
      try go_frame
      refine wpF_t (i := 15) (oi := opeb033b5a) (v := ?_) rfl (by kernel_rfl) (fun _ _ _ h => h) (Or.inl ⟨by rfl, ?_⟩) hHeld ?_; rotate_left
      · intro w_ hSw_; (try dsimp only at hSw_); go_simp; (try with_reducible rfl)
      try go_frame
      refine wpF_t (i := 16) (oi := op65825fb4) (v := ?_) rfl (by kernel_rfl) (fun _ _ _ h => h) (Or.inl ⟨by rfl, ?_⟩) hHeld ?_; rotate_left
      · intro w_ hSw_; (try dsimp only at hSw_); go_simp; (try with_reducible rfl)
      try go_frame
      refine wpF_t (i := 17) (oi := op53a1d5c0) (v := ?_) rfl (by kernel_rfl) (fun _ _ _ h => h) (Or.inl ⟨by rfl, ?_⟩) hHeld ?_; rotate_left
      · intro w_ hSw_; (try dsimp only at hSw_); go_simp; (try with_reducible rfl)
      try go_frame
      refine wpAnyF_one (i := 11) (by kernel_rfl) rfl (fun K hK => ?_)
      go_simp
      (go_at_call 33; (with_reducible refine (of_c A1 c1 l1 x _ (HC1.out.below HB)).mono ?_); rintro e w20 ⟨rfl, hb⟩; replace g0 := g0.keep hb; replace g1 := g1.keep hb; replace HB := below_step HB hb; clear hb)
      refine hK.out _ _ (by exact ⟨g0.c, g1.c⟩) (fun hHeld => ?_)
      clear hK K
      try go_frame
      refine wpAnyF_one (i := 18) (by kernel_rfl) rfl (fun K hK => ?_)
      go_simp
      (go_at_call 33; (with_reducible refine (of_c A2 c2 l2 x _ (HC2.out.below HB)).mono ?_); rintro e w21 ⟨rfl, hb⟩; replace g0 := g0.keep hb; replace g1 := g1.keep hb; replace HB := below_step HB hb; clear hb)
      refine hK.out _ _ (by exact ⟨g0.c, g1.c⟩) (fun hHeld => ?_)
      clear hK K
      try go_frame
      refine wpF_t (i := 19) (oi := op3a12648f) (v := ?_) rfl (by kernel_rfl) (fun _ _ _ h => h) (Or.inl ⟨by rfl, ?_⟩) hHeld ?_; rotate_left
      · intro w_ hSw_; (try dsimp only at hSw_); go_simp; (try with_reducible rfl)
      try go_frame
      refine wpF_t (i := 20) (oi := op1a45f953) (v := ?_) rfl (by kernel_rfl) (fun _ _ _ h => h) (Or.inl ⟨by rfl, ?_⟩) hHeld ?_; rotate_left
      · intro w_ hSw_; (try dsimp only at hSw_); go_simp; (try with_reducible rfl)
      try go_frame
      refine wpF_t (i := 21) (oi := op4268aef8) (v := ?_) rfl (by kernel_rfl) (fun _ _ _ h => h) (Or.inl ⟨by rfl, ?_⟩) hHeld ?_; rotate_left
      · intro w_ hSw_; (try dsimp only at hSw_); go_simp; (try with_reducible rfl)
      try go_frame
      refine wpF_t (i := 22) (oi := opcede512d) (v := ?_) rfl (by kernel_rfl) (fun _ _ _ h => h) (Or.inl ⟨by rfl, ?_⟩) hHeld ?_; rotate_left
      · intro w_ hSw_; (try dsimp only at hSw_); go_simp; (try with_reducible rfl)
      try go_frame
      refine wpF_t (i := 23) (oi := opba2a491f) (v := ?_) rfl (by kernel_rfl) (fun _ _ _ h => h) (Or.inl ⟨by rfl, ?_⟩) hHeld ?_; rotate_left
      · intro w_ hSw_; (try dsimp only at hSw_); go_simp; (try with_reducible rfl)
      try go_frame
      refine wpF_t (i := 24) (oi := opb757a7d3) (v := ?_) rfl (by kernel_rfl) (fun _ _ _ h => h) (Or.inl ⟨by rfl, ?_⟩) hHeld ?_; rotate_left
      · intro w_ hSw_; (try dsimp only at hSw_); go_simp; (try with_reducible rfl)
      try go_frame
      refine wpF_t (i := 25) (oi := op5a29c9ce) (v := ?_) rfl (by kernel_rfl) (fun _ _ _ h => h) (Or.inl ⟨by rfl, ?_⟩) hHeld ?_; rotate_left
      · intro w_ hSw_; (try dsimp only at hSw_); go_simp; (try with_reducible rfl)
      try go_frame
      refine wpF_t (i := 26) (oi := op50318d02) (v := ?_) rfl (by kernel_rfl) (fun _ _ _ h => h) (Or.inl ⟨by rfl, ?_⟩) hHeld ?_; rotate_left
      · intro w_ hSw_; (try dsimp only at hSw_); go_simp; (try with_reducible rfl)
      try go_frame
      refine wpF_t (i := 27) (oi := ope088f6c0) (v := ?_) rfl (by kernel_rfl) (fun _ _ _ h => h) (Or.inl ⟨by rfl, ?_⟩) hHeld ?_; rotate_left
      · intro w_ hSw_; (try dsimp only at hSw_); go_simp; (try with_reducible rfl)
      try go_frame
      refine wpF_t (i := 28) (oi := op3d994046) (v := ?_) rfl (by kernel_rfl) (fun _ _ _ h => h) (Or.inl ⟨by rfl, ?_⟩) hHeld ?_; rotate_left
      · intro w_ hSw_; (try dsimp only at hSw_); go_simp; (try with_reducible rfl)
      try go_frame
      refine wpAnyF_done (by kernel_rfl) ?_ _
      clear hHeld hWd
      go_wp2
      go_roundg (l3.length - (i + 1))
      case measure => omega
      case rel => exact ⟨i + 1, rfl, rfl, by go_num, by omega, HB⟩
    · obtain rfl : i = l3.length := by omega
      have hi1 : ¬ (l3.length : Int) < (l3.length : Int) := by omega
      rw [HSUM.out]
      have HB := HBW.trans (HB.mono HBW.size)
      clear HBW
      go_wp2_with fail
      (with_reducible refine (awake5_c _ (HT.out.below HB)).mono ?_)
      rintro e w20 ⟨he, hb⟩
      replace HB := below_step HB hb
      clear hb
      subst he
      go_wp2
      go_ret
      exact ⟨rfl, HB⟩
set_option maxRecDepth 100000 in
set_option maxHeartbeats 8000000 in
theorem FP_okF (M : Mp) (z : Int) (a b most N p : Nat) (v : Value) (w : World) (hM : IsM w v M) (ht : Tb w) (hok : okM M) (hz : dlN z.natAbs ≤ 2000) (hN0 : a + b = N) (hN : N ≤ 20000) (hmo : most ≤ 20000) (hp : N * (most + 1) = p) (hli : ¬ p ≤ 100000) (hsz : ¬ 30 < (tS z).size) (hpp : ¬ 2000000 < p) (hf1 : decide (dl (z + (a : Int)) ≤ 2000) = true) (hf2 : decide (dl (z + (N : Int)) ≤ 2000) = true) : Calls Tryd.prog 8 #[v, .string (tS z), .int .i64 a, .int .i64 b, .int .i64 most] w fun e w' => e = .returned (.bool true) ∧ Below w.heap.size w w' := by
  have HFA : Hid (¬ 2000 < dl (z + (a : Int))) := by have := of_decide_eq_true hf1; show ¬ _; omega
  have HFN : Hid (¬ 2000 < dl (z + (N : Int))) := by have := of_decide_eq_true hf2; show ¬ _; omega
  have HFB : Hid (¬ 2000 < dl (z + (a : Int) + (b : Int))) := by rw [show z + (a : Int) + (b : Int) = z + (N : Int) by omega]; exact HFN
  have HZa : Hid (dlN (z + (a : Int)).natAbs ≤ 2000) := by show _ ≤ _; rw [← dl_dlN]; exact of_decide_eq_true hf1
  have HF1 := Lib.hid hf1
  have HF2 := Lib.hid hf2
  clear hf1 hf2
  obtain ⟨md, A, n, c, A', n', c', rfl, HM⟩ := hM.form
  have V3 := VM.new w 24 HM.out
  have HB := below_alloc (Below.refl w.heap.size w) (Obj.cells #[Value.int .i64 md, Value.slice A n c, Value.slice A' n' c'] 24)
  have HT := Lib.hid ht
  have HOK : Hid (okB M = true) := okB_iff.2 hok
  have HOKM := Lib.hid hok
  have HV := Lib.hid (vld_tS hz)
  have hs := tS_sz hz
  have HZ := Lib.hid hz
  have hm0 : (0 : Int) ≤ (most : Int) := by omega
  have hm1 : (most : Int) ≤ 20000 := by omega
  have ha0 : (0 : Int) ≤ (a : Int) := by omega
  have ha1 : (a : Int) ≤ 20000 := by omega
  have hb0 : (0 : Int) ≤ (b : Int) := by omega
  have hw : IntKind.i64.wrap (20000 - (a : Int)) = 20000 - (a : Int) := by rw [IntKind.wrap_i64]; omega
  have hb1 : ¬ 20000 - (a : Int) < (b : Int) := by omega
  have hwn : IntKind.i64.wrap ((a : Int) + (b : Int)) = (N : Int) := by rw [IntKind.wrap_i64]; omega
  have hn0 : (0 : Int) ≤ (N : Int) := by omega
  have hn1 : (N : Int) ≤ 20000 := by omega
  have HN0 := Lib.hid hN0
  clear hN0
  have HLI : Hid (decide (N * (most + 1) ≤ 100000) = false) := by show _ = _; rw [hp]; exact decide_eq_false hli
  have hp1 : N * (most + 1) ≤ 20000 * 20001 := Nat.mul_le_mul hN (by omega)
  have hpi : ((N : Int) * ((most : Int) + 1)) = (p : Int) := by rw [← hp, Int.natCast_mul]; rfl
  have HP := Lib.hid hp
  rw [hp] at hp1
  have hpw : IntKind.i64.wrap (p : Int) = p := by rw [IntKind.wrap_i64]; omega
  clear hp
  have h2 : ¬ (30 : Int) < ((tS z).size : Int) := by omega
  have h3 : ¬ (2000000 : Int) < (p : Int) := by omega
  have HL4 : Hid ((dg B9 z).length ≤ 2000) := by have := len_dlN hz; show _ ≤ _; omega
  have hla : (dg B9 (a : Int)).length ≤ 2 := len_small (by omega) (by omega)
  have hln : (dg B9 (N : Int)).length ≤ 2 := len_small (by omega) (by omega)
  have HLa : Hid ((dg B9 (a : Int)).length ≤ 1000000000000) := by show _ ≤ _; omega
  have HLn : Hid ((dg B9 (N : Int)).length ≤ 1000000000000) := by show _ ≤ _; omega
  have HL8 : Hid ((dg B9 (z + (a : Int))).length ≤ 1000000000) := by
    have h1 := len_add B9two z (a : Int)
    have h2 := HL4.out
    show _ ≤ _
    omega
  have HL9 : Hid ((dg B9 (z + (N : Int))).length ≤ 1000000000) := by
    have h1 := len_add B9two z (N : Int)
    have h2 := HL4.out
    show _ ≤ _
    omega
  clear hla hln
  clear hok ht hM hz hli
  go_enter Tryd.func8, Tryd.ntmps8
  have m0 := V3.c0; have m1 := V3.c1; have m2 := V3.c2
  go_wp2_with fail
  (with_reducible refine (MValid_c M _ _ V3.im.out).mono ?_)
  rintro e w2 ⟨he, hb⟩
  replace HB := below_step HB hb
  replace V3 := V3.keep hb
  clear hb
  obtain rfl : e = .returned (.bool true) := by rw [he, HOK.out] <;> rfl
  clear he
  clear m0 m1 m2
  go_wp2_with fail
  (with_reducible refine (Valid_c (tS z) _ hs).mono ?_)
  rintro e w9 ⟨rfl, rfl⟩
  rw [HV.out]
  go_wp2_with fail
  (with_reducible refine (within_yes (most : Int) _ hm0 hm1).mono ?_)
  rintro e w3 ⟨he, hb⟩
  replace HB := below_step HB hb
  replace V3 := V3.keep hb
  clear hb
  subst he
  go_wp2_with fail
  (with_reducible refine (littleP_c N most _ hN hmo).mono ?_)
  rintro e w3b ⟨he, hb⟩
  replace HB := below_step HB hb
  replace V3 := V3.keep hb
  clear hb
  obtain rfl : e = .returned (.bool false) := by rw [he, HLI.out] <;> rfl
  clear he
  go_wp2_with fail
  (with_reducible refine (Parse_c z _ (by have := HZ.out; omega)).mono ?_)
  rintro e w6 ⟨v, rfl, hv, hb⟩
  obtain ⟨n4, A4, m4, k4, rfl, H4⟩ := hv.form; clear hv
  replace V3 := V3.keep hb
  replace HB := below_step HB hb
  clear hb
  go_wp2_with fail
  have VA := VX.new w6 39 H4.out
  have hb := below_alloc (Below.refl w6.heap.size w6) (Obj.cells #[Value.bool n4, Value.slice A4 m4 k4] 39)
  replace V3 := V3.keep hb
  replace HB := below_step HB hb
  clear hb H4
  generalize hba : w6.heap.size = ba at *
  generalize hwa : w6.alloc (Obj.cells #[Value.bool n4, Value.slice A4 m4 k4] 39) = wa at *
  replace V3 := V3.drew; replace VA := VA.drew; replace HB := below_drew HB
  generalize hWd : wa.drew = wd at *
  clear hwa
  refine wp_region_F (fun w' => w'.cell? ⟨ba, 0, none⟩ = some (.bool n4) ∧ w'.cell? ⟨ba, 1, none⟩ = some (.slice A4 m4 k4)) [] (by kernel_rfl) (by rw [hWd]; exact ⟨VA.c0, VA.c1⟩) (fun hHeld => ?_)
  rw [hWd] at hHeld ⊢
  refine wpF_t (i := 0) (oi := op1c52524a) (v := ?_) rfl (by kernel_rfl) (fun _ _ _ h => h) (Or.inl ⟨by rfl, ?_⟩) hHeld ?_; rotate_left
  · intro w_ hSw_; (try dsimp only at hSw_); go_simp; (try with_reducible rfl)
  try go_frame
  refine wpF_t (i := 1) (oi := opda935f34) (v := ?_) rfl (by kernel_rfl) (fun _ _ _ h => h) (Or.inl ⟨by rfl, ?_⟩) hHeld ?_; rotate_left
  · intro w_ hSw_; (try dsimp only at hSw_); go_simp; (try with_reducible rfl)
  try go_frame
  refine wpAnyF_one (i := 2) (by kernel_rfl) rfl (fun K hK => ?_)
  go_simp
  (go_at_call 23; (with_reducible refine (Of_c (a : Int) _ (by omega) (by omega)).mono ?_); rintro e w7 ⟨v, rfl, hv, hb⟩; obtain ⟨n7, A7, m7, k7, rfl, H7⟩ := hv.form; clear hv; replace V3 := V3.keep hb; replace VA := VA.keep hb; replace HB := below_step HB hb; clear hb)
  refine hK.out _ _ (by exact ⟨VA.c0, VA.c1⟩) (fun hHeld => ?_)
  clear hK K
  try go_frame
  refine wpAnyF_one (i := 3) (by kernel_rfl) rfl (fun K hK => ?_)
  go_simp
  (go_at_call 31; (with_reducible refine (Add_c z (a : Int) _ _ _ VA.iz.out H7.out (by have := HL4.out; omega) HLa.out).mono ?_); rintro e w8 ⟨v, rfl, hv, hb⟩; obtain ⟨n8, A8, m8, k8, rfl, H8⟩ := hv.form; clear hv; replace V3 := V3.keep hb; replace VA := VA.keep hb; replace HB := below_step HB hb; clear hb)
  refine hK.out _ _ (by exact ⟨VA.c0, VA.c1⟩) (fun hHeld => ?_)
  clear hK K
  try go_frame
  refine wpAnyF_one (i := 4) (by kernel_rfl) rfl (fun K hK => ?_)
  go_simp
  (go_at_call 30; (with_reducible refine (Fits_c (z + (a : Int)) _ _ H8.out (by have := HL8.out; omega)).mono ?_); rintro e w9 ⟨he, hb⟩; obtain rfl : e = .returned (.bool true) := (by rw [he, HF1.out] <;> rfl); clear he; replace V3 := V3.keep hb; replace VA := VA.keep hb; replace HB := below_step HB hb; clear hb)
  refine hK.out _ _ (by exact ⟨VA.c0, VA.c1⟩) (fun hHeld => ?_)
  clear hK K
  try go_frame
  refine wpF_t (i := 5) (oi := op1f7f3e89) (v := ?_) rfl (by kernel_rfl) (fun _ _ _ h => h) (Or.inl ⟨by rfl, ?_⟩) hHeld ?_; rotate_left
  · intro w_ hSw_; (try dsimp only at hSw_); go_simp; (try with_reducible rfl)
  try go_frame
  refine wpF_t (i := 6) (oi := opc6cabf31) (v := ?_) rfl (by kernel_rfl) (fun _ _ _ h => h) (Or.inl ⟨by rfl, ?_⟩) hHeld ?_; rotate_left
  · intro w_ hSw_; (try dsimp only at hSw_); go_simp; (try with_reducible rfl)
  try go_frame
  refine wpF_t (i := 7) (oi := op59cab412) (v := ?_) rfl (by kernel_rfl) (fun _ _ _ h => h) (Or.inl ⟨by rfl, ?_⟩) hHeld ?_; rotate_left
  · intro w_ hSw_; (try dsimp only at hSw_); go_simp; (try with_reducible rfl)
  try go_frame
  refine wpF_t (i := 8) (oi := op780186ee) (v := ?_) rfl (by kernel_rfl) (fun _ _ _ h => h) (Or.inl ⟨by rfl, ?_⟩) hHeld ?_; rotate_left
  · intro w_ hSw_; (try dsimp only at hSw_); go_simp; (try with_reducible rfl)
  try go_frame
  refine wpF_t (i := 9) (oi := op45b45a26) (v := ?_) rfl (by kernel_rfl) (fun _ _ _ h => h) (Or.inl ⟨by rfl, ?_⟩) hHeld ?_; rotate_left
  · intro w_ hSw_; (try dsimp only at hSw_); go_simp; (try with_reducible rfl)
  try go_frame
  refine wpF_t (i := 10) (oi := opb85b40b4) (v := ?_) rfl (by kernel_rfl) (fun _ _ _ h => h) (Or.inl ⟨by rfl, ?_⟩) hHeld ?_; rotate_left
  · intro w_ hSw_; (try dsimp only at hSw_); go_simp; (try with_reducible rfl)
  try go_frame
  refine wpAnyF_one (i := 11) (by kernel_rfl) rfl (fun K hK => ?_)
  go_simp
  (go_at_call 23; (with_reducible refine (Of_c (N : Int) _ (by omega) (by omega)).mono ?_); rintro e w10 ⟨v, rfl, hv, hb⟩; obtain ⟨n10, A10, m10, k10, rfl, H10⟩ := hv.form; clear hv; replace V3 := V3.keep hb; replace VA := VA.keep hb; replace HB := below_step HB hb; clear hb)
  refine hK.out _ _ (by exact ⟨VA.c0, VA.c1⟩) (fun hHeld => ?_)
  clear hK K
  try go_frame
  refine wpAnyF_one (i := 12) (by kernel_rfl) rfl (fun K hK => ?_)
  go_simp
  (go_at_call 31; (with_reducible refine (Add_c z (N : Int) _ _ _ VA.iz.out H10.out (by have := HL4.out; omega) HLn.out).mono ?_); rintro e w11 ⟨v, rfl, hv, hb⟩; obtain ⟨n11, A11, m11, k11, rfl, H11⟩ := hv.form; clear hv; replace V3 := V3.keep hb; replace VA := VA.keep hb; replace HB := below_step HB hb; clear hb)
  refine hK.out _ _ (by exact ⟨VA.c0, VA.c1⟩) (fun hHeld => ?_)
  clear hK K
  try go_frame
  refine wpAnyF_one (i := 13) (by kernel_rfl) rfl (fun K hK => ?_)
  go_simp
  (go_at_call 30; (with_reducible refine (Fits_c (z + (N : Int)) _ _ H11.out (by have := HL9.out; omega)).mono ?_); rintro e w12 ⟨he, hb⟩; obtain rfl : e = .returned (.bool true) := (by rw [he, HF2.out] <;> rfl); clear he; replace V3 := V3.keep hb; replace VA := VA.keep hb; replace HB := below_step HB hb; clear hb)
  refine hK.out _ _ (by exact ⟨VA.c0, VA.c1⟩) (fun hHeld => ?_)
  clear hK K
  try go_frame
  refine wpF_t (i := 14) (oi := op902faa70) (v := ?_) rfl (by kernel_rfl) (fun _ _ _ h => h) (Or.inl ⟨by rfl, ?_⟩) hHeld ?_; rotate_left
  · intro w_ hSw_; (try dsimp only at hSw_); go_simp; (try with_reducible rfl)
  try go_frame
  refine wpF_t (i := 15) (oi := op522560a3) (v := ?_) rfl (by kernel_rfl) (fun _ _ _ h => h) (Or.inl ⟨by rfl, ?_⟩) hHeld ?_; rotate_left
  · intro w_ hSw_; (try dsimp only at hSw_); go_simp; (try with_reducible rfl)
  try go_frame
  refine wpAnyF_done (by kernel_rfl) ?_ _
  clear hHeld hWd
  have m0 := V3.c0; have m1 := V3.c1; have m2 := V3.c2
  go_wp2_with fail
  (with_reducible refine (Srv_ok M z a most _ _ V3.im.out HOKM.out HZ.out (by omega) hmo (HT.out.below HB) HFA.out).mono ?_)
  rintro e w10b ⟨L1, q1, A1, c1, rfl, hq1, hs1, HC1, hb⟩
  replace V3 := V3.keep hb; replace VA := VA.keep hb; replace HB := below_step HB hb
  clear hb m0 m1 m2
  go_wp2_with fail
  replace V3 := V3.drew; replace VA := VA.drew; replace HB := below_drew HB
  replace HC1 := Lib.hid (HC1.out.below (below_drew (Below.refl _ _)))
  generalize hWd : w10b.drew = wd at *
  refine wp_region_F (fun w' => w'.cell? ⟨w.heap.size, 0, none⟩ = some (.int .i64 md) ∧ w'.cell? ⟨w.heap.size, 1, none⟩ = some (.slice A n c) ∧ w'.cell? ⟨w.heap.size, 2, none⟩ = some (.slice A' n' c') ∧ w'.cell? ⟨ba, 0, none⟩ = some (.bool n4) ∧ w'.cell? ⟨ba, 1, none⟩ = some (.slice A4 m4 k4)) [] (by kernel_rfl) (by rw [hWd]; exact ⟨V3.c0, V3.c1, V3.c2, VA.c0, VA.c1⟩) (fun hHeld => ?_)
  rw [hWd] at hHeld ⊢
  refine wpF_t (i := 0) (oi := ope5b603c6) (v := ?_) rfl (by kernel_rfl) (fun _ _ _ h => h) (Or.inl ⟨by rfl, ?_⟩) hHeld ?_; rotate_left
  · intro w_ hSw_; (try dsimp only at hSw_); go_simp; (try with_reducible rfl)
  try go_frame
  refine wpF_t (i := 1) (oi := opf5419050) (v := ?_) rfl (by kernel_rfl) (fun _ _ _ h => h) (Or.inl ⟨by rfl, ?_⟩) hHeld ?_; rotate_left
  · intro w_ hSw_; (try dsimp only at hSw_); go_simp; (try with_reducible rfl)
  try go_frame
  refine wpF_t (i := 2) (oi := op06a50a45) (v := ?_) rfl (by kernel_rfl) (fun _ _ _ h => h) (Or.inl ⟨by rfl, ?_⟩) hHeld ?_; rotate_left
  · intro w_ hSw_; (try dsimp only at hSw_); go_simp; (try with_reducible rfl)
  try go_frame
  refine wpF_t (i := 6) (oi := op76b8c2d8) (v := ?_) rfl (by kernel_rfl) (fun _ _ _ h => h) (Or.inl ⟨by rfl, ?_⟩) hHeld ?_; rotate_left
  · intro w_ hSw_; (try dsimp only at hSw_); go_simp; (try with_reducible rfl)
  try go_frame
  refine wpF_t (i := 7) (oi := opceb5ff3f) (v := ?_) rfl (by kernel_rfl) (fun _ _ _ h => h) (Or.inl ⟨by rfl, ?_⟩) hHeld ?_; rotate_left
  · intro w_ hSw_; (try dsimp only at hSw_); go_simp; (try with_reducible rfl)
  try go_frame
  refine wpAnyF_one (i := 3) (by kernel_rfl) rfl (fun K hK => ?_)
  go_simp
  (go_at_call 23; (with_reducible refine (Of_c (a : Int) _ (by omega) (by omega)).mono ?_); rintro e w13 ⟨v, rfl, hv, hb⟩; obtain ⟨n13, A13, m13, k13, rfl, H13⟩ := hv.form; clear hv; replace V3 := V3.keep hb; replace VA := VA.keep hb; replace HB := below_step HB hb; replace HC1 := Lib.hid (HC1.out.below hb); clear hb)
  refine hK.out _ _ (by exact ⟨V3.c0, V3.c1, V3.c2, VA.c0, VA.c1⟩) (fun hHeld => ?_)
  clear hK K
  try go_frame
  refine wpAnyF_one (i := 4) (by kernel_rfl) rfl (fun K hK => ?_)
  go_simp
  (go_at_call 31; (with_reducible refine (Add_c z (a : Int) _ _ _ VA.iz.out H13.out (by have := HL4.out; omega) HLa.out).mono ?_); rintro e w14 ⟨v, rfl, hv, hb⟩; obtain ⟨n14, A14, m14, k14, rfl, H14⟩ := hv.form; clear hv; replace V3 := V3.keep hb; replace VA := VA.keep hb; replace HB := below_step HB hb; replace HC1 := Lib.hid (HC1.out.below hb); clear hb)
  refine hK.out _ _ (by exact ⟨V3.c0, V3.c1, V3.c2, VA.c0, VA.c1⟩) (fun hHeld => ?_)
  clear hK K
  try go_frame
  refine wpAnyF_one (i := 5) (by kernel_rfl) rfl (fun K hK => ?_)
  go_simp
  (go_at_call 18; (with_reducible refine (Text_c (z + (a : Int)) _ _ H14.out (by have := HL8.out; omega)).mono ?_); rintro e w15 ⟨rfl, hb⟩; replace V3 := V3.keep hb; replace VA := VA.keep hb; replace HB := below_step HB hb; replace HC1 := Lib.hid (HC1.out.below hb); clear hb)
  refine hK.out _ _ (by exact ⟨V3.c0, V3.c1, V3.c2, VA.c0, VA.c1⟩) (fun hHeld => ?_)
  clear hK K
  try go_frame
  refine wpAnyF_one (i := 8) (by kernel_rfl) rfl (fun K hK => ?_)
  go_simp
  (go_at_call 32; (with_reducible refine (Srv_ok M (z + (a : Int)) b most _ _ V3.im.out HOKM.out HZa.out (by omega) hmo (HT.out.below HB) HFB.out).mono ?_); rintro e w16 ⟨L2, q2, A2, c2, rfl, hq2, hs2, HC2, hb⟩; replace V3 := V3.keep hb; replace VA := VA.keep hb; replace HB := below_step HB hb; replace HC1 := Lib.hid (HC1.out.below hb); clear hb)
  refine hK.out _ _ (by exact ⟨V3.c0, V3.c1, V3.c2, VA.c0, VA.c1⟩) (fun hHeld => ?_)
  clear hK K
  try go_frame
  refine wpF_t (i := 9) (oi := op40eae79f) (v := ?_) rfl (by kernel_rfl) (fun _ _ _ h => h) (Or.inl ⟨by rfl, ?_⟩) hHeld ?_; rotate_left
  · intro w_ hSw_; (try dsimp only at hSw_); go_simp; (try with_reducible rfl)
  try go_frame
  refine wpF_t (i := 10) (oi := op7757caee) (v := ?_) rfl (by kernel_rfl) (fun _ _ _ h => h) (Or.inl ⟨by rfl, ?_⟩) hHeld ?_; rotate_left
  · intro w_ hSw_; (try dsimp only at hSw_); go_simp; (try with_reducible rfl)
  try go_frame
  refine wpF_t (i := 11) (oi := op2c33c549) (v := ?_) rfl (by kernel_rfl) (fun _ _ _ h => h) (Or.inl ⟨by rfl, ?_⟩) hHeld ?_; rotate_left
  · intro w_ hSw_; (try dsimp only at hSw_); go_simp; (try with_reducible rfl)
  try go_frame
  refine wpF_t (i := 12) (oi := op7a038200) (v := ?_) rfl (by kernel_rfl) (fun _ _ _ h => h) (Or.inl ⟨by rfl, ?_⟩) hHeld ?_; rotate_left
  · intro w_ hSw_; (try dsimp only at hSw_); go_simp; (try with_reducible rfl)
  try go_frame
  refine wpF_t (i := 13) (oi := opc14cf3da) (v := ?_) rfl (by kernel_rfl) (fun _ _ _ h => h) (Or.inl ⟨by rfl, ?_⟩) hHeld ?_; rotate_left
  · intro w_ hSw_; (try dsimp only at hSw_); go_simp; (try with_reducible rfl)
  try go_frame
  refine wpAnyF_done (by kernel_rfl) ?_ _
  clear hHeld hWd
  have m0 := V3.c0; have m1 := V3.c1; have m2 := V3.c2
  go_wp2_with fail
  (with_reducible refine (Srv_ok M z N most _ _ V3.im.out HOKM.out HZ.out (by omega) hmo (HT.out.below HB) HFN.out).mono ?_)
  rintro e w17 ⟨L3, q3, A3, c3, rfl, hq3, hs3, HC3, hb⟩
  replace HC1 := Lib.hid (HC1.out.below hb); replace HC2 := Lib.hid (HC2.out.below hb); replace HB := below_step HB hb
  clear hb m0 m1 m2 V3 VA
  have hcs : lsts M most z N = lsts M most z a ++ lsts M most (z + (a : Int)) b := by rw [← HN0.out]; exact lsts_add M most z a b
  rw [hcs] at hq3 hs3
  rw [List.length_append] at hq3
  obtain rfl : q3 = q1 + q2 := by have := HN0.out; omega
  have HPART : Hid (∀ i, i < (cnL L3 (q1 + q2)).length → (gc (cnL L3 (q1 + q2)) i).2 = ofL (cnL L1 q1) (gc (cnL L3 (q1 + q2)) i).1 + ofL (cnL L2 q2) (gc (cnL L3 (q1 + q2)) i).1 ∧ 1 ≤ (gc (cnL L3 (q1 + q2)) i).2) := fun i hi => parts_at hs1 hs2 hs3 q1 q2 hi
  have HSUM : Hid (sumC (cnL L3 (q1 + q2)) (cnL L3 (q1 + q2)).length = N) := by show _ = _; rw [sumC_all hs3, List.length_append]; omega
  generalize cnL L1 q1 = l1 at *
  generalize cnL L2 q2 = l2 at *
  generalize cnL L3 (q1 + q2) = l3 at *
  have hcl := HC3.out.2
  clear hcs hq1 hq2 hq3 hs1 hs2 hs3
  have HBW := HB
  clear HB
  go_wp2_with fail
  go_loopg [18, 19] l3.length (fun g sv iv wr => ∃ i : Nat, g = l3.length - i ∧ sv = .int .i64 (sumC l3 i : Nat) ∧ iv = .int .i64 i ∧ i ≤ l3.length ∧ Below w17.heap.size w17 wr)
  case atStart => exact ⟨0, rfl, rfl, rfl, Nat.zero_le _, Below.refl _ _⟩
  case round =>
    obtain ⟨i, hgk, rfl, rfl, hi, HB⟩ := hrel
    have hi0 : (0 : Int) ≤ (i : Int) := by omega
    by_cases hil : i < l3.length
    · have hi1 : (i : Int) < (l3.length : Int) := by omega
      obtain ⟨b9, o9, rfl, g0, g1⟩ := (HC3.out.below HB).el (j := i) hil
      obtain ⟨hpa, hp1'⟩ := HPART.out i hil
      have hS1 := sumC_succ hil
      have hS2 := sumC_le l3 (i + 1) hil
      rw [HSUM.out] at hS2
      obtain ⟨x, hx⟩ : ∃ x, (gc l3 i).1 = x := ⟨_, rfl⟩
      obtain ⟨m, hm⟩ : ∃ m, (gc l3 i).2 = m := ⟨_, rfl⟩
      rw [hx, hm] at hpa
      rw [hm] at hp1' hS1
      rw [hx] at g0
      rw [hm] at g1
      have hw17 : IntKind.i64.wrap ((sumC l3 i : Int) + (m : Int)) = (sumC l3 (i + 1) : Int) := by rw [IntKind.wrap_i64]; omega
      have hw18 : IntKind.i64.wrap ((ofL l1 x : Int) + (ofL l2 x : Int)) = (m : Int) := by rw [IntKind.wrap_i64]; omega
      have hd1 : decide ((m : Int) < 1) = false := decide_eq_false (by omega)
      have hd2 : decide (m < 1) = false := decide_eq_false (by omega)
      have hd3 : decide (m = 0) = false := decide_eq_false (by omega)
      have p0 := g0.c; have p1 := g1.c
      clear hpa hp1' hS1 hS2 hx hm
      go_wp2_with fail
      clear p0 p1
      replace g0 := g0.drew; replace g1 := g1.drew; replace HB := below_drew HB
      generalize hWd : wr.drew = wd at *
      refine wp_region_F (fun w' => w'.cell? ⟨b9, o9 + i * 2, none⟩ = some (.string x) ∧ w'.cell? ⟨b9, o9 + i * 2 + 1, none⟩ = some (.int .i64 (m : Int))) [] (by kernel_rfl) (by rw [hWd]; exact ⟨g0.c, g1.c⟩) (fun hHeld => ?_)
      rw [hWd] at hHeld ⊢
      refine wpF_t (i := 0) (oi := op53260b07) (v := ?_) rfl (by kernel_rfl) (fun _ _ _ h => h) (Or.inl ⟨by rfl, ?_⟩) hHeld ?_; rotate_left
      · intro w_ hSw_; (try dsimp only at hSw_); go_simp; (try with_reducible rfl)
      try go_frame
      refine wpF_t (i := 1) (oi := op33944e84) (v := ?_) rfl (by kernel_rfl) (fun _ _ _ h => h) (Or.inl ⟨by rfl, ?_⟩) hHeld ?_; rotate_left
      · intro w_ hSw_; (try dsimp only at hSw_); go_simp; (try with_reducible rfl)
      try go_frame
      refine wpF_t (i := 2) (oi := opea774595) (v := ?_) rfl (by kernel_rfl) (fun _ _ _ h => h) (Or.inl ⟨by rfl, ?_⟩) hHeld ?_; rotate_left
      · intro w_ hSw_; (try dsimp only at hSw_); go_simp; (try with_reducible rfl)
      try go_frame
      refine wpF_t (i := 3) (oi := op4b42854e) (v := ?_) rfl (by kernel_rfl) (fun _ _ _ h => h) (Or.inl ⟨by rfl, ?_⟩) hHeld ?_; rotate_left
      · intro w_ hSw_; (try dsimp only at hSw_); go_simp; (try with_reducible rfl)
      try go_frame
      refine wpF_t (i := 4) (oi := op3ab64d3d) (v := ?_) rfl (by kernel_rfl) (fun _ _ _ h => h) (Or.inl ⟨by rfl, ?_⟩) hHeld ?_; rotate_left
      · intro w_ hSw_; (try dsimp only at hSw_); go_simp; (try with_reducible rfl)
      try go_frame
      refine wpF_t (i := 5) (oi := op8880c0ef) (v := ?_) rfl (by kernel_rfl) (fun _ _ _ h => h) (Or.inl ⟨by rfl, ?_⟩) hHeld ?_; rotate_left
      · intro w_ hSw_; (try dsimp only at hSw_); go_simp; (try with_reducible rfl)
      try go_frame
      refine wpF_t (i := 6) (oi := op4ace6c28) (v := ?_) rfl (by kernel_rfl) (fun _ _ _ h => h) (Or.inl ⟨by rfl, ?_⟩) hHeld ?_; rotate_left
      · intro w_ hSw_; (try dsimp only at hSw_); go_simp; (try with_reducible rfl)
      try go_frame
      refine wpF_t (i := 7) (oi := opc61f2439) (v := ?_) rfl (by kernel_rfl) (fun _ _ _ h => h) (Or.inl ⟨by rfl, ?_⟩) hHeld ?_; rotate_left
      · intro w_ hSw_; (try dsimp only at hSw_); go_simp; (try with_reducible rfl)
      try go_frame
      refine wpF_t (i := 8) (oi := opb276cef4) (v := ?_) rfl (by kernel_rfl) (fun _ _ _ h => h) (Or.inl ⟨by rfl, ?_⟩) hHeld ?_; rotate_left
      · intro w_ hSw_; (try dsimp only at hSw_); go_simp; (try with_reducible rfl)
      try go_frame
      refine wpF_t (i := 9) (oi := opd3c698e7) (v := ?_) rfl (by kernel_rfl) (fun _ _ _ h => h) (Or.inl ⟨by rfl, ?_⟩) hHeld ?_; rotate_left
      · intro w_ hSw_; (try dsimp only at hSw_); go_simp; (try with_reducible rfl)
      try go_frame
      refine wpF_t (i := 10) (oi := op0fa1bab7) (v := ?_) rfl (by kernel_rfl) (fun _ _ _ h => h) (Or.inl ⟨by rfl, ?_⟩) hHeld ?_; rotate_left
      · intro w_ hSw_; (try dsimp only at hSw_); go_simp; (try with_reducible rfl)
      try go_frame
      refine wpF_t (i := 12) (oi := op4b68613c) (v := ?_) rfl (by kernel_rfl) (fun _ _ _ h => h) (Or.inl ⟨by rfl, ?_⟩) hHeld ?_; rotate_left
      · intro w_ hSw_; (try dsimp only at hSw_); go_simp; (try with_reducible rfl)
      try go_frame
      refine wpF_t (i := 13) (oi := op00693b94) (v := ?_) rfl (by kernel_rfl) (fun _ _ _ h => h) (Or.inl ⟨by rfl, ?_⟩) hHeld ?_; rotate_left
      · intro w_ hSw_; (try dsimp only at hSw_); go_simp; (try with_reducible rfl)
      try go_frame
      refine wpF_t (i := 14) (oi := opa5353560) (v := ?_) rfl (by kernel_rfl) (fun _ _ _ h => h) (Or.inl ⟨by rfl, ?_⟩) hHeld ?_; rotate_left
      · intro w_ hSw_; (try dsimp only at hSw_); go_simp; (try with_reducible rfl)
      try go_frame
      refine wpF_t (i := 15) (oi := opeb033b5a) (v := ?_) rfl (by kernel_rfl) (fun _ _ _ h => h) (Or.inl ⟨by rfl, ?_⟩) hHeld ?_; rotate_left
      · intro w_ hSw_; (try dsimp only at hSw_); go_simp; (try with_reducible rfl)
      try go_frame
      refine wpF_t (i := 16) (oi := op65825fb4) (v := ?_) rfl (by kernel_rfl) (fun _ _ _ h => h) (Or.inl ⟨by rfl, ?_⟩) hHeld ?_; rotate_left
      · intro w_ hSw_; (try dsimp only at hSw_); go_simp; (try with_reducible rfl)
      try go_frame
      refine wpF_t (i := 17) (oi := op53a1d5c0) (v := ?_) rfl (by kernel_rfl) (fun _ _ _ h => h) (Or.inl ⟨by rfl, ?_⟩) hHeld ?_; rotate_left
      · intro w_ hSw_; (try dsimp only at hSw_); go_simp; (try with_reducible rfl)
      try go_frame
      refine wpAnyF_one (i := 11) (by kernel_rfl) rfl (fun K hK => ?_)
      go_simp
      (go_at_call 33; (with_reducible refine (of_c A1 c1 l1 x _ (HC1.out.below HB)).mono ?_); rintro e w20 ⟨rfl, hb⟩; replace g0 := g0.keep hb; replace g1 := g1.keep hb; replace HB := below_step HB hb; clear hb)
      refine hK.out _ _ (by exact ⟨g0.c, g1.c⟩) (fun hHeld => ?_)
      clear hK K
      try go_frame
      refine wpAnyF_one (i := 18) (by kernel_rfl) rfl (fun K hK => ?_)
      go_simp
      (go_at_call 33; (with_reducible refine (of_c A2 c2 l2 x _ (HC2.out.below HB)).mono ?_); rintro e w21 ⟨rfl, hb⟩; replace g0 := g0.keep hb; replace g1 := g1.keep hb; replace HB := below_step HB hb; clear hb)
      refine hK.out _ _ (by exact ⟨g0.c, g1.c⟩) (fun hHeld => ?_)
      clear hK K
      try go_frame
      refine wpF_t (i := 19) (oi := op3a12648f) (v := ?_) rfl (by kernel_rfl) (fun _ _ _ h => h) (Or.inl ⟨by rfl, ?_⟩) hHeld ?_; rotate_left
      · intro w_ hSw_; (try dsimp only at hSw_); go_simp; (try with_reducible rfl)
      try go_frame
      refine wpF_t (i := 20) (oi := op1a45f953) (v := ?_) rfl (by kernel_rfl) (fun _ _ _ h => h) (Or.inl ⟨by rfl, ?_⟩) hHeld ?_; rotate_left
      · intro w_ hSw_; (try dsimp only at hSw_); go_simp; (try with_reducible rfl)
      try go_frame
      refine wpF_t (i := 21) (oi := op4268aef8) (v := ?_) rfl (by kernel_rfl) (fun _ _ _ h => h) (Or.inl ⟨by rfl, ?_⟩) hHeld ?_; rotate_left
      · intro w_ hSw_; (try dsimp only at hSw_); go_simp; (try with_reducible rfl)
      try go_frame
      refine wpF_t (i := 22) (oi := opcede512d) (v := ?_) rfl (by kernel_rfl) (fun _ _ _ h => h) (Or.inl ⟨by rfl, ?_⟩) hHeld ?_; rotate_left
      · intro w_ hSw_; (try dsimp only at hSw_); go_simp; (try with_reducible rfl)
      try go_frame
      refine wpF_t (i := 23) (oi := opba2a491f) (v := ?_) rfl (by kernel_rfl) (fun _ _ _ h => h) (Or.inl ⟨by rfl, ?_⟩) hHeld ?_; rotate_left
      · intro w_ hSw_; (try dsimp only at hSw_); go_simp; (try with_reducible rfl)
      try go_frame
      refine wpF_t (i := 24) (oi := opb757a7d3) (v := ?_) rfl (by kernel_rfl) (fun _ _ _ h => h) (Or.inl ⟨by rfl, ?_⟩) hHeld ?_; rotate_left
      · intro w_ hSw_; (try dsimp only at hSw_); go_simp; (try with_reducible rfl)
      try go_frame
      refine wpF_t (i := 25) (oi := op5a29c9ce) (v := ?_) rfl (by kernel_rfl) (fun _ _ _ h => h) (Or.inl ⟨by rfl, ?_⟩) hHeld ?_; rotate_left
      · intro w_ hSw_; (try dsimp only at hSw_); go_simp; (try with_reducible rfl)
      try go_frame
      refine wpF_t (i := 26) (oi := op50318d02) (v := ?_) rfl (by kernel_rfl) (fun _ _ _ h => h) (Or.inl ⟨by rfl, ?_⟩) hHeld ?_; rotate_left
      · intro w_ hSw_; (try dsimp only at hSw_); go_simp; (try with_reducible rfl)
      try go_frame
      refine wpF_t (i := 27) (oi := ope088f6c0) (v := ?_) rfl (by kernel_rfl) (fun _ _ _ h => h) (Or.inl ⟨by rfl, ?_⟩) hHeld ?_; rotate_left
      · intro w_ hSw_; (try dsimp only at hSw_); go_simp; (try with_reducible rfl)
      try go_frame
      refine wpF_t (i := 28) (oi := op3d994046) (v := ?_) rfl (by kernel_rfl) (fun _ _ _ h => h) (Or.inl ⟨by rfl, ?_⟩) hHeld ?_; rotate_left
      · intro w_ hSw_; (try dsimp only at hSw_); go_simp; (try with_reducible rfl)
      try go_frame
      refine wpAnyF_done (by kernel_rfl) ?_ _
      clear hHeld hWd
      go_wp2
      go_roundg (l3.length - (i + 1))
      case measure => omega
      case rel => exact ⟨i + 1, rfl, rfl, by go_num, by omega, HB⟩
    · obtain rfl : i = l3.length := by omega
      have hi1 : ¬ (l3.length : Int) < (l3.length : Int) := by omega
      rw [HSUM.out]
      have HB := HBW.trans (HB.mono HBW.size)
      clear HBW
      go_wp2_with fail
      (with_reducible refine (awake5_c _ (HT.out.below HB)).mono ?_)
      rintro e w20 ⟨he, hb⟩
      replace HB := below_step HB hb
      clear hb
      subst he
      go_wp2
      go_ret
      exact ⟨rfl, HB⟩
theorem FP_law (M : Mp) (s : ByteArray) (a b most : Int) (v : Value) (w : World) (hM : IsM w v M) (ht : Tb w) (hs : s.size ≤ 9223372036854775807) : Calls Tryd.prog 8 #[v, .string s, .int .i64 a, .int .i64 b, .int .i64 most] w fun e w' => e = .returned (.bool true) ∧ Below w.heap.size w w' := by
  by_cases hok : okB M = true
  · rcases vld_cases s with hv | ⟨z, rfl, hz⟩
    · exact FP_bad M s a b most v w hM ht hs (.inr hv)
    · by_cases hb : a < 0 ∨ b < 0 ∨ 20000 < a ∨ 20000 - a < b ∨ most < 0 ∨ 20000 < most
      · exact FP_arg M z a b most v w hM ht (okB_iff.1 hok) hz hb
      · obtain ⟨a, rfl⟩ := Int.eq_ofNat_of_zero_le (show 0 ≤ a by omega)
        obtain ⟨b, rfl⟩ := Int.eq_ofNat_of_zero_le (show 0 ≤ b by omega)
        obtain ⟨most, rfl⟩ := Int.eq_ofNat_of_zero_le (show 0 ≤ most by omega)
        have hN : a + b ≤ 20000 := by omega
        have hmo : most ≤ 20000 := by omega
        by_cases hl : (a + b) * (most + 1) ≤ 100000
        · by_cases h1 : dl (z + (a : Int)) ≤ 2000
          · by_cases h2 : dl (z + ((a + b : Nat) : Int)) ≤ 2000
            · exact FP_okT M z a b most _ _ v w hM ht (okB_iff.1 hok) hz rfl hN hmo rfl hl (decide_eq_true h1) (decide_eq_true h2)
            · exact FP_size2T M z a b most _ _ v w hM ht (okB_iff.1 hok) hz rfl hN hmo rfl hl (decide_eq_true h1) (decide_eq_false h2)
          · exact FP_size1T M z a b most _ _ v w hM ht (okB_iff.1 hok) hz rfl hN hmo rfl hl (decide_eq_false h1)
        · by_cases hg : 30 < (tS z).size ∨ 2000000 < (a + b) * (most + 1)
          · exact FP_big M z a b most _ _ v w hM ht (okB_iff.1 hok) hz rfl hN hmo rfl hl hg
          · by_cases h1 : dl (z + (a : Int)) ≤ 2000
            · by_cases h2 : dl (z + ((a + b : Nat) : Int)) ≤ 2000
              · exact FP_okF M z a b most _ _ v w hM ht (okB_iff.1 hok) hz rfl hN hmo rfl hl (fun h => hg (.inl h)) (fun h => hg (.inr h)) (decide_eq_true h1) (decide_eq_true h2)
              · exact FP_size2F M z a b most _ _ v w hM ht (okB_iff.1 hok) hz rfl hN hmo rfl hl (fun h => hg (.inl h)) (fun h => hg (.inr h)) (decide_eq_true h1) (decide_eq_false h2)
            · exact FP_size1F M z a b most _ _ v w hM ht (okB_iff.1 hok) hz rfl hN hmo rfl hl (fun h => hg (.inl h)) (fun h => hg (.inr h)) (decide_eq_false h1)
  · exact FP_bad M s a b most v w hM ht hs (.inl (by revert hok; cases okB M <;> simp))
end Go.Proofs.YtiaeeclmlchpoaaDoor
