/- The law FateCycles. No condition but that the library's table lies as it should. -/
import Derived.Test.YtiaeeclmlchpoaaDoorZA
import Derived.Test.YtiaeeclmlchpoaaDoorZG
import Derived.Maps.RangeWalk
set_option linter.unusedVariables false
set_option linter.unusedSimpArgs false
namespace Go.Proofs.YtiaeeclmlchpoaaDoor
open Go.RowKit

abbrev opda4e930b : Oper := { dst := some 116, op := Go.Op.move (Go.Operand.tmp 8), type := 26, pos := "law.go:164", after := #[], guard := none }
abbrev op93402ce3 : Oper := { dst := some 117, op := Go.Op.move (Go.Operand.tmp 15), type := 3, pos := "law.go:164", after := #[], guard := none }
abbrev op8d5abcda : Oper := { dst := some 118, op := Go.Op.indexAddr 26 (Go.Operand.tmp 116) (Go.Operand.tmp 117), type := 0, pos := "law.go:164", after := #[{ on := 0, ground := Go.Ground.data }, { on := 1, ground := Go.Ground.data }], guard := none }
abbrev opfdb98bc2 : Oper := { dst := some 119, op := Go.Op.load 9 (Go.Operand.tmp 118), type := 9, pos := "law.go:164", after := #[{ on := 2, ground := Go.Ground.data }], guard := none }
abbrev op4c43557d : Oper := { dst := some 121, op := Go.Op.unOp Go.UnOp.not 4 (Go.Operand.tmp 120), type := 4, pos := "law.go:164", after := #[{ on := 4, ground := Go.Ground.data }], guard := none }
abbrev op8b3674a6 : Oper := { dst := some 122, op := Go.Op.move (Go.Operand.tmp 121), type := 4, pos := "law.go:164", after := #[{ on := 5, ground := Go.Ground.data }, { on := 4, ground := Go.Ground.chain }], guard := none }
abbrev op3496a5e7 : Oper := { dst := some 123, op := Go.Op.move (Go.Operand.tmp 15), type := 3, pos := "law.go:164", after := #[{ on := 6, ground := Go.Ground.guard }], guard := some (6, false) }
abbrev op3b3db892 : Oper := { dst := some 124, op := Go.Op.binOp Go.BinOp.gtr 3 (Go.Operand.tmp 123) (Go.Operand.const (Go.Value.int Go.IntKind.i64 0)) 3, type := 4, pos := "law.go:164", after := #[{ on := 7, ground := Go.Ground.data }, { on := 6, ground := Go.Ground.guard }], guard := some (6, false) }
abbrev op00951318 : Oper := { dst := some 125, op := Go.Op.move (Go.Operand.tmp 124), type := 4, pos := "law.go:164", after := #[{ on := 8, ground := Go.Ground.data }, { on := 6, ground := Go.Ground.chain }, { on := 6, ground := Go.Ground.guard }], guard := some (6, false) }
abbrev op9665891d : Oper := { dst := some 126, op := Go.Op.move (Go.Operand.tmp 8), type := 26, pos := "law.go:164", after := #[{ on := 9, ground := Go.Ground.guard }], guard := some (9, true) }
abbrev op608821ea : Oper := { dst := some 127, op := Go.Op.indexAddr 26 (Go.Operand.tmp 126) (Go.Operand.const (Go.Value.int Go.IntKind.i64 0)), type := 0, pos := "law.go:164", after := #[{ on := 10, ground := Go.Ground.data }, { on := 9, ground := Go.Ground.guard }], guard := some (9, true) }
abbrev opa30b580e : Oper := { dst := some 128, op := Go.Op.load 9 (Go.Operand.tmp 127), type := 9, pos := "law.go:164", after := #[{ on := 11, ground := Go.Ground.data }, { on := 9, ground := Go.Ground.guard }], guard := some (9, true) }
abbrev op38ef180e : Oper := { dst := some 130, op := Go.Op.move (Go.Operand.tmp 8), type := 26, pos := "law.go:164", after := #[{ on := 9, ground := Go.Ground.guard }], guard := some (9, true) }
abbrev op70777863 : Oper := { dst := some 131, op := Go.Op.move (Go.Operand.tmp 15), type := 3, pos := "law.go:164", after := #[{ on := 9, ground := Go.Ground.guard }], guard := some (9, true) }
abbrev op40128f66 : Oper := { dst := some 132, op := Go.Op.indexAddr 26 (Go.Operand.tmp 130) (Go.Operand.tmp 131), type := 0, pos := "law.go:164", after := #[{ on := 14, ground := Go.Ground.data }, { on := 15, ground := Go.Ground.data }, { on := 9, ground := Go.Ground.guard }], guard := some (9, true) }
abbrev opd03b048a : Oper := { dst := some 133, op := Go.Op.load 9 (Go.Operand.tmp 132), type := 9, pos := "law.go:164", after := #[{ on := 16, ground := Go.Ground.data }, { on := 9, ground := Go.Ground.guard }], guard := some (9, true) }
abbrev op6bed30c4 : Oper := { dst := some 136, op := Go.Op.binOp Go.BinOp.geq 3 (Go.Operand.tmp 135) (Go.Operand.const (Go.Value.int Go.IntKind.i64 0)) 3, type := 4, pos := "law.go:164", after := #[{ on := 19, ground := Go.Ground.data }, { on := 9, ground := Go.Ground.guard }], guard := some (9, true) }
abbrev op8a6a72a9 : Oper := { dst := some 137, op := Go.Op.pick (Go.Operand.tmp 125) (Go.Operand.tmp 136) (Go.Operand.const (Go.Value.bool false)), type := 4, pos := "law.go:164", after := #[{ on := 9, ground := Go.Ground.data }, { on := 20, ground := Go.Ground.data }, { on := 6, ground := Go.Ground.guard }], guard := some (6, false) }
abbrev op3e55d0b8 : Oper := { dst := some 138, op := Go.Op.pick (Go.Operand.tmp 122) (Go.Operand.const (Go.Value.bool true)) (Go.Operand.tmp 137), type := 4, pos := "law.go:164", after := #[{ on := 6, ground := Go.Ground.data }, { on := 21, ground := Go.Ground.data }], guard := none }
abbrev op5177b618 : Oper := { dst := some 140, op := Go.Op.load 24 (Go.Operand.tmp 3), type := 24, pos := "law.go:167", after := #[], guard := none }
abbrev op83908b2c : Oper := { dst := some 141, op := Go.Op.move (Go.Operand.tmp 8), type := 26, pos := "law.go:167", after := #[], guard := none }
abbrev opa176380f : Oper := { dst := some 142, op := Go.Op.move (Go.Operand.tmp 15), type := 3, pos := "law.go:167", after := #[], guard := none }
abbrev opbb2bac5c : Oper := { dst := some 143, op := Go.Op.indexAddr 26 (Go.Operand.tmp 141) (Go.Operand.tmp 142), type := 0, pos := "law.go:167", after := #[{ on := 1, ground := Go.Ground.data }, { on := 2, ground := Go.Ground.data }], guard := none }
abbrev opd1f33b20 : Oper := { dst := some 144, op := Go.Op.load 9 (Go.Operand.tmp 143), type := 9, pos := "law.go:167", after := #[{ on := 3, ground := Go.Ground.data }], guard := none }
abbrev opeb3f9e84 : Oper := { dst := some 139, op := Go.Op.move (Go.Operand.tmp 145), type := 54, pos := "law.go:167", after := #[{ on := 5, ground := Go.Ground.data }], guard := none }
abbrev opf9bf9165 : Oper := { dst := some 146, op := Go.Op.extract (Go.Operand.tmp 139) 0, type := 9, pos := "law.go:167", after := #[{ on := 6, ground := Go.Ground.data }], guard := none }
abbrev op5c6118d9 : Oper := { dst := some 147, op := Go.Op.extract (Go.Operand.tmp 139) 1, type := 27, pos := "law.go:167", after := #[{ on := 6, ground := Go.Ground.data }, { on := 9, ground := Go.Ground.gcOnly Go.Departure.lateStores }], guard := none }
abbrev op6ddcf0e8 : Oper := { dst := some 16, op := Go.Op.assign (Go.Operand.tmp 146), type := 9, pos := "law.go:167", after := #[{ on := 7, ground := Go.Ground.data }, { on := 5, ground := Go.Ground.chain }, { on := 0, ground := Go.Ground.phase }, { on := 1, ground := Go.Ground.phase }, { on := 2, ground := Go.Ground.phase }, { on := 3, ground := Go.Ground.phase }, { on := 4, ground := Go.Ground.phase }, { on := 5, ground := Go.Ground.phase }, { on := 6, ground := Go.Ground.phase }, { on := 7, ground := Go.Ground.phase }, { on := 8, ground := Go.Ground.textOnly Go.Departure.lateStores }], guard := none }
abbrev op3c35d597 : Oper := { dst := some 17, op := Go.Op.assign (Go.Operand.tmp 147), type := 27, pos := "law.go:167", after := #[{ on := 8, ground := Go.Ground.data }, { on := 9, ground := Go.Ground.chain }, { on := 0, ground := Go.Ground.phase }, { on := 1, ground := Go.Ground.phase }, { on := 2, ground := Go.Ground.phase }, { on := 3, ground := Go.Ground.phase }, { on := 4, ground := Go.Ground.phase }, { on := 5, ground := Go.Ground.phase }, { on := 6, ground := Go.Ground.phase }, { on := 7, ground := Go.Ground.phase }, { on := 8, ground := Go.Ground.phase }, { on := 9, ground := Go.Ground.phase }], guard := none }
abbrev opce62d01a : Oper := { dst := some 167, op := Go.Op.move (Go.Operand.tmp 8), type := 26, pos := "law.go:172", after := #[], guard := none }
abbrev op1644383e : Oper := { dst := some 168, op := Go.Op.move (Go.Operand.tmp 18), type := 3, pos := "law.go:172", after := #[], guard := none }
abbrev op2b97255b : Oper := { dst := some 169, op := Go.Op.indexAddr 26 (Go.Operand.tmp 167) (Go.Operand.tmp 168), type := 0, pos := "law.go:172", after := #[{ on := 0, ground := Go.Ground.data }, { on := 1, ground := Go.Ground.data }], guard := none }
abbrev opff0a7581 : Oper := { dst := some 170, op := Go.Op.load 9 (Go.Operand.tmp 169), type := 9, pos := "law.go:172", after := #[{ on := 2, ground := Go.Ground.data }], guard := none }
abbrev op98e3bab6 : Oper := { dst := some 171, op := Go.Op.move (Go.Operand.tmp 8), type := 26, pos := "law.go:172", after := #[], guard := none }
abbrev op453b6ed2 : Oper := { dst := some 172, op := Go.Op.move (Go.Operand.tmp 15), type := 3, pos := "law.go:172", after := #[], guard := none }
abbrev opddc70a92 : Oper := { dst := some 173, op := Go.Op.indexAddr 26 (Go.Operand.tmp 171) (Go.Operand.tmp 172), type := 0, pos := "law.go:172", after := #[{ on := 4, ground := Go.Ground.data }, { on := 5, ground := Go.Ground.data }], guard := none }
abbrev opac70e061 : Oper := { dst := some 174, op := Go.Op.load 9 (Go.Operand.tmp 173), type := 9, pos := "law.go:172", after := #[{ on := 6, ground := Go.Ground.data }], guard := none }
abbrev ope38b9bd4 : Oper := { dst := some 175, op := Go.Op.binOp Go.BinOp.eql 9 (Go.Operand.tmp 170) (Go.Operand.tmp 174) 9, type := 4, pos := "law.go:172", after := #[{ on := 3, ground := Go.Ground.data }, { on := 7, ground := Go.Ground.data }], guard := none }
attribute [local go_sem] opda4e930b op93402ce3 op8d5abcda opfdb98bc2 op4c43557d op8b3674a6 op3496a5e7 op3b3db892 op00951318 op9665891d op608821ea opa30b580e op38ef180e op70777863 op40128f66 opd03b048a op6bed30c4 op8a6a72a9 op3e55d0b8 op5177b618 op83908b2c opa176380f opbb2bac5c opd1f33b20 opeb3f9e84 opf9bf9165 op5c6118d9 op6ddcf0e8 op3c35d597 opce62d01a op1644383e op2b97255b opff0a7581 op98e3bab6 op453b6ed2 opddc70a92 opac70e061 ope38b9bd4
theorem LsS.take {w : World} {A : Option Addr} {c : Nat} {l : List ByteArray} (h : LsS w A c l) {n : Nat} (hn : n ≤ l.length) : LsS w A c (l.take n) := by
  have hl : (l.take n).length = n := by rw [List.length_take, Nat.min_eq_left hn]
  refine ⟨?_, by have := h.2.1; omega, h.2.2⟩
  have h1 := h.1.take hn
  rw [Nat.mul_one] at h1
  rw [hl]
  unfold strs at h1 ⊢
  rw [List.map_take]
  exact h1
theorem LsS.drop {w : World} {b off c : Nat} {l : List ByteArray} (h : LsS w (some ⟨b, off, none⟩) c l) {n : Nat} (hn : n < l.length) : LsS w (some ⟨b, off + n, none⟩) (c - n) (l.drop n) := by
  have h2 := h.2
  have h1 := h.1.drop (k := n) (c := c) (by omega) h2.1
  rw [if_neg (by omega), Nat.mul_one] at h1
  simp only [Option.map_some, plain_add] at h1
  refine ⟨?_, by rw [List.length_drop]; omega, by omega⟩
  rw [List.length_drop]
  unfold strs at h1 ⊢
  rw [List.map_drop]
  exact h1
theorem gs_map (l : List Int) {i : Nat} (h : i < l.length) : gs (l.map tS) i = tS (gd l i) := by
  rw [gs_lt (by rw [List.length_map]; exact h), gd_lt h]; simp
theorem among_n {n n' : Nat} (A A' : Option Addr) (c c' : Nat) (a b : List ByteArray) (w : World) (h : LsS w A c a) (h' : LsS w A' c' b) (hn : n = a.length) (hn' : n' = b.length) {r : Bool} (hr : amongB a b = r) :
    Calls Tryd.prog 29 #[.slice A n c, .slice A' n' c'] w fun e w' => e = .returned (.bool r) ∧ Below w.heap.size w w' := by
  subst hn hn' hr
  exact among_c A A' c c' a b w h h'
theorem os_take (M : Mp) (z : Int) {most t : Nat} (h : t ≤ most) : (((List.range (most + 1)).map (itZ M z)).map tS).take t = ((List.range t).map (itZ M z)).map tS := by
  rw [← List.map_take, ← List.map_take, List.take_range, Nat.min_eq_left (by omega)]
theorem os_at (M : Mp) (z : Int) {most t : Nat} (h : t ≤ most) : ((((List.range (most + 1)).map (itZ M z)).map tS).drop t).take 1 = [tS (itZ M z t)] := by
  rw [List.drop_eq_getElem_cons (by simp; omega), List.take_succ_cons, List.take_zero]; simp
/-- What stays as it was while the rounds of a cycle go. -/
structure CyS (w wr : World) (md : Int) (A : Option Addr) (n c : Nat) (A' : Option Addr) (n' c' : Nat) (M : Mp) (A6 : Option Addr) (c6 : Nat) (xs : List ByteArray) (A7 : Option Addr) (c7 : Nat) (os : List ByteArray) : Prop where
  hb : Below w.heap.size w wr
  vm : VM wr w.heap.size md A n c A' n' c' M
  h6 : LsS wr A6 c6 xs
  h7 : LsS wr A7 c7 os
section
variable {w wr wr' : World} {md : Int} {A : Option Addr} {n c : Nat} {A' : Option Addr} {n' c' : Nat} {M : Mp} {A6 : Option Addr} {c6 : Nat} {xs : List ByteArray} {A7 : Option Addr} {c7 : Nat} {os : List ByteArray}
theorem CyS.keep (h : CyS w wr md A n c A' n' c' M A6 c6 xs A7 c7 os) (hb : Below wr.heap.size wr wr') : CyS w wr' md A n c A' n' c' M A6 c6 xs A7 c7 os :=
  ⟨below_step h.hb hb, h.vm.keep hb, h.h6.below hb, h.h7.below hb⟩
theorem CyS.drew (h : CyS w wr md A n c A' n' c' M A6 c6 xs A7 c7 os) : CyS w wr.drew md A n c A' n' c' M A6 c6 xs A7 c7 os := h.keep (below_drew (Below.refl _ _))
end
theorem toldS_fit {z : Int} (h : dl z ≤ 2000) : toldS z = tS z := by unfold toldS; rw [if_neg (by omega)]
theorem toldE_fit {z : Int} (h : dl z ≤ 2000) : toldE z = 0 := by unfold toldE; rw [if_neg (by omega)]
set_option maxRecDepth 100000 in
set_option maxHeartbeats 4000000 in
theorem FCy_bad (M : Mp) (s : ByteArray) (most : Int) (v : Value) (w : World) (hM : IsM w v M) (ht : Tb w) (hs : s.size ≤ 9223372036854775807) (hbad : okB M = false ∨ vldL (codes s) = false) : Calls Tryd.prog 7 #[v, .string s, .int .i64 most] w fun e w' => e = .returned (.bool true) ∧ Below w.heap.size w w' := by
  obtain ⟨md, A, n, c, A', n', c', rfl, HM⟩ := hM.form
  have V3 := VM.new w 24 HM.out
  have HB := below_alloc (Below.refl w.heap.size w) (Obj.cells #[Value.int .i64 md, Value.slice A n c, Value.slice A' n' c'] 24)
  have HT := Lib.hid ht
  by_cases hok : okB M = true
  · have HOK := Lib.hid hok
    have HV : Hid (vldL (codes s) = false) := hbad.resolve_left (by rw [hok]; simp)
    clear hok hbad ht hM
    go_enter Tryd.func7, Tryd.ntmps7
    have m0 := V3.c0; have m1 := V3.c1; have m2 := V3.c2
    go_wp2_with fail
    (with_reducible refine (MValid_c M _ _ V3.im.out).mono ?_)
    rintro e w2 ⟨he, hb⟩
    replace HB := below_step HB hb
    replace V3 := V3.keep hb
    clear hb
    obtain rfl : e = .returned (.bool true) := by rw [he, HOK.out] <;> rfl
    clear he
    clear m0 m1 m2
    go_wp2_with fail
    (with_reducible refine (Valid_c s _ hs).mono ?_)
    rintro e w9 ⟨rfl, rfl⟩
    rw [HV.out]
    go_wp2_with fail
    (with_reducible refine (awake5_c _ (HT.out.below HB)).mono ?_)
    rintro e w20 ⟨he, hb⟩
    replace HB := below_step HB hb
    clear hb
    subst he
    go_wp2
    go_ret
    exact ⟨rfl, HB⟩
  · have HOK : Hid (okB M = false) := by show _ = _; revert hok; cases okB M <;> simp
    clear hok hbad ht hM
    go_enter Tryd.func7, Tryd.ntmps7
    have m0 := V3.c0; have m1 := V3.c1; have m2 := V3.c2
    go_wp2_with fail
    (with_reducible refine (MValid_c M _ _ V3.im.out).mono ?_)
    rintro e w2 ⟨he, hb⟩
    replace HB := below_step HB hb
    replace V3 := V3.keep hb
    clear hb
    obtain rfl : e = .returned (.bool false) := by rw [he, HOK.out] <;> rfl
    clear he
    clear m0 m1 m2
    go_wp2_with fail
    (with_reducible refine (awake5_c _ (HT.out.below HB)).mono ?_)
    rintro e w20 ⟨he, hb⟩
    replace HB := below_step HB hb
    clear hb
    subst he
    go_wp2
    go_ret
    exact ⟨rfl, HB⟩
set_option maxRecDepth 100000 in
set_option maxHeartbeats 4000000 in
theorem FCy_arg (M : Mp) (z most : Int) (v : Value) (w : World) (hM : IsM w v M) (ht : Tb w) (hok : okM M) (hz : dlN z.natAbs ≤ 2000) (hbad : most < 0 ∨ 1000 < most) : Calls Tryd.prog 7 #[v, .string (tS z), .int .i64 most] w fun e w' => e = .returned (.bool true) ∧ Below w.heap.size w w' := by
  obtain ⟨md, A, n, c, A', n', c', rfl, HM⟩ := hM.form
  have V3 := VM.new w 24 HM.out
  have HB := below_alloc (Below.refl w.heap.size w) (Obj.cells #[Value.int .i64 md, Value.slice A n c, Value.slice A' n' c'] 24)
  have HT := Lib.hid ht
  have HOK : Hid (okB M = true) := okB_iff.2 hok
  have HV := Lib.hid (vld_tS hz)
  have hs := tS_sz hz
  clear hok ht hM hz
  by_cases hm : most < 0
  · clear hbad
    go_enter Tryd.func7, Tryd.ntmps7
    have m0 := V3.c0; have m1 := V3.c1; have m2 := V3.c2
    go_wp2_with fail
    (with_reducible refine (MValid_c M _ _ V3.im.out).mono ?_)
    rintro e w2 ⟨he, hb⟩
    replace HB := below_step HB hb
    replace V3 := V3.keep hb
    clear hb
    obtain rfl : e = .returned (.bool true) := by rw [he, HOK.out] <;> rfl
    clear he
    clear m0 m1 m2
    go_wp2_with fail
    (with_reducible refine (Valid_c (tS z) _ hs).mono ?_)
    rintro e w9 ⟨rfl, rfl⟩
    rw [HV.out]
    go_wp2_with fail
    (with_reducible refine (awake5_c _ (HT.out.below HB)).mono ?_)
    rintro e w20 ⟨he, hb⟩
    replace HB := below_step HB hb
    clear hb
    subst he
    go_wp2
    go_ret
    exact ⟨rfl, HB⟩
  · have hm2 : 1000 < most := by omega
    clear hbad
    go_enter Tryd.func7, Tryd.ntmps7
    have m0 := V3.c0; have m1 := V3.c1; have m2 := V3.c2
    go_wp2_with fail
    (with_reducible refine (MValid_c M _ _ V3.im.out).mono ?_)
    rintro e w2 ⟨he, hb⟩
    replace HB := below_step HB hb
    replace V3 := V3.keep hb
    clear hb
    obtain rfl : e = .returned (.bool true) := by rw [he, HOK.out] <;> rfl
    clear he
    clear m0 m1 m2
    go_wp2_with fail
    (with_reducible refine (Valid_c (tS z) _ hs).mono ?_)
    rintro e w9 ⟨rfl, rfl⟩
    rw [HV.out]
    go_wp2_with fail
    (with_reducible refine (awake5_c _ (HT.out.below HB)).mono ?_)
    rintro e w20 ⟨he, hb⟩
    replace HB := below_step HB hb
    clear hb
    subst he
    go_wp2
    go_ret
    exact ⟨rfl, HB⟩
set_option maxRecDepth 100000 in
set_option maxHeartbeats 4000000 in
theorem FCy_3 (M : Mp) (z : Int) (most : Nat) (v : Value) (w : World) (hM : IsM w v M) (ht : Tb w) (hok : okM M) (hz : dlN z.natAbs ≤ 2000) (hmo : most ≤ 1000) (hfl : flwA M (most + 1) [] z = (3, 0, [])) : Calls Tryd.prog 7 #[v, .string (tS z), .int .i64 most] w fun e w' => e = .returned (.bool true) ∧ Below w.heap.size w w' := by
  obtain ⟨md, A, n, c, A', n', c', rfl, HM⟩ := hM.form
  have V3 := VM.new w 24 HM.out
  have HB := below_alloc (Below.refl w.heap.size w) (Obj.cells #[Value.int .i64 md, Value.slice A n c, Value.slice A' n' c'] 24)
  have HT := Lib.hid ht
  have HOK : Hid (okB M = true) := okB_iff.2 hok
  have HOKM := Lib.hid hok
  have HV := Lib.hid (vld_tS hz)
  have hs := tS_sz hz
  have HZ := Lib.hid hz
  have hmost0 : (0 : Int) ≤ (most : Int) := by omega
  have hmost1 : (most : Int) ≤ 1000 := by omega
  have HF : Hid (∀ (W : World) (v : Value), IsM W v M → Tb W → Calls Tryd.prog 10 #[v, .string (tS z), .int .i64 most] W fun e w' => ∃ A c, e = .returned (.tuple #[.int .i64 (flwA M (most + 1) [] z).2.1, .slice A (flwA M (most + 1) [] z).2.2.length c, .int .i64 (flwA M (most + 1) [] z).1]) ∧ Hid (LsS w' A c ((flwA M (most + 1) [] z).2.2.map tS)) ∧ Below W.heap.size W w') :=
    fun W v h1 h3 => Fate_ok M z most v W h1 hok hz (by omega) h3
  have HRU : Hid (runF M most z = (3, ⟨#[]⟩)) := flw_long hfl
  clear hok ht hM hz
  go_enter Tryd.func7, Tryd.ntmps7
  have m0 := V3.c0; have m1 := V3.c1; have m2 := V3.c2
  go_wp2_with fail
  (with_reducible refine (MValid_c M _ _ V3.im.out).mono ?_)
  rintro e w2 ⟨he, hb⟩
  replace HB := below_step HB hb
  replace V3 := V3.keep hb
  clear hb
  obtain rfl : e = .returned (.bool true) := by rw [he, HOK.out] <;> rfl
  clear he
  clear m0 m1 m2
  go_wp2_with fail
  (with_reducible refine (Valid_c (tS z) _ hs).mono ?_)
  rintro e w9 ⟨rfl, rfl⟩
  rw [HV.out]
  have m0 := V3.c0; have m1 := V3.c1; have m2 := V3.c2
  go_wp2_with fail
  (with_reducible refine (HF.out _ _ V3.im.out (HT.out.below HB)).mono ?_)
  rw [hfl]
  rintro e w6 ⟨A6, c6, rfl, HL, hb⟩
  dsimp only at HL ⊢
  replace V3 := V3.keep hb
  replace HB := below_step HB hb
  clear hb m0 m1 m2 HF hfl
  have m0 := V3.c0; have m1 := V3.c1; have m2 := V3.c2
  go_wp2_with fail
  (with_reducible refine (Run_ok M z most _ _ V3.im.out HOKM.out HZ.out (by omega) (HT.out.below HB)).mono ?_)
  rw [HRU.out]
  rintro e w7 ⟨rfl, hb⟩
  replace HB := below_step HB hb
  clear hb m0 m1 m2
  go_wp2_with fail
  (with_reducible refine (awake5_c _ (HT.out.below HB)).mono ?_)
  rintro e w20 ⟨he, hb⟩
  replace HB := below_step HB hb
  clear hb
  subst he
  go_wp2
  go_ret
  exact ⟨rfl, HB⟩
set_option maxRecDepth 100000 in
set_option maxHeartbeats 8000000 in
theorem FCy_4 (M : Mp) (z : Int) (most : Nat) (v : Value) (w : World) (hM : IsM w v M) (ht : Tb w) (hok : okM M) (hz : dlN z.natAbs ≤ 2000) (hmo : most ≤ 1000) (hfl : flwA M (most + 1) [] z = (4, 0, [])) : Calls Tryd.prog 7 #[v, .string (tS z), .int .i64 most] w fun e w' => e = .returned (.bool true) ∧ Below w.heap.size w w' := by
  obtain ⟨md, A, n, c, A', n', c', rfl, HM⟩ := hM.form
  have V3 := VM.new w 24 HM.out
  have HB := below_alloc (Below.refl w.heap.size w) (Obj.cells #[Value.int .i64 md, Value.slice A n c, Value.slice A' n' c'] 24)
  have HT := Lib.hid ht
  have HOK : Hid (okB M = true) := okB_iff.2 hok
  have HOKM := Lib.hid hok
  have HV := Lib.hid (vld_tS hz)
  have hs := tS_sz hz
  have HZ := Lib.hid hz
  have hmost0 : (0 : Int) ≤ (most : Int) := by omega
  have hmost1 : (most : Int) ≤ 1000 := by omega
  have HF : Hid (∀ (W : World) (v : Value), IsM W v M → Tb W → Calls Tryd.prog 10 #[v, .string (tS z), .int .i64 most] W fun e w' => ∃ A c, e = .returned (.tuple #[.int .i64 (flwA M (most + 1) [] z).2.1, .slice A (flwA M (most + 1) [] z).2.2.length c, .int .i64 (flwA M (most + 1) [] z).1]) ∧ Hid (LsS w' A c ((flwA M (most + 1) [] z).2.2.map tS)) ∧ Below W.heap.size W w') :=
    fun W v h1 h3 => Fate_ok M z most v W h1 hok hz (by omega) h3
  obtain ⟨hfit, hinj⟩ := flw_none hfl
  have HOB : Hid (orbF M most [] z = (0, [] ++ (List.range (most + 1)).map (itZ M z))) := orbF_fit most [] z hfit
  have HIN := Lib.hid hinj
  clear hok ht hM hz hfit hinj
  go_enter Tryd.func7, Tryd.ntmps7
  have m0 := V3.c0; have m1 := V3.c1; have m2 := V3.c2
  go_wp2_with fail
  (with_reducible refine (MValid_c M _ _ V3.im.out).mono ?_)
  rintro e w2 ⟨he, hb⟩
  replace HB := below_step HB hb
  replace V3 := V3.keep hb
  clear hb
  obtain rfl : e = .returned (.bool true) := by rw [he, HOK.out] <;> rfl
  clear he
  clear m0 m1 m2
  go_wp2_with fail
  (with_reducible refine (Valid_c (tS z) _ hs).mono ?_)
  rintro e w9 ⟨rfl, rfl⟩
  rw [HV.out]
  have m0 := V3.c0; have m1 := V3.c1; have m2 := V3.c2
  go_wp2_with fail
  (with_reducible refine (HF.out _ _ V3.im.out (HT.out.below HB)).mono ?_)
  rw [hfl]
  rintro e w6 ⟨A6, c6, rfl, HL, hb⟩
  dsimp only at HL ⊢
  replace V3 := V3.keep hb
  replace HB := below_step HB hb
  clear hb m0 m1 m2 HF hfl
  try rw [show (([] : List Int).length) = 0 from rfl]
  try rw [show ((0 : Nat) : Int) = 0 from rfl]
  have m0 := V3.c0; have m1 := V3.c1; have m2 := V3.c2
  go_wp2_with fail
  (with_reducible refine (Orb_ok M z most _ _ V3.im.out HOKM.out HZ.out (by omega) (HT.out.below HB)).mono ?_)
  rw [HOB.out]
  rintro e w7 ⟨A7, c7, rfl, HO, hb⟩
  dsimp only at HO ⊢
  rw [List.nil_append] at HO
  rw [List.nil_append, List.length_map, List.length_range]
  replace V3 := V3.keep hb
  replace HL := Lib.hid (HL.out.below hb)
  replace HB := below_step HB hb
  clear hb m0 m1 m2
  have hol : (((List.range (most + 1)).map (itZ M z)).map tS).length = most + 1 := by simp
  have HOLn := Lib.hid hol
  have hem : (((most + 1 : Nat) : Int) != (most : Int) + 1) = false := by simp
  have hem2 : IntKind.i64.wrap ((most : Int) + 1) = (most : Int) + 1 := by rw [IntKind.wrap_i64]; omega
  have HGO : Hid (∀ i, i ≤ most → gs (((List.range (most + 1)).map (itZ M z)).map tS) i = tS (itZ M z i)) := fun i hi => by rw [gs_map _ (by simp; omega), gd_range _ _ (by omega)]
  generalize ((List.range (most + 1)).map (itZ M z)).map tS = os at *
  clear hol
  have HB7 := HB
  clear HB V3 HL
  obtain ⟨om, hom⟩ : ∃ om, most + 1 = om := ⟨_, rfl⟩
  have HOM := Lib.hid hom
  have homi : (most : Int) < (om : Int) := by omega
  rw [hom] at HOLn ⊢
  have hem3 : IntKind.i64.wrap ((most : Int) + 1) = (om : Int) := by rw [hem2]; omega
  clear hem hem2
  go_wp2_with fail
  go_loopg [14] most (fun g iv wr => ∃ (i : Nat), g = most - i ∧ iv = .int .i64 i ∧ i ≤ most ∧ Below w.heap.size w wr ∧ Hid (LsS wr A7 c7 os))
  case atStart => exact ⟨0, rfl, rfl, Nat.zero_le _, HB7, HO⟩
  case round =>
    clear HB7 HO
    obtain ⟨i, hgk, rfl, hi, HB, HO⟩ := hrel
    have hi0 : (0 : Int) ≤ (i : Int) := by omega
    by_cases hia : i < most
    · have hi1 : (i : Int) < (most : Int) := by omega
      have hi2 : (i : Int) < (om : Int) := by omega
      obtain ⟨b1, o1, rfl, k1⟩ := HO.out.el (j := i) (by rw [HOLn.out]; omega)
      obtain ⟨b2, o2, e2, k2⟩ := HO.out.el (j := most) (by rw [HOLn.out]; omega)
      injection e2 with e2
      injection e2 with e3 e4 e5
      subst e3 e4
      rw [HGO.out i (by omega)] at k1
      rw [HGO.out most (Nat.le_refl _)] at k2
      have hb : ((tS (itZ M z i)).toList == (tS (itZ M z most)).toList) = false := by
        rw [bs_beq]; exact decide_eq_false fun e => HIN.out i most hia (Nat.le_refl _) (tS_inj e)
      generalize tS (itZ M z i) = x at *
      generalize tS (itZ M z most) = y at *
      have HO2 := Lib.hid (HO.out.below (below_drew (Below.refl _ _)))
      clear HO
      go_wp2_with fail
      replace HB := below_drew HB; replace k1 := k1.drew; replace k2 := k2.drew
      generalize hWd : wr.drew = wd at *
      refine wp_region_F (fun w' => w'.cell? ⟨b1, o1 + i, none⟩ = some (.string x) ∧ w'.cell? ⟨b1, o1 + most, none⟩ = some (.string y)) [] (by kernel_rfl) (by rw [hWd]; exact ⟨k1.c, k2.c⟩) (fun hHeld => ?_)
      rw [hWd] at hHeld ⊢
      refine wpF_t (i := 0) (oi := { dst := some 81, op := Go.Op.move (Go.Operand.tmp 12), type := 26, pos := "law.go:154", after := #[], guard := none }) (v := ?_) rfl (by kernel_rfl) (fun _ _ _ h => h) (Or.inl ⟨by rfl, ?_⟩) hHeld ?_; rotate_left
      · intro w_ hSw_; (try dsimp only at hSw_); go_simp; (try with_reducible rfl)
      try go_frame
      refine wpF_t (i := 1) (oi := { dst := some 82, op := Go.Op.move (Go.Operand.tmp 14), type := 3, pos := "law.go:154", after := #[], guard := none }) (v := ?_) rfl (by kernel_rfl) (fun _ _ _ h => h) (Or.inl ⟨by rfl, ?_⟩) hHeld ?_; rotate_left
      · intro w_ hSw_; (try dsimp only at hSw_); go_simp; (try with_reducible rfl)
      try go_frame
      refine wpF_t (i := 2) (oi := { dst := some 83, op := Go.Op.indexAddr 26 (Go.Operand.tmp 81) (Go.Operand.tmp 82), type := 0, pos := "law.go:154", after := #[{ on := 0, ground := Go.Ground.data }, { on := 1, ground := Go.Ground.data }], guard := none }) (v := ?_) rfl (by kernel_rfl) (fun _ _ _ h => h) (Or.inl ⟨by rfl, ?_⟩) hHeld ?_; rotate_left
      · intro w_ hSw_; (try dsimp only at hSw_); go_simp; (try with_reducible rfl)
      try go_frame
      refine wpF_t (i := 3) (oi := { dst := some 84, op := Go.Op.load 9 (Go.Operand.tmp 83), type := 9, pos := "law.go:154", after := #[{ on := 2, ground := Go.Ground.data }], guard := none }) (v := ?_) rfl (by kernel_rfl) (fun _ _ _ h => h) (Or.inl ⟨by rfl, ?_⟩) hHeld ?_; rotate_left
      · intro w_ hSw_; (try dsimp only at hSw_); go_simp; (try with_reducible rfl)
      try go_frame
      refine wpF_t (i := 4) (oi := { dst := some 85, op := Go.Op.move (Go.Operand.tmp 12), type := 26, pos := "law.go:154", after := #[], guard := none }) (v := ?_) rfl (by kernel_rfl) (fun _ _ _ h => h) (Or.inl ⟨by rfl, ?_⟩) hHeld ?_; rotate_left
      · intro w_ hSw_; (try dsimp only at hSw_); go_simp; (try with_reducible rfl)
      try go_frame
      refine wpF_t (i := 5) (oi := { dst := some 86, op := Go.Op.move (Go.Operand.tmp 2), type := 3, pos := "law.go:154", after := #[], guard := none }) (v := ?_) rfl (by kernel_rfl) (fun _ _ _ h => h) (Or.inl ⟨by rfl, ?_⟩) hHeld ?_; rotate_left
      · intro w_ hSw_; (try dsimp only at hSw_); go_simp; (try with_reducible rfl)
      try go_frame
      refine wpF_t (i := 6) (oi := { dst := some 87, op := Go.Op.indexAddr 26 (Go.Operand.tmp 85) (Go.Operand.tmp 86), type := 0, pos := "law.go:154", after := #[{ on := 4, ground := Go.Ground.data }, { on := 5, ground := Go.Ground.data }], guard := none }) (v := ?_) rfl (by kernel_rfl) (fun _ _ _ h => h) (Or.inl ⟨by rfl, ?_⟩) hHeld ?_; rotate_left
      · intro w_ hSw_; (try dsimp only at hSw_); go_simp; (try with_reducible rfl)
      try go_frame
      refine wpF_t (i := 7) (oi := { dst := some 88, op := Go.Op.load 9 (Go.Operand.tmp 87), type := 9, pos := "law.go:154", after := #[{ on := 6, ground := Go.Ground.data }], guard := none }) (v := ?_) rfl (by kernel_rfl) (fun _ _ _ h => h) (Or.inl ⟨by rfl, ?_⟩) hHeld ?_; rotate_left
      · intro w_ hSw_; (try dsimp only at hSw_); go_simp; (try with_reducible rfl)
      try go_frame
      refine wpF_t (i := 8) (oi := { dst := some 89, op := Go.Op.binOp Go.BinOp.eql 9 (Go.Operand.tmp 84) (Go.Operand.tmp 88) 9, type := 4, pos := "law.go:154", after := #[{ on := 3, ground := Go.Ground.data }, { on := 7, ground := Go.Ground.data }], guard := none }) (v := ?_) rfl (by kernel_rfl) (fun _ _ _ h => h) (Or.inl ⟨by rfl, ?_⟩) hHeld ?_; rotate_left
      · intro w_ hSw_; (try dsimp only at hSw_); go_simp; (try with_reducible rfl)
      try go_frame
      refine wpAnyF_done (by kernel_rfl) ?_ _
      clear hHeld
      go_wp2
      go_roundg (most - (i + 1))
      case measure => omega
      case rel => exact ⟨i + 1, rfl, by go_num, by omega, HB, HO2⟩
    · have hi1 : ¬ (i : Int) < (most : Int) := by omega
      go_wp2_with fail
      (with_reducible refine (awake5_c _ (HT.out.below HB)).mono ?_)
      rintro e w20 ⟨he, hb⟩
      replace HB := below_step HB hb
      clear hb
      subst he
      go_wp2
      go_ret
      exact ⟨rfl, HB⟩
set_option maxRecDepth 100000 in
set_option maxHeartbeats 8000000 in
theorem FCy_0 (M : Mp) (z : Int) (most : Nat) (v : Value) (w : World) (hM : IsM w v M) (ht : Tb w) (hok : okM M) (hz : dlN z.natAbs ≤ 2000) (hmo : most ≤ 1000) (t : Nat) (l : List Int) (hfl : flwA M (most + 1) [] z = (0, t, l)) : Calls Tryd.prog 7 #[v, .string (tS z), .int .i64 most] w fun e w' => e = .returned (.bool true) ∧ Below w.heap.size w w' := by
  obtain ⟨md, A, n, c, A', n', c', rfl, HM⟩ := hM.form
  have V3 := VM.new w 24 HM.out
  have HB := below_alloc (Below.refl w.heap.size w) (Obj.cells #[Value.int .i64 md, Value.slice A n c, Value.slice A' n' c'] 24)
  have HT := Lib.hid ht
  have HOK : Hid (okB M = true) := okB_iff.2 hok
  have HOKM := Lib.hid hok
  have HV := Lib.hid (vld_tS hz)
  have hs := tS_sz hz
  have HZ := Lib.hid hz
  have hmost0 : (0 : Int) ≤ (most : Int) := by omega
  have hmost1 : (most : Int) ≤ 1000 := by omega
  have HF : Hid (∀ (W : World) (v : Value), IsM W v M → Tb W → Calls Tryd.prog 10 #[v, .string (tS z), .int .i64 most] W fun e w' => ∃ A c, e = .returned (.tuple #[.int .i64 (flwA M (most + 1) [] z).2.1, .slice A (flwA M (most + 1) [] z).2.2.length c, .int .i64 (flwA M (most + 1) [] z).1]) ∧ Hid (LsS w' A c ((flwA M (most + 1) [] z).2.2.map tS)) ∧ Below W.heap.size W w') :=
    fun W v h1 h3 => Fate_ok M z most v W h1 hok hz (by omega) h3
  have C := flw_cyf hfl
  have HOB : Hid (orbF M most [] z = (0, [] ++ (List.range (most + 1)).map (itZ M z))) := orbF_fit most [] z (fun j _ => C.fit j)
  have HC := Lib.hid C
  have hlp := C.pos
  have hle := C.le
  have HA1 : Hid (amongB ((((List.range (most + 1)).map (itZ M z)).map tS).take t) (l.map tS) = false) := by show _ = _; rw [os_take M z (by omega)]; exact cy_before C
  have HA2 : Hid (amongB (((((List.range (most + 1)).map (itZ M z)).map tS).drop t).take 1) (l.map tS) = true) := by show _ = _; rw [os_at M z (by omega)]; exact cy_at C
  clear hok ht hM hz C
  go_enter Tryd.func7, Tryd.ntmps7
  have m0 := V3.c0; have m1 := V3.c1; have m2 := V3.c2
  go_wp2_with fail
  (with_reducible refine (MValid_c M _ _ V3.im.out).mono ?_)
  rintro e w2 ⟨he, hb⟩
  replace HB := below_step HB hb
  replace V3 := V3.keep hb
  clear hb
  obtain rfl : e = .returned (.bool true) := by rw [he, HOK.out] <;> rfl
  clear he
  clear m0 m1 m2
  go_wp2_with fail
  (with_reducible refine (Valid_c (tS z) _ hs).mono ?_)
  rintro e w9 ⟨rfl, rfl⟩
  rw [HV.out]
  have m0 := V3.c0; have m1 := V3.c1; have m2 := V3.c2
  go_wp2_with fail
  (with_reducible refine (HF.out _ _ V3.im.out (HT.out.below HB)).mono ?_)
  rw [hfl]
  rintro e w6 ⟨A6, c6, rfl, HL, hb⟩
  dsimp only at HL ⊢
  replace V3 := V3.keep hb
  replace HB := below_step HB hb
  clear hb m0 m1 m2 HF hfl
  have m0 := V3.c0; have m1 := V3.c1; have m2 := V3.c2
  go_wp2_with fail
  (with_reducible refine (Orb_ok M z most _ _ V3.im.out HOKM.out HZ.out (by omega) (HT.out.below HB)).mono ?_)
  rw [HOB.out]
  rintro e w7 ⟨A7, c7, rfl, HO, hb⟩
  dsimp only at HO ⊢
  rw [List.nil_append] at HO
  rw [List.nil_append, List.length_map, List.length_range]
  replace V3 := V3.keep hb
  replace HL := Lib.hid (HL.out.below hb)
  replace HB := below_step HB hb
  clear hb m0 m1 m2
  have hol : (((List.range (most + 1)).map (itZ M z)).map tS).length = most + 1 := by simp
  have HOLn := Lib.hid hol
  have hem2 : IntKind.i64.wrap ((most : Int) + 1) = (most : Int) + 1 := by rw [IntKind.wrap_i64]; omega
  generalize ((List.range (most + 1)).map (itZ M z)).map tS = os at *
  clear hol
  obtain ⟨om, hom⟩ : ∃ om, most + 1 = om := ⟨_, rfl⟩
  have homi : (most : Int) < (om : Int) := by omega
  have hem3 : IntKind.i64.wrap ((most : Int) + 1) = (om : Int) := by rw [hem2]; omega
  rw [hom] at HOLn ⊢
  obtain ⟨L, hL⟩ : ∃ L, l.length = L := ⟨_, rfl⟩
  have HLn := Lib.hid hL
  rw [hL] at hlp hle ⊢
  obtain ⟨s, hs9⟩ : ∃ s, t + L = s := ⟨_, rfl⟩
  have hsw : IntKind.i64.wrap ((t : Int) + (L : Int)) = (s : Int) := by rw [IntKind.wrap_i64]; omega
  have hsm : ¬ (most : Int) < (s : Int) := by omega
  have hsm2 : decide (most < s) = false := decide_eq_false (by omega)
  have ht1 : ¬ (t : Int) < 0 := by omega
  have hL1 : ¬ (L : Int) < 1 := by omega
  have hL2 : decide (L < 1) = false := decide_eq_false (by omega)
  have hL0 : ¬ (L : Int) = 0 := by omega
  have S0 : CyS w w7 md A n c A' n' c' M A6 c6 (l.map tS) A7 c7 os := ⟨HB, V3, HL.out, HO.out⟩
  clear HB V3 HL HO hem2
  go_wp2_with fail
  clear hsw hsm hsm2 hL2
  go_loopg [15] L (fun g iv wr => ∃ (i : Nat), g = L - i ∧ iv = .int .i64 i ∧ i ≤ L ∧ CyS w wr md A n c A' n' c' M A6 c6 (l.map tS) A7 c7 os)
  case atStart => exact ⟨0, rfl, rfl, Nat.zero_le _, S0⟩
  case round =>
    clear S0
    obtain ⟨i, hgk, rfl, hi, S_⟩ := hrel
    have hi0 : (0 : Int) ≤ (i : Int) := by omega
    by_cases hiL : i < L
    · have hi1 : (i : Int) < (L : Int) := by omega
      obtain ⟨b6, o6, rfl, k1⟩ := S_.h6.el (j := i) (by rw [List.length_map, HLn.out]; omega)
      rw [gs_map _ (by rw [HLn.out]; omega)] at k1
      obtain ⟨b8, o8, e8, k0⟩ := S_.h6.el (j := 0) (by rw [List.length_map, HLn.out]; omega)
      injection e8 with e8
      injection e8 with e9 e10 e11
      subst e9 e10
      clear e11
      rw [gs_map _ (by rw [HLn.out]; omega)] at k0
      replace k0 : CL wr b6 o6 _ := k0
      have hmi := HC.out.mem i (by rw [HLn.out]; omega)
      have hm0 := HC.out.mem 0 (by rw [HLn.out]; omega)
      have HDi : Hid (dlN (gd l i).natAbs ≤ 2000) := by rw [← dl_dlN]; exact hmi
      have HD0 : Hid (dlN (gd l 0).natAbs ≤ 2000) := by rw [← dl_dlN]; exact hm0
      have HYv := Lib.hid (vld_tS HDi.out)
      have HYs := Lib.hid (tS_sz HDi.out)
      obtain ⟨r, hr⟩ : ∃ r, (i + 1) % L = r := ⟨_, rfl⟩
      have hrL : r < L := by rw [← hr]; exact Nat.mod_lt _ (by omega)
      have hst := HC.out.step i (by rw [HLn.out]; omega)
      rw [HLn.out, hr] at hst
      have hmr := HC.out.mem r (by rw [HLn.out]; omega)
      have HTS : Hid (toldS (stepZ M (gd l i)) = tS (gd l r)) := by show _ = _; rw [hst, toldS_fit hmr]
      have HTE : Hid (toldE (stepZ M (gd l i)) = 0) := by show _ = _; rw [hst, toldE_fit hmr]
      have hr2 : ((i : Int) + 1) % (L : Int) = (r : Int) := by rw [← hr]; simp
      have hr1 : ((i : Int) + 1).tmod (L : Int) = (r : Int) := by rw [Int.tmod_eq_emod_of_nonneg (by omega)]; exact hr2
      have hw2 : IntKind.i64.wrap ((i : Int) + 1) = (i : Int) + 1 := by rw [IntKind.wrap_i64]; omega
      have hrr0 : (0 : Int) ≤ (r : Int) := by omega
      have hrr1 : (r : Int) < (L : Int) := by omega
      clear hmi hm0 hst hmr hr
      by_cases hip : 0 < i
      · have hip1 : (0 : Int) < (i : Int) := by omega
        have hip2 : decide (0 < i) = true := decide_eq_true hip
        have HIC : Hid (icmp (gd l 0) (gd l i) = -1) := by
          show _ = _
          have := HC.out.least i hip (by rw [HLn.out]; omega)
          unfold icmp; rw [if_pos this]
        go_wp2_with fail
        replace S_ := S_.drew; replace k1 := k1.drew; replace k0 := k0.drew
        generalize hWd : wr.drew = wd at *
        refine wp_region_F (fun w' => w'.cell? ⟨b6, o6 + i, none⟩ = some (.string (tS (gd l i))) ∧ w'.cell? ⟨b6, o6, none⟩ = some (.string (tS (gd l 0)))) [] (by kernel_rfl) (by rw [hWd]; exact ⟨k1.c, k0.c⟩) (fun hHeld => ?_)
        rw [hWd] at hHeld ⊢
        refine wpF_t (i := 0) (oi := opda4e930b) (v := ?_) rfl (by kernel_rfl) (fun _ _ _ h => h) (Or.inl ⟨by rfl, ?_⟩) hHeld ?_; rotate_left
        · intro w_ hSw_; (try dsimp only at hSw_); go_simp; (try with_reducible rfl)
        try go_frame
        refine wpF_t (i := 1) (oi := op93402ce3) (v := ?_) rfl (by kernel_rfl) (fun _ _ _ h => h) (Or.inl ⟨by rfl, ?_⟩) hHeld ?_; rotate_left
        · intro w_ hSw_; (try dsimp only at hSw_); go_simp; (try with_reducible rfl)
        try go_frame
        refine wpF_t (i := 2) (oi := op8d5abcda) (v := ?_) rfl (by kernel_rfl) (fun _ _ _ h => h) (Or.inl ⟨by rfl, ?_⟩) hHeld ?_; rotate_left
        · intro w_ hSw_; (try dsimp only at hSw_); go_simp; (try with_reducible rfl)
        try go_frame
        refine wpF_t (i := 3) (oi := opfdb98bc2) (v := ?_) rfl (by kernel_rfl) (fun _ _ _ h => h) (Or.inl ⟨by rfl, ?_⟩) hHeld ?_; rotate_left
        · intro w_ hSw_; (try dsimp only at hSw_); go_simp; (try with_reducible rfl)
        try go_frame
        refine wpAnyF_one (i := 4) (by kernel_rfl) rfl (fun K hK => ?_)
        go_simp
        (go_at_call 13; (with_reducible refine (Valid_c _ _ HYs.out).mono ?_); rintro e w9 ⟨rfl, rfl⟩; rw [HYv.out])
        refine hK.out _ _ (by exact ⟨k1.c, k0.c⟩) (fun hHeld => ?_)
        clear hK K
        try go_frame
        refine wpF_t (i := 5) (oi := op4c43557d) (v := ?_) rfl (by kernel_rfl) (fun _ _ _ h => h) (Or.inl ⟨by rfl, ?_⟩) hHeld ?_; rotate_left
        · intro w_ hSw_; (try dsimp only at hSw_); go_simp; (try with_reducible rfl)
        try go_frame
        refine wpF_t (i := 6) (oi := op8b3674a6) (v := ?_) rfl (by kernel_rfl) (fun _ _ _ h => h) (Or.inl ⟨by rfl, ?_⟩) hHeld ?_; rotate_left
        · intro w_ hSw_; (try dsimp only at hSw_); go_simp; (try with_reducible rfl)
        try go_frame
        refine wpF_t (i := 7) (oi := op3496a5e7) (v := ?_) rfl (by kernel_rfl) (fun _ _ _ h => h) (Or.inl ⟨by rfl, ?_⟩) hHeld ?_; rotate_left
        · intro w_ hSw_; (try dsimp only at hSw_); go_simp; (try with_reducible rfl)
        try go_frame
        refine wpF_t (i := 8) (oi := op3b3db892) (v := ?_) rfl (by kernel_rfl) (fun _ _ _ h => h) (Or.inl ⟨by rfl, ?_⟩) hHeld ?_; rotate_left
        · intro w_ hSw_; (try dsimp only at hSw_); go_simp; (try with_reducible rfl)
        try go_frame
        refine wpF_t (i := 9) (oi := op00951318) (v := ?_) rfl (by kernel_rfl) (fun _ _ _ h => h) (Or.inl ⟨by rfl, ?_⟩) hHeld ?_; rotate_left
        · intro w_ hSw_; (try dsimp only at hSw_); go_simp; (try with_reducible rfl)
        try go_frame
        refine wpF_t (i := 10) (oi := op9665891d) (v := ?_) rfl (by kernel_rfl) (fun _ _ _ h => h) (Or.inl ⟨by rfl, ?_⟩) hHeld ?_; rotate_left
        · intro w_ hSw_; (try dsimp only at hSw_); go_simp; (try with_reducible rfl)
        try go_frame
        refine wpF_t (i := 11) (oi := op608821ea) (v := ?_) rfl (by kernel_rfl) (fun _ _ _ h => h) (Or.inl ⟨by rfl, ?_⟩) hHeld ?_; rotate_left
        · intro w_ hSw_; (try dsimp only at hSw_); go_simp; (try with_reducible rfl)
        try go_frame
        refine wpF_t (i := 12) (oi := opa30b580e) (v := ?_) rfl (by kernel_rfl) (fun _ _ _ h => h) (Or.inl ⟨by rfl, ?_⟩) hHeld ?_; rotate_left
        · intro w_ hSw_; (try dsimp only at hSw_); go_simp; (try with_reducible rfl)
        try go_frame
        refine wpF_t (i := 14) (oi := op38ef180e) (v := ?_) rfl (by kernel_rfl) (fun _ _ _ h => h) (Or.inl ⟨by rfl, ?_⟩) hHeld ?_; rotate_left
        · intro w_ hSw_; (try dsimp only at hSw_); go_simp; (try with_reducible rfl)
        try go_frame
        refine wpF_t (i := 15) (oi := op70777863) (v := ?_) rfl (by kernel_rfl) (fun _ _ _ h => h) (Or.inl ⟨by rfl, ?_⟩) hHeld ?_; rotate_left
        · intro w_ hSw_; (try dsimp only at hSw_); go_simp; (try with_reducible rfl)
        try go_frame
        refine wpF_t (i := 16) (oi := op40128f66) (v := ?_) rfl (by kernel_rfl) (fun _ _ _ h => h) (Or.inl ⟨by rfl, ?_⟩) hHeld ?_; rotate_left
        · intro w_ hSw_; (try dsimp only at hSw_); go_simp; (try with_reducible rfl)
        try go_frame
        refine wpF_t (i := 17) (oi := opd03b048a) (v := ?_) rfl (by kernel_rfl) (fun _ _ _ h => h) (Or.inl ⟨by rfl, ?_⟩) hHeld ?_; rotate_left
        · intro w_ hSw_; (try dsimp only at hSw_); go_simp; (try with_reducible rfl)
        try go_frame
        refine wpAnyF_one (i := 13) (by kernel_rfl) rfl (fun K hK => ?_)
        go_simp
        (go_at_call 17; (with_reducible refine (Parse_c (gd l 0) _ (by have := HD0.out; omega)).mono ?_); rintro e w31 ⟨v31, rfl, P31, hb⟩; obtain ⟨n31, A31, m31, k31, rfl, H31⟩ := P31.form; clear P31; replace S_ := S_.keep hb; replace k1 := k1.keep hb; replace k0 := k0.keep hb; clear hb)
        refine hK.out _ _ (by exact ⟨k1.c, k0.c⟩) (fun hHeld => ?_)
        clear hK K
        try go_frame
        refine wpAnyF_one (i := 18) (by kernel_rfl) rfl (fun K hK => ?_)
        go_simp
        (go_at_call 17; (with_reducible refine (Parse_c (gd l i) _ (by have := HDi.out; omega)).mono ?_); rintro e w32 ⟨v32, rfl, P32, hb⟩; obtain ⟨n32, A32, m32, k32, rfl, H32⟩ := P32.form; clear P32; replace S_ := S_.keep hb; replace k1 := k1.keep hb; replace k0 := k0.keep hb; replace H31 := Lib.hid (H31.out.below hb); clear hb)
        refine hK.out _ _ (by exact ⟨k1.c, k0.c⟩) (fun hHeld => ?_)
        clear hK K
        try go_frame
        refine wpAnyF_one (i := 19) (by kernel_rfl) rfl (fun K hK => ?_)
        go_simp
        (go_at_call 27; (with_reducible refine (Cmp_c (gd l 0) (gd l i) _ _ _ H31.out H32.out).mono ?_); rw [HIC.out]; rintro e w33 ⟨rfl, hb⟩; replace S_ := S_.keep hb; replace k1 := k1.keep hb; replace k0 := k0.keep hb; clear hb)
        refine hK.out _ _ (by exact ⟨k1.c, k0.c⟩) (fun hHeld => ?_)
        clear hK K
        try go_frame
        refine wpF_t (i := 20) (oi := op6bed30c4) (v := ?_) rfl (by kernel_rfl) (fun _ _ _ h => h) (Or.inl ⟨by rfl, ?_⟩) hHeld ?_; rotate_left
        · intro w_ hSw_; (try dsimp only at hSw_); go_simp; (try with_reducible rfl)
        try go_frame
        refine wpF_t (i := 21) (oi := op8a6a72a9) (v := ?_) rfl (by kernel_rfl) (fun _ _ _ h => h) (Or.inl ⟨by rfl, ?_⟩) hHeld ?_; rotate_left
        · intro w_ hSw_; (try dsimp only at hSw_); go_simp; (try with_reducible rfl)
        try go_frame
        refine wpF_t (i := 22) (oi := op3e55d0b8) (v := ?_) rfl (by kernel_rfl) (fun _ _ _ h => h) (Or.inl ⟨by rfl, ?_⟩) hHeld ?_; rotate_left
        · intro w_ hSw_; (try dsimp only at hSw_); go_simp; (try with_reducible rfl)
        try go_frame
        refine wpAnyF_done (by kernel_rfl) ?_ _
        clear hHeld hWd k0
        go_wp2_with fail
        replace S_ := S_.drew; replace k1 := k1.drew
        generalize hWe : World.drew _ = we at *
        refine wp_region_F (fun w' => (w'.cell? ⟨w.heap.size, 0, none⟩ = some (.int .i64 md) ∧ w'.cell? ⟨w.heap.size, 1, none⟩ = some (.slice A n c) ∧ w'.cell? ⟨w.heap.size, 2, none⟩ = some (.slice A' n' c')) ∧ w'.cell? ⟨b6, o6 + i, none⟩ = some (.string (tS (gd l i)))) [] (by kernel_rfl) (by rw [hWe]; exact ⟨⟨S_.vm.c0, S_.vm.c1, S_.vm.c2⟩, k1.c⟩) (fun hHeld => ?_)
        rw [hWe] at hHeld ⊢
        refine wpF_t (i := 0) (oi := op5177b618) (v := ?_) rfl (by kernel_rfl) (fun _ _ _ h => h) (Or.inl ⟨by rfl, ?_⟩) hHeld ?_; rotate_left
        · intro w_ hSw_; (try dsimp only at hSw_); go_simp; (try with_reducible rfl)
        try go_frame
        refine wpF_t (i := 1) (oi := op83908b2c) (v := ?_) rfl (by kernel_rfl) (fun _ _ _ h => h) (Or.inl ⟨by rfl, ?_⟩) hHeld ?_; rotate_left
        · intro w_ hSw_; (try dsimp only at hSw_); go_simp; (try with_reducible rfl)
        try go_frame
        refine wpF_t (i := 2) (oi := opa176380f) (v := ?_) rfl (by kernel_rfl) (fun _ _ _ h => h) (Or.inl ⟨by rfl, ?_⟩) hHeld ?_; rotate_left
        · intro w_ hSw_; (try dsimp only at hSw_); go_simp; (try with_reducible rfl)
        try go_frame
        refine wpF_t (i := 3) (oi := opbb2bac5c) (v := ?_) rfl (by kernel_rfl) (fun _ _ _ h => h) (Or.inl ⟨by rfl, ?_⟩) hHeld ?_; rotate_left
        · intro w_ hSw_; (try dsimp only at hSw_); go_simp; (try with_reducible rfl)
        try go_frame
        refine wpF_t (i := 4) (oi := opd1f33b20) (v := ?_) rfl (by kernel_rfl) (fun _ _ _ h => h) (Or.inl ⟨by rfl, ?_⟩) hHeld ?_; rotate_left
        · intro w_ hSw_; (try dsimp only at hSw_); go_simp; (try with_reducible rfl)
        try go_frame
        refine wpAnyF_one (i := 5) (by kernel_rfl) rfl (fun K hK => ?_)
        go_simp
        (go_at_call 28; (with_reducible refine (Stp_ok M (gd l i) _ _ S_.vm.im.out HOKM.out HDi.out (HT.out.below S_.hb)).mono ?_); rw [HTS.out, HTE.out]; rintro e w34 ⟨rfl, hb⟩; replace S_ := S_.keep hb; replace k1 := k1.keep hb; clear hb)
        refine hK.out _ _ (by exact ⟨⟨S_.vm.c0, S_.vm.c1, S_.vm.c2⟩, k1.c⟩) (fun hHeld => ?_)
        clear hK K
        try go_frame
        refine wpF_t (i := 6) (oi := opeb3f9e84) (v := ?_) rfl (by kernel_rfl) (fun _ _ _ h => h) (Or.inl ⟨by rfl, ?_⟩) hHeld ?_; rotate_left
        · intro w_ hSw_; (try dsimp only at hSw_); go_simp; (try with_reducible rfl)
        try go_frame
        refine wpF_t (i := 7) (oi := opf9bf9165) (v := ?_) rfl (by kernel_rfl) (fun _ _ _ h => h) (Or.inl ⟨by rfl, ?_⟩) hHeld ?_; rotate_left
        · intro w_ hSw_; (try dsimp only at hSw_); go_simp; (try with_reducible rfl)
        try go_frame
        refine wpF_t (i := 8) (oi := op5c6118d9) (v := ?_) rfl (by kernel_rfl) (fun _ _ _ h => h) (Or.inl ⟨by rfl, ?_⟩) hHeld ?_; rotate_left
        · intro w_ hSw_; (try dsimp only at hSw_); go_simp; (try with_reducible rfl)
        try go_frame
        refine wpF_t (i := 9) (oi := op6ddcf0e8) (v := ?_) rfl (by kernel_rfl) (fun _ _ _ h => h) (Or.inl ⟨by rfl, ?_⟩) hHeld ?_; rotate_left
        · intro w_ hSw_; (try dsimp only at hSw_); go_simp; (try with_reducible rfl)
        try go_frame
        refine wpF_t (i := 10) (oi := op3c35d597) (v := ?_) rfl (by kernel_rfl) (fun _ _ _ h => h) (Or.inl ⟨by rfl, ?_⟩) hHeld ?_; rotate_left
        · intro w_ hSw_; (try dsimp only at hSw_); go_simp; (try with_reducible rfl)
        try go_frame
        refine wpAnyF_done (by kernel_rfl) ?_ _
        clear hHeld hWe
        obtain ⟨b8, o8, e8, k2⟩ := S_.h6.el (j := r) (by rw [List.length_map, HLn.out]; omega)
        injection e8 with e8
        injection e8 with e9 e10 e11
        subst e9 e10
        clear e11
        rw [gs_map _ (by rw [HLn.out]; omega)] at k2
        have r2 := k2.c
        go_wp2_with fail
        have S1 := S_
        clear S_ k1 k2 r2
        go_loopg [18] i (fun g kv wr2 => ∃ (k : Nat), g = i - k ∧ kv = .int .i64 k ∧ k ≤ i ∧ CyS w wr2 md A n c A' n' c' M (some ⟨b6, o6, none⟩) c6 (l.map tS) A7 c7 os)
        case atStart => exact ⟨0, rfl, rfl, Nat.zero_le _, S1⟩
        case round =>
          clear S1
          obtain ⟨k, hgk2, rfl, hk, S_⟩ := hrel
          have hk0 : (0 : Int) ≤ (k : Int) := by omega
          by_cases hki : k < i
          · have hk1 : (k : Int) < (i : Int) := by omega
            have hk2 : (k : Int) < (L : Int) := by omega
            obtain ⟨b8, o8, e8, k1⟩ := S_.h6.el (j := k) (by rw [List.length_map, HLn.out]; omega)
            injection e8 with e8
            injection e8 with e9 e10 e11
            subst e9 e10
            clear e11
            rw [gs_map _ (by rw [HLn.out]; omega)] at k1
            obtain ⟨b8, o8, e8, k2⟩ := S_.h6.el (j := i) (by rw [List.length_map, HLn.out]; omega)
            injection e8 with e8
            injection e8 with e9 e10 e11
            subst e9 e10
            clear e11
            rw [gs_map _ (by rw [HLn.out]; omega)] at k2
            have hb : ((tS (gd l k)).toList == (tS (gd l i)).toList) = false := by
              rw [bs_beq]; exact decide_eq_false fun e => HC.out.diff k i hki (by rw [HLn.out]; exact hiL) (tS_inj e)
            go_wp2_with fail
            replace S_ := S_.drew; replace k1 := k1.drew; replace k2 := k2.drew
            generalize hWf : World.drew _ = wf at *
            refine wp_region_F (fun w' => w'.cell? ⟨b6, o6 + k, none⟩ = some (.string (tS (gd l k))) ∧ w'.cell? ⟨b6, o6 + i, none⟩ = some (.string (tS (gd l i)))) [] (by kernel_rfl) (by rw [hWf]; exact ⟨k1.c, k2.c⟩) (fun hHeld => ?_)
            rw [hWf] at hHeld ⊢
            refine wpF_t (i := 0) (oi := opce62d01a) (v := ?_) rfl (by kernel_rfl) (fun _ _ _ h => h) (Or.inl ⟨by rfl, ?_⟩) hHeld ?_; rotate_left
            · intro w_ hSw_; (try dsimp only at hSw_); go_simp; (try with_reducible rfl)
            try go_frame
            refine wpF_t (i := 1) (oi := op1644383e) (v := ?_) rfl (by kernel_rfl) (fun _ _ _ h => h) (Or.inl ⟨by rfl, ?_⟩) hHeld ?_; rotate_left
            · intro w_ hSw_; (try dsimp only at hSw_); go_simp; (try with_reducible rfl)
            try go_frame
            refine wpF_t (i := 2) (oi := op2b97255b) (v := ?_) rfl (by kernel_rfl) (fun _ _ _ h => h) (Or.inl ⟨by rfl, ?_⟩) hHeld ?_; rotate_left
            · intro w_ hSw_; (try dsimp only at hSw_); go_simp; (try with_reducible rfl)
            try go_frame
            refine wpF_t (i := 3) (oi := opff0a7581) (v := ?_) rfl (by kernel_rfl) (fun _ _ _ h => h) (Or.inl ⟨by rfl, ?_⟩) hHeld ?_; rotate_left
            · intro w_ hSw_; (try dsimp only at hSw_); go_simp; (try with_reducible rfl)
            try go_frame
            refine wpF_t (i := 4) (oi := op98e3bab6) (v := ?_) rfl (by kernel_rfl) (fun _ _ _ h => h) (Or.inl ⟨by rfl, ?_⟩) hHeld ?_; rotate_left
            · intro w_ hSw_; (try dsimp only at hSw_); go_simp; (try with_reducible rfl)
            try go_frame
            refine wpF_t (i := 5) (oi := op453b6ed2) (v := ?_) rfl (by kernel_rfl) (fun _ _ _ h => h) (Or.inl ⟨by rfl, ?_⟩) hHeld ?_; rotate_left
            · intro w_ hSw_; (try dsimp only at hSw_); go_simp; (try with_reducible rfl)
            try go_frame
            refine wpF_t (i := 6) (oi := opddc70a92) (v := ?_) rfl (by kernel_rfl) (fun _ _ _ h => h) (Or.inl ⟨by rfl, ?_⟩) hHeld ?_; rotate_left
            · intro w_ hSw_; (try dsimp only at hSw_); go_simp; (try with_reducible rfl)
            try go_frame
            refine wpF_t (i := 7) (oi := opac70e061) (v := ?_) rfl (by kernel_rfl) (fun _ _ _ h => h) (Or.inl ⟨by rfl, ?_⟩) hHeld ?_; rotate_left
            · intro w_ hSw_; (try dsimp only at hSw_); go_simp; (try with_reducible rfl)
            try go_frame
            refine wpF_t (i := 8) (oi := ope38b9bd4) (v := ?_) rfl (by kernel_rfl) (fun _ _ _ h => h) (Or.inl ⟨by rfl, ?_⟩) hHeld ?_; rotate_left
            · intro w_ hSw_; (try dsimp only at hSw_); go_simp; (try with_reducible rfl)
            try go_frame
            refine wpAnyF_done (by kernel_rfl) ?_ _
            clear hHeld hWf
            go_wp2
            go_roundg (i - (k + 1))
            case measure => omega
            case rel => exact ⟨k + 1, rfl, by go_num, by omega, S_⟩
          · have hk1 : ¬ (k : Int) < (i : Int) := by omega
            go_wp2
            go_roundg (L - (i + 1))
            case measure => omega
            case rel => exact ⟨i + 1, rfl, by go_num, by omega, S_⟩
      · have hip1 : ¬ (0 : Int) < (i : Int) := by omega
        have hip2 : decide (0 < i) = false := decide_eq_false hip
        go_wp2_with fail
        replace S_ := S_.drew; replace k1 := k1.drew; replace k0 := k0.drew
        generalize hWd : wr.drew = wd at *
        refine wp_region_F (fun w' => w'.cell? ⟨b6, o6 + i, none⟩ = some (.string (tS (gd l i))) ∧ w'.cell? ⟨b6, o6, none⟩ = some (.string (tS (gd l 0)))) [] (by kernel_rfl) (by rw [hWd]; exact ⟨k1.c, k0.c⟩) (fun hHeld => ?_)
        rw [hWd] at hHeld ⊢
        refine wpF_t (i := 0) (oi := opda4e930b) (v := ?_) rfl (by kernel_rfl) (fun _ _ _ h => h) (Or.inl ⟨by rfl, ?_⟩) hHeld ?_; rotate_left
        · intro w_ hSw_; (try dsimp only at hSw_); go_simp; (try with_reducible rfl)
        try go_frame
        refine wpF_t (i := 1) (oi := op93402ce3) (v := ?_) rfl (by kernel_rfl) (fun _ _ _ h => h) (Or.inl ⟨by rfl, ?_⟩) hHeld ?_; rotate_left
        · intro w_ hSw_; (try dsimp only at hSw_); go_simp; (try with_reducible rfl)
        try go_frame
        refine wpF_t (i := 2) (oi := op8d5abcda) (v := ?_) rfl (by kernel_rfl) (fun _ _ _ h => h) (Or.inl ⟨by rfl, ?_⟩) hHeld ?_; rotate_left
        · intro w_ hSw_; (try dsimp only at hSw_); go_simp; (try with_reducible rfl)
        try go_frame
        refine wpF_t (i := 3) (oi := opfdb98bc2) (v := ?_) rfl (by kernel_rfl) (fun _ _ _ h => h) (Or.inl ⟨by rfl, ?_⟩) hHeld ?_; rotate_left
        · intro w_ hSw_; (try dsimp only at hSw_); go_simp; (try with_reducible rfl)
        try go_frame
        refine wpAnyF_one (i := 4) (by kernel_rfl) rfl (fun K hK => ?_)
        go_simp
        (go_at_call 13; (with_reducible refine (Valid_c _ _ HYs.out).mono ?_); rintro e w9 ⟨rfl, rfl⟩; rw [HYv.out])
        refine hK.out _ _ (by exact ⟨k1.c, k0.c⟩) (fun hHeld => ?_)
        clear hK K
        try go_frame
        refine wpF_t (i := 5) (oi := op4c43557d) (v := ?_) rfl (by kernel_rfl) (fun _ _ _ h => h) (Or.inl ⟨by rfl, ?_⟩) hHeld ?_; rotate_left
        · intro w_ hSw_; (try dsimp only at hSw_); go_simp; (try with_reducible rfl)
        try go_frame
        refine wpF_t (i := 6) (oi := op8b3674a6) (v := ?_) rfl (by kernel_rfl) (fun _ _ _ h => h) (Or.inl ⟨by rfl, ?_⟩) hHeld ?_; rotate_left
        · intro w_ hSw_; (try dsimp only at hSw_); go_simp; (try with_reducible rfl)
        try go_frame
        refine wpF_t (i := 7) (oi := op3496a5e7) (v := ?_) rfl (by kernel_rfl) (fun _ _ _ h => h) (Or.inl ⟨by rfl, ?_⟩) hHeld ?_; rotate_left
        · intro w_ hSw_; (try dsimp only at hSw_); go_simp; (try with_reducible rfl)
        try go_frame
        refine wpF_t (i := 8) (oi := op3b3db892) (v := ?_) rfl (by kernel_rfl) (fun _ _ _ h => h) (Or.inl ⟨by rfl, ?_⟩) hHeld ?_; rotate_left
        · intro w_ hSw_; (try dsimp only at hSw_); go_simp; (try with_reducible rfl)
        try go_frame
        refine wpF_t (i := 9) (oi := op00951318) (v := ?_) rfl (by kernel_rfl) (fun _ _ _ h => h) (Or.inl ⟨by rfl, ?_⟩) hHeld ?_; rotate_left
        · intro w_ hSw_; (try dsimp only at hSw_); go_simp; (try with_reducible rfl)
        try go_frame
        refine wpF_t (i := 10) (oi := op9665891d) rfl (by kernel_rfl) (fun _ _ _ h => h) (Or.inr ⟨by rfl, rfl⟩) hHeld ?_
        try go_frame
        refine wpF_t (i := 11) (oi := op608821ea) rfl (by kernel_rfl) (fun _ _ _ h => h) (Or.inr ⟨by rfl, rfl⟩) hHeld ?_
        try go_frame
        refine wpF_t (i := 12) (oi := opa30b580e) rfl (by kernel_rfl) (fun _ _ _ h => h) (Or.inr ⟨by rfl, rfl⟩) hHeld ?_
        try go_frame
        refine wpF_t (i := 13) (oi := { dst := some 129, op := Go.Op.call { callee := Go.Callee.value (Go.Operand.func 17), args := #[Go.Operand.tmp 128], argTypes := #[9] }, type := 39, pos := "law.go:164", after := #[{ on := 12, ground := Go.Ground.data }, { on := 9, ground := Go.Ground.chain }, { on := 9, ground := Go.Ground.guard }], guard := some (9, true) }) rfl (by kernel_rfl) (fun _ _ _ h => h) (Or.inr ⟨by rfl, rfl⟩) hHeld ?_
        try go_frame
        refine wpF_t (i := 14) (oi := op38ef180e) rfl (by kernel_rfl) (fun _ _ _ h => h) (Or.inr ⟨by rfl, rfl⟩) hHeld ?_
        try go_frame
        refine wpF_t (i := 15) (oi := op70777863) rfl (by kernel_rfl) (fun _ _ _ h => h) (Or.inr ⟨by rfl, rfl⟩) hHeld ?_
        try go_frame
        refine wpF_t (i := 16) (oi := op40128f66) rfl (by kernel_rfl) (fun _ _ _ h => h) (Or.inr ⟨by rfl, rfl⟩) hHeld ?_
        try go_frame
        refine wpF_t (i := 17) (oi := opd03b048a) rfl (by kernel_rfl) (fun _ _ _ h => h) (Or.inr ⟨by rfl, rfl⟩) hHeld ?_
        try go_frame
        refine wpF_t (i := 18) (oi := { dst := some 134, op := Go.Op.call { callee := Go.Callee.value (Go.Operand.func 17), args := #[Go.Operand.tmp 133], argTypes := #[9] }, type := 39, pos := "law.go:164", after := #[{ on := 17, ground := Go.Ground.data }, { on := 13, ground := Go.Ground.chain }, { on := 9, ground := Go.Ground.guard }], guard := some (9, true) }) rfl (by kernel_rfl) (fun _ _ _ h => h) (Or.inr ⟨by rfl, rfl⟩) hHeld ?_
        try go_frame
        refine wpF_t (i := 19) (oi := { dst := some 135, op := Go.Op.call { callee := Go.Callee.value (Go.Operand.func 27), args := #[Go.Operand.tmp 129, Go.Operand.tmp 134], argTypes := #[39, 39] }, type := 3, pos := "law.go:164", after := #[{ on := 13, ground := Go.Ground.data }, { on := 18, ground := Go.Ground.data }, { on := 18, ground := Go.Ground.chain }, { on := 9, ground := Go.Ground.guard }], guard := some (9, true) }) rfl (by kernel_rfl) (fun _ _ _ h => h) (Or.inr ⟨by rfl, rfl⟩) hHeld ?_
        try go_frame
        refine wpF_t (i := 20) (oi := op6bed30c4) rfl (by kernel_rfl) (fun _ _ _ h => h) (Or.inr ⟨by rfl, rfl⟩) hHeld ?_
        try go_frame
        refine wpF_t (i := 21) (oi := op8a6a72a9) (v := ?_) rfl (by kernel_rfl) (fun _ _ _ h => h) (Or.inl ⟨by rfl, ?_⟩) hHeld ?_; rotate_left
        · intro w_ hSw_; (try dsimp only at hSw_); go_simp; (try with_reducible rfl)
        try go_frame
        refine wpF_t (i := 22) (oi := op3e55d0b8) (v := ?_) rfl (by kernel_rfl) (fun _ _ _ h => h) (Or.inl ⟨by rfl, ?_⟩) hHeld ?_; rotate_left
        · intro w_ hSw_; (try dsimp only at hSw_); go_simp; (try with_reducible rfl)
        try go_frame
        refine wpAnyF_done (by kernel_rfl) ?_ _
        clear hHeld hWd k0
        go_wp2_with fail
        replace S_ := S_.drew; replace k1 := k1.drew
        generalize hWe : World.drew _ = we at *
        refine wp_region_F (fun w' => (w'.cell? ⟨w.heap.size, 0, none⟩ = some (.int .i64 md) ∧ w'.cell? ⟨w.heap.size, 1, none⟩ = some (.slice A n c) ∧ w'.cell? ⟨w.heap.size, 2, none⟩ = some (.slice A' n' c')) ∧ w'.cell? ⟨b6, o6 + i, none⟩ = some (.string (tS (gd l i)))) [] (by kernel_rfl) (by rw [hWe]; exact ⟨⟨S_.vm.c0, S_.vm.c1, S_.vm.c2⟩, k1.c⟩) (fun hHeld => ?_)
        rw [hWe] at hHeld ⊢
        refine wpF_t (i := 0) (oi := op5177b618) (v := ?_) rfl (by kernel_rfl) (fun _ _ _ h => h) (Or.inl ⟨by rfl, ?_⟩) hHeld ?_; rotate_left
        · intro w_ hSw_; (try dsimp only at hSw_); go_simp; (try with_reducible rfl)
        try go_frame
        refine wpF_t (i := 1) (oi := op83908b2c) (v := ?_) rfl (by kernel_rfl) (fun _ _ _ h => h) (Or.inl ⟨by rfl, ?_⟩) hHeld ?_; rotate_left
        · intro w_ hSw_; (try dsimp only at hSw_); go_simp; (try with_reducible rfl)
        try go_frame
        refine wpF_t (i := 2) (oi := opa176380f) (v := ?_) rfl (by kernel_rfl) (fun _ _ _ h => h) (Or.inl ⟨by rfl, ?_⟩) hHeld ?_; rotate_left
        · intro w_ hSw_; (try dsimp only at hSw_); go_simp; (try with_reducible rfl)
        try go_frame
        refine wpF_t (i := 3) (oi := opbb2bac5c) (v := ?_) rfl (by kernel_rfl) (fun _ _ _ h => h) (Or.inl ⟨by rfl, ?_⟩) hHeld ?_; rotate_left
        · intro w_ hSw_; (try dsimp only at hSw_); go_simp; (try with_reducible rfl)
        try go_frame
        refine wpF_t (i := 4) (oi := opd1f33b20) (v := ?_) rfl (by kernel_rfl) (fun _ _ _ h => h) (Or.inl ⟨by rfl, ?_⟩) hHeld ?_; rotate_left
        · intro w_ hSw_; (try dsimp only at hSw_); go_simp; (try with_reducible rfl)
        try go_frame
        refine wpAnyF_one (i := 5) (by kernel_rfl) rfl (fun K hK => ?_)
        go_simp
        (go_at_call 28; (with_reducible refine (Stp_ok M (gd l i) _ _ S_.vm.im.out HOKM.out HDi.out (HT.out.below S_.hb)).mono ?_); rw [HTS.out, HTE.out]; rintro e w34 ⟨rfl, hb⟩; replace S_ := S_.keep hb; replace k1 := k1.keep hb; clear hb)
        refine hK.out _ _ (by exact ⟨⟨S_.vm.c0, S_.vm.c1, S_.vm.c2⟩, k1.c⟩) (fun hHeld => ?_)
        clear hK K
        try go_frame
        refine wpF_t (i := 6) (oi := opeb3f9e84) (v := ?_) rfl (by kernel_rfl) (fun _ _ _ h => h) (Or.inl ⟨by rfl, ?_⟩) hHeld ?_; rotate_left
        · intro w_ hSw_; (try dsimp only at hSw_); go_simp; (try with_reducible rfl)
        try go_frame
        refine wpF_t (i := 7) (oi := opf9bf9165) (v := ?_) rfl (by kernel_rfl) (fun _ _ _ h => h) (Or.inl ⟨by rfl, ?_⟩) hHeld ?_; rotate_left
        · intro w_ hSw_; (try dsimp only at hSw_); go_simp; (try with_reducible rfl)
        try go_frame
        refine wpF_t (i := 8) (oi := op5c6118d9) (v := ?_) rfl (by kernel_rfl) (fun _ _ _ h => h) (Or.inl ⟨by rfl, ?_⟩) hHeld ?_; rotate_left
        · intro w_ hSw_; (try dsimp only at hSw_); go_simp; (try with_reducible rfl)
        try go_frame
        refine wpF_t (i := 9) (oi := op6ddcf0e8) (v := ?_) rfl (by kernel_rfl) (fun _ _ _ h => h) (Or.inl ⟨by rfl, ?_⟩) hHeld ?_; rotate_left
        · intro w_ hSw_; (try dsimp only at hSw_); go_simp; (try with_reducible rfl)
        try go_frame
        refine wpF_t (i := 10) (oi := op3c35d597) (v := ?_) rfl (by kernel_rfl) (fun _ _ _ h => h) (Or.inl ⟨by rfl, ?_⟩) hHeld ?_; rotate_left
        · intro w_ hSw_; (try dsimp only at hSw_); go_simp; (try with_reducible rfl)
        try go_frame
        refine wpAnyF_done (by kernel_rfl) ?_ _
        clear hHeld hWe
        obtain ⟨b8, o8, e8, k2⟩ := S_.h6.el (j := r) (by rw [List.length_map, HLn.out]; omega)
        injection e8 with e8
        injection e8 with e9 e10 e11
        subst e9 e10
        clear e11
        rw [gs_map _ (by rw [HLn.out]; omega)] at k2
        have r2 := k2.c
        go_wp2_with fail
        have S1 := S_
        clear S_ k1 k2 r2
        go_loopg [18] i (fun g kv wr2 => ∃ (k : Nat), g = i - k ∧ kv = .int .i64 k ∧ k ≤ i ∧ CyS w wr2 md A n c A' n' c' M (some ⟨b6, o6, none⟩) c6 (l.map tS) A7 c7 os)
        case atStart => exact ⟨0, rfl, rfl, Nat.zero_le _, S1⟩
        case round =>
          clear S1
          obtain ⟨k, hgk2, rfl, hk, S_⟩ := hrel
          have hk0 : (0 : Int) ≤ (k : Int) := by omega
          by_cases hki : k < i
          · have hk1 : (k : Int) < (i : Int) := by omega
            have hk2 : (k : Int) < (L : Int) := by omega
            obtain ⟨b8, o8, e8, k1⟩ := S_.h6.el (j := k) (by rw [List.length_map, HLn.out]; omega)
            injection e8 with e8
            injection e8 with e9 e10 e11
            subst e9 e10
            clear e11
            rw [gs_map _ (by rw [HLn.out]; omega)] at k1
            obtain ⟨b8, o8, e8, k2⟩ := S_.h6.el (j := i) (by rw [List.length_map, HLn.out]; omega)
            injection e8 with e8
            injection e8 with e9 e10 e11
            subst e9 e10
            clear e11
            rw [gs_map _ (by rw [HLn.out]; omega)] at k2
            have hb : ((tS (gd l k)).toList == (tS (gd l i)).toList) = false := by
              rw [bs_beq]; exact decide_eq_false fun e => HC.out.diff k i hki (by rw [HLn.out]; exact hiL) (tS_inj e)
            go_wp2_with fail
            replace S_ := S_.drew; replace k1 := k1.drew; replace k2 := k2.drew
            generalize hWf : World.drew _ = wf at *
            refine wp_region_F (fun w' => w'.cell? ⟨b6, o6 + k, none⟩ = some (.string (tS (gd l k))) ∧ w'.cell? ⟨b6, o6 + i, none⟩ = some (.string (tS (gd l i)))) [] (by kernel_rfl) (by rw [hWf]; exact ⟨k1.c, k2.c⟩) (fun hHeld => ?_)
            rw [hWf] at hHeld ⊢
            refine wpF_t (i := 0) (oi := opce62d01a) (v := ?_) rfl (by kernel_rfl) (fun _ _ _ h => h) (Or.inl ⟨by rfl, ?_⟩) hHeld ?_; rotate_left
            · intro w_ hSw_; (try dsimp only at hSw_); go_simp; (try with_reducible rfl)
            try go_frame
            refine wpF_t (i := 1) (oi := op1644383e) (v := ?_) rfl (by kernel_rfl) (fun _ _ _ h => h) (Or.inl ⟨by rfl, ?_⟩) hHeld ?_; rotate_left
            · intro w_ hSw_; (try dsimp only at hSw_); go_simp; (try with_reducible rfl)
            try go_frame
            refine wpF_t (i := 2) (oi := op2b97255b) (v := ?_) rfl (by kernel_rfl) (fun _ _ _ h => h) (Or.inl ⟨by rfl, ?_⟩) hHeld ?_; rotate_left
            · intro w_ hSw_; (try dsimp only at hSw_); go_simp; (try with_reducible rfl)
            try go_frame
            refine wpF_t (i := 3) (oi := opff0a7581) (v := ?_) rfl (by kernel_rfl) (fun _ _ _ h => h) (Or.inl ⟨by rfl, ?_⟩) hHeld ?_; rotate_left
            · intro w_ hSw_; (try dsimp only at hSw_); go_simp; (try with_reducible rfl)
            try go_frame
            refine wpF_t (i := 4) (oi := op98e3bab6) (v := ?_) rfl (by kernel_rfl) (fun _ _ _ h => h) (Or.inl ⟨by rfl, ?_⟩) hHeld ?_; rotate_left
            · intro w_ hSw_; (try dsimp only at hSw_); go_simp; (try with_reducible rfl)
            try go_frame
            refine wpF_t (i := 5) (oi := op453b6ed2) (v := ?_) rfl (by kernel_rfl) (fun _ _ _ h => h) (Or.inl ⟨by rfl, ?_⟩) hHeld ?_; rotate_left
            · intro w_ hSw_; (try dsimp only at hSw_); go_simp; (try with_reducible rfl)
            try go_frame
            refine wpF_t (i := 6) (oi := opddc70a92) (v := ?_) rfl (by kernel_rfl) (fun _ _ _ h => h) (Or.inl ⟨by rfl, ?_⟩) hHeld ?_; rotate_left
            · intro w_ hSw_; (try dsimp only at hSw_); go_simp; (try with_reducible rfl)
            try go_frame
            refine wpF_t (i := 7) (oi := opac70e061) (v := ?_) rfl (by kernel_rfl) (fun _ _ _ h => h) (Or.inl ⟨by rfl, ?_⟩) hHeld ?_; rotate_left
            · intro w_ hSw_; (try dsimp only at hSw_); go_simp; (try with_reducible rfl)
            try go_frame
            refine wpF_t (i := 8) (oi := ope38b9bd4) (v := ?_) rfl (by kernel_rfl) (fun _ _ _ h => h) (Or.inl ⟨by rfl, ?_⟩) hHeld ?_; rotate_left
            · intro w_ hSw_; (try dsimp only at hSw_); go_simp; (try with_reducible rfl)
            try go_frame
            refine wpAnyF_done (by kernel_rfl) ?_ _
            clear hHeld hWf
            go_wp2
            go_roundg (i - (k + 1))
            case measure => omega
            case rel => exact ⟨k + 1, rfl, by go_num, by omega, S_⟩
          · have hk1 : ¬ (k : Int) < (i : Int) := by omega
            go_wp2
            go_roundg (L - (i + 1))
            case measure => omega
            case rel => exact ⟨i + 1, rfl, by go_num, by omega, S_⟩
    · have hi1 : ¬ (i : Int) < (L : Int) := by omega
      obtain ⟨b7, o7, rfl, -⟩ := S_.h7.el (j := t) (by rw [HOLn.out]; omega)
      have H6 := S_.h6
      have H7 := S_.h7
      have hc7 := S_.h7.2.1
      rw [HOLn.out] at hc7
      have htc : (t : Int) ≤ (c7 : Int) := by omega
      have htc1 : (t : Int) + 1 ≤ (c7 : Int) := by omega
      have htc2 : ¬ c7 = t := by omega
      have htw : IntKind.i64.wrap ((t : Int) + 1) = (t : Int) + 1 := by rw [IntKind.wrap_i64]; omega
      have HB := S_.hb
      clear S_
      go_wp2_with fail
      (with_reducible refine (among_n _ _ _ _ (os.take t) (l.map tS) _ (H7.take (by rw [HOLn.out]; omega)) H6 (by rw [List.length_take, HOLn.out]; omega) (by rw [List.length_map, HLn.out]) HA1.out).mono ?_)
      rintro e w41 ⟨rfl, hb⟩
      replace HB := below_step HB hb
      replace H6 := H6.below hb
      replace H7 := H7.below hb
      clear hb
      go_wp2_with fail
      have HD7 := (H7.drop (n := t) (by rw [HOLn.out]; omega)).take (n := 1) (by rw [List.length_drop, HOLn.out]; omega)
      (with_reducible refine (among_n _ _ _ _ ((os.drop t).take 1) (l.map tS) _ HD7 H6 (by rw [List.length_take, List.length_drop, HOLn.out]; omega) (by rw [List.length_map, HLn.out]) HA2.out).mono ?_)
      rintro e w42 ⟨rfl, hb⟩
      replace HB := below_step HB hb
      clear hb HD7 H6 H7
      go_wp2_with fail
      (with_reducible refine (awake5_c _ (HT.out.below HB)).mono ?_)
      rintro e w20 ⟨he, hb⟩
      replace HB := below_step HB hb
      clear hb
      subst he
      go_wp2
      go_ret
      exact ⟨rfl, HB⟩
theorem FCy_law (M : Mp) (s : ByteArray) (most : Int) (v : Value) (w : World) (hM : IsM w v M) (ht : Tb w) (hs : s.size ≤ 9223372036854775807) : Calls Tryd.prog 7 #[v, .string s, .int .i64 most] w fun e w' => e = .returned (.bool true) ∧ Below w.heap.size w w' := by
  by_cases hok : okB M = true
  · rcases vld_cases s with hv | ⟨z, rfl, hz⟩
    · exact FCy_bad M s most v w hM ht hs (.inr hv)
    · by_cases hb : most < 0 ∨ 1000 < most
      · exact FCy_arg M z most v w hM ht (okB_iff.1 hok) hz hb
      · obtain ⟨m, rfl⟩ := Int.eq_ofNat_of_zero_le (show 0 ≤ most by omega)
        rcases flw_cases M z m with h | h | ⟨t, l, h, -⟩
        · exact FCy_3 M z m v w hM ht (okB_iff.1 hok) hz (by omega) h
        · exact FCy_4 M z m v w hM ht (okB_iff.1 hok) hz (by omega) h
        · exact FCy_0 M z m v w hM ht (okB_iff.1 hok) hz (by omega) t l h
  · exact FCy_bad M s most v w hM ht hs (.inl (by revert hok; cases okB M <;> simp))
end Go.Proofs.YtiaeeclmlchpoaaDoor
