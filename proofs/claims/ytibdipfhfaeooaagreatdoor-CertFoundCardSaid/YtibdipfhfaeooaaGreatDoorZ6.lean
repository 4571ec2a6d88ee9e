/- What whole's Cmp, Neg, Add, Sub do to memory and what they return. No condition. -/
import Derived.Test.YtibdipfhfaeooaaGreatDoorZ5
import Derived.Test.YtibdipfhfaeooaaGreatDoorZ3
import Derived.Maps.RangeWalk
import Derived.Test.YtibdipfhfaeooaaGreatDoorZ2
import Derived.Deep.CutRange
set_option linter.unusedVariables false
set_option linter.unusedSimpArgs false
namespace Go.Proofs.YtibdipfhfaeooaaGreatDoor
open Go.RowKit

abbrev oae437 : Oper := { dst := some 6, op := Go.Op.load 118 (Go.Operand.tmp 2), type := 118, pos := "whole.go:111", after := #[], guard := none }
abbrev o9c065 : Oper := { dst := some 8, op := Go.Op.load 118 (Go.Operand.tmp 3), type := 118, pos := "whole.go:111", after := #[], guard := none }
abbrev oda13e : Oper := { dst := some 10, op := Go.Op.binOp Go.BinOp.neq 3 (Go.Operand.tmp 7) (Go.Operand.tmp 9) 3, type := 4, pos := "whole.go:111", after := #[{ on := 1, ground := Go.Ground.data }, { on := 3, ground := Go.Ground.data }], guard := none }
abbrev od1474 : Oper := { dst := some 5, op := Go.Op.assign (Go.Operand.tmp 10), type := 4, pos := "whole.go:111", after := #[{ on := 4, ground := Go.Ground.data }, { on := 3, ground := Go.Ground.chain }], guard := none }
abbrev oea50f : Oper := { dst := some 11, op := Go.Op.load 118 (Go.Operand.tmp 2), type := 118, pos := "whole.go:112", after := #[], guard := none }
abbrev od30b0 : Oper := { dst := some 13, op := Go.Op.load 118 (Go.Operand.tmp 3), type := 118, pos := "whole.go:112", after := #[], guard := none }
abbrev oc5386 : Oper := { dst := some 15, op := Go.Op.binOp Go.BinOp.sub 3 (Go.Operand.tmp 12) (Go.Operand.tmp 14) 3, type := 3, pos := "whole.go:112", after := #[{ on := 1, ground := Go.Ground.data }, { on := 3, ground := Go.Ground.data }], guard := none }
abbrev o33f57 : Oper := { dst := some 16, op := Go.Op.call { callee := Go.Callee.builtin Go.Builtin.max, args := #[Go.Operand.const (Go.Value.int Go.IntKind.i64 (-1)), Go.Operand.tmp 15], argTypes := #[3, 3] }, type := 3, pos := "whole.go:112", after := #[{ on := 4, ground := Go.Ground.data }], guard := none }
abbrev o59c81 : Oper := { dst := some 17, op := Go.Op.call { callee := Go.Callee.builtin Go.Builtin.min, args := #[Go.Operand.const (Go.Value.int Go.IntKind.i64 1), Go.Operand.tmp 16], argTypes := #[3, 3] }, type := 3, pos := "whole.go:112", after := #[{ on := 5, ground := Go.Ground.data }], guard := none }
abbrev o147cf : Oper := { dst := some 4, op := Go.Op.assign (Go.Operand.tmp 17), type := 3, pos := "whole.go:112", after := #[{ on := 6, ground := Go.Ground.data }, { on := 3, ground := Go.Ground.chain }, { on := 0, ground := Go.Ground.phase }, { on := 1, ground := Go.Ground.phase }, { on := 2, ground := Go.Ground.phase }, { on := 3, ground := Go.Ground.phase }, { on := 4, ground := Go.Ground.phase }, { on := 5, ground := Go.Ground.phase }, { on := 6, ground := Go.Ground.phase }], guard := none }
attribute [local go_sem] oae437 o9c065 oda13e od1474 oea50f od30b0 oc5386 o33f57 o59c81 o147cf
abbrev VH (W : World) (b : Nat) (nv : Bool) (A : Option Addr) (n c : Nat) (z : Int) : Prop := VX B9 .u32 W b nv A n c z
theorem IsZ.sl {B : Nat} {k : IntKind} {W : World} {nv : Bool} {A : Option Addr} {n c : Nat} {z : Int} (h : IsZ B k W (.agg #[.bool nv, .slice A n c]) z) : nv = decide (z < 0) ∧ n = (dg B z).length ∧ SlI W k A c (dg B z) := by
 obtain ⟨A', c', e, hs⟩ := h
 injection e with e
 simp only [Array.mk.injEq, List.cons.injEq, Value.bool.injEq, Value.slice.injEq, and_true] at e
 obtain ⟨e0, rfl, e1, rfl⟩ := e
 exact ⟨e0, e1, hs⟩
/-- Two numbers come in: their blocks. -/
theorem start2H (w : World) {na nb : Bool} {A1 A2 : Option Addr} {n1 c1 n2 c2 : Nat} {x y : Int} (t : TypeId) (W : World)
  (h1 : IsH w (.agg #[.bool na, .slice A1 n1 c1]) x) (h2 : IsH w (.agg #[.bool nb, .slice A2 n2 c2]) y)
  (hW : (w.alloc (.cells #[.bool na, .slice A1 n1 c1] t)).alloc (.cells #[.bool nb, .slice A2 n2 c2] t) = W) :
  VH W w.heap.size na A1 n1 c1 x ∧ VH W (w.heap.size + 1) nb A2 n2 c2 y ∧ W.heap.size = w.heap.size + 1 + 1 ∧ Below w.heap.size w W := by
 have k1 := VX.new w t h1
 have k2 := VX.new (w.alloc (.cells #[.bool na, .slice A1 n1 c1] t)) t (h2.below (below_alloc (Below.refl _ _) _))
 have e : (w.alloc (.cells #[.bool na, .slice A1 n1 c1] t)).heap.size = w.heap.size + 1 := by simp
 rw [e] at k2
 subst hW
 exact ⟨k1.keep (below_alloc (Below.refl _ _) _), k2, by simp, below_alloc (below_alloc (Below.refl _ _) _) _⟩
theorem hSign_s (x : Int) (v : Value) (w : World) (h : IsH w v x) :
  Calls Tryz.prog 130 #[v] w fun e w' => e = .returned (.int .i64 (sgn x)) ∧ Below w.heap.size w w' := hSign_c x v w h
theorem sgn_r (x : Int) : -1 ≤ sgn x ∧ sgn x ≤ 1 := by unfold sgn; split <;> (try split) <;> omega
theorem sgn_icmp {x y : Int} (h : sgn x ≠ sgn y) : (sgn x < sgn y ∧ icmp x y = -1) ∨ (sgn y < sgn x ∧ icmp x y = 1) := by
 unfold sgn at h ⊢; unfold icmp
 by_cases a : x = 0 <;> by_cases b : y = 0 <;> by_cases c : x < 0 <;> by_cases d : y < 0 <;> simp_all <;> omega
set_option maxRecDepth 100000 in
set_option maxHeartbeats 2000000 in
theorem hCmp_c (x y : Int) (v1 v2 : Value) (w : World) (h1 : IsH w v1 x) (h2 : IsH w v2 y) :
  Calls Tryz.prog 90 #[v1, v2] w fun e w' => e = .returned (.int .i64 (icmp x y)) ∧ Below w.heap.size w w' := by
 obtain ⟨na, A1, n1, c1, rfl, H1⟩ := h1.form
 obtain ⟨nb, A2, n2, c2, rfl, H2⟩ := h2.form
 clear h1 h2
 have hsx := sgn_r x
 have hsy := sgn_r y
 by_cases hne : sgn x = sgn y
 ·have hq : (sgn x != sgn y) = false := by simpa using hne
  have hxy : (x < 0 ↔ y < 0) := by
   have h := hne
   unfold sgn at h
   by_cases a : x = 0 <;> by_cases b : y = 0 <;> by_cases c : x < 0 <;> by_cases d : y < 0 <;> simp_all <;> omega
  have hna := H1.out.sl.1
  by_cases hneg : x < 0
  ·have hn : na = true := by rw [hna]; simpa using hneg
   clear hna
   subst hn
   go_enter Tryz.func90, Tryz.ntmps90
   go_wp2_with fail
   generalize hW : (w.alloc (Obj.cells #[Value.bool true, Value.slice A1 n1 c1] 118)).alloc (Obj.cells #[Value.bool nb, Value.slice A2 n2 c2] 118) = W at *
   obtain ⟨V2, V3, hs, HB⟩ := start2H w _ W H1.out H2.out hW
   clear hW H1 H2
   replace V2 := V2.drew; replace V3 := V3.drew; replace HB := below_drew HB
   generalize hWd : W.drew = wd at *
   refine wp_region_F (fun w' => w'.cell? ⟨w.heap.size, 0, none⟩ = some (.bool true) ∧ w'.cell? ⟨w.heap.size, 1, none⟩ = some (.slice A1 n1 c1) ∧ w'.cell? ⟨w.heap.size + 1, 0, none⟩ = some (.bool nb) ∧ w'.cell? ⟨w.heap.size + 1, 1, none⟩ = some (.slice A2 n2 c2)) [] (by kernel_rfl) (by rw [hWd]; exact ⟨V2.c0, V2.c1, V3.c0, V3.c1⟩) (fun hHeld => ?_)
   rw [hWd] at hHeld ⊢
   refine tF 0 oae437 hHeld ?_; try go_frame
   refine tF 2 o9c065 hHeld ?_; try go_frame
   refine wpAnyF_one (i := 1) (by kernel_rfl) rfl (fun K hK => ?_)
   go_simp
   (go_at_call 130; (with_reducible refine (hSign_s x _ _ (by exact V2.iz.out)).mono ?_); rintro e w1 ⟨rfl, hb⟩; replace V2 := V2.keep hb; replace V3 := V3.keep hb; replace HB := below_step HB hb; clear hb)
   refine hK.out _ _ (by exact ⟨V2.c0, V2.c1, V3.c0, V3.c1⟩) (fun hHeld => ?_)
   clear hK K
   try go_frame
   refine wpAnyF_one (i := 3) (by kernel_rfl) rfl (fun K hK => ?_)
   go_simp
   (go_at_call 130; (with_reducible refine (hSign_s y _ _ (by exact V3.iz.out)).mono ?_); rintro e w2 ⟨rfl, hb⟩; replace V2 := V2.keep hb; replace V3 := V3.keep hb; replace HB := below_step HB hb; clear hb)
   refine hK.out _ _ (by exact ⟨V2.c0, V2.c1, V3.c0, V3.c1⟩) (fun hHeld => ?_)
   clear hK K
   try go_frame
   refine tF 4 oda13e hHeld ?_; try go_frame
   refine tF 5 od1474 hHeld ?_; try go_frame
   refine wpAnyF_done (by kernel_rfl) ?_ _
   clear hHeld hWd
   have va0 := V2.c0; have va1 := V2.c1; have vb0 := V3.c0; have vb1 := V3.c1
   obtain ⟨-, hn1, L1⟩ := V2.iz.out.sl
   obtain ⟨-, hn2, L2⟩ := V3.iz.out.sl
   have HC : Hid (∀ w', w' = w2 → Calls Tryz.prog 131 #[.slice A2 n2 c2, .slice A1 n1 c1] w' fun e w'' => e = .returned (.int .i64 (icmp x y)) ∧ Below w'.heap.size w' w'') := fun w' hw => by
    subst hw
    rw [hn2, hn1]
    refine (hcompare_b _ _ _ _ _ _ _ L2 L1 (dg_dg B9two _) (dg_dg B9two _) (dg_nm B9two _) (dg_nm B9two _)).mono ?_
    rintro e w'' ⟨rfl, hb⟩
    exact ⟨by rw [dg_V B9two, dg_V B9two]; congr 2; have := hxy.1 hneg; unfold icmp; split <;> (try split) <;> (try split) <;> (try split) <;> omega, hb⟩
   clear hn1 hn2 L1 L2
   go_wp2_with fail
   (with_reducible refine (HC.out _ rfl).mono ?_)
   rintro e w9 ⟨rfl, hb⟩
   replace HB := below_step HB hb
   clear hb va0 va1 vb0 vb1 HC
   go_wp2
   go_ret
   exact ⟨rfl, HB⟩
  ·have hn : na = false := by rw [hna]; simpa using hneg
   clear hna
   subst hn
   go_enter Tryz.func90, Tryz.ntmps90
   go_wp2_with fail
   generalize hW : (w.alloc (Obj.cells #[Value.bool false, Value.slice A1 n1 c1] 118)).alloc (Obj.cells #[Value.bool nb, Value.slice A2 n2 c2] 118) = W at *
   obtain ⟨V2, V3, hs, HB⟩ := start2H w _ W H1.out H2.out hW
   clear hW H1 H2
   replace V2 := V2.drew; replace V3 := V3.drew; replace HB := below_drew HB
   generalize hWd : W.drew = wd at *
   refine wp_region_F (fun w' => w'.cell? ⟨w.heap.size, 0, none⟩ = some (.bool false) ∧ w'.cell? ⟨w.heap.size, 1, none⟩ = some (.slice A1 n1 c1) ∧ w'.cell? ⟨w.heap.size + 1, 0, none⟩ = some (.bool nb) ∧ w'.cell? ⟨w.heap.size + 1, 1, none⟩ = some (.slice A2 n2 c2)) [] (by kernel_rfl) (by rw [hWd]; exact ⟨V2.c0, V2.c1, V3.c0, V3.c1⟩) (fun hHeld => ?_)
   rw [hWd] at hHeld ⊢
   refine tF 0 oae437 hHeld ?_; try go_frame
   refine tF 2 o9c065 hHeld ?_; try go_frame
   refine wpAnyF_one (i := 1) (by kernel_rfl) rfl (fun K hK => ?_)
   go_simp
   (go_at_call 130; (with_reducible refine (hSign_s x _ _ (by exact V2.iz.out)).mono ?_); rintro e w1 ⟨rfl, hb⟩; replace V2 := V2.keep hb; replace V3 := V3.keep hb; replace HB := below_step HB hb; clear hb)
   refine hK.out _ _ (by exact ⟨V2.c0, V2.c1, V3.c0, V3.c1⟩) (fun hHeld => ?_)
   clear hK K
   try go_frame
   refine wpAnyF_one (i := 3) (by kernel_rfl) rfl (fun K hK => ?_)
   go_simp
   (go_at_call 130; (with_reducible refine (hSign_s y _ _ (by exact V3.iz.out)).mono ?_); rintro e w2 ⟨rfl, hb⟩; replace V2 := V2.keep hb; replace V3 := V3.keep hb; replace HB := below_step HB hb; clear hb)
   refine hK.out _ _ (by exact ⟨V2.c0, V2.c1, V3.c0, V3.c1⟩) (fun hHeld => ?_)
   clear hK K
   try go_frame
   refine tF 4 oda13e hHeld ?_; try go_frame
   refine tF 5 od1474 hHeld ?_; try go_frame
   refine wpAnyF_done (by kernel_rfl) ?_ _
   clear hHeld hWd
   have va0 := V2.c0; have va1 := V2.c1; have vb0 := V3.c0; have vb1 := V3.c1
   obtain ⟨-, hn1, L1⟩ := V2.iz.out.sl
   obtain ⟨-, hn2, L2⟩ := V3.iz.out.sl
   have HC : Hid (∀ w', w' = w2 → Calls Tryz.prog 131 #[.slice A1 n1 c1, .slice A2 n2 c2] w' fun e w'' => e = .returned (.int .i64 (icmp x y)) ∧ Below w'.heap.size w' w'') := fun w' hw => by
    subst hw
    rw [hn1, hn2]
    refine (hcompare_b _ _ _ _ _ _ _ L1 L2 (dg_dg B9two _) (dg_dg B9two _) (dg_nm B9two _) (dg_nm B9two _)).mono ?_
    rintro e w'' ⟨rfl, hb⟩
    exact ⟨by rw [dg_V B9two, dg_V B9two]; congr 2; have hy0 : ¬ y < 0 := fun h => (by have := hxy.2 h; omega); unfold icmp; split <;> (try split) <;> (try split) <;> (try split) <;> omega, hb⟩
   clear hn1 hn2 L1 L2
   go_wp2_with fail
   (with_reducible refine (HC.out _ rfl).mono ?_)
   rintro e w9 ⟨rfl, hb⟩
   replace HB := below_step HB hb
   clear hb va0 va1 vb0 vb1 HC
   go_wp2
   go_ret
   exact ⟨rfl, HB⟩
 ·have hq : (sgn x != sgn y) = true := by simpa using hne
  have hw1 : IntKind.i64.wrap (sgn x - sgn y) = sgn x - sgn y := by rw [IntKind.wrap_i64]; omega
  rcases sgn_icmp hne with ⟨h3, h4⟩ | ⟨h3, h4⟩
  ·have hmx : max (-1) (sgn x - sgn y) = -1 := by omega
   have HI := Lib.hid h4
   clear h4 hne
   go_enter Tryz.func90, Tryz.ntmps90
   go_wp2_with fail
   generalize hW : (w.alloc (Obj.cells #[Value.bool na, Value.slice A1 n1 c1] 118)).alloc (Obj.cells #[Value.bool nb, Value.slice A2 n2 c2] 118) = W at *
   obtain ⟨V2, V3, hs, HB⟩ := start2H w _ W H1.out H2.out hW
   clear hW H1 H2
   replace V2 := V2.drew; replace V3 := V3.drew; replace HB := below_drew HB
   generalize hWd : W.drew = wd at *
   refine wp_region_F (fun w' => w'.cell? ⟨w.heap.size, 0, none⟩ = some (.bool na) ∧ w'.cell? ⟨w.heap.size, 1, none⟩ = some (.slice A1 n1 c1) ∧ w'.cell? ⟨w.heap.size + 1, 0, none⟩ = some (.bool nb) ∧ w'.cell? ⟨w.heap.size + 1, 1, none⟩ = some (.slice A2 n2 c2)) [] (by kernel_rfl) (by rw [hWd]; exact ⟨V2.c0, V2.c1, V3.c0, V3.c1⟩) (fun hHeld => ?_)
   rw [hWd] at hHeld ⊢
   refine tF 0 oae437 hHeld ?_; try go_frame
   refine tF 2 o9c065 hHeld ?_; try go_frame
   refine wpAnyF_one (i := 1) (by kernel_rfl) rfl (fun K hK => ?_)
   go_simp
   (go_at_call 130; (with_reducible refine (hSign_s x _ _ (by exact V2.iz.out)).mono ?_); rintro e w1 ⟨rfl, hb⟩; replace V2 := V2.keep hb; replace V3 := V3.keep hb; replace HB := below_step HB hb; clear hb)
   refine hK.out _ _ (by exact ⟨V2.c0, V2.c1, V3.c0, V3.c1⟩) (fun hHeld => ?_)
   clear hK K
   try go_frame
   refine wpAnyF_one (i := 3) (by kernel_rfl) rfl (fun K hK => ?_)
   go_simp
   (go_at_call 130; (with_reducible refine (hSign_s y _ _ (by exact V3.iz.out)).mono ?_); rintro e w2 ⟨rfl, hb⟩; replace V2 := V2.keep hb; replace V3 := V3.keep hb; replace HB := below_step HB hb; clear hb)
   refine hK.out _ _ (by exact ⟨V2.c0, V2.c1, V3.c0, V3.c1⟩) (fun hHeld => ?_)
   clear hK K
   try go_frame
   refine tF 4 oda13e hHeld ?_; try go_frame
   refine tF 5 od1474 hHeld ?_; try go_frame
   refine wpAnyF_done (by kernel_rfl) ?_ _
   clear hHeld hWd
   go_wp2_with fail
   replace V2 := V2.drew; replace V3 := V3.drew; replace HB := below_drew HB
   generalize hWd : w2.drew = wd at *
   refine wp_region_F (fun w' => w'.cell? ⟨w.heap.size, 0, none⟩ = some (.bool na) ∧ w'.cell? ⟨w.heap.size, 1, none⟩ = some (.slice A1 n1 c1) ∧ w'.cell? ⟨w.heap.size + 1, 0, none⟩ = some (.bool nb) ∧ w'.cell? ⟨w.heap.size + 1, 1, none⟩ = some (.slice A2 n2 c2)) [] (by kernel_rfl) (by rw [hWd]; exact ⟨V2.c0, V2.c1, V3.c0, V3.c1⟩) (fun hHeld => ?_)
   rw [hWd] at hHeld ⊢
   refine tF 0 oea50f hHeld ?_; try go_frame
   refine tF 2 od30b0 hHeld ?_; try go_frame
   refine wpAnyF_one (i := 1) (by kernel_rfl) rfl (fun K hK => ?_)
   go_simp
   (go_at_call 130; (with_reducible refine (hSign_s x _ _ (by exact V2.iz.out)).mono ?_); rintro e w3 ⟨rfl, hb⟩; replace V2 := V2.keep hb; replace V3 := V3.keep hb; replace HB := below_step HB hb; clear hb)
   refine hK.out _ _ (by exact ⟨V2.c0, V2.c1, V3.c0, V3.c1⟩) (fun hHeld => ?_)
   clear hK K
   try go_frame
   refine wpAnyF_one (i := 3) (by kernel_rfl) rfl (fun K hK => ?_)
   go_simp
   (go_at_call 130; (with_reducible refine (hSign_s y _ _ (by exact V3.iz.out)).mono ?_); rintro e w4 ⟨rfl, hb⟩; replace V2 := V2.keep hb; replace V3 := V3.keep hb; replace HB := below_step HB hb; clear hb)
   refine hK.out _ _ (by exact ⟨V2.c0, V2.c1, V3.c0, V3.c1⟩) (fun hHeld => ?_)
   clear hK K
   try go_frame
   refine tF 4 oc5386 hHeld ?_; try go_frame
   refine tF 5 o33f57 hHeld ?_; try go_frame
   refine tF 6 o59c81 hHeld ?_; try go_frame
   refine tF 7 o147cf hHeld ?_; try go_frame
   refine wpAnyF_done (by kernel_rfl) ?_ _
   clear hHeld hWd
   go_wp2
   go_ret
   exact ⟨by rw [HI.out] <;> rfl, HB⟩
  ·have hmx : max (-1) (sgn x - sgn y) = sgn x - sgn y := by omega
   have hmn : min 1 (sgn x - sgn y) = 1 := by omega
   have HI := Lib.hid h4
   clear h4 hne
   go_enter Tryz.func90, Tryz.ntmps90
   go_wp2_with fail
   generalize hW : (w.alloc (Obj.cells #[Value.bool na, Value.slice A1 n1 c1] 118)).alloc (Obj.cells #[Value.bool nb, Value.slice A2 n2 c2] 118) = W at *
   obtain ⟨V2, V3, hs, HB⟩ := start2H w _ W H1.out H2.out hW
   clear hW H1 H2
   replace V2 := V2.drew; replace V3 := V3.drew; replace HB := below_drew HB
   generalize hWd : W.drew = wd at *
   refine wp_region_F (fun w' => w'.cell? ⟨w.heap.size, 0, none⟩ = some (.bool na) ∧ w'.cell? ⟨w.heap.size, 1, none⟩ = some (.slice A1 n1 c1) ∧ w'.cell? ⟨w.heap.size + 1, 0, none⟩ = some (.bool nb) ∧ w'.cell? ⟨w.heap.size + 1, 1, none⟩ = some (.slice A2 n2 c2)) [] (by kernel_rfl) (by rw [hWd]; exact ⟨V2.c0, V2.c1, V3.c0, V3.c1⟩) (fun hHeld => ?_)
   rw [hWd] at hHeld ⊢
   refine tF 0 oae437 hHeld ?_; try go_frame
   refine tF 2 o9c065 hHeld ?_; try go_frame
   refine wpAnyF_one (i := 1) (by kernel_rfl) rfl (fun K hK => ?_)
   go_simp
   (go_at_call 130; (with_reducible refine (hSign_s x _ _ (by exact V2.iz.out)).mono ?_); rintro e w1 ⟨rfl, hb⟩; replace V2 := V2.keep hb; replace V3 := V3.keep hb; replace HB := below_step HB hb; clear hb)
   refine hK.out _ _ (by exact ⟨V2.c0, V2.c1, V3.c0, V3.c1⟩) (fun hHeld => ?_)
   clear hK K
   try go_frame
   refine wpAnyF_one (i := 3) (by kernel_rfl) rfl (fun K hK => ?_)
   go_simp
   (go_at_call 130; (with_reducible refine (hSign_s y _ _ (by exact V3.iz.out)).mono ?_); rintro e w2 ⟨rfl, hb⟩; replace V2 := V2.keep hb; replace V3 := V3.keep hb; replace HB := below_step HB hb; clear hb)
   refine hK.out _ _ (by exact ⟨V2.c0, V2.c1, V3.c0, V3.c1⟩) (fun hHeld => ?_)
   clear hK K
   try go_frame
   refine tF 4 oda13e hHeld ?_; try go_frame
   refine tF 5 od1474 hHeld ?_; try go_frame
   refine wpAnyF_done (by kernel_rfl) ?_ _
   clear hHeld hWd
   go_wp2_with fail
   replace V2 := V2.drew; replace V3 := V3.drew; replace HB := below_drew HB
   generalize hWd : w2.drew = wd at *
   refine wp_region_F (fun w' => w'.cell? ⟨w.heap.size, 0, none⟩ = some (.bool na) ∧ w'.cell? ⟨w.heap.size, 1, none⟩ = some (.slice A1 n1 c1) ∧ w'.cell? ⟨w.heap.size + 1, 0, none⟩ = some (.bool nb) ∧ w'.cell? ⟨w.heap.size + 1, 1, none⟩ = some (.slice A2 n2 c2)) [] (by kernel_rfl) (by rw [hWd]; exact ⟨V2.c0, V2.c1, V3.c0, V3.c1⟩) (fun hHeld => ?_)
   rw [hWd] at hHeld ⊢
   refine tF 0 oea50f hHeld ?_; try go_frame
   refine tF 2 od30b0 hHeld ?_; try go_frame
   refine wpAnyF_one (i := 1) (by kernel_rfl) rfl (fun K hK => ?_)
   go_simp
   (go_at_call 130; (with_reducible refine (hSign_s x _ _ (by exact V2.iz.out)).mono ?_); rintro e w3 ⟨rfl, hb⟩; replace V2 := V2.keep hb; replace V3 := V3.keep hb; replace HB := below_step HB hb; clear hb)
   refine hK.out _ _ (by exact ⟨V2.c0, V2.c1, V3.c0, V3.c1⟩) (fun hHeld => ?_)
   clear hK K
   try go_frame
   refine wpAnyF_one (i := 3) (by kernel_rfl) rfl (fun K hK => ?_)
   go_simp
   (go_at_call 130; (with_reducible refine (hSign_s y _ _ (by exact V3.iz.out)).mono ?_); rintro e w4 ⟨rfl, hb⟩; replace V2 := V2.keep hb; replace V3 := V3.keep hb; replace HB := below_step HB hb; clear hb)
   refine hK.out _ _ (by exact ⟨V2.c0, V2.c1, V3.c0, V3.c1⟩) (fun hHeld => ?_)
   clear hK K
   try go_frame
   refine tF 4 oc5386 hHeld ?_; try go_frame
   refine tF 5 o33f57 hHeld ?_; try go_frame
   refine tF 6 o59c81 hHeld ?_; try go_frame
   refine tF 7 o147cf hHeld ?_; try go_frame
   refine wpAnyF_done (by kernel_rfl) ?_ _
   clear hHeld hWd
   go_wp2
   go_ret
   exact ⟨by rw [HI.out] <;> rfl, HB⟩
end Go.Proofs.YtibdipfhfaeooaaGreatDoor


set_option linter.unusedVariables false
set_option linter.unusedSimpArgs false
namespace Go.Proofs.YtibdipfhfaeooaaGreatDoor
open Go.RowKit

abbrev oed49d : Oper := { dst := some 10, op := Go.Op.fieldAddr 118 (Go.Operand.tmp 2) 0, type := 0, pos := "whole.go:162", after := #[], guard := none }
abbrev o14d01 : Oper := { dst := some 11, op := Go.Op.load 4 (Go.Operand.tmp 10), type := 4, pos := "whole.go:162", after := #[{ on := 0, ground := Go.Ground.data }], guard := none }
abbrev o2392a : Oper := { dst := some 12, op := Go.Op.fieldAddr 118 (Go.Operand.tmp 2) 1, type := 0, pos := "whole.go:162", after := #[], guard := none }
abbrev o03e09 : Oper := { dst := some 13, op := Go.Op.load 116 (Go.Operand.tmp 12), type := 116, pos := "whole.go:162", after := #[{ on := 2, ground := Go.Ground.data }], guard := none }
abbrev occce4 : Oper := { dst := some 14, op := Go.Op.fieldAddr 118 (Go.Operand.tmp 3) 1, type := 0, pos := "whole.go:162", after := #[], guard := none }
abbrev of5639 : Oper := { dst := some 15, op := Go.Op.load 116 (Go.Operand.tmp 14), type := 116, pos := "whole.go:162", after := #[{ on := 4, ground := Go.Ground.data }], guard := none }
attribute [local go_sem] oed49d o14d01 o2392a o03e09 occce4 of5639
theorem hNeg_c (x : Int) (v : Value) (w : World) (h : IsH w v x) :
  Calls Tryz.prog 181 #[v] w fun e w' => ∃ v', e = .returned v' ∧ IsH w' v' (-x) ∧ Below w.heap.size w w' := by
 obtain ⟨A, c, rfl, hs⟩ := h
 have hB : Below w.heap.size w w := Below.refl _ _
 have hc1 := hs.2.1
 have hc2 := hs.2.2
 have ed : dg B9 (-x) = dg B9 x := by unfold dg; rw [Int.natAbs_neg]
 have el : decide (0 < (dg B9 x).length) = !(dg B9 x).isEmpty := by cases dg B9 x <;> simp
 have en : (!decide (x < 0) && decide (0 < (dg B9 x).length)) = decide (-x < 0) := by
  rw [el, dg, isEmpty_digs B9two]
  rw [Bool.eq_iff_iff]
  simp
  omega
 have HD := Lib.hid ed
 have HN := Lib.hid en
 clear ed el en
 generalize dg B9 x = l at *
 obtain ⟨neg, hneg⟩ : ∃ neg, decide (x < 0) = neg := ⟨_, rfl⟩
 rw [hneg]
 have HG := Lib.hid hneg
 clear hneg
 cases neg
 all_goals
  go_enter Tryz.func181, Tryz.ntmps181
  go_wp2
 all_goals
  refine bodyPost_ret (v := _) (by simp [results, Tryz.results181, go_sem]; rfl) rfl ⟨_, rfl, ⟨A, c, ?_, ?_⟩, ?_⟩
 all_goals rw [HD.out] at *
 all_goals first
  | exact below_alloc (below_alloc hB _) _
  | exact hs.below (below_alloc (below_alloc hB _) _)
  | (rw [← HN.out, HG.out]; simp; done)
  | (rw [← HN.out, HG.out]; rfl)

theorem hplus_s {x y : Int} {A1 A2 : Option Addr} {n1 n2 c1 c2 : Nat} (hn1 : n1 = (dg B9 x).length) (hn2 : n2 = (dg B9 y).length) (s1 : n1 ≤ 1000000000000) (s2 : n2 ≤ 1000000000000) (w : World) (h1 : SlI w .u32 A1 c1 (dg B9 x)) (h2 : SlI w .u32 A2 c2 (dg B9 y)) :
  Calls Tryz.prog 156 #[.slice A1 n1 c1, .slice A2 n2 c2] w fun e w' => ∃ A c l, e = .returned (.slice A l.length c) ∧ Hid (SlI w' .u32 A c l) ∧ Hid (Dg B9 l) ∧ Hid (V B9 l = (x.natAbs : Int) + y.natAbs) ∧ Below w.heap.size w w' := by
 subst hn1 hn2
 refine (hplus_c _ _ _ _ _ _ w h1 h2 (dg_dg B9two _) (dg_dg B9two _) s1 s2).mono ?_
 rintro e w' ⟨A, c, l, rfl, h3, h4, h5, h6⟩
 exact ⟨A, c, l, rfl, h3, h4, by show _ = _; rw [h5, dg_V B9two, dg_V B9two], h6⟩
theorem hminus_s {x y : Int} {A1 A2 : Option Addr} {n1 n2 c1 c2 : Nat} (hn1 : n1 = (dg B9 x).length) (hn2 : n2 = (dg B9 y).length) (s1 : n1 ≤ 1000000000000) (hle : y.natAbs ≤ x.natAbs) (w : World) (h1 : SlI w .u32 A1 c1 (dg B9 x)) (h2 : SlI w .u32 A2 c2 (dg B9 y)) :
  Calls Tryz.prog 157 #[.slice A1 n1 c1, .slice A2 n2 c2] w fun e w' => ∃ A c l, e = .returned (.slice A l.length c) ∧ Hid (SlI w' .u32 A c l) ∧ Hid (Dg B9 l) ∧ Hid (V B9 l = (x.natAbs : Int) - y.natAbs) ∧ Below w.heap.size w w' := by
 subst hn1 hn2
 refine (hminus_c _ _ _ _ _ _ w h1 h2 (dg_dg B9two _) (dg_dg B9two _) s1 (digs_len_mono B9two hle) (by rw [dg_V B9two, dg_V B9two]; omega)).mono ?_
 rintro e w' ⟨A, c, l, rfl, h3, h4, h5, h6⟩
 exact ⟨A, c, l, rfl, h3, h4, by show _ = _; rw [h5, dg_V B9two, dg_V B9two], h6⟩
theorem hcompare_s {x y : Int} {A1 A2 : Option Addr} {n1 n2 c1 c2 : Nat} (hn1 : n1 = (dg B9 x).length) (hn2 : n2 = (dg B9 y).length) (w : World) (h1 : SlI w .u32 A1 c1 (dg B9 x)) (h2 : SlI w .u32 A2 c2 (dg B9 y)) :
  Calls Tryz.prog 131 #[.slice A1 n1 c1, .slice A2 n2 c2] w fun e w' => e = .returned (.int .i64 (icmp (x.natAbs : Int) y.natAbs)) ∧ Below w.heap.size w w' := by
 subst hn1 hn2
 refine (hcompare_b _ _ _ _ _ _ w h1 h2 (dg_dg B9two _) (dg_dg B9two _) (dg_nm B9two _) (dg_nm B9two _)).mono ?_
 rintro e w' ⟨rfl, hb⟩
 exact ⟨by rw [dg_V B9two, dg_V B9two], hb⟩
theorem icmp_le0 (x y : Int) : 0 ≤ icmp x y ↔ y ≤ x := by unfold icmp; split <;> (try split) <;> omega
set_option maxRecDepth 100000 in
set_option maxHeartbeats 4000000 in
theorem hAdd_c (x y : Int) (v1 v2 : Value) (w : World) (h1 : IsH w v1 x) (h2 : IsH w v2 y) (sx : (dg B9 x).length ≤ 1000000000000) (sy : (dg B9 y).length ≤ 1000000000000) :
  Calls Tryz.prog 124 #[v1, v2] w fun e w' => ∃ v, e = .returned v ∧ IsH w' v (x + y) ∧ Below w.heap.size w w' := by
 obtain ⟨na, A1, n1, c1, rfl, H1⟩ := h1.form
 obtain ⟨nb, A2, n2, c2, rfl, H2⟩ := h2.form
 clear h1 h2
 obtain ⟨hna, hn1, -⟩ := H1.out.sl
 obtain ⟨hnb, hn2, -⟩ := H2.out.sl
 have E1 := Lib.hid hn1
 have E2 := Lib.hid hn2
 rw [← hn1] at sx
 rw [← hn2] at sy
 clear hn1 hn2
 by_cases hne : na = nb
 ·subst hne
  have hxy : (x < 0 ↔ y < 0) := by rw [hna] at hnb; exact decide_eq_decide.1 hnb
  have HXY := Lib.hid hxy
  have hsg : ∀ m : Int, sgnd na m = if x < 0 then -m else m := fun m => by unfold sgnd; rw [hna]; by_cases h : x < 0 <;> simp [h]
  have HSG := Lib.hid hsg
  clear hxy hsg hna hnb
  cases na
  ·go_enter Tryz.func124, Tryz.ntmps124
   go_wp2_with fail
   generalize hW : (w.alloc (Obj.cells #[Value.bool false, Value.slice A1 n1 c1] 118)).alloc (Obj.cells #[Value.bool false, Value.slice A2 n2 c2] 118) = W at *
   obtain ⟨V2, V3, hs, HB⟩ := start2H w _ W H1.out H2.out hW
   have R4 := newRes W 118
   replace V2 := V2.keep (below_alloc (Below.refl W.heap.size W) (Obj.cells #[Value.bool false, Value.slice none 0 0] 118)); replace V3 := V3.keep (below_alloc (Below.refl W.heap.size W) (Obj.cells #[Value.bool false, Value.slice none 0 0] 118))
   replace HB := below_alloc HB (Obj.cells #[Value.bool false, Value.slice none 0 0] 118)
   clear hW H1 H2
   generalize hW : W.alloc (Obj.cells #[Value.bool false, Value.slice none 0 0] 118) = W1 at *
   clear hW
   rw [hs] at R4
   clear hs
   have va0 := V2.c0; have vb0 := V3.c0
   go_wp2_with fail
   clear va0 vb0
   replace V2 := V2.drew; replace V3 := V3.drew; replace HB := below_drew HB
   replace R4 := R4.drew
   generalize hWd : W1.drew = wd at *
   refine wp_region_F (fun w' => w'.cell? ⟨w.heap.size, 0, none⟩ = some (.bool false) ∧ w'.cell? ⟨w.heap.size, 1, none⟩ = some (.slice A1 n1 c1) ∧ w'.cell? ⟨w.heap.size + 1, 0, none⟩ = some (.bool false) ∧ w'.cell? ⟨w.heap.size + 1, 1, none⟩ = some (.slice A2 n2 c2)) [8] (by kernel_rfl) (by rw [hWd]; exact ⟨V2.c0, V2.c1, V3.c0, V3.c1⟩) (fun hHeld => ?_)
   rw [hWd] at hHeld ⊢
   refine tF 0 oed49d hHeld ?_; try go_frame
   refine tF 1 o14d01 hHeld ?_; try go_frame
   refine tF 2 o2392a hHeld ?_; try go_frame
   refine tF 3 o03e09 hHeld ?_; try go_frame
   refine tF 4 occce4 hHeld ?_; try go_frame
   refine tF 5 of5639 hHeld ?_; try go_frame
   refine wpAnyF_one (i := 6) (by kernel_rfl) rfl (fun K hK => ?_)
   go_simp
   (go_at_call 156; (with_reducible refine (hplus_s E1.out E2.out sx sy _ V2.iz.out.sl.2.2 V3.iz.out.sl.2.2).mono ?_); rintro e w5 ⟨A5, c5, l5, rfl, L5, D5, E5, hb⟩; replace V2 := V2.keep hb; replace V3 := V3.keep hb; replace R4 := R4.keep hb; replace HB := below_step HB hb; clear hb)
   refine hK.out _ _ (by exact ⟨V2.c0, V2.c1, V3.c0, V3.c1⟩) (fun hHeld => ?_)
   clear hK K
   try go_frame
   refine wpAnyF_one (i := 7) (by kernel_rfl) rfl (fun K hK => ?_)
   go_simp
   (go_at_call 126; (with_reducible refine (htrim_n false A5 c5 l5 _ L5.out D5.out).mono ?_); rintro e w6 ⟨v, rfl, hv, hb⟩; obtain ⟨n6, A6, m6, k6, rfl, H6⟩ := hv.form; clear hv; replace V2 := V2.keep hb; replace V3 := V3.keep hb; replace R4 := R4.keep hb; replace HB := below_step HB hb; clear hb; have RRh := R4; obtain ⟨⟨u1, r1⟩, ⟨u2, u3, u4, r2⟩, r3, r4, r5⟩ := R4)
   refine hK.out _ _ (by exact ⟨V2.c0, V2.c1, V3.c0, V3.c1⟩) (fun hHeld => ?_)
   clear hK K
   try go_frame
   refine wpAnyF_st (i := 8) (by kernel_rfl) (by kernel_rfl) rfl (fun K hK => ?_)
   go_simp
   refine hK.out _ _ ?_
   clear hK K
   try go_frame
   refine wpAnyF_done (by kernel_rfl) ?_ _
   clear hHeld hWd
   go_wp2
   refine bodyPost_ret (v := .agg #[.bool n6, .slice A6 m6 k6]) (by simp [results, Tryz.results124, go_sem, r1, r2, r5]) rfl ⟨_, rfl, ?_, below_set2 HB (by omega) _ _⟩
   rw [show x + y = sgnd false (V B9 l5) by rw [E5.out]; have := HXY.out; rw [HSG.out]; split <;> omega]
   exact H6.out.res2 RRh _ _
  ·go_enter Tryz.func124, Tryz.ntmps124
   go_wp2_with fail
   generalize hW : (w.alloc (Obj.cells #[Value.bool true, Value.slice A1 n1 c1] 118)).alloc (Obj.cells #[Value.bool true, Value.slice A2 n2 c2] 118) = W at *
   obtain ⟨V2, V3, hs, HB⟩ := start2H w _ W H1.out H2.out hW
   have R4 := newRes W 118
   replace V2 := V2.keep (below_alloc (Below.refl W.heap.size W) (Obj.cells #[Value.bool false, Value.slice none 0 0] 118)); replace V3 := V3.keep (below_alloc (Below.refl W.heap.size W) (Obj.cells #[Value.bool false, Value.slice none 0 0] 118))
   replace HB := below_alloc HB (Obj.cells #[Value.bool false, Value.slice none 0 0] 118)
   clear hW H1 H2
   generalize hW : W.alloc (Obj.cells #[Value.bool false, Value.slice none 0 0] 118) = W1 at *
   clear hW
   rw [hs] at R4
   clear hs
   have va0 := V2.c0; have vb0 := V3.c0
   go_wp2_with fail
   clear va0 vb0
   replace V2 := V2.drew; replace V3 := V3.drew; replace HB := below_drew HB
   replace R4 := R4.drew
   generalize hWd : W1.drew = wd at *
   refine wp_region_F (fun w' => w'.cell? ⟨w.heap.size, 0, none⟩ = some (.bool true) ∧ w'.cell? ⟨w.heap.size, 1, none⟩ = some (.slice A1 n1 c1) ∧ w'.cell? ⟨w.heap.size + 1, 0, none⟩ = some (.bool true) ∧ w'.cell? ⟨w.heap.size + 1, 1, none⟩ = some (.slice A2 n2 c2)) [8] (by kernel_rfl) (by rw [hWd]; exact ⟨V2.c0, V2.c1, V3.c0, V3.c1⟩) (fun hHeld => ?_)
   rw [hWd] at hHeld ⊢
   refine tF 0 oed49d hHeld ?_; try go_frame
   refine tF 1 o14d01 hHeld ?_; try go_frame
   refine tF 2 o2392a hHeld ?_; try go_frame
   refine tF 3 o03e09 hHeld ?_; try go_frame
   refine tF 4 occce4 hHeld ?_; try go_frame
   refine tF 5 of5639 hHeld ?_; try go_frame
   refine wpAnyF_one (i := 6) (by kernel_rfl) rfl (fun K hK => ?_)
   go_simp
   (go_at_call 156; (with_reducible refine (hplus_s E1.out E2.out sx sy _ V2.iz.out.sl.2.2 V3.iz.out.sl.2.2).mono ?_); rintro e w5 ⟨A5, c5, l5, rfl, L5, D5, E5, hb⟩; replace V2 := V2.keep hb; replace V3 := V3.keep hb; replace R4 := R4.keep hb; replace HB := below_step HB hb; clear hb)
   refine hK.out _ _ (by exact ⟨V2.c0, V2.c1, V3.c0, V3.c1⟩) (fun hHeld => ?_)
   clear hK K
   try go_frame
   refine wpAnyF_one (i := 7) (by kernel_rfl) rfl (fun K hK => ?_)
   go_simp
   (go_at_call 126; (with_reducible refine (htrim_n true A5 c5 l5 _ L5.out D5.out).mono ?_); rintro e w6 ⟨v, rfl, hv, hb⟩; obtain ⟨n6, A6, m6, k6, rfl, H6⟩ := hv.form; clear hv; replace V2 := V2.keep hb; replace V3 := V3.keep hb; replace R4 := R4.keep hb; replace HB := below_step HB hb; clear hb; have RRh := R4; obtain ⟨⟨u1, r1⟩, ⟨u2, u3, u4, r2⟩, r3, r4, r5⟩ := R4)
   refine hK.out _ _ (by exact ⟨V2.c0, V2.c1, V3.c0, V3.c1⟩) (fun hHeld => ?_)
   clear hK K
   try go_frame
   refine wpAnyF_st (i := 8) (by kernel_rfl) (by kernel_rfl) rfl (fun K hK => ?_)
   go_simp
   refine hK.out _ _ ?_
   clear hK K
   try go_frame
   refine wpAnyF_done (by kernel_rfl) ?_ _
   clear hHeld hWd
   go_wp2
   refine bodyPost_ret (v := .agg #[.bool n6, .slice A6 m6 k6]) (by simp [results, Tryz.results124, go_sem, r1, r2, r5]) rfl ⟨_, rfl, ?_, below_set2 HB (by omega) _ _⟩
   rw [show x + y = sgnd true (V B9 l5) by rw [E5.out]; have := HXY.out; rw [HSG.out]; split <;> omega]
   exact H6.out.res2 RRh _ _
 ·have hxy : ¬ (x < 0 ↔ y < 0) := fun h => hne (by rw [hna, hnb]; exact decide_eq_decide.2 h)
  have HXY := Lib.hid hxy
  have HSA : Hid (∀ m : Int, sgnd na m = if x < 0 then -m else m) := fun m => by unfold sgnd; rw [hna]; by_cases h : x < 0 <;> simp [h]
  have HSB : Hid (∀ m : Int, sgnd nb m = if y < 0 then -m else m) := fun m => by unfold sgnd; rw [hnb]; by_cases h : y < 0 <;> simp [h]
  have hbe : (na == nb) = false := by simpa using hne
  clear hxy hna hnb hne
  by_cases hle : (y.natAbs : Int) ≤ x.natAbs
  ·have hc : 0 ≤ icmp (x.natAbs : Int) y.natAbs := (icmp_le0 _ _).2 hle
   go_enter Tryz.func124, Tryz.ntmps124
   go_wp2_with fail
   generalize hW : (w.alloc (Obj.cells #[Value.bool na, Value.slice A1 n1 c1] 118)).alloc (Obj.cells #[Value.bool nb, Value.slice A2 n2 c2] 118) = W at *
   obtain ⟨V2, V3, hs, HB⟩ := start2H w _ W H1.out H2.out hW
   have R4 := newRes W 118
   replace V2 := V2.keep (below_alloc (Below.refl W.heap.size W) (Obj.cells #[Value.bool false, Value.slice none 0 0] 118)); replace V3 := V3.keep (below_alloc (Below.refl W.heap.size W) (Obj.cells #[Value.bool false, Value.slice none 0 0] 118))
   replace HB := below_alloc HB (Obj.cells #[Value.bool false, Value.slice none 0 0] 118)
   clear hW H1 H2
   generalize hW : W.alloc (Obj.cells #[Value.bool false, Value.slice none 0 0] 118) = W1 at *
   clear hW
   rw [hs] at R4
   clear hs
   have va0 := V2.c0; have va1 := V2.c1; have vb0 := V3.c0; have vb1 := V3.c1
   go_wp2_with fail
   (with_reducible refine (hcompare_s E1.out E2.out _ V2.iz.out.sl.2.2 V3.iz.out.sl.2.2).mono ?_)
   rintro e w2 ⟨rfl, hb⟩
   replace V2 := V2.keep hb; replace V3 := V3.keep hb; replace R4 := R4.keep hb; replace HB := below_step HB hb; clear hb
   clear va0 va1 vb0 vb1
   generalize icmp (x.natAbs : Int) y.natAbs = cm at *
   go_wp2_with fail
   replace V2 := V2.drew; replace V3 := V3.drew; replace HB := below_drew HB
   replace R4 := R4.drew
   generalize hWd : w2.drew = wd at *
   refine wp_region_F (fun w' => w'.cell? ⟨w.heap.size, 0, none⟩ = some (.bool na) ∧ w'.cell? ⟨w.heap.size, 1, none⟩ = some (.slice A1 n1 c1) ∧ w'.cell? ⟨w.heap.size + 1, 0, none⟩ = some (.bool nb) ∧ w'.cell? ⟨w.heap.size + 1, 1, none⟩ = some (.slice A2 n2 c2)) [8] (by kernel_rfl) (by rw [hWd]; exact ⟨V2.c0, V2.c1, V3.c0, V3.c1⟩) (fun hHeld => ?_)
   rw [hWd] at hHeld ⊢
   refine tF 0 ({ dst := some 24, op := Go.Op.fieldAddr 118 (Go.Operand.tmp 2) 0, type := 0, pos := "whole.go:165", after := #[], guard := none }) hHeld ?_; try go_frame
   refine tF 1 ({ dst := some 25, op := Go.Op.load 4 (Go.Operand.tmp 24), type := 4, pos := "whole.go:165", after := #[{ on := 0, ground := Go.Ground.data }], guard := none }) hHeld ?_; try go_frame
   refine tF 2 ({ dst := some 26, op := Go.Op.fieldAddr 118 (Go.Operand.tmp 2) 1, type := 0, pos := "whole.go:165", after := #[], guard := none }) hHeld ?_; try go_frame
   refine tF 3 ({ dst := some 27, op := Go.Op.load 116 (Go.Operand.tmp 26), type := 116, pos := "whole.go:165", after := #[{ on := 2, ground := Go.Ground.data }], guard := none }) hHeld ?_; try go_frame
   refine tF 4 ({ dst := some 28, op := Go.Op.fieldAddr 118 (Go.Operand.tmp 3) 1, type := 0, pos := "whole.go:165", after := #[], guard := none }) hHeld ?_; try go_frame
   refine tF 5 ({ dst := some 29, op := Go.Op.load 116 (Go.Operand.tmp 28), type := 116, pos := "whole.go:165", after := #[{ on := 4, ground := Go.Ground.data }], guard := none }) hHeld ?_; try go_frame
   refine wpAnyF_one (i := 6) (by kernel_rfl) rfl (fun K hK => ?_)
   go_simp
   (go_at_call 157; (with_reducible refine (hminus_s E1.out E2.out sx (by omega) _ V2.iz.out.sl.2.2 V3.iz.out.sl.2.2).mono ?_); rintro e w5 ⟨A5, c5, l5, rfl, L5, D5, E5, hb⟩; replace V2 := V2.keep hb; replace V3 := V3.keep hb; replace R4 := R4.keep hb; replace HB := below_step HB hb; clear hb)
   refine hK.out _ _ (by exact ⟨V2.c0, V2.c1, V3.c0, V3.c1⟩) (fun hHeld => ?_)
   clear hK K
   try go_frame
   refine wpAnyF_one (i := 7) (by kernel_rfl) rfl (fun K hK => ?_)
   go_simp
   (go_at_call 126; (with_reducible refine (htrim_n na A5 c5 l5 _ L5.out D5.out).mono ?_); rintro e w6 ⟨v, rfl, hv, hb⟩; obtain ⟨n6, A6, m6, k6, rfl, H6⟩ := hv.form; clear hv; replace V2 := V2.keep hb; replace V3 := V3.keep hb; replace R4 := R4.keep hb; replace HB := below_step HB hb; clear hb; have RRh := R4; obtain ⟨⟨u1, r1⟩, ⟨u2, u3, u4, r2⟩, r3, r4, r5⟩ := R4)
   refine hK.out _ _ (by exact ⟨V2.c0, V2.c1, V3.c0, V3.c1⟩) (fun hHeld => ?_)
   clear hK K
   try go_frame
   refine wpAnyF_st (i := 8) (by kernel_rfl) (by kernel_rfl) rfl (fun K hK => ?_)
   go_simp
   refine hK.out _ _ ?_
   clear hK K
   try go_frame
   refine wpAnyF_done (by kernel_rfl) ?_ _
   clear hHeld hWd
   go_wp2
   refine bodyPost_ret (v := .agg #[.bool n6, .slice A6 m6 k6]) (by simp [results, Tryz.results124, go_sem, r1, r2, r5]) rfl ⟨_, rfl, ?_, below_set2 HB (by omega) _ _⟩
   rw [show x + y = sgnd na (V B9 l5) by rw [E5.out]; have := HXY.out; rw [HSA.out]; split <;> omega]
   exact H6.out.res2 RRh _ _
  ·have hc : ¬ 0 ≤ icmp (x.natAbs : Int) y.natAbs := fun h => hle ((icmp_le0 _ _).1 h)
   go_enter Tryz.func124, Tryz.ntmps124
   go_wp2_with fail
   generalize hW : (w.alloc (Obj.cells #[Value.bool na, Value.slice A1 n1 c1] 118)).alloc (Obj.cells #[Value.bool nb, Value.slice A2 n2 c2] 118) = W at *
   obtain ⟨V2, V3, hs, HB⟩ := start2H w _ W H1.out H2.out hW
   have R4 := newRes W 118
   replace V2 := V2.keep (below_alloc (Below.refl W.heap.size W) (Obj.cells #[Value.bool false, Value.slice none 0 0] 118)); replace V3 := V3.keep (below_alloc (Below.refl W.heap.size W) (Obj.cells #[Value.bool false, Value.slice none 0 0] 118))
   replace HB := below_alloc HB (Obj.cells #[Value.bool false, Value.slice none 0 0] 118)
   clear hW H1 H2
   generalize hW : W.alloc (Obj.cells #[Value.bool false, Value.slice none 0 0] 118) = W1 at *
   clear hW
   rw [hs] at R4
   clear hs
   have va0 := V2.c0; have va1 := V2.c1; have vb0 := V3.c0; have vb1 := V3.c1
   go_wp2_with fail
   (with_reducible refine (hcompare_s E1.out E2.out _ V2.iz.out.sl.2.2 V3.iz.out.sl.2.2).mono ?_)
   rintro e w2 ⟨rfl, hb⟩
   replace V2 := V2.keep hb; replace V3 := V3.keep hb; replace R4 := R4.keep hb; replace HB := below_step HB hb; clear hb
   clear va0 va1 vb0 vb1
   generalize icmp (x.natAbs : Int) y.natAbs = cm at *
   go_wp2_with fail
   replace V2 := V2.drew; replace V3 := V3.drew; replace HB := below_drew HB
   replace R4 := R4.drew
   generalize hWd : w2.drew = wd at *
   refine wp_region_F (fun w' => w'.cell? ⟨w.heap.size, 0, none⟩ = some (.bool na) ∧ w'.cell? ⟨w.heap.size, 1, none⟩ = some (.slice A1 n1 c1) ∧ w'.cell? ⟨w.heap.size + 1, 0, none⟩ = some (.bool nb) ∧ w'.cell? ⟨w.heap.size + 1, 1, none⟩ = some (.slice A2 n2 c2)) [8] (by kernel_rfl) (by rw [hWd]; exact ⟨V2.c0, V2.c1, V3.c0, V3.c1⟩) (fun hHeld => ?_)
   rw [hWd] at hHeld ⊢
   refine tF 0 ({ dst := some 32, op := Go.Op.fieldAddr 118 (Go.Operand.tmp 3) 0, type := 0, pos := "whole.go:167", after := #[], guard := none }) hHeld ?_; try go_frame
   refine tF 1 ({ dst := some 33, op := Go.Op.load 4 (Go.Operand.tmp 32), type := 4, pos := "whole.go:167", after := #[{ on := 0, ground := Go.Ground.data }], guard := none }) hHeld ?_; try go_frame
   refine tF 2 ({ dst := some 34, op := Go.Op.fieldAddr 118 (Go.Operand.tmp 3) 1, type := 0, pos := "whole.go:167", after := #[], guard := none }) hHeld ?_; try go_frame
   refine tF 3 ({ dst := some 35, op := Go.Op.load 116 (Go.Operand.tmp 34), type := 116, pos := "whole.go:167", after := #[{ on := 2, ground := Go.Ground.data }], guard := none }) hHeld ?_; try go_frame
   refine tF 4 ({ dst := some 36, op := Go.Op.fieldAddr 118 (Go.Operand.tmp 2) 1, type := 0, pos := "whole.go:167", after := #[], guard := none }) hHeld ?_; try go_frame
   refine tF 5 ({ dst := some 37, op := Go.Op.load 116 (Go.Operand.tmp 36), type := 116, pos := "whole.go:167", after := #[{ on := 4, ground := Go.Ground.data }], guard := none }) hHeld ?_; try go_frame
   refine wpAnyF_one (i := 6) (by kernel_rfl) rfl (fun K hK => ?_)
   go_simp
   (go_at_call 157; (with_reducible refine (hminus_s E2.out E1.out sy (by omega) _ V3.iz.out.sl.2.2 V2.iz.out.sl.2.2).mono ?_); rintro e w5 ⟨A5, c5, l5, rfl, L5, D5, E5, hb⟩; replace V2 := V2.keep hb; replace V3 := V3.keep hb; replace R4 := R4.keep hb; replace HB := below_step HB hb; clear hb)
   refine hK.out _ _ (by exact ⟨V2.c0, V2.c1, V3.c0, V3.c1⟩) (fun hHeld => ?_)
   clear hK K
   try go_frame
   refine wpAnyF_one (i := 7) (by kernel_rfl) rfl (fun K hK => ?_)
   go_simp
   (go_at_call 126; (with_reducible refine (htrim_n nb A5 c5 l5 _ L5.out D5.out).mono ?_); rintro e w6 ⟨v, rfl, hv, hb⟩; obtain ⟨n6, A6, m6, k6, rfl, H6⟩ := hv.form; clear hv; replace V2 := V2.keep hb; replace V3 := V3.keep hb; replace R4 := R4.keep hb; replace HB := below_step HB hb; clear hb; have RRh := R4; obtain ⟨⟨u1, r1⟩, ⟨u2, u3, u4, r2⟩, r3, r4, r5⟩ := R4)
   refine hK.out _ _ (by exact ⟨V2.c0, V2.c1, V3.c0, V3.c1⟩) (fun hHeld => ?_)
   clear hK K
   try go_frame
   refine wpAnyF_st (i := 8) (by kernel_rfl) (by kernel_rfl) rfl (fun K hK => ?_)
   go_simp
   refine hK.out _ _ ?_
   clear hK K
   try go_frame
   refine wpAnyF_done (by kernel_rfl) ?_ _
   clear hHeld hWd
   go_wp2
   refine bodyPost_ret (v := .agg #[.bool n6, .slice A6 m6 k6]) (by simp [results, Tryz.results124, go_sem, r1, r2, r5]) rfl ⟨_, rfl, ?_, below_set2 HB (by omega) _ _⟩
   rw [show x + y = sgnd nb (V B9 l5) by rw [E5.out]; have := HXY.out; rw [HSB.out]; split <;> omega]
   exact H6.out.res2 RRh _ _
end Go.Proofs.YtibdipfhfaeooaaGreatDoor


set_option linter.unusedVariables false
set_option linter.unusedSimpArgs false
namespace Go.Proofs.YtibdipfhfaeooaaGreatDoor
open Go.RowKit

set_option maxRecDepth 100000 in
set_option maxHeartbeats 4000000 in
theorem hSub_c (x y : Int) (v1 v2 : Value) (w : World) (h1 : IsH w v1 x) (h2 : IsH w v2 y) (sx : (dg B9 x).length ≤ 1000000000000) (sy : (dg B9 y).length ≤ 1000000000000) :
  Calls Tryz.prog 155 #[v1, v2] w fun e w' => ∃ v, e = .returned v ∧ IsH w' v (x - y) ∧ Below w.heap.size w w' := by
 obtain ⟨na, A1, n1, c1, rfl, H1⟩ := h1.form
 obtain ⟨nb, A2, n2, c2, rfl, H2⟩ := h2.form
 clear h1 h2
 have sy' : (dg B9 (-y)).length ≤ 1000000000000 := by rw [dg_neg]; exact sy
 go_enter Tryz.func155, Tryz.ntmps155
 go_wp2_with fail
 generalize hW : (w.alloc (Obj.cells #[Value.bool na, Value.slice A1 n1 c1] 118)).alloc (Obj.cells #[Value.bool nb, Value.slice A2 n2 c2] 118) = W at *
 obtain ⟨V2, V3, hs, HB⟩ := start2H w _ W H1.out H2.out hW
 have R4 := newRes W 118
 replace V2 := V2.keep (below_alloc (Below.refl W.heap.size W) (Obj.cells #[Value.bool false, Value.slice none 0 0] 118)); replace V3 := V3.keep (below_alloc (Below.refl W.heap.size W) (Obj.cells #[Value.bool false, Value.slice none 0 0] 118))
 replace HB := below_alloc HB (Obj.cells #[Value.bool false, Value.slice none 0 0] 118)
 clear hW H1 H2
 generalize hW : W.alloc (Obj.cells #[Value.bool false, Value.slice none 0 0] 118) = W1 at *
 clear hW
 rw [hs] at R4
 clear hs
 replace V2 := V2.drew; replace V3 := V3.drew; replace HB := below_drew HB
 replace R4 := R4.drew
 generalize hWd : W1.drew = wd at *
 refine wp_region_F (fun w' => w'.cell? ⟨w.heap.size, 0, none⟩ = some (.bool na) ∧ w'.cell? ⟨w.heap.size, 1, none⟩ = some (.slice A1 n1 c1) ∧ w'.cell? ⟨w.heap.size + 1, 0, none⟩ = some (.bool nb) ∧ w'.cell? ⟨w.heap.size + 1, 1, none⟩ = some (.slice A2 n2 c2)) [4] (by kernel_rfl) (by rw [hWd]; exact ⟨V2.c0, V2.c1, V3.c0, V3.c1⟩) (fun hHeld => ?_)
 rw [hWd] at hHeld ⊢
 refine tF 0 ({ dst := some 5, op := Go.Op.load 118 (Go.Operand.tmp 2), type := 118, pos := "whole.go:171", after := #[], guard := none }) hHeld ?_; try go_frame
 refine tF 1 ({ dst := some 6, op := Go.Op.load 118 (Go.Operand.tmp 3), type := 118, pos := "whole.go:171", after := #[], guard := none }) hHeld ?_; try go_frame
 refine wpAnyF_one (i := 2) (by kernel_rfl) rfl (fun K hK => ?_)
 go_simp
 (go_at_call 181; (with_reducible refine (hNeg_c y _ _ (by exact V3.iz.out)).mono ?_); rintro e w5 ⟨v, rfl, hv, hb⟩; obtain ⟨n5, A5, m5, k5, rfl, H5⟩ := hv.form; clear hv; replace V2 := V2.keep hb; replace V3 := V3.keep hb; replace R4 := R4.keep hb; replace HB := below_step HB hb; clear hb)
 refine hK.out _ _ (by exact ⟨V2.c0, V2.c1, V3.c0, V3.c1⟩) (fun hHeld => ?_)
 clear hK K
 try go_frame
 refine wpAnyF_one (i := 3) (by kernel_rfl) rfl (fun K hK => ?_)
 go_simp
 (go_at_call 124; (with_reducible refine (hAdd_c x (-y) _ _ _ (by exact V2.iz.out) H5.out sx sy').mono ?_); rintro e w6 ⟨v, rfl, hv, hb⟩; obtain ⟨n6, A6, m6, k6, rfl, H6⟩ := hv.form; clear hv; replace V2 := V2.keep hb; replace V3 := V3.keep hb; replace R4 := R4.keep hb; replace HB := below_step HB hb; clear hb; have RRh := R4; obtain ⟨⟨u1, r1⟩, ⟨u2, u3, u4, r2⟩, r3, r4, r5⟩ := R4)
 refine hK.out _ _ (by exact ⟨V2.c0, V2.c1, V3.c0, V3.c1⟩) (fun hHeld => ?_)
 clear hK K
 try go_frame
 refine wpAnyF_st (i := 4) (by kernel_rfl) (by kernel_rfl) rfl (fun K hK => ?_)
 go_simp
 refine hK.out _ _ ?_
 clear hK K
 try go_frame
 refine wpAnyF_done (by kernel_rfl) ?_ _
 clear hHeld hWd
 go_wp2
 refine bodyPost_ret (v := .agg #[.bool n6, .slice A6 m6 k6]) (by simp [results, Tryz.results155, go_sem, r1, r2, r5]) rfl ⟨_, rfl, ?_, below_set2 HB (by omega) _ _⟩
 rw [Int.sub_eq_add_neg]
 exact H6.out.res2 RRh _ _

theorem of_step {n u : Nat} {l : List Int} (h : digs B9 n = l ++ digs B9 u) (hu : 0 < u) : digs B9 n = (l ++ [((u % 1000000000 : Nat) : Int)]) ++ digs B9 (u / 1000000000) := by
 rw [h, List.append_assoc]
 congr 1
 exact digs_pos B9two hu
set_option maxRecDepth 100000 in
set_option maxHeartbeats 4000000 in
theorem hOf_c (i : Int) (w : World) (h0 : -9223372036854775807 ≤ i) (h1 : i ≤ 9223372036854775807) :
  Calls Tryz.prog 123 #[.int .i64 i] w fun e w' => ∃ v, e = .returned v ∧ IsH w' v i ∧ Below w.heap.size w w' := by
 have HL : Hid ((digs B9 i.natAbs).length ≤ 8) := digs_len_le B9two (by rw [show (B9 ^ 8 : Nat) = 1000000000000000000000000000000000000000000000000000000000000000000000000 from rfl]; omega)
 by_cases hi : i < 0
 ·have hw1 : IntKind.u64.wrap i = i + 18446744073709551616 := by rw [IntKind.wrap_u64]; omega
  have hw2 : IntKind.u64.wrap (-(i + 18446744073709551616)) = -i := by rw [IntKind.wrap_u64]; omega
  go_enter Tryz.func123, Tryz.ntmps123
  go_wp2_with fail
  have R2 := newRes w 118
  have HB := below_alloc (Below.refl w.heap.size w) (Obj.cells #[Value.bool false, Value.slice none 0 0] 118)
  have hsz : (w.alloc (Obj.cells #[Value.bool false, Value.slice none 0 0] 118)).heap.size = w.heap.size + 1 := by simp
  generalize hW : w.alloc (Obj.cells #[Value.bool false, Value.slice none 0 0] 118) = W at *
  clear hW
  go_loopg [3, 4] i.natAbs (fun g out uv wr => ∃ (u : Nat) (l : List Int), g = u ∧ uv = .int .u64 u ∧ u < 18446744073709551616 ∧ OwI wr (w.heap.size + 1) 168 .u32 out l ∧ w.heap.size + 1 ≤ wr.heap.size ∧ Hid (Below (w.heap.size + 1) W wr) ∧ Hid (digs B9 i.natAbs = l ++ digs B9 u))
  case atStart => exact ⟨i.natAbs, [], rfl, by congr 1; omega, by omega, OwI.nil _ _ _ _, by omega, Below.refl _ _, by show _ = _; rw [List.nil_append]⟩
  case round =>
   clear hsz
   obtain ⟨u, l, hgk, rfl, hu, HO, hB, HBB, HI⟩ := hrel
   have hll : l.length ≤ 8 := by
    have h2 := HL.out
    rw [HI.out, List.length_append] at h2
    omega
   have hLL : Hid ((l.length + 1) * 4 ≤ 140737488355328) := by show _ ≤ _; omega
   by_cases hu0 : 0 < u
   ·have HS := Lib.hid (of_step HI.out hu0)
    have hui : 0 < (u : Int) := by omega
    obtain ⟨r, hr⟩ : ∃ r, u % 1000000000 = r := ⟨_, rfl⟩
    obtain ⟨q, hq⟩ : ∃ q, u / 1000000000 = q := ⟨_, rfl⟩
    rw [hr, hq] at HS
    have hr1 : (u : Int) % 1000000000 = (r : Int) := by omega
    have hq1 : (u : Int) / 1000000000 = (q : Int) := by omega
    have hr2 : r < 1000000000 := by omega
    have hqu : q < u := by omega
    clear hr hq HI
    go_wp2_with (at_builtin; refine app_I (w.heap.size + 1) rfl _ _ 116 168 .u32 4 rfl Tryz.underlying116 info_u32 (by decide) _ l _ HO rfl rfl HBB.out hB hLL.out ?_; intro v1 w1 HO1 HB1 hB1)
    go_roundg q
    case measure => omega
    case rel => exact ⟨q, _, rfl, by go_num, by omega, HO1, hB1, HB1, HS.out⟩
   ·have hz : u = 0 := by omega
    subst hz
    have HE : Hid (dg B9 i = l) := by show _ = _; unfold dg; rw [HI.out, digs_zero, List.append_nil]
    clear HI
    obtain ⟨A1, c1, rfl, hs⟩ := HO.form
    have HSL := Lib.hid hs
    clear hs
    have RRh := R2.keepB HBB.out (by omega)
    have HBF := HB.trans (HBB.out.mono (by omega))
    have HRR := Lib.hid RRh
    clear R2 HB
    obtain ⟨⟨u1, r1⟩, ⟨u2, u3, u4, r2⟩, r3, r4, r5⟩ := RRh
    go_wp2
    refine bodyPost_ret (v := _) (by simp [results, Tryz.results123, go_sem, r1, r2, r5]; rfl) rfl ⟨_, rfl, ?_, below_set2 HBF (by omega) _ _⟩
    refine IsZ.res2 ⟨A1, c1, ?_, by rw [HE.out]; exact HSL.out⟩ HRR.out _ _
    first | (rw [HE.out]; done) | (rw [HE.out, decide_eq_true hi]; done) | (rw [HE.out]; rfl)
 ·have hi0 : 0 ≤ i := by omega
  go_enter Tryz.func123, Tryz.ntmps123
  go_wp2_with fail
  have R2 := newRes w 118
  have HB := below_alloc (Below.refl w.heap.size w) (Obj.cells #[Value.bool false, Value.slice none 0 0] 118)
  have hsz : (w.alloc (Obj.cells #[Value.bool false, Value.slice none 0 0] 118)).heap.size = w.heap.size + 1 := by simp
  generalize hW : w.alloc (Obj.cells #[Value.bool false, Value.slice none 0 0] 118) = W at *
  clear hW
  go_loopg [3, 4] i.natAbs (fun g out uv wr => ∃ (u : Nat) (l : List Int), g = u ∧ uv = .int .u64 u ∧ u < 18446744073709551616 ∧ OwI wr (w.heap.size + 1) 168 .u32 out l ∧ w.heap.size + 1 ≤ wr.heap.size ∧ Hid (Below (w.heap.size + 1) W wr) ∧ Hid (digs B9 i.natAbs = l ++ digs B9 u))
  case atStart => exact ⟨i.natAbs, [], rfl, by congr 1; omega, by omega, OwI.nil _ _ _ _, by omega, Below.refl _ _, by show _ = _; rw [List.nil_append]⟩
  case round =>
   clear hsz
   obtain ⟨u, l, hgk, rfl, hu, HO, hB, HBB, HI⟩ := hrel
   have hll : l.length ≤ 8 := by
    have h2 := HL.out
    rw [HI.out, List.length_append] at h2
    omega
   have hLL : Hid ((l.length + 1) * 4 ≤ 140737488355328) := by show _ ≤ _; omega
   by_cases hu0 : 0 < u
   ·have HS := Lib.hid (of_step HI.out hu0)
    have hui : 0 < (u : Int) := by omega
    obtain ⟨r, hr⟩ : ∃ r, u % 1000000000 = r := ⟨_, rfl⟩
    obtain ⟨q, hq⟩ : ∃ q, u / 1000000000 = q := ⟨_, rfl⟩
    rw [hr, hq] at HS
    have hr1 : (u : Int) % 1000000000 = (r : Int) := by omega
    have hq1 : (u : Int) / 1000000000 = (q : Int) := by omega
    have hr2 : r < 1000000000 := by omega
    have hqu : q < u := by omega
    clear hr hq HI
    go_wp2_with (at_builtin; refine app_I (w.heap.size + 1) rfl _ _ 116 168 .u32 4 rfl Tryz.underlying116 info_u32 (by decide) _ l _ HO rfl rfl HBB.out hB hLL.out ?_; intro v1 w1 HO1 HB1 hB1)
    go_roundg q
    case measure => omega
    case rel => exact ⟨q, _, rfl, by go_num, by omega, HO1, hB1, HB1, HS.out⟩
   ·have hz : u = 0 := by omega
    subst hz
    have HE : Hid (dg B9 i = l) := by show _ = _; unfold dg; rw [HI.out, digs_zero, List.append_nil]
    clear HI
    obtain ⟨A1, c1, rfl, hs⟩ := HO.form
    have HSL := Lib.hid hs
    clear hs
    have RRh := R2.keepB HBB.out (by omega)
    have HBF := HB.trans (HBB.out.mono (by omega))
    have HRR := Lib.hid RRh
    clear R2 HB
    obtain ⟨⟨u1, r1⟩, ⟨u2, u3, u4, r2⟩, r3, r4, r5⟩ := RRh
    go_wp2
    refine bodyPost_ret (v := _) (by simp [results, Tryz.results123, go_sem, r1, r2, r5]; rfl) rfl ⟨_, rfl, ?_, below_set2 HBF (by omega) _ _⟩
    refine IsZ.res2 ⟨A1, c1, ?_, by rw [HE.out]; exact HSL.out⟩ HRR.out _ _
    first | (rw [HE.out]; done) | (rw [HE.out, decide_eq_true hi]; done) | (rw [HE.out]; rfl)
end Go.Proofs.YtibdipfhfaeooaaGreatDoor


set_option linter.unusedVariables false
set_option linter.unusedSimpArgs false
namespace Go.Proofs.YtibdipfhfaeooaaGreatDoor
open Go.RowKit

set_option maxRecDepth 100000 in
set_option maxHeartbeats 4000000 in
theorem hMul_c (x y : Int) (v1 v2 : Value) (w : World) (h1 : IsH w v1 x) (h2 : IsH w v2 y) (sx : (dg B9 x).length ≤ 1000000000) (sy : (dg B9 y).length ≤ 1000000000) :
  Calls Tryz.prog 122 #[v1, v2] w fun e w' => ∃ v, e = .returned v ∧ IsH w' v (x * y) ∧ Below w.heap.size w w' := by
 obtain ⟨na, A1, n1, c1, rfl, H1⟩ := h1.form
 obtain ⟨nb, A2, n2, c2, rfl, H2⟩ := h2.form
 clear h1 h2
 obtain ⟨hna, hn1, L1⟩ := H1.out.sl
 obtain ⟨hnb, hn2, L2⟩ := H2.out.sl
 have D1 := Lib.hid (dg_dg B9two x)
 have D2 := Lib.hid (dg_dg B9two y)
 have V1 := Lib.hid (dg_V B9two x)
 have V2 := Lib.hid (dg_V B9two y)
 generalize dg B9 x = a at *
 generalize dg B9 y = b at *
 subst hn1 hn2
 replace hna := hna.symm
 replace hnb := hnb.symm
 have HR : Hid (sgnd (na != nb) (V B9 a * V B9 b) = x * y) := by
  show _ = _
  rw [V1.out, V2.out, ← Int.natCast_mul, ← Int.natAbs_mul]; unfold sgnd
  rcases Int.lt_trichotomy x 0 with hx | hx | hx <;> rcases Int.lt_trichotomy y 0 with hy | hy | hy
  ·have := Int.mul_pos_of_neg_of_neg hx hy
   have e1 : na = true := by rw [← hna]; simpa using hx
   have e2 : nb = true := by rw [← hnb]; simpa using hy
   subst e1 e2; simp; omega
  ·subst hy; simp
  ·have := Int.mul_neg_of_neg_of_pos hx hy
   have e1 : na = true := by rw [← hna]; simpa using hx
   have e2 : nb = false := by rw [← hnb]; simp; omega
   subst e1 e2; simp; omega
  ·subst hx; simp
  ·subst hx; simp
  ·subst hx; simp
  ·have := Int.mul_neg_of_pos_of_neg hx hy
   have e1 : na = false := by rw [← hna]; simp; omega
   have e2 : nb = true := by rw [← hnb]; simpa using hy
   subst e1 e2; simp; omega
  ·subst hy; simp
  ·have := Int.mul_pos hx hy
   have e1 : na = false := by rw [← hna]; simp; omega
   have e2 : nb = false := by rw [← hnb]; simp; omega
   subst e1 e2; simp; omega
 clear hna hnb V1 V2
 replace L1 := Lib.hid L1
 replace L2 := Lib.hid L2
 have hmk := fun W => run_make_row' (P := Tryz.prog) 116 168 (.int .u32 0) 4 Tryz.underlying116 info_u32 rfl .i64 .i64 (a.length + b.length + 1) (by omega) (by omega) W
 rw [show ((a.length + b.length + 1 : Nat) : Int) = (a.length : Int) + (b.length : Int) + 1 by omega] at hmk
 go_enter Tryz.func122, Tryz.ntmps122
 go_upto_region 1 with fail
 generalize hW : (w.alloc (Obj.cells #[Value.bool na, Value.slice A1 a.length c1] 118)).alloc (Obj.cells #[Value.bool nb, Value.slice A2 b.length c2] 118) = W0 at *
 obtain ⟨V2, V3, hs, HBW⟩ := start2H w _ W0 H1.out H2.out hW
 have R4 := newRes W0 118
 replace L1 := Lib.hid ((L1.out.below HBW).below (below_alloc (Below.refl W0.heap.size W0) (Obj.cells #[Value.bool false, Value.slice none 0 0] 118)))
 replace L2 := Lib.hid ((L2.out.below HBW).below (below_alloc (Below.refl W0.heap.size W0) (Obj.cells #[Value.bool false, Value.slice none 0 0] 118)))
 replace V2 := V2.keep (below_alloc (Below.refl W0.heap.size W0) (Obj.cells #[Value.bool false, Value.slice none 0 0] 118)); replace V3 := V3.keep (below_alloc (Below.refl W0.heap.size W0) (Obj.cells #[Value.bool false, Value.slice none 0 0] 118))
 replace HBW := below_alloc HBW (Obj.cells #[Value.bool false, Value.slice none 0 0] 118)
 clear hW H1 H2
 generalize hW : W0.alloc (Obj.cells #[Value.bool false, Value.slice none 0 0] 118) = W at *
 clear hW
 rw [hs] at R4
 clear hs
 have va1 := V2.c1; have vb1 := V3.c1
 go_upto_region 2 with fail
 clear hmk va1 vb1
 have HG0 := Lib.hid (BlkI.new W 168 .u32 (a.length + b.length + 1))
 have HB0 := below_alloc (Below.refl W.heap.size W) (Obj.cells (madeCells #[Value.int IntKind.u32 0] (a.length + b.length + 1)) 168)
 generalize hW : W.alloc (Obj.cells (madeCells #[Value.int IntKind.u32 0] (a.length + b.length + 1)) 168) = Wm at *
 clear hW
 have va1 := (V2.keep HB0).c1
 go_wp2_with fail
 clear va1
 go_loopg [26] a.length (fun g iv wr => ∃ (i : Nat) (l : List Int), g = a.length - i ∧ iv = .int .i64 i ∧ Hid (BlkI wr W.heap.size 168 .u32 l) ∧ Below W.heap.size W wr ∧ Hid (MulO a b l i))
 case atStart => exact ⟨0, _, rfl, rfl, HG0, HB0, MulO.first a b⟩
 case round =>
  clear HG0 HB0
  obtain ⟨i, l, hgk, rfl, HG, HB, HI⟩ := hrel
  obtain ⟨i1, i2, i3, i4⟩ := HI.out
  have I1 := Lib.hid i1
  have D3 := Lib.hid i2
  clear i1 i2 i3
  have W2 := V2.keep HB
  have W3 := V3.keep HB
  have vb1 := W3.c1
  have va0 := W2.c0
  have vb0 := W3.c0
  by_cases hi : i < a.length
  ·obtain ⟨ba, oa, rfl, hla, hca⟩ := (L1.out.below HB).cell (j := i) hi
   have hi0 : (0 : Int) ≤ (i : Int) := by omega
   have hi1 : (i : Int) < (a.length : Int) := by omega
   obtain ⟨x1, x2⟩ := gd9 D1.out i
   obtain ⟨X, hX⟩ : ∃ X, gd a i = X := ⟨_, rfl⟩
   rw [hX] at hca x1 x2
   have HX := Lib.hid hX
   clear hX
   have HM := Lib.hid (MulI.first HI.out hi)
   clear HI
   go_wp2_with fail
   clear hca hla va0 vb0 vb1
   go_loopg [8, 34] b.length (fun g cv kv wq => ∃ (k : Nat) (cy : Int) (l : List Int), g = b.length - k ∧ kv = .int .i64 k ∧ cv = .int .u64 cy ∧ k ≤ b.length ∧ Hid (BlkI wq W.heap.size 168 .u32 l) ∧ Below W.heap.size W wq ∧ Hid (MulI a b l i k cy))
   case atStart => exact ⟨0, 0, l, rfl, rfl, rfl, by omega, HG, HB, HM⟩
   case round =>
    clear HG HB HM W2 W3 I1 D3
    obtain ⟨k, cy, l, hgk2, rfl, rfl, hkb, HG, HB, HI⟩ := hrel
    obtain ⟨j1, j2, j3, j4, -, j6, j7⟩ := HI.out
    have W3 := V3.keep HB
    have vb1 := W3.c1
    by_cases hk : k < b.length
    ·have HST := Lib.hid (HI.out.step D1.out D2.out hkb)
     rw [HX.out] at HST
     obtain ⟨y1, y2⟩ := gd9 D2.out k
     obtain ⟨o1, o2⟩ := gd9 j2 (i + k)
     have q1 := HG.out.cell (j := i + k) (by omega)
     have q2 := HG.out.frozen (i + k)
     obtain ⟨bb, ob, rfl, hlb, hcb⟩ := (L2.out.below HB).cell (j := k) hk
     obtain ⟨Y, hY⟩ : ∃ Y, gd b k = Y := ⟨_, rfl⟩
     obtain ⟨O, hO⟩ : ∃ O, gd l (i + k) = O := ⟨_, rfl⟩
     rw [hY] at hcb HST y1 y2
     rw [hO] at q1 HST o1 o2
     have p1 : 0 ≤ X * Y := Int.mul_nonneg x1 y1
     have p2 : X * Y ≤ 999999999 * 999999999 := Int.mul_le_mul (by omega) (by omega) y1 (by omega)
     obtain ⟨p, hp⟩ : ∃ p, X * Y = p := ⟨_, rfl⟩
     rw [hp] at HST p1 p2
     have hk0 : (0 : Int) ≤ (k : Int) := by omega
     have hk1 : (k : Int) < (b.length : Int) := by omega
     have hk2 : (0 : Int) ≤ (i : Int) + (k : Int) := by omega
     have hk3 : (i : Int) + (k : Int) < (a.length : Int) + (b.length : Int) + 1 := by omega
     have hk4 : (i : Int) + (k : Int) < ((a.length + b.length + 1 : Nat) : Int) := by omega
     have hkn : i + k < a.length + b.length + 1 := by omega
     have e0 : ((i : Int) + (k : Int)).toNat = i + k := by omega
     clear j1 j2 HI hY hO
     go_wp2
     go_roundg (b.length - (k + 1))
     case measure => omega
     case rel => exact ⟨k + 1, _, _, rfl, by go_num, rfl, by omega, HG.out.set _ _, HB.setCell (p := ⟨_, _, none⟩) (Nat.le_refl _) _, HST.out⟩
    ·have hkk : k = b.length := by omega
     subst hkk
     have hk1 : ¬ ((b.length : Int) < (b.length : Int)) := by omega
     clear hk j1 j2 hgk2
     go_wp2_with fail
     go_loopg [8, 12] 1 (fun g cv kv wq => ∃ (k : Nat) (cy : Int) (l : List Int), g = b.length + 1 - k ∧ kv = .int .i64 ((i : Int) + (k : Int)) ∧ cv = .int .u64 cy ∧ b.length ≤ k ∧ Hid (BlkI wq W.heap.size 168 .u32 l) ∧ Below W.heap.size W wq ∧ Hid (MulI a b l i k cy))
     case atStart => exact ⟨b.length, cy, l, by omega, rfl, rfl, by omega, HG, HB, HI⟩
     case round =>
      clear HG HB HI W3 vb1 j3 j4 j6 j7
      obtain ⟨k, cy, l, hgk2, rfl, rfl, hkb, HG, HB, HI⟩ := hrel
      obtain ⟨j1, j2, j3, j4, -, j6, j7⟩ := HI.out
      by_cases hcy : 0 < cy
      ·have hkl := HI.out.place D1.out D2.out (.inr hcy)
       have HST := Lib.hid (HI.out.step D1.out D2.out hkl)
       rw [gd_ge (show b.length ≤ k from hkb), Int.mul_zero, Int.add_zero] at HST
       obtain ⟨o1, o2⟩ := gd9 j2 (i + k)
       have q1 := HG.out.cell (j := i + k) (by omega)
       have q2 := HG.out.frozen (i + k)
       obtain ⟨O, hO⟩ : ∃ O, gd l (i + k) = O := ⟨_, rfl⟩
       rw [hO] at q1 HST o1 o2
       have hk2 : (0 : Int) ≤ (i : Int) + (k : Int) := by omega
       have hk3 : (i : Int) + (k : Int) < (a.length : Int) + (b.length : Int) + 1 := by omega
       have hk4 : (i : Int) + (k : Int) < ((a.length + b.length + 1 : Nat) : Int) := by omega
       have hkn : i + k < a.length + b.length + 1 := by omega
       have e0 : ((i : Int) + (k : Int)).toNat = i + k := by omega
       clear j1 j2 HI hO
       go_wp2
       go_roundg (b.length + 1 - (k + 1))
       case measure => omega
       case rel => exact ⟨k + 1, _, _, rfl, by go_num, rfl, by omega, HG.out.set _ _, HB.setCell (p := ⟨_, _, none⟩) (Nat.le_refl _) _, HST.out⟩
      ·obtain rfl : cy = 0 := by omega
       have HST := Lib.hid (HI.out.last hkb)
       clear HI j1 j2
       go_wp2
       go_roundg (a.length - (i + 1))
       case measure => omega
       case rel => exact ⟨i + 1, l, rfl, by go_num, HG, HB, HST.out⟩
  ·have HE := Lib.hid (HI.out.last (by omega))
   have HL := Lib.hid (HG.out.slI (by have := I1.out; omega))
   have hll : a.length + b.length + 1 = l.length := I1.out.symm
   have RR := R4.keep HB
   have HBF := HBW.trans (HB.mono HBW.size)
   clear HI
   rw [hll]
   cases na <;> cases nb
   all_goals
    go_wp2_with fail
    (with_reducible refine (htrim_n _ _ _ l _ HL.out D3.out).mono ?_)
    rintro e w6 ⟨v, rfl, hv, hb⟩
    obtain ⟨n6, A6, m6, k6, rfl, H6⟩ := hv.form; clear hv
    replace RR := RR.keep hb
    replace HBF := below_step HBF hb
    clear hb
    have RRh := RR
    obtain ⟨⟨u1, r1⟩, ⟨u2, u3, u4, r2⟩, r3, r4, r5⟩ := RR
    go_wp2
    refine bodyPost_ret (v := .agg #[.bool n6, .slice A6 m6 k6]) (by simp [results, Tryz.results122, go_sem, r1, r2, r5]) rfl ⟨_, rfl, ?_, below_set2 HBF (by omega) _ _⟩
    rw [← HR.out, ← HE.out]
    exact H6.out.res2 RRh _ _
end Go.Proofs.YtibdipfhfaeooaaGreatDoor


set_option linter.unusedVariables false
set_option linter.unusedSimpArgs false
namespace Go.Proofs.YtibdipfhfaeooaaGreatDoor
open Go.RowKit

theorem startH (w : World) {na : Bool} {A : Option Addr} {n c : Nat} {z : Int} (t : TypeId) (W : World) (h : IsH w (.agg #[.bool na, .slice A n c]) z)
  (hW : (w.alloc (.cells #[.bool na, .slice A n c] t)).alloc (.cells #[.bool false, .slice none 0 0] t) = W) :
  VH W w.heap.size na A n c z ∧ Res2 W (w.heap.size + 1) ∧ W.heap.size = w.heap.size + 1 + 1 ∧ Below w.heap.size w W := by
 have h1 := VX.new w t h
 have h2 := newRes (w.alloc (.cells #[.bool na, .slice A n c] t)) t
 have e : (w.alloc (.cells #[.bool na, .slice A n c] t)).heap.size = w.heap.size + 1 := by simp
 rw [e] at h2
 subst hW
 exact ⟨h1.keep (below_alloc (Below.refl _ _) _), h2, by simp, below_alloc (below_alloc (Below.refl _ _) _) _⟩
theorem set_gd {l : List Int} {k : Nat} (h : k < l.length) (x : Int) : gd (l.set k x) k = x := by unfold gd; simp [h]
set_option maxRecDepth 100000 in
set_option maxHeartbeats 4000000 in
theorem hSmall_c (z d : Int) (v : Value) (w : World) (h : IsH w v z) (hd1 : 1 ≤ d) (hd2 : d ≤ 1000000000) (sz : (dg B9 z).length ≤ 1000000000) :
  Calls Tryz.prog 121 #[v, .int .i64 d] w fun e w' => ∃ v', e = .returned (.tuple #[v', .int .i64 (z % d)]) ∧ IsH w' v' (z / d) ∧ Below w.heap.size w w' := by
 obtain ⟨na, A, n, c, rfl, H⟩ := h.form
 clear h
 obtain ⟨hna, hn, L1⟩ := H.out.sl
 have D1 := Lib.hid (dg_dg B9two z)
 have V1 := Lib.hid (dg_V B9two z)
 have LQ : Hid (∀ s, (dg B9 (sgnd s ((z.natAbs : Int) / d))).length ≤ 1000000000) := fun s => by
  have h1 : ((z.natAbs : Int) / d).natAbs ≤ (z.natAbs : Int).natAbs := Int.natAbs_ediv_le_natAbs _ _
  unfold dg at sz ⊢
  rw [sgnd_abs]
  have h2 := digs_len_mono B9two h1
  rw [Int.natAbs_natCast] at h2
  omega
 generalize dg B9 z = a at *
 subst hn
 have HNA := Lib.hid hna
 clear hna
 replace L1 := Lib.hid L1
 have hmk := fun W => run_make_row' (P := Tryz.prog) 116 168 (.int .u32 0) 4 Tryz.underlying116 info_u32 rfl .i64 .i64 a.length (by omega) (by omega) W
 go_enter Tryz.func121, Tryz.ntmps121
 go_upto_region 1 with fail
 generalize hW : (w.alloc (Obj.cells #[Value.bool na, Value.slice A a.length c] 118)).alloc (Obj.cells #[Value.bool false, Value.slice none 0 0] 118) = W at *
 obtain ⟨V2, R4, hs, HBW⟩ := startH w _ W H.out hW
 replace L1 := Lib.hid (L1.out.below HBW)
 clear hW H hs
 have va1 := V2.c1
 go_upto_region 2 with fail
 clear hmk va1
 have HG0 := Lib.hid (BlkI.new W 168 .u32 a.length)
 have HB0 := below_alloc (Below.refl W.heap.size W) (Obj.cells (madeCells #[Value.int IntKind.u32 0] a.length) 168)
 generalize hW : W.alloc (Obj.cells (madeCells #[Value.int IntKind.u32 0] a.length) 168) = Wm at *
 clear hW
 have va1 := (V2.keep HB0).c1
 go_wp2_with fail
 clear va1
 have hud : IntKind.u64.wrap d = d := by rw [IntKind.wrap_u64]; omega
 go_loopg [7, 8] a.length (fun g rv iv wr => ∃ (k : Nat) (r : Int) (l : List Int), g = k ∧ iv = .int .i64 ((k : Int) - 1) ∧ rv = .int .u64 r ∧ Hid (BlkI wr W.heap.size 168 .u32 l) ∧ Below W.heap.size W wr ∧ Hid (PartI a l d k r))
 case atStart => exact ⟨a.length, 0, _, rfl, rfl, rfl, HG0, HB0, PartI.first a d hd1⟩
 case round =>
  clear HG0 HB0
  obtain ⟨k, r, l, hgk, rfl, rfl, HG, HB0, HI⟩ := hrel
  obtain ⟨i1, i2, i3, i4, -, i6⟩ := HI.out
  have W2 := V2.keep HB0
  have va0 := W2.c0
  have va1 := W2.c1
  rcases Nat.eq_zero_or_pos k with rfl | hk0
  ·obtain ⟨e1, e2⟩ := HI.out.last
   have E1 := Lib.hid e1
   have E2 := Lib.hid e2
   have D3 := Lib.hid i2
   have HL := Lib.hid (HG.out.slI (by omega))
   have hll : l.length = a.length := i1
   clear HI e1 e2 i1 i2 HG
   replace R4 := R4.keep HB0
   have HB := HBW.trans (HB0.mono HBW.size)
   replace V2 := W2
   clear HBW HB0 W2 L1
   rw [← hll]
   clear hll
   rw [V1.out] at E1 E2
   go_wp2_with fail
   (with_reducible refine (htrim_n _ _ _ l _ HL.out D3.out).mono ?_)
   rintro e w6 ⟨v, rfl, hv, hb⟩
   obtain ⟨n6, A6, m6, k6, rfl, H6⟩ := hv.form; clear hv
   have R6 := (R4.keep hb).2.2.2.2
   replace V2 := V2.keep hb; replace R4 := R4.keep hb; replace HB := below_step HB hb
   clear hb va0 va1 HL D3
   rw [E1.out] at H6
   have HQ := H6
   have V10 := VX.new w6 118 H6.out
   replace V2 := V2.keep (below_alloc (Below.refl w6.heap.size w6) (Obj.cells #[Value.bool n6, Value.slice A6 m6 k6] 118)); replace R4 := R4.keep (below_alloc (Below.refl w6.heap.size w6) (Obj.cells #[Value.bool n6, Value.slice A6 m6 k6] 118)); replace HB := below_step HB (below_alloc (Below.refl w6.heap.size w6) (Obj.cells #[Value.bool n6, Value.slice A6 m6 k6] 118))
   have va0 := V2.c0
   have HZ : Hid ((if na then -z else z) = (z.natAbs : Int)) := by
    show _ = _
    rw [HNA.out]; by_cases h : z < 0 <;> simp [h] <;> omega
   obtain ⟨b10, hb10⟩ : ∃ b, w6.heap.size = b := ⟨_, rfl⟩
   rw [hb10] at V10
   have hnb : w.heap.size + 1 < b10 := by rw [← hb10]; exact R6
   have hrd : r < d := i4
   go_upto_region 10 with fail
   generalize hW : w6.alloc (Obj.cells #[Value.bool n6, Value.slice A6 m6 k6] 118) = W6 at *
   clear hW
   try rw [hb10]
   clear hb10
   have hwr : IntKind.i64.wrap r = r := by rw [IntKind.wrap_i64]; omega
   by_cases hneg : na = true
   ·by_cases hr : 0 < r
    ·have HR : Hid (z / d = sgnd true ((z.natAbs : Int) / d) - 1 ∧ z % d = d - r) := by
      have e := neg_div1 (n := (z.natAbs : Int)) hd1 rfl rfl (by rw [← E2.out]; omega)
      have hz := HZ.out
      rw [if_pos hneg] at hz
      have hz2 : -(z.natAbs : Int) = z := by omega
      rw [hz2] at e
      refine ⟨?_, by rw [e.2, E2.out]⟩
      rw [e.1]; show _ = -((z.natAbs : Int) / d) - 1; omega
     subst hneg
     have hwd : IntKind.i64.wrap (d - r) = d - r := by rw [IntKind.wrap_i64]; omega
     go_wp2_with fail
     replace V10 := V10.drew
     replace R4 := R4.drew
     replace HB := below_drew HB
     generalize hWd : W6.drew = wd at *
     refine wp_region_F (fun w' => w'.cell? ⟨b10, 0, none⟩ = some (.bool n6) ∧ w'.cell? ⟨b10, 1, none⟩ = some (.slice A6 m6 k6)) [7, 8] (by kernel_rfl) (by rw [hWd]; exact ⟨V10.c0, V10.c1⟩) (fun hHeld => ?_)
     rw [hWd] at hHeld ⊢
     refine tF 0 ({ dst := some 54, op := Go.Op.load 118 (Go.Operand.tmp 10), type := 118, pos := "whole.go:252", after := #[], guard := none }) hHeld ?_; try go_frame
     refine pF 3 ({ dst := some 57, op := Go.Op.move (Go.Operand.tmp 1), type := 3, pos := "whole.go:252", after := #[{ on := 7, ground := Go.Ground.gcOnly Go.Departure.lateStores }], guard := none }) hHeld ?_; try go_frame
     refine pF 4 ({ dst := some 58, op := Go.Op.move (Go.Operand.tmp 7), type := 150, pos := "whole.go:252", after := #[{ on := 7, ground := Go.Ground.gcOnly Go.Departure.lateStores }], guard := none }) hHeld ?_; try go_frame
     refine pF 5 ({ dst := some 59, op := Go.Op.convert 150 3 (Go.Operand.tmp 58), type := 3, pos := "whole.go:252", after := #[{ on := 4, ground := Go.Ground.data }, { on := 7, ground := Go.Ground.gcOnly Go.Departure.lateStores }], guard := none }) hHeld ?_; try go_frame
     refine pF 6 ({ dst := some 60, op := Go.Op.binOp Go.BinOp.sub 3 (Go.Operand.tmp 57) (Go.Operand.tmp 59) 3, type := 3, pos := "whole.go:252", after := #[{ on := 3, ground := Go.Ground.data }, { on := 5, ground := Go.Ground.data }, { on := 7, ground := Go.Ground.gcOnly Go.Departure.lateStores }], guard := none }) hHeld ?_; try go_frame
     refine wpAnyF_one (i := 1) (by kernel_rfl) rfl (fun K hK => ?_)
     go_simp
     (go_at_call 123; (with_reducible refine (hOf_c 1 _ (by omega) (by omega)).mono ?_); rintro e w7 ⟨v, rfl, hv, hb⟩; obtain ⟨n7, A7, m7, k7, rfl, H7⟩ := hv.form; clear hv; replace V10 := V10.keep hb; replace R4 := R4.keep hb; replace HB := below_step HB hb; clear hb)
     refine hK.out _ _ (by exact ⟨V10.c0, V10.c1⟩) (fun hHeld => ?_)
     clear hK K
     try go_frame
     refine wpAnyF_one (i := 2) (by kernel_rfl) rfl (fun K hK => ?_)
     go_simp
     (go_at_call 155; (with_reducible refine (hSub_c (sgnd true ((z.natAbs : Int) / d)) 1 _ _ _ (by exact V10.iz.out) H7.out (by have := LQ.out true; omega) len_one).mono ?_); rintro e w8 ⟨v, rfl, hv, hb⟩; obtain ⟨n8, A8, m8, k8, rfl, H8⟩ := hv.form; clear hv; replace V10 := V10.keep hb; replace R4 := R4.keep hb; replace HB := below_step HB hb; clear hb; have RRh := R4; obtain ⟨⟨u1, r1⟩, ⟨u2, u3, u4, r2⟩, r3, r4, r5⟩ := R4)
     refine hK.out _ _ (by exact ⟨V10.c0, V10.c1⟩) (fun hHeld => ?_)
     clear hK K
     try go_frame
     refine wpAnyF_st (i := 7) (by kernel_rfl) (by kernel_rfl) rfl (fun K hK => ?_)
     go_simp
     refine hK.out _ _ ?_
     clear hK K
     try go_frame
     refine wpAnyF_st (i := 8) (by kernel_rfl) (by kernel_rfl) rfl (fun K hK => ?_)
     go_simp
     refine hK.out _ _ ?_
     clear hK K
     try go_frame
     refine wpAnyF_done (by kernel_rfl) ?_ _
     clear hHeld hWd
     go_wp2
     refine bodyPost_ret (v := .tuple #[.agg #[.bool n8, .slice A8 m8 k8], .int .i64 (d - r)]) (by simp [results, Tryz.results121, go_sem, r1, r2, r5]) rfl ⟨_, by rw [HR.out.2], ?_, below_set2 HB (by omega) _ _⟩
     rw [HR.out.1]
     exact H8.out.res2 RRh _ _
    ·have hr0 : r = 0 := by omega
     have HR : Hid (z / d = sgnd na ((z.natAbs : Int) / d) ∧ z % d = r) := by
      have e := neg_div0 (n := (z.natAbs : Int)) hd1 rfl rfl (by rw [← E2.out]; omega)
      have hz := HZ.out
      rw [if_pos hneg] at hz
      have hz2 : -(z.natAbs : Int) = z := by omega
      rw [hz2] at e
      refine ⟨?_, by rw [e.2, hr0]⟩
      rw [e.1, hneg]; rfl
     subst hneg
     clear hr0
     have va0 := V2.c0
     have vm0 := V10.c0; have vm1 := V10.c1
     have RRh := R4
     obtain ⟨⟨u1, r1⟩, ⟨u2, u3, u4, r2⟩, r3, r4, r5⟩ := R4
     have hnb2 : b10 ≠ w.heap.size + 1 := by omega
     go_wp2
     refine bodyPost_ret (v := .tuple #[.agg #[.bool n6, .slice A6 m6 k6], .int .i64 r]) (by simp [results, Tryz.results121, go_sem, r1, r2, r5]) rfl ⟨_, by rw [HR.out.2], ?_, below_set2 HB (by omega) _ _⟩
     rw [HR.out.1]
     exact V10.iz.out.res2 RRh _ _
   ·have HR : Hid (z / d = sgnd na ((z.natAbs : Int) / d) ∧ z % d = r) := by
     have hz := HZ.out
     rw [if_neg hneg] at hz
     have hf : na = false := by simpa using hneg
     rw [hf, ← hz]
     exact ⟨rfl, by rw [E2.out, ← hz]⟩
    have hf : na = false := by simpa using hneg
    subst hf
    have va0 := V2.c0
    have vm0 := V10.c0; have vm1 := V10.c1
    have RRh := R4
    obtain ⟨⟨u1, r1⟩, ⟨u2, u3, u4, r2⟩, r3, r4, r5⟩ := R4
    have hnb2 : b10 ≠ w.heap.size + 1 := by omega
    go_wp2
    refine bodyPost_ret (v := .tuple #[.agg #[.bool n6, .slice A6 m6 k6], .int .i64 r]) (by simp [results, Tryz.results121, go_sem, r1, r2, r5]) rfl ⟨_, by rw [HR.out.2], ?_, below_set2 HB (by omega) _ _⟩
    rw [HR.out.1]
    exact V10.iz.out.res2 RRh _ _
  ·obtain ⟨k, rfl⟩ : ∃ m, k = m + 1 := ⟨k - 1, by omega⟩
   have HST := Lib.hid (HI.out.step D1.out)
   have hq := gd9 HST.out.2.1 k
   rw [set_gd (by omega)] at hq
   obtain ⟨hq0, hq1⟩ := hq
   obtain ⟨x1, x2⟩ := gd9 D1.out k
   obtain ⟨ba, oa, rfl, hla, hca⟩ := (L1.out.below HB0).cell (j := k) (by omega)
   have q1 := HG.out.cell (j := k) (by omega)
   have q2 := HG.out.frozen k
   obtain ⟨X, hX⟩ : ∃ X, gd a k = X := ⟨_, rfl⟩
   rw [hX] at hca x1 x2 HST hq0 hq1
   obtain ⟨S, hS⟩ : ∃ S, r * 1000000000 + X = S := ⟨_, rfl⟩
   have hS0 : 0 ≤ S := by omega
   have hS1 : S < 1000000000000000000 := by omega
   rw [hS] at HST hq0 hq1
   have hr0 := Int.emod_nonneg S (show d ≠ 0 by omega)
   have hr1 := Int.emod_lt_of_pos S (show 0 < d by omega)
   have hd0 : ¬ d = 0 := by omega
   have hk1 : (k : Int) < (a.length : Int) := by omega
   have hki : (0 : Int) ≤ (k : Int) := by omega
   rw [show ((k + 1 : Nat) : Int) - 1 = (k : Int) by omega]
   clear i1 i2 HI hX
   go_wp2
   go_roundg k
   case measure => omega
   case rel => exact ⟨k, _, _, rfl, by go_num, rfl, HG.out.set _ _, HB0.setCell (p := ⟨_, _, none⟩) (Nat.le_refl _) _, HST.out⟩
end Go.Proofs.YtibdipfhfaeooaaGreatDoor

