/- What sums and comparisons of whole numbers of package wide do to memory and what they return. No condition. -/
import Derived.Test.YtibdipfhfaeooaaGreatDoorYC
import Derived.Test.YtibdipfhfaeooaaGreatDoorZ3
import Derived.Maps.RangeWalk
import Derived.Test.YtibdipfhfaeooaaGreatDoorZB
import Derived.Test.YtibdipfhfaeooaaGreatDoorZE
set_option linter.unusedVariables false
set_option linter.unusedSimpArgs false
namespace Go.Proofs.YtibdipfhfaeooaaGreatDoor
open Go.RowKit

set_option maxRecDepth 100000 in
set_option maxHeartbeats 2000000 in
theorem wPlus_c (x y : Int) (v1 v2 : Value) (w : World) (h1 : IsI w v1 x) (h2 : IsI w v2 y) (sx : (dg B64 x).length ≤ 1000000000) (sy : (dg B64 y).length ≤ 1000000000) :
  Calls Tryz.prog 138 #[v1, v2] w fun e w' => ∃ v, e = .returned v ∧ IsI w' v (x + y) ∧ Below w.heap.size w w' := by
 obtain ⟨na, A1, n1, c1, rfl, H1⟩ := h1.form
 obtain ⟨nb, A2, n2, c2, rfl, H2⟩ := h2.form
 clear h1 h2
 obtain ⟨p1, p2, _⟩ := isI_size H1.out
 obtain ⟨q1, q2, _⟩ := isI_size H2.out
 have S1 := Lib.hid p1
 have S2 := Lib.hid q1
 clear p1 q1 H1 H2
 unfold dg at sx sy
 obtain ⟨z1, hz1⟩ : ∃ z1, x.natAbs = z1 := ⟨_, rfl⟩
 obtain ⟨z2, hz2⟩ : ∃ z2, y.natAbs = z2 := ⟨_, rfl⟩
 rw [hz1] at sx S1
 rw [hz2] at sy S2
 have HX : Hid (x = sgnd na z1) := by show _ = _; unfold sgnd; rw [p2]; split <;> rename_i h <;> simp at h <;> omega
 have HY : Hid (y = sgnd nb z2) := by show _ = _; unfold sgnd; rw [q2]; split <;> rename_i h <;> simp at h <;> omega
 clear p2 q2 hz1 hz2
 cases na <;> cases nb
 ·have HE : Hid (sgnd false ((z1 + z2 : Nat) : Int) = x + y) := by show _ = _; rw [HX.out, HY.out]; unfold sgnd; (try simp) <;> (try omega)
  go_enter Tryz.func138, Tryz.ntmps138
  go_wp2_with fail
  generalize hW : ((w.alloc (Obj.cells #[Value.bool _, Value.slice A1 n1 c1] 83)).alloc _).alloc _ = W
  obtain ⟨hS, HR2, HBW⟩ := start2 w _ _ _ _ _ W hW
  clear hW
  have K1 := Lib.hid (S1.out.below HBW)
  have K2 := Lib.hid (S2.out.below HBW)
  go_region_held3 (fun w' => w'.cell? ⟨w.heap.size, 0, none⟩ = some (.bool false) ∧ w'.cell? ⟨w.heap.size, 1, none⟩ = some (.slice A1 n1 c1) ∧ w'.cell? ⟨w.heap.size + 1, 0, none⟩ = some (.bool false) ∧ w'.cell? ⟨w.heap.size + 1, 1, none⟩ = some (.slice A2 n2 c2) ∧ w.heap.size + 1 + 1 < w'.heap.size)
   (first | exact hS | exact keep2 hb1 hS | exact keep2 hb2 (keep2 hb1 hS) | exact keep2s (keep2s (keep2 hb2 (keep2 hb1 hS))))
   (first
    | (go_at_call 154; (with_reducible refine (Plus_c z1 z2 _ _ _ (by exact K1.out.below (by repeat (with_reducible first | assumption | exact Below.refl _ _ | apply below_drew | apply below_drewN | apply below_alloc | refine below_step ?_ (by assumption)))) (by exact K2.out.below (by repeat (with_reducible first | assumption | exact Below.refl _ _ | apply below_drew | apply below_drewN | apply below_alloc | refine below_step ?_ (by assumption)))) sx sy).mono ?_); rintro e w1 ⟨v, rfl, hv, hb1⟩; obtain ⟨A3, m3, k3, rfl, T3⟩ := hv.form; clear hv)
    | (go_at_call 104; (with_reducible refine (made_c false A3 m3 k3 _ _ (by exact T3.out.below (by repeat (with_reducible first | assumption | exact Below.refl _ _ | apply below_drew | apply below_drewN | apply below_alloc | refine below_step ?_ (by assumption))))).mono ?_); rintro e w2 ⟨v, rfl, hv, hb2⟩; obtain ⟨n4, A4, m4, k4, rfl, H4⟩ := hv.form; clear hv; have HR4 := Lib.hid ((HR2.drew.keep hb1).keep hb2); obtain ⟨⟨u1, r1⟩, ⟨u2, u3, u4, r2⟩, r3, r4, r5⟩ := HR4.out))
  go_wp2
  refine bodyPost_ret (v := .agg #[.bool n4, .slice A4 m4 k4]) (by simp [results, Tryz.results138, go_sem, r1, r2, r5]) rfl ⟨_, rfl, ?_, ?_⟩
  ·have := H4.out
   rw [HE.out] at this
   exact this.res2 HR4.out _ _
  ·exact below_set (below_set (below_step (below_step (below_drew HBW) hb1) hb2) (by omega) _) (by omega) _
 ·by_cases hlt : z1 < z2
  ·have hq : icmp (z1 : Int) (z2 : Int) < 0 := by unfold icmp; rw [if_pos (by omega)]; omega
   have HLT := Lib.hid hlt
   clear hlt
   have HE : Hid (sgnd true ((z2 - z1 : Nat) : Int) = x + y) := by show _ = _; have := HLT.out; rw [HX.out, HY.out]; unfold sgnd; (try simp) <;> (try omega)
   go_enter Tryz.func138, Tryz.ntmps138
   go_wp2_with fail
   generalize hW : ((w.alloc (Obj.cells #[Value.bool _, Value.slice A1 n1 c1] 83)).alloc _).alloc _ = W
   obtain ⟨hS, HR2, HBW⟩ := start2 w _ _ _ _ _ W hW
   clear hW
   have K1 := Lib.hid (S1.out.below HBW)
   have K2 := Lib.hid (S2.out.below HBW)
   (with_reducible refine (Compare_c z1 z2 _ _ _ K1.out K2.out).mono ?_)
   rintro e w0 ⟨rfl, hw0⟩
   subst hw0
   go_wp2
   go_region_held3 (fun w' => w'.cell? ⟨w.heap.size, 0, none⟩ = some (.bool false) ∧ w'.cell? ⟨w.heap.size, 1, none⟩ = some (.slice A1 n1 c1) ∧ w'.cell? ⟨w.heap.size + 1, 0, none⟩ = some (.bool true) ∧ w'.cell? ⟨w.heap.size + 1, 1, none⟩ = some (.slice A2 n2 c2) ∧ w.heap.size + 1 + 1 < w'.heap.size)
    (first | exact hS | exact keep2 hb1 hS | exact keep2 hb2 (keep2 hb1 hS) | exact keep2s (keep2s (keep2 hb2 (keep2 hb1 hS))))
    (first
     | (go_at_call 162; (with_reducible refine (wMinus_c z2 z1 _ _ _ (by exact K2.out.below (by repeat (with_reducible first | assumption | exact Below.refl _ _ | apply below_drew | apply below_drewN | apply below_alloc | refine below_step ?_ (by assumption)))) (by exact K1.out.below (by repeat (with_reducible first | assumption | exact Below.refl _ _ | apply below_drew | apply below_drewN | apply below_alloc | refine below_step ?_ (by assumption)))) sy (by have := HLT.out; omega)).mono ?_); rintro e w1 ⟨v, rfl, hv, hb1⟩; obtain ⟨A3, m3, k3, rfl, T3⟩ := hv.form; clear hv)
     | (go_at_call 104; (with_reducible refine (made_c true A3 m3 k3 _ _ (by exact T3.out.below (by repeat (with_reducible first | assumption | exact Below.refl _ _ | apply below_drew | apply below_drewN | apply below_alloc | refine below_step ?_ (by assumption))))).mono ?_); rintro e w2 ⟨v, rfl, hv, hb2⟩; obtain ⟨n4, A4, m4, k4, rfl, H4⟩ := hv.form; clear hv; have HR4 := Lib.hid ((HR2.drew.keep hb1).keep hb2); obtain ⟨⟨u1, r1⟩, ⟨u2, u3, u4, r2⟩, r3, r4, r5⟩ := HR4.out))
   go_wp2
   refine bodyPost_ret (v := .agg #[.bool n4, .slice A4 m4 k4]) (by simp [results, Tryz.results138, go_sem, r1, r2, r5]) rfl ⟨_, rfl, ?_, ?_⟩
   ·have := H4.out
    rw [HE.out] at this
    exact this.res2 HR4.out _ _
   ·exact below_set (below_set (below_step (below_step (below_drew HBW) hb1) hb2) (by omega) _) (by omega) _
  ·have hq : 0 ≤ icmp (z1 : Int) (z2 : Int) := by unfold icmp; rw [if_neg (by omega)]; split <;> omega
   have HLT := Lib.hid hlt
   clear hlt
   have HE : Hid (sgnd false ((z1 - z2 : Nat) : Int) = x + y) := by show _ = _; have := HLT.out; rw [HX.out, HY.out]; unfold sgnd; (try simp) <;> (try omega)
   go_enter Tryz.func138, Tryz.ntmps138
   go_wp2_with fail
   generalize hW : ((w.alloc (Obj.cells #[Value.bool _, Value.slice A1 n1 c1] 83)).alloc _).alloc _ = W
   obtain ⟨hS, HR2, HBW⟩ := start2 w _ _ _ _ _ W hW
   clear hW
   have K1 := Lib.hid (S1.out.below HBW)
   have K2 := Lib.hid (S2.out.below HBW)
   (with_reducible refine (Compare_c z1 z2 _ _ _ K1.out K2.out).mono ?_)
   rintro e w0 ⟨rfl, hw0⟩
   subst hw0
   go_wp2
   go_region_held3 (fun w' => w'.cell? ⟨w.heap.size, 0, none⟩ = some (.bool false) ∧ w'.cell? ⟨w.heap.size, 1, none⟩ = some (.slice A1 n1 c1) ∧ w'.cell? ⟨w.heap.size + 1, 0, none⟩ = some (.bool true) ∧ w'.cell? ⟨w.heap.size + 1, 1, none⟩ = some (.slice A2 n2 c2) ∧ w.heap.size + 1 + 1 < w'.heap.size)
    (first | exact hS | exact keep2 hb1 hS | exact keep2 hb2 (keep2 hb1 hS) | exact keep2s (keep2s (keep2 hb2 (keep2 hb1 hS))))
    (first
     | (go_at_call 162; (with_reducible refine (wMinus_c z1 z2 _ _ _ (by exact K1.out.below (by repeat (with_reducible first | assumption | exact Below.refl _ _ | apply below_drew | apply below_drewN | apply below_alloc | refine below_step ?_ (by assumption)))) (by exact K2.out.below (by repeat (with_reducible first | assumption | exact Below.refl _ _ | apply below_drew | apply below_drewN | apply below_alloc | refine below_step ?_ (by assumption)))) sx (by have := HLT.out; omega)).mono ?_); rintro e w1 ⟨v, rfl, hv, hb1⟩; obtain ⟨A3, m3, k3, rfl, T3⟩ := hv.form; clear hv)
     | (go_at_call 104; (with_reducible refine (made_c false A3 m3 k3 _ _ (by exact T3.out.below (by repeat (with_reducible first | assumption | exact Below.refl _ _ | apply below_drew | apply below_drewN | apply below_alloc | refine below_step ?_ (by assumption))))).mono ?_); rintro e w2 ⟨v, rfl, hv, hb2⟩; obtain ⟨n4, A4, m4, k4, rfl, H4⟩ := hv.form; clear hv; have HR4 := Lib.hid ((HR2.drew.keep hb1).keep hb2); obtain ⟨⟨u1, r1⟩, ⟨u2, u3, u4, r2⟩, r3, r4, r5⟩ := HR4.out))
   go_wp2
   refine bodyPost_ret (v := .agg #[.bool n4, .slice A4 m4 k4]) (by simp [results, Tryz.results138, go_sem, r1, r2, r5]) rfl ⟨_, rfl, ?_, ?_⟩
   ·have := H4.out
    rw [HE.out] at this
    exact this.res2 HR4.out _ _
   ·exact below_set (below_set (below_step (below_step (below_drew HBW) hb1) hb2) (by omega) _) (by omega) _
 ·by_cases hlt : z1 < z2
  ·have hq : icmp (z1 : Int) (z2 : Int) < 0 := by unfold icmp; rw [if_pos (by omega)]; omega
   have HLT := Lib.hid hlt
   clear hlt
   have HE : Hid (sgnd false ((z2 - z1 : Nat) : Int) = x + y) := by show _ = _; have := HLT.out; rw [HX.out, HY.out]; unfold sgnd; (try simp) <;> (try omega)
   go_enter Tryz.func138, Tryz.ntmps138
   go_wp2_with fail
   generalize hW : ((w.alloc (Obj.cells #[Value.bool _, Value.slice A1 n1 c1] 83)).alloc _).alloc _ = W
   obtain ⟨hS, HR2, HBW⟩ := start2 w _ _ _ _ _ W hW
   clear hW
   have K1 := Lib.hid (S1.out.below HBW)
   have K2 := Lib.hid (S2.out.below HBW)
   (with_reducible refine (Compare_c z1 z2 _ _ _ K1.out K2.out).mono ?_)
   rintro e w0 ⟨rfl, hw0⟩
   subst hw0
   go_wp2
   go_region_held3 (fun w' => w'.cell? ⟨w.heap.size, 0, none⟩ = some (.bool true) ∧ w'.cell? ⟨w.heap.size, 1, none⟩ = some (.slice A1 n1 c1) ∧ w'.cell? ⟨w.heap.size + 1, 0, none⟩ = some (.bool false) ∧ w'.cell? ⟨w.heap.size + 1, 1, none⟩ = some (.slice A2 n2 c2) ∧ w.heap.size + 1 + 1 < w'.heap.size)
    (first | exact hS | exact keep2 hb1 hS | exact keep2 hb2 (keep2 hb1 hS) | exact keep2s (keep2s (keep2 hb2 (keep2 hb1 hS))))
    (first
     | (go_at_call 162; (with_reducible refine (wMinus_c z2 z1 _ _ _ (by exact K2.out.below (by repeat (with_reducible first | assumption | exact Below.refl _ _ | apply below_drew | apply below_drewN | apply below_alloc | refine below_step ?_ (by assumption)))) (by exact K1.out.below (by repeat (with_reducible first | assumption | exact Below.refl _ _ | apply below_drew | apply below_drewN | apply below_alloc | refine below_step ?_ (by assumption)))) sy (by have := HLT.out; omega)).mono ?_); rintro e w1 ⟨v, rfl, hv, hb1⟩; obtain ⟨A3, m3, k3, rfl, T3⟩ := hv.form; clear hv)
     | (go_at_call 104; (with_reducible refine (made_c false A3 m3 k3 _ _ (by exact T3.out.below (by repeat (with_reducible first | assumption | exact Below.refl _ _ | apply below_drew | apply below_drewN | apply below_alloc | refine below_step ?_ (by assumption))))).mono ?_); rintro e w2 ⟨v, rfl, hv, hb2⟩; obtain ⟨n4, A4, m4, k4, rfl, H4⟩ := hv.form; clear hv; have HR4 := Lib.hid ((HR2.drew.keep hb1).keep hb2); obtain ⟨⟨u1, r1⟩, ⟨u2, u3, u4, r2⟩, r3, r4, r5⟩ := HR4.out))
   go_wp2
   refine bodyPost_ret (v := .agg #[.bool n4, .slice A4 m4 k4]) (by simp [results, Tryz.results138, go_sem, r1, r2, r5]) rfl ⟨_, rfl, ?_, ?_⟩
   ·have := H4.out
    rw [HE.out] at this
    exact this.res2 HR4.out _ _
   ·exact below_set (below_set (below_step (below_step (below_drew HBW) hb1) hb2) (by omega) _) (by omega) _
  ·have hq : 0 ≤ icmp (z1 : Int) (z2 : Int) := by unfold icmp; rw [if_neg (by omega)]; split <;> omega
   have HLT := Lib.hid hlt
   clear hlt
   have HE : Hid (sgnd true ((z1 - z2 : Nat) : Int) = x + y) := by show _ = _; have := HLT.out; rw [HX.out, HY.out]; unfold sgnd; (try simp) <;> (try omega)
   go_enter Tryz.func138, Tryz.ntmps138
   go_wp2_with fail
   generalize hW : ((w.alloc (Obj.cells #[Value.bool _, Value.slice A1 n1 c1] 83)).alloc _).alloc _ = W
   obtain ⟨hS, HR2, HBW⟩ := start2 w _ _ _ _ _ W hW
   clear hW
   have K1 := Lib.hid (S1.out.below HBW)
   have K2 := Lib.hid (S2.out.below HBW)
   (with_reducible refine (Compare_c z1 z2 _ _ _ K1.out K2.out).mono ?_)
   rintro e w0 ⟨rfl, hw0⟩
   subst hw0
   go_wp2
   go_region_held3 (fun w' => w'.cell? ⟨w.heap.size, 0, none⟩ = some (.bool true) ∧ w'.cell? ⟨w.heap.size, 1, none⟩ = some (.slice A1 n1 c1) ∧ w'.cell? ⟨w.heap.size + 1, 0, none⟩ = some (.bool false) ∧ w'.cell? ⟨w.heap.size + 1, 1, none⟩ = some (.slice A2 n2 c2) ∧ w.heap.size + 1 + 1 < w'.heap.size)
    (first | exact hS | exact keep2 hb1 hS | exact keep2 hb2 (keep2 hb1 hS) | exact keep2s (keep2s (keep2 hb2 (keep2 hb1 hS))))
    (first
     | (go_at_call 162; (with_reducible refine (wMinus_c z1 z2 _ _ _ (by exact K1.out.below (by repeat (with_reducible first | assumption | exact Below.refl _ _ | apply below_drew | apply below_drewN | apply below_alloc | refine below_step ?_ (by assumption)))) (by exact K2.out.below (by repeat (with_reducible first | assumption | exact Below.refl _ _ | apply below_drew | apply below_drewN | apply below_alloc | refine below_step ?_ (by assumption)))) sx (by have := HLT.out; omega)).mono ?_); rintro e w1 ⟨v, rfl, hv, hb1⟩; obtain ⟨A3, m3, k3, rfl, T3⟩ := hv.form; clear hv)
     | (go_at_call 104; (with_reducible refine (made_c true A3 m3 k3 _ _ (by exact T3.out.below (by repeat (with_reducible first | assumption | exact Below.refl _ _ | apply below_drew | apply below_drewN | apply below_alloc | refine below_step ?_ (by assumption))))).mono ?_); rintro e w2 ⟨v, rfl, hv, hb2⟩; obtain ⟨n4, A4, m4, k4, rfl, H4⟩ := hv.form; clear hv; have HR4 := Lib.hid ((HR2.drew.keep hb1).keep hb2); obtain ⟨⟨u1, r1⟩, ⟨u2, u3, u4, r2⟩, r3, r4, r5⟩ := HR4.out))
   go_wp2
   refine bodyPost_ret (v := .agg #[.bool n4, .slice A4 m4 k4]) (by simp [results, Tryz.results138, go_sem, r1, r2, r5]) rfl ⟨_, rfl, ?_, ?_⟩
   ·have := H4.out
    rw [HE.out] at this
    exact this.res2 HR4.out _ _
   ·exact below_set (below_set (below_step (below_step (below_drew HBW) hb1) hb2) (by omega) _) (by omega) _
 ·have HE : Hid (sgnd true ((z1 + z2 : Nat) : Int) = x + y) := by show _ = _; rw [HX.out, HY.out]; unfold sgnd; (try simp) <;> (try omega)
  go_enter Tryz.func138, Tryz.ntmps138
  go_wp2_with fail
  generalize hW : ((w.alloc (Obj.cells #[Value.bool _, Value.slice A1 n1 c1] 83)).alloc _).alloc _ = W
  obtain ⟨hS, HR2, HBW⟩ := start2 w _ _ _ _ _ W hW
  clear hW
  have K1 := Lib.hid (S1.out.below HBW)
  have K2 := Lib.hid (S2.out.below HBW)
  go_region_held3 (fun w' => w'.cell? ⟨w.heap.size, 0, none⟩ = some (.bool true) ∧ w'.cell? ⟨w.heap.size, 1, none⟩ = some (.slice A1 n1 c1) ∧ w'.cell? ⟨w.heap.size + 1, 0, none⟩ = some (.bool true) ∧ w'.cell? ⟨w.heap.size + 1, 1, none⟩ = some (.slice A2 n2 c2) ∧ w.heap.size + 1 + 1 < w'.heap.size)
   (first | exact hS | exact keep2 hb1 hS | exact keep2 hb2 (keep2 hb1 hS) | exact keep2s (keep2s (keep2 hb2 (keep2 hb1 hS))))
   (first
    | (go_at_call 154; (with_reducible refine (Plus_c z1 z2 _ _ _ (by exact K1.out.below (by repeat (with_reducible first | assumption | exact Below.refl _ _ | apply below_drew | apply below_drewN | apply below_alloc | refine below_step ?_ (by assumption)))) (by exact K2.out.below (by repeat (with_reducible first | assumption | exact Below.refl _ _ | apply below_drew | apply below_drewN | apply below_alloc | refine below_step ?_ (by assumption)))) sx sy).mono ?_); rintro e w1 ⟨v, rfl, hv, hb1⟩; obtain ⟨A3, m3, k3, rfl, T3⟩ := hv.form; clear hv)
    | (go_at_call 104; (with_reducible refine (made_c true A3 m3 k3 _ _ (by exact T3.out.below (by repeat (with_reducible first | assumption | exact Below.refl _ _ | apply below_drew | apply below_drewN | apply below_alloc | refine below_step ?_ (by assumption))))).mono ?_); rintro e w2 ⟨v, rfl, hv, hb2⟩; obtain ⟨n4, A4, m4, k4, rfl, H4⟩ := hv.form; clear hv; have HR4 := Lib.hid ((HR2.drew.keep hb1).keep hb2); obtain ⟨⟨u1, r1⟩, ⟨u2, u3, u4, r2⟩, r3, r4, r5⟩ := HR4.out))
  go_wp2
  refine bodyPost_ret (v := .agg #[.bool n4, .slice A4 m4 k4]) (by simp [results, Tryz.results138, go_sem, r1, r2, r5]) rfl ⟨_, rfl, ?_, ?_⟩
  ·have := H4.out
   rw [HE.out] at this
   exact this.res2 HR4.out _ _
  ·exact below_set (below_set (below_step (below_step (below_drew HBW) hb1) hb2) (by omega) _) (by omega) _
end Go.Proofs.YtibdipfhfaeooaaGreatDoor


set_option linter.unusedVariables false
set_option linter.unusedSimpArgs false
namespace Go.Proofs.YtibdipfhfaeooaaGreatDoor
open Go.RowKit

set_option maxRecDepth 100000 in
set_option maxHeartbeats 2000000 in
theorem wLess_c (x y : Int) (v1 v2 : Value) (w : World) (h1 : IsI w v1 x) (h2 : IsI w v2 y) (sx : (dg B64 x).length ≤ 1000000000) (sy : (dg B64 y).length ≤ 1000000000) :
  Calls Tryz.prog 103 #[v1, v2] w fun e w' => ∃ v, e = .returned v ∧ IsI w' v (x - y) ∧ Below w.heap.size w w' := by
 obtain ⟨na, A1, n1, c1, rfl, H1⟩ := h1.form
 obtain ⟨nb, A2, n2, c2, rfl, H2⟩ := h2.form
 clear h1 h2
 obtain ⟨q1, q2, _⟩ := isI_size H2.out
 have S2 := Lib.hid q1
 clear q1 H2
 have hsy : (dg B64 (sgnd (!nb) (y.natAbs : Int))).length ≤ 1000000000 := by unfold dg; rw [sgnd_abs]; exact sy
 obtain ⟨z2, hz2⟩ : ∃ z2, y.natAbs = z2 := ⟨_, rfl⟩
 rw [hz2] at S2 hsy
 have HY : Hid (x + sgnd (!nb) z2 = x - y) := by show _ = _; unfold sgnd; rw [q2]; split <;> rename_i h <;> simp at h <;> omega
 clear q2 hz2 sy
 cases nb
 ·rw [show (!false) = true from rfl] at HY hsy
  go_enter Tryz.func103, Tryz.ntmps103
  go_wp2_with fail
  generalize hW : ((w.alloc (Obj.cells #[Value.bool _, Value.slice A1 n1 c1] 83)).alloc _).alloc _ = W
  obtain ⟨hS, HR2, HBW⟩ := start2 w _ _ _ _ _ W hW
  clear hW
  have K1 := Lib.hid (H1.out.below HBW)
  have K2 := Lib.hid (S2.out.below HBW)
  go_region_held3 (fun w' => w'.cell? ⟨w.heap.size, 0, none⟩ = some (.bool na) ∧ w'.cell? ⟨w.heap.size, 1, none⟩ = some (.slice A1 n1 c1) ∧ w'.cell? ⟨w.heap.size + 1, 0, none⟩ = some (.bool false) ∧ w'.cell? ⟨w.heap.size + 1, 1, none⟩ = some (.slice A2 n2 c2) ∧ w.heap.size + 1 + 1 < w'.heap.size)
   (first | exact hS | exact keep2 hb1 hS | exact keep2 hb2 (keep2 hb1 hS) | exact keep2s (keep2s (keep2 hb2 (keep2 hb1 hS))))
   (first
    | (go_at_call 104; (with_reducible refine (made_c true A2 n2 c2 z2 _ (by exact K2.out.below (by repeat (with_reducible first | assumption | exact Below.refl _ _ | apply below_drew | apply below_drewN | apply below_alloc | refine below_step ?_ (by assumption))))).mono ?_); rintro e w1 ⟨v, rfl, hv, hb1⟩; obtain ⟨n3, A3, m3, k3, rfl, H3⟩ := hv.form; clear hv)
    | (go_at_call 138; (with_reducible refine (wPlus_c x (sgnd true z2) _ _ _ (by exact K1.out.below (by repeat (with_reducible first | assumption | exact Below.refl _ _ | apply below_drew | apply below_drewN | apply below_alloc | refine below_step ?_ (by assumption)))) (by exact H3.out.below (by repeat (with_reducible first | assumption | exact Below.refl _ _ | apply below_drew | apply below_drewN | apply below_alloc | refine below_step ?_ (by assumption)))) sx hsy).mono ?_); rintro e w2 ⟨v, rfl, hv, hb2⟩; obtain ⟨n4, A4, m4, k4, rfl, H4⟩ := hv.form; clear hv; have HR4 := Lib.hid ((HR2.drew.keep hb1).keep hb2); obtain ⟨⟨u1, r1⟩, ⟨u2, u3, u4, r2⟩, r3, r4, r5⟩ := HR4.out))
  go_wp2
  refine bodyPost_ret (v := .agg #[.bool n4, .slice A4 m4 k4]) (by simp [results, Tryz.results103, go_sem, r1, r2, r5]) rfl ⟨_, rfl, ?_, ?_⟩
  ·have := H4.out
   rw [HY.out] at this
   exact this.res2 HR4.out _ _
  ·exact below_set (below_set (below_step (below_step (below_drew HBW) hb1) hb2) (by omega) _) (by omega) _
 ·rw [show (!true) = false from rfl] at HY hsy
  go_enter Tryz.func103, Tryz.ntmps103
  go_wp2_with fail
  generalize hW : ((w.alloc (Obj.cells #[Value.bool _, Value.slice A1 n1 c1] 83)).alloc _).alloc _ = W
  obtain ⟨hS, HR2, HBW⟩ := start2 w _ _ _ _ _ W hW
  clear hW
  have K1 := Lib.hid (H1.out.below HBW)
  have K2 := Lib.hid (S2.out.below HBW)
  go_region_held3 (fun w' => w'.cell? ⟨w.heap.size, 0, none⟩ = some (.bool na) ∧ w'.cell? ⟨w.heap.size, 1, none⟩ = some (.slice A1 n1 c1) ∧ w'.cell? ⟨w.heap.size + 1, 0, none⟩ = some (.bool true) ∧ w'.cell? ⟨w.heap.size + 1, 1, none⟩ = some (.slice A2 n2 c2) ∧ w.heap.size + 1 + 1 < w'.heap.size)
   (first | exact hS | exact keep2 hb1 hS | exact keep2 hb2 (keep2 hb1 hS) | exact keep2s (keep2s (keep2 hb2 (keep2 hb1 hS))))
   (first
    | (go_at_call 104; (with_reducible refine (made_c false A2 n2 c2 z2 _ (by exact K2.out.below (by repeat (with_reducible first | assumption | exact Below.refl _ _ | apply below_drew | apply below_drewN | apply below_alloc | refine below_step ?_ (by assumption))))).mono ?_); rintro e w1 ⟨v, rfl, hv, hb1⟩; obtain ⟨n3, A3, m3, k3, rfl, H3⟩ := hv.form; clear hv)
    | (go_at_call 138; (with_reducible refine (wPlus_c x (sgnd false z2) _ _ _ (by exact K1.out.below (by repeat (with_reducible first | assumption | exact Below.refl _ _ | apply below_drew | apply below_drewN | apply below_alloc | refine below_step ?_ (by assumption)))) (by exact H3.out.below (by repeat (with_reducible first | assumption | exact Below.refl _ _ | apply below_drew | apply below_drewN | apply below_alloc | refine below_step ?_ (by assumption)))) sx hsy).mono ?_); rintro e w2 ⟨v, rfl, hv, hb2⟩; obtain ⟨n4, A4, m4, k4, rfl, H4⟩ := hv.form; clear hv; have HR4 := Lib.hid ((HR2.drew.keep hb1).keep hb2); obtain ⟨⟨u1, r1⟩, ⟨u2, u3, u4, r2⟩, r3, r4, r5⟩ := HR4.out))
  go_wp2
  refine bodyPost_ret (v := .agg #[.bool n4, .slice A4 m4 k4]) (by simp [results, Tryz.results103, go_sem, r1, r2, r5]) rfl ⟨_, rfl, ?_, ?_⟩
  ·have := H4.out
   rw [HY.out] at this
   exact this.res2 HR4.out _ _
  ·exact below_set (below_set (below_step (below_step (below_drew HBW) hb1) hb2) (by omega) _) (by omega) _
theorem lenI {w : World} {neg : Bool} {A : Option Addr} {m c : Nat} {z : Int} (h : IsI w (.agg #[.bool neg, .slice A m c]) z) : (neg = true ↔ z < 0) ∧ (0 < m ↔ z ≠ 0) := by
 obtain ⟨_, h2, h3⟩ := isI_size h
 exact ⟨by rw [h2]; simp, by omega⟩
set_option maxRecDepth 100000 in
set_option maxHeartbeats 2000000 in
theorem iCompare_c (x y : Int) (v1 v2 : Value) (w : World) (h1 : IsI w v1 x) (h2 : IsI w v2 y) (sx : (dg B64 x).length ≤ 1000000000) (sy : (dg B64 y).length ≤ 1000000000) :
  Calls Tryz.prog 57 #[v1, v2] w fun e w' => e = .returned (.int .i64 (icmp x y)) ∧ Below w.heap.size w w' := by
 obtain ⟨na, A1, n1, c1, rfl, H1⟩ := h1.form
 obtain ⟨nb, A2, n2, c2, rfl, H2⟩ := h2.form
 clear h1 h2
 go_enter Tryz.func57, Tryz.ntmps57
 go_wp2_with fail
 generalize hW : (w.alloc (Obj.cells #[Value.bool na, Value.slice A1 n1 c1] 83)).alloc _ = W
 have HBW : Below w.heap.size w W := by subst hW; exact below_alloc (below_alloc (Below.refl _ _) _) _
 clear hW
 (with_reducible refine (wLess_c x y _ _ _ (H1.out.below HBW) (H2.out.below HBW) sx sy).mono ?_)
 rintro e w1 ⟨v, rfl, hv, hb1⟩
 obtain ⟨n3, A3, m3, k3, rfl, H3⟩ := hv.form
 obtain ⟨e1, e2⟩ := lenI H3.out
 have HB := below_step HBW hb1
 clear hv HBW hb1
 have E1 := Lib.hid e1
 have E2 := Lib.hid e2
 clear e1 e2
 cases n3
 ·have h1 : ¬ x - y < 0 := fun h => by have := E1.out.2 h; cases this
  by_cases hm : 0 < m3
  ·have HR : Hid (icmp x y = 1) := by have := E2.out.1 hm; show _ = _; unfold icmp; rw [if_neg (by omega), if_pos (by omega)]
   go_wp2
   go_ret
   exact ⟨by rw [HR.out]; rfl, below_alloc HB _⟩
  ·have h0 : x - y = 0 := Decidable.byContradiction fun h => hm (E2.out.2 h)
   have HR : Hid (icmp x y = 0) := by show _ = _; unfold icmp; rw [if_neg (by omega), if_neg (by omega)]
   clear h0
   go_wp2
   go_ret
   exact ⟨by rw [HR.out]; rfl, below_alloc HB _⟩
 ·have h1 : x - y < 0 := E1.out.1 rfl
  have HR : Hid (icmp x y = -1) := by show _ = _; unfold icmp; rw [if_pos (by omega)]
  go_wp2
  go_ret
  exact ⟨by rw [HR.out]; rfl, below_alloc HB _⟩
end Go.Proofs.YtibdipfhfaeooaaGreatDoor


set_option linter.unusedVariables false
set_option linter.unusedSimpArgs false
namespace Go.Proofs.YtibdipfhfaeooaaGreatDoor
open Go.RowKit

theorem cut_tS (z : Int) : ∃ r : ByteArray, (if gd (codes (tS z)) 0 = 45 then (tS z).extract 1 (tS z).size else tS z) = r ∧ codes r = txN z.natAbs ∧ decide (gd (codes (tS z)) 0 = 45) = decide (z < 0) ∧ 0 < (tS z).size := by
 have h0 : 0 < (tS z).size := by
  rw [← codes_length, codes_tS]; unfold tx; rw [List.length_append]; have := dlN_pos z.natAbs; unfold dlN at this; omega
 have hh : (gd (codes (tS z)) 0 = 45) ↔ z < 0 := by
  rw [codes_tS, ← tx_neg]
  have hne : tx z ≠ [] := by intro h; have := codes_length (tS z); rw [codes_tS, h] at this; simp at this; omega
  cases e : tx z with
  | nil => exact absurd e hne
  | cons a l => simp [gd]
 refine ⟨_, rfl, ?_, decide_eq_decide.2 hh, h0⟩
 by_cases hz : z < 0
 ·rw [if_pos (hh.2 hz), codes_drop1 rfl, codes_tS]; unfold tx; rw [if_pos hz]; simp
 ·rw [if_neg (fun h => hz (hh.1 h)), codes_tS]; unfold tx; rw [if_neg hz]; simp
set_option maxRecDepth 100000 in
set_option maxHeartbeats 1000000 in
theorem wParse_c (z : Int) (w : World) (hz : dlN z.natAbs ≤ 900000000) :
  Calls Tryz.prog 78 #[.string (tS z)] w fun e w' => ∃ v, e = .returned v ∧ IsI w' v z ∧ Below w.heap.size w w' := by
 obtain ⟨r, hr1, hr2, hr3, hr4⟩ := cut_tS z
 have HC := Lib.hid (Cut_c (tS z) · hr4)
 simp only [hr1, hr3] at HC
 have HE : Hid ((dv (codes r)).toNat = z.natAbs) := by show _ = _; rw [hr2, dv_txN]; rfl
 have HD : Hid (∀ c ∈ codes r, 48 ≤ c ∧ c ≤ 57) := by rw [hr2]; exact txN_range _
 have hrs : r.size ≤ 900000000 := by rw [← codes_length, hr2]; exact hz
 have HZ : Hid (sgnd (decide (z < 0)) (z.natAbs : Int) = z) := by show _ = _; unfold sgnd; split <;> rename_i h <;> simp at h <;> omega
 clear hr1 hr2 hr3 hr4 hz
 generalize tS z = s at *
 generalize decide (z < 0) = ng at *
 generalize z.natAbs = n at *
 go_enter Tryz.func78, Tryz.ntmps78
 go_wp2_with fail
 generalize hW : w.alloc (Obj.cells #[Value.bool false, Value.slice none 0 0] 83) = W at *
 obtain ⟨HR, hWs, HB⟩ := start1 w _ W hW
 have hlt : w.heap.size < W.heap.size := by omega
 clear hW hWs
 (with_reducible refine (HC.out W).mono ?_)
 rintro e w0 ⟨rfl, hw0⟩
 subst hw0
 go_wp2_with fail
 (with_reducible refine (Read_c r _ HD.out hrs).mono ?_)
 rintro e w1 ⟨v, rfl, hv, hb1⟩
 rw [HE.out] at hv
 obtain ⟨A1, m1, k1, rfl, T1⟩ := hv.form; clear hv
 replace HR := HR.keep hb1; replace HB := below_step HB hb1
 go_wp2_with fail
 (with_reducible refine (made_c ng A1 m1 k1 _ _ T1.out).mono ?_)
 rintro e w2 ⟨v, rfl, hv, hb2⟩
 obtain ⟨n2, A2, m2, k2, rfl, H2⟩ := hv.form; clear hv
 replace HR := HR.keep hb2; replace HB := below_step HB hb2
 have HRh := Lib.hid HR; obtain ⟨⟨u1, r1⟩, ⟨u2, u3, u4, r2⟩, r3, r4, r5⟩ := HR
 go_wp2
 refine bodyPost_ret (v := .agg #[.bool n2, .slice A2 m2 k2]) (by simp [results, Tryz.results78, go_sem, r1, r2, r5]) rfl ⟨_, rfl, ?_, below_set2 HB (by omega) _ _⟩
 rw [← HZ.out]
 exact H2.out.res2 HRh.out _ _
end Go.Proofs.YtibdipfhfaeooaaGreatDoor


set_option linter.unusedVariables false
set_option linter.unusedSimpArgs false
namespace Go.Proofs.YtibdipfhfaeooaaGreatDoor
open Go.RowKit

set_option maxRecDepth 100000 in
set_option maxHeartbeats 2000000 in
theorem wBy_c (x y : Int) (v1 v2 : Value) (w : World) (h1 : IsI w v1 x) (h2 : IsI w v2 y) (sx : (dg B64 x).length ≤ 1000000000) (sy : (dg B64 y).length ≤ 1000000000) :
  Calls Tryz.prog 163 #[v1, v2] w fun e w' => ∃ v, e = .returned v ∧ IsI w' v (x * y) ∧ Below w.heap.size w w' := by
 obtain ⟨na, A1, n1, c1, rfl, H1⟩ := h1.form
 obtain ⟨nb, A2, n2, c2, rfl, H2⟩ := h2.form
 clear h1 h2
 obtain ⟨p1, p2, _⟩ := isI_size H1.out
 obtain ⟨q1, q2, _⟩ := isI_size H2.out
 have S1 := Lib.hid p1
 have S2 := Lib.hid q1
 clear p1 q1 H1 H2
 unfold dg at sx sy
 obtain ⟨z1, hz1⟩ : ∃ z1, x.natAbs = z1 := ⟨_, rfl⟩
 obtain ⟨z2, hz2⟩ : ∃ z2, y.natAbs = z2 := ⟨_, rfl⟩
 rw [hz1] at sx S1
 rw [hz2] at sy S2
 have HX : Hid (x = sgnd na z1) := by show _ = _; unfold sgnd; rw [p2]; split <;> rename_i h <;> simp at h <;> omega
 have HY : Hid (y = sgnd nb z2) := by show _ = _; unfold sgnd; rw [q2]; split <;> rename_i h <;> simp at h <;> omega
 clear p2 q2 hz1 hz2
 cases na <;> cases nb
 ·have HE : Hid (sgnd false ((z1 * z2 : Nat) : Int) = x * y) := by show _ = _; rw [HX.out, HY.out]; unfold sgnd; simp [Int.natCast_mul, Int.neg_mul, Int.mul_neg]
  go_enter Tryz.func163, Tryz.ntmps163
  go_wp2_with fail
  generalize hW : ((w.alloc (Obj.cells #[Value.bool _, Value.slice A1 n1 c1] 83)).alloc _).alloc _ = W
  obtain ⟨hS, HR2, HBW⟩ := start2 w _ _ _ _ _ W hW
  clear hW
  have K1 := Lib.hid (S1.out.below HBW)
  have K2 := Lib.hid (S2.out.below HBW)
  go_region_held3 (fun w' => w'.cell? ⟨w.heap.size, 0, none⟩ = some (.bool false) ∧ w'.cell? ⟨w.heap.size, 1, none⟩ = some (.slice A1 n1 c1) ∧ w'.cell? ⟨w.heap.size + 1, 0, none⟩ = some (.bool false) ∧ w'.cell? ⟨w.heap.size + 1, 1, none⟩ = some (.slice A2 n2 c2) ∧ w.heap.size + 1 + 1 < w'.heap.size)
   (first | exact hS | exact keep2 hb1 hS | exact keep2 hb2 (keep2 hb1 hS) | exact keep2s (keep2s (keep2 hb2 (keep2 hb1 hS))))
   (first
    | (go_at_call 153; (with_reducible refine (Times_c z1 z2 _ _ _ (by exact K1.out.below (by repeat (with_reducible first | assumption | exact Below.refl _ _ | apply below_drew | apply below_drewN | apply below_alloc | refine below_step ?_ (by assumption)))) (by exact K2.out.below (by repeat (with_reducible first | assumption | exact Below.refl _ _ | apply below_drew | apply below_drewN | apply below_alloc | refine below_step ?_ (by assumption)))) sx sy).mono ?_); rintro e w1 ⟨v, rfl, hv, hb1⟩; obtain ⟨A3, m3, k3, rfl, T3⟩ := hv.form; clear hv)
    | (go_at_call 104; (with_reducible refine (made_c false A3 m3 k3 _ _ (by exact T3.out.below (by repeat (with_reducible first | assumption | exact Below.refl _ _ | apply below_drew | apply below_drewN | apply below_alloc | refine below_step ?_ (by assumption))))).mono ?_); rintro e w2 ⟨v, rfl, hv, hb2⟩; obtain ⟨n4, A4, m4, k4, rfl, H4⟩ := hv.form; clear hv; have HR4 := Lib.hid ((HR2.drew.keep hb1).keep hb2); obtain ⟨⟨u1, r1⟩, ⟨u2, u3, u4, r2⟩, r3, r4, r5⟩ := HR4.out))
  go_wp2
  refine bodyPost_ret (v := .agg #[.bool n4, .slice A4 m4 k4]) (by simp [results, Tryz.results163, go_sem, r1, r2, r5]) rfl ⟨_, rfl, ?_, ?_⟩
  ·have := H4.out
   rw [HE.out] at this
   exact this.res2 HR4.out _ _
  ·exact below_set (below_set (below_step (below_step (below_drew HBW) hb1) hb2) (by omega) _) (by omega) _
 ·have HE : Hid (sgnd true ((z1 * z2 : Nat) : Int) = x * y) := by show _ = _; rw [HX.out, HY.out]; unfold sgnd; simp [Int.natCast_mul, Int.neg_mul, Int.mul_neg]
  go_enter Tryz.func163, Tryz.ntmps163
  go_wp2_with fail
  generalize hW : ((w.alloc (Obj.cells #[Value.bool _, Value.slice A1 n1 c1] 83)).alloc _).alloc _ = W
  obtain ⟨hS, HR2, HBW⟩ := start2 w _ _ _ _ _ W hW
  clear hW
  have K1 := Lib.hid (S1.out.below HBW)
  have K2 := Lib.hid (S2.out.below HBW)
  go_region_held3 (fun w' => w'.cell? ⟨w.heap.size, 0, none⟩ = some (.bool false) ∧ w'.cell? ⟨w.heap.size, 1, none⟩ = some (.slice A1 n1 c1) ∧ w'.cell? ⟨w.heap.size + 1, 0, none⟩ = some (.bool true) ∧ w'.cell? ⟨w.heap.size + 1, 1, none⟩ = some (.slice A2 n2 c2) ∧ w.heap.size + 1 + 1 < w'.heap.size)
   (first | exact hS | exact keep2 hb1 hS | exact keep2 hb2 (keep2 hb1 hS) | exact keep2s (keep2s (keep2 hb2 (keep2 hb1 hS))))
   (first
    | (go_at_call 153; (with_reducible refine (Times_c z1 z2 _ _ _ (by exact K1.out.below (by repeat (with_reducible first | assumption | exact Below.refl _ _ | apply below_drew | apply below_drewN | apply below_alloc | refine below_step ?_ (by assumption)))) (by exact K2.out.below (by repeat (with_reducible first | assumption | exact Below.refl _ _ | apply below_drew | apply below_drewN | apply below_alloc | refine below_step ?_ (by assumption)))) sx sy).mono ?_); rintro e w1 ⟨v, rfl, hv, hb1⟩; obtain ⟨A3, m3, k3, rfl, T3⟩ := hv.form; clear hv)
    | (go_at_call 104; (with_reducible refine (made_c true A3 m3 k3 _ _ (by exact T3.out.below (by repeat (with_reducible first | assumption | exact Below.refl _ _ | apply below_drew | apply below_drewN | apply below_alloc | refine below_step ?_ (by assumption))))).mono ?_); rintro e w2 ⟨v, rfl, hv, hb2⟩; obtain ⟨n4, A4, m4, k4, rfl, H4⟩ := hv.form; clear hv; have HR4 := Lib.hid ((HR2.drew.keep hb1).keep hb2); obtain ⟨⟨u1, r1⟩, ⟨u2, u3, u4, r2⟩, r3, r4, r5⟩ := HR4.out))
  go_wp2
  refine bodyPost_ret (v := .agg #[.bool n4, .slice A4 m4 k4]) (by simp [results, Tryz.results163, go_sem, r1, r2, r5]) rfl ⟨_, rfl, ?_, ?_⟩
  ·have := H4.out
   rw [HE.out] at this
   exact this.res2 HR4.out _ _
  ·exact below_set (below_set (below_step (below_step (below_drew HBW) hb1) hb2) (by omega) _) (by omega) _
 ·have HE : Hid (sgnd true ((z1 * z2 : Nat) : Int) = x * y) := by show _ = _; rw [HX.out, HY.out]; unfold sgnd; simp [Int.natCast_mul, Int.neg_mul, Int.mul_neg]
  go_enter Tryz.func163, Tryz.ntmps163
  go_wp2_with fail
  generalize hW : ((w.alloc (Obj.cells #[Value.bool _, Value.slice A1 n1 c1] 83)).alloc _).alloc _ = W
  obtain ⟨hS, HR2, HBW⟩ := start2 w _ _ _ _ _ W hW
  clear hW
  have K1 := Lib.hid (S1.out.below HBW)
  have K2 := Lib.hid (S2.out.below HBW)
  go_region_held3 (fun w' => w'.cell? ⟨w.heap.size, 0, none⟩ = some (.bool true) ∧ w'.cell? ⟨w.heap.size, 1, none⟩ = some (.slice A1 n1 c1) ∧ w'.cell? ⟨w.heap.size + 1, 0, none⟩ = some (.bool false) ∧ w'.cell? ⟨w.heap.size + 1, 1, none⟩ = some (.slice A2 n2 c2) ∧ w.heap.size + 1 + 1 < w'.heap.size)
   (first | exact hS | exact keep2 hb1 hS | exact keep2 hb2 (keep2 hb1 hS) | exact keep2s (keep2s (keep2 hb2 (keep2 hb1 hS))))
   (first
    | (go_at_call 153; (with_reducible refine (Times_c z1 z2 _ _ _ (by exact K1.out.below (by repeat (with_reducible first | assumption | exact Below.refl _ _ | apply below_drew | apply below_drewN | apply below_alloc | refine below_step ?_ (by assumption)))) (by exact K2.out.below (by repeat (with_reducible first | assumption | exact Below.refl _ _ | apply below_drew | apply below_drewN | apply below_alloc | refine below_step ?_ (by assumption)))) sx sy).mono ?_); rintro e w1 ⟨v, rfl, hv, hb1⟩; obtain ⟨A3, m3, k3, rfl, T3⟩ := hv.form; clear hv)
    | (go_at_call 104; (with_reducible refine (made_c true A3 m3 k3 _ _ (by exact T3.out.below (by repeat (with_reducible first | assumption | exact Below.refl _ _ | apply below_drew | apply below_drewN | apply below_alloc | refine below_step ?_ (by assumption))))).mono ?_); rintro e w2 ⟨v, rfl, hv, hb2⟩; obtain ⟨n4, A4, m4, k4, rfl, H4⟩ := hv.form; clear hv; have HR4 := Lib.hid ((HR2.drew.keep hb1).keep hb2); obtain ⟨⟨u1, r1⟩, ⟨u2, u3, u4, r2⟩, r3, r4, r5⟩ := HR4.out))
  go_wp2
  refine bodyPost_ret (v := .agg #[.bool n4, .slice A4 m4 k4]) (by simp [results, Tryz.results163, go_sem, r1, r2, r5]) rfl ⟨_, rfl, ?_, ?_⟩
  ·have := H4.out
   rw [HE.out] at this
   exact this.res2 HR4.out _ _
  ·exact below_set (below_set (below_step (below_step (below_drew HBW) hb1) hb2) (by omega) _) (by omega) _
 ·have HE : Hid (sgnd false ((z1 * z2 : Nat) : Int) = x * y) := by show _ = _; rw [HX.out, HY.out]; unfold sgnd; simp [Int.natCast_mul, Int.neg_mul, Int.mul_neg]
  go_enter Tryz.func163, Tryz.ntmps163
  go_wp2_with fail
  generalize hW : ((w.alloc (Obj.cells #[Value.bool _, Value.slice A1 n1 c1] 83)).alloc _).alloc _ = W
  obtain ⟨hS, HR2, HBW⟩ := start2 w _ _ _ _ _ W hW
  clear hW
  have K1 := Lib.hid (S1.out.below HBW)
  have K2 := Lib.hid (S2.out.below HBW)
  go_region_held3 (fun w' => w'.cell? ⟨w.heap.size, 0, none⟩ = some (.bool true) ∧ w'.cell? ⟨w.heap.size, 1, none⟩ = some (.slice A1 n1 c1) ∧ w'.cell? ⟨w.heap.size + 1, 0, none⟩ = some (.bool true) ∧ w'.cell? ⟨w.heap.size + 1, 1, none⟩ = some (.slice A2 n2 c2) ∧ w.heap.size + 1 + 1 < w'.heap.size)
   (first | exact hS | exact keep2 hb1 hS | exact keep2 hb2 (keep2 hb1 hS) | exact keep2s (keep2s (keep2 hb2 (keep2 hb1 hS))))
   (first
    | (go_at_call 153; (with_reducible refine (Times_c z1 z2 _ _ _ (by exact K1.out.below (by repeat (with_reducible first | assumption | exact Below.refl _ _ | apply below_drew | apply below_drewN | apply below_alloc | refine below_step ?_ (by assumption)))) (by exact K2.out.below (by repeat (with_reducible first | assumption | exact Below.refl _ _ | apply below_drew | apply below_drewN | apply below_alloc | refine below_step ?_ (by assumption)))) sx sy).mono ?_); rintro e w1 ⟨v, rfl, hv, hb1⟩; obtain ⟨A3, m3, k3, rfl, T3⟩ := hv.form; clear hv)
    | (go_at_call 104; (with_reducible refine (made_c false A3 m3 k3 _ _ (by exact T3.out.below (by repeat (with_reducible first | assumption | exact Below.refl _ _ | apply below_drew | apply below_drewN | apply below_alloc | refine below_step ?_ (by assumption))))).mono ?_); rintro e w2 ⟨v, rfl, hv, hb2⟩; obtain ⟨n4, A4, m4, k4, rfl, H4⟩ := hv.form; clear hv; have HR4 := Lib.hid ((HR2.drew.keep hb1).keep hb2); obtain ⟨⟨u1, r1⟩, ⟨u2, u3, u4, r2⟩, r3, r4, r5⟩ := HR4.out))
  go_wp2
  refine bodyPost_ret (v := .agg #[.bool n4, .slice A4 m4 k4]) (by simp [results, Tryz.results163, go_sem, r1, r2, r5]) rfl ⟨_, rfl, ?_, ?_⟩
  ·have := H4.out
   rw [HE.out] at this
   exact this.res2 HR4.out _ _
  ·exact below_set (below_set (below_step (below_step (below_drew HBW) hb1) hb2) (by omega) _) (by omega) _
theorem codes_app (a b : ByteArray) : codes (a ++ b) = codes a ++ codes b := by
 unfold codes
 rw [show (a ++ b).data = a.data ++ b.data from ByteArray.data_append, Array.toList_append, List.map_append]
theorem neg_tS {n : Nat} (h : 0 < n) : ({ data := #[45] } : ByteArray) ++ tS (n : Int) = tS (-(n : Int)) := by
 apply codes_inj
 rw [codes_app, codes_tS, codes_tS]
 unfold tx
 rw [if_neg (by omega), if_pos (by omega), show (-(n : Int)).natAbs = n by omega, show ((n : Int)).natAbs = n by omega]
 rfl
set_option maxRecDepth 100000 in
set_option maxHeartbeats 2000000 in
theorem wTimes_c (x k : Int) (v : Value) (w : World) (h : IsI w v x) (hk0 : -9223372036854775807 ≤ k) (hk1 : k ≤ 9223372036854775807) (sx : (dg B64 x).length ≤ 1000000000) :
  Calls Tryz.prog 139 #[v, .int .i64 k] w fun e w' => ∃ v, e = .returned v ∧ IsI w' v (x * k) ∧ Below w.heap.size w w' := by
 have sk : (dg B64 k).length ≤ 1000000000 := by
  have : (dg B64 k).length ≤ 1 := digs_len_le B64two (by rw [show (B64 ^ 1 : Nat) = 18446744073709551616 from rfl]; omega)
  omega
 obtain ⟨na, A1, n1, c1, rfl, H⟩ := h.form
 clear h
 have VA := VX.new w 83 H.out
 have HB := below_alloc (Below.refl w.heap.size w) (Obj.cells #[Value.bool na, Value.slice A1 n1 c1] 83)
 have RA := newRes (w.alloc (Obj.cells #[Value.bool na, Value.slice A1 n1 c1] 83)) 83
 have hb := below_alloc (Below.refl _ (w.alloc (Obj.cells #[Value.bool na, Value.slice A1 n1 c1] 83))) (Obj.cells #[Value.bool false, Value.slice none 0 0] 83)
 rw [show (w.alloc (Obj.cells #[Value.bool na, Value.slice A1 n1 c1] 83)).heap.size = w.heap.size + 1 by simp] at RA
 replace VA := VA.keep hb
 replace HB := below_step HB hb
 clear hb H
 go_enter Tryz.func139, Tryz.ntmps139
 go_wp2_with fail
 generalize hW : (w.alloc (Obj.cells #[Value.bool na, Value.slice A1 n1 c1] 83)).alloc (Obj.cells #[Value.bool false, Value.slice none 0 0] 83) = W at *
 clear hW
 replace VA := VA.drew; replace RA := RA.drew; replace HB := below_drew HB
 generalize hWd : W.drew = wd at *
 refine wp_region_F (fun w' => w'.cell? ⟨w.heap.size, 0, none⟩ = some (.bool na) ∧ w'.cell? ⟨w.heap.size, 1, none⟩ = some (.slice A1 n1 c1)) [4] (by kernel_rfl) (by rw [hWd]; exact ⟨VA.c0, VA.c1⟩) (fun hHeld => ?_)
 rw [hWd] at hHeld ⊢
 refine tF 0 ({ dst := some 5, op := Go.Op.load 83 (Go.Operand.tmp 2), type := 83, pos := "wide.go:44", after := #[], guard := none }) hHeld ?_; try go_frame
 refine tF 1 ({ dst := some 6, op := Go.Op.move (Go.Operand.tmp 1), type := 3, pos := "wide.go:44", after := #[], guard := none }) hHeld ?_; try go_frame
 refine wpAnyF_one (i := 2) (by kernel_rfl) rfl (fun K hK => ?_)
 go_simp
 (go_at_call 58; (with_reducible refine (Small_c k _ hk0 hk1).mono ?_); rintro e w3 ⟨v, rfl, hv, hb⟩; obtain ⟨n3, A3, m3, k3, rfl, H3⟩ := hv.form; clear hv; replace VA := VA.keep hb; replace RA := RA.keep hb; replace HB := below_step HB hb; clear hb)
 refine hK.out _ _ (by exact ⟨VA.c0, VA.c1⟩) (fun hHeld => ?_)
 clear hK K
 try go_frame
 refine wpAnyF_one (i := 3) (by kernel_rfl) rfl (fun K hK => ?_)
 go_simp
 (go_at_call 163; (with_reducible refine (wBy_c x k _ _ _ VA.iz.out H3.out sx sk).mono ?_); rintro e w4 ⟨v, rfl, hv, hb⟩; obtain ⟨n4, A4, m4, k4, rfl, H4⟩ := hv.form; clear hv; replace VA := VA.keep hb; replace RA := RA.keep hb; replace HB := below_step HB hb; clear hb; have RH := Lib.hid RA; obtain ⟨⟨u1, r1⟩, ⟨u2, u3, u4, r2⟩, r3, r4, r5⟩ := RA)
 refine hK.out _ _ (by exact ⟨VA.c0, VA.c1⟩) (fun hHeld => ?_)
 clear hK K
 try go_frame
 refine wpAnyF_st (i := 4) (by kernel_rfl) (by kernel_rfl) rfl (fun K hK => ?_)
 go_simp
 refine hK.out _ _ ?_
 clear hK K
 try go_frame
 refine wpAnyF_done (by kernel_rfl) ?_ _
 clear hHeld hWd
 go_wp2
 refine bodyPost_ret (v := .agg #[.bool n4, .slice A4 m4 k4]) (by simp [results, Tryz.results139, go_sem, r1, r2, r5]) rfl ⟨_, rfl, H4.out.res2 RH.out _ _, below_set2 HB (by omega) _ _⟩
set_option maxRecDepth 100000 in
set_option maxHeartbeats 4000000 in
theorem wOver_c (x : Int) (d : Nat) (v : Value) (w : World) (h : IsI w v x) (d1 : 1 ≤ d) (d2 : d < 2147483648) (sx : (dg B64 x).length ≤ 100000000) :
  Calls Tryz.prog 140 #[v, .int .i64 d] w fun e w' => ∃ v, e = .returned (.tuple #[v, .int .i64 (x % d)]) ∧ IsI w' v (x / d) ∧ Below w.heap.size w w' := by
 obtain ⟨na, A1, n1, c1, rfl, H⟩ := h.form
 clear h
 have VA := VX.new w 83 H.out
 have HB := below_alloc (Below.refl w.heap.size w) (Obj.cells #[Value.bool na, Value.slice A1 n1 c1] 83)
 have RA := newRes (w.alloc (Obj.cells #[Value.bool na, Value.slice A1 n1 c1] 83)) 83
 have hb := below_alloc (Below.refl _ (w.alloc (Obj.cells #[Value.bool na, Value.slice A1 n1 c1] 83))) (Obj.cells #[Value.bool false, Value.slice none 0 0] 83)
 rw [show (w.alloc (Obj.cells #[Value.bool na, Value.slice A1 n1 c1] 83)).heap.size = w.heap.size + 1 by simp] at RA
 obtain ⟨p1, p2, -⟩ := isI_size H.out
 replace VA := VA.keep hb
 have HS := Lib.hid (p1.below HB)
 have HNA := Lib.hid p2
 clear p1 p2 H
 replace HS := Lib.hid (HS.out.below hb)
 replace HB := below_step HB hb
 clear hb
 go_enter Tryz.func140, Tryz.ntmps140
 unfold dg at sx
 obtain ⟨n, hn⟩ : ∃ n, x.natAbs = n := ⟨_, rfl⟩
 rw [hn] at HS sx
 have HN := Lib.hid hn
 clear hn
 have hd0 : (0 : Int) ≤ (d : Int) := by omega
 have hd3 : (d : Int) < 2147483648 := by omega
 have hcv : IntKind.u64.wrap (d : Int) = (d : Int) := wrap64 (by omega) (by omega)
 have hr1 : ((n % d : Nat) : Int) < (d : Int) := by have := Nat.mod_lt n (show 0 < d by omega); omega
 have hr0 : (0 : Int) ≤ ((n % d : Nat) : Int) := by omega
 have E1 : ((n / d : Nat) : Int) = ((n : Nat) : Int) / (d : Int) := Int.natCast_ediv n d
 have E2 : ((n % d : Nat) : Int) = ((n : Nat) : Int) % (d : Int) := Int.natCast_emod n d
 have HE1 := Lib.hid E1
 have HE2 := Lib.hid E2
 have HSQ : Hid ((digs B64 (n / d)).length ≤ 1000000000) := by
  have h1 : n / d < B64 ^ (digs B64 n).length := Nat.lt_of_le_of_lt (Nat.div_le_self n d) (digs_len_lt B64two n)
  have := digs_len_le B64two h1
  show _ ≤ _; omega
 clear E1 E2
 have x0 := VA.c0; have x1 := VA.c1
 go_wp2_with fail
 (with_reducible refine (Over_c n d _ _ HS.out d1 d2 (by omega)).mono ?_)
 rintro e w3 ⟨g, m, c, rfl, hq, hb, hg⟩
 have T3 := Lib.hid hq
 clear hq hg x0 x1 HS
 replace VA := VA.keep hb
 replace RA := RA.keep hb
 replace HB := below_step HB hb
 clear hb
 obtain ⟨r, hr⟩ : ∃ r, ((n % d : Nat) : Int) = r := ⟨_, rfl⟩
 rw [hr] at hr0 hr1 HE2 ⊢
 have hrw : IntKind.i64.wrap r = r := by rw [IntKind.wrap_i64]; omega
 clear hr
 have x0 := VA.c0; have x1 := VA.c1
 cases na
 ·have HF : Hid (sgnd false ((n / d : Nat) : Int) = x / d ∧ r = x % d) := by
   have h1 : ¬ x < 0 := by have := HNA.out; intro h; rw [decide_eq_true h] at this; cases this
   have h2 : x = (n : Int) := by have := HN.out; omega
   show _ ∧ _
   rw [h2, ← HE1.out, ← HE2.out]
   exact ⟨rfl, rfl⟩
  go_wp2_with fail
  (with_reducible refine (made_c false _ _ _ (n / d) _ T3.out).mono ?_)
  rintro e w4 ⟨v, rfl, hv, hb⟩
  obtain ⟨n4, A4, m4, k4, rfl, H4⟩ := hv.form; clear hv
  replace VA := VA.keep hb
  replace RA := RA.keep hb
  replace HB := below_step HB hb
  clear hb
  have RH := Lib.hid RA
  obtain ⟨⟨u1, r1⟩, ⟨u2, u3, u4, r2⟩, r3, r4, r5⟩ := RA
  go_wp2
  refine bodyPost_ret (v := .tuple #[.agg #[.bool n4, .slice A4 m4 k4], .int .i64 (r)]) (by simp [results, Tryz.results140, go_sem, r1, r2, r5]) rfl ⟨_, by rw [← HF.out.2], ?_, below_set2 HB (by omega) _ _⟩
  rw [← HF.out.1]
  exact H4.out.res2 RH.out _ _
 ·have hx : x = -((n : Nat) : Int) := by
   have h1 : x < 0 := by have := HNA.out; exact of_decide_eq_true this.symm
   have := HN.out; omega
  by_cases hz : r = 0
  ·have HF : Hid (sgnd true ((n / d : Nat) : Int) = x / d ∧ 0 = x % d) := by
    obtain ⟨f1, f2⟩ := neg_div0 (show 1 ≤ (d : Int) by omega) HE1.out HE2.out hz
    show _ ∧ _
    rw [hx]; exact ⟨by rw [f1] <;> rfl, f2.symm⟩
   have hz2 : (r == 0) = true := by simpa using hz
   subst hz
   go_wp2_with fail
   (with_reducible refine (made_c true _ _ _ (n / d) _ T3.out).mono ?_)
   rintro e w4 ⟨v, rfl, hv, hb⟩
   obtain ⟨n4, A4, m4, k4, rfl, H4⟩ := hv.form; clear hv
   replace VA := VA.keep hb
   replace RA := RA.keep hb
   replace HB := below_step HB hb
   clear hb
   have RH := Lib.hid RA
   obtain ⟨⟨u1, r1⟩, ⟨u2, u3, u4, r2⟩, r3, r4, r5⟩ := RA
   go_wp2
   refine bodyPost_ret (v := .tuple #[.agg #[.bool n4, .slice A4 m4 k4], .int .i64 (0)]) (by simp [results, Tryz.results140, go_sem, r1, r2, r5]) rfl ⟨_, by rw [← HF.out.2], ?_, below_set2 HB (by omega) _ _⟩
   rw [← HF.out.1]
   exact H4.out.res2 RH.out _ _
  ·have HF : Hid (sgnd true ((n / d + 1 : Nat) : Int) = x / d ∧ (d : Int) - r = x % d) := by
    obtain ⟨f1, f2⟩ := neg_div1 (show 1 ≤ (d : Int) by omega) HE1.out HE2.out hz
    show _ ∧ _
    rw [hx]; exact ⟨by rw [f1] <;> rfl, f2.symm⟩
   have hz2 : (r == 0) = false := by simpa using hz
   have hdw : IntKind.i64.wrap ((d : Int) - r) = (d : Int) - r := by rw [IntKind.wrap_i64]; omega
   go_wp2_with fail
   (with_reducible refine (wOf_c 1 w64_1 _).mono ?_)
   rintro e w4 ⟨v, rfl, hv, hb⟩
   obtain ⟨A4, m4, k4, rfl, T4⟩ := hv.form; clear hv
   replace T3 := Lib.hid (T3.out.below hb)
   replace VA := VA.keep hb
   replace RA := RA.keep hb
   replace HB := below_step HB hb
   clear hb
   go_wp2_with fail
   (with_reducible refine (Plus_c (n / d) 1 _ _ _ T3.out T4.out HSQ.out (by have h9 : (digs B64 1).length ≤ 1 := digs_len_le B64two (by decide); omega)).mono ?_)
   rintro e w5 ⟨v, rfl, hv, hb⟩
   obtain ⟨A5, m5, k5, rfl, T5⟩ := hv.form; clear hv
   replace VA := VA.keep hb
   replace RA := RA.keep hb
   replace HB := below_step HB hb
   clear hb
   go_wp2_with fail
   (with_reducible refine (made_c true _ _ _ (n / d + 1) _ T5.out).mono ?_)
   rintro e w6 ⟨v, rfl, hv, hb⟩
   obtain ⟨n6, A6, m6, k6, rfl, H6⟩ := hv.form; clear hv
   replace VA := VA.keep hb
   replace RA := RA.keep hb
   replace HB := below_step HB hb
   clear hb
   have RH := Lib.hid RA
   obtain ⟨⟨u1, r1⟩, ⟨u2, u3, u4, r2⟩, r3, r4, r5⟩ := RA
   go_wp2
   refine bodyPost_ret (v := .tuple #[.agg #[.bool n6, .slice A6 m6 k6], .int .i64 ((d : Int) - r)]) (by simp [results, Tryz.results140, go_sem, r1, r2, r5]) rfl ⟨_, by rw [← HF.out.2], ?_, below_set2 HB (by omega) _ _⟩
   rw [← HF.out.1]
   exact H6.out.res2 RH.out _ _
set_option maxRecDepth 100000 in
set_option maxHeartbeats 2000000 in
theorem wString_c (x : Int) (v : Value) (w : World) (h : IsI w v x) (sx : (digs 10 x.natAbs).length ≤ 1000000000) :
  Calls Tryz.prog 60 #[v] w fun e w' => e = .returned (.string (tS x)) ∧ Below w.heap.size w w' := by
 obtain ⟨na, A1, n1, c1, rfl, H⟩ := h.form
 clear h
 have VA := VX.new w 83 H.out
 have HB := below_alloc (Below.refl w.heap.size w) (Obj.cells #[Value.bool na, Value.slice A1 n1 c1] 83)
 obtain ⟨p1, p2, -⟩ := isI_size H.out
 have HS := Lib.hid (p1.below HB)
 obtain ⟨n, hn⟩ : ∃ n, x.natAbs = n := ⟨_, rfl⟩
 rw [hn] at HS sx
 have x0 := VA.c0; have x1 := VA.c1
 cases na
 ·have HX : Hid (tS (n : Int) = tS x) := by
   have h1 : ¬ x < 0 := by intro h; rw [decide_eq_true h] at p2; cases p2
   show _ = _; congr 1; omega
  clear p1 p2 hn H VA
  go_enter Tryz.func60, Tryz.ntmps60
  go_wp2_with fail
  (with_reducible refine (wDigits_c n _ _ HS.out sx).mono ?_)
  rintro e w3 ⟨rfl, hb⟩
  rw [HX.out]
  go_wp2
  go_ret
  exact ⟨rfl, below_step HB hb⟩
 ·have HX : Hid (({ data := #[45] } : ByteArray) ++ tS (n : Int) = tS x) := by
   have h1 : x < 0 := of_decide_eq_true p2.symm
   show _ = _; rw [neg_tS (show 0 < n by omega)]; congr 1; omega
  have hsz : (tS (n : Int)).size ≤ 1000000001 := by
   unfold tS
   rw [mkS_size]
   unfold tx
   rw [if_neg (by omega), List.nil_append, show ((n : Int)).natAbs = n by omega]
   rcases Nat.eq_zero_or_pos n with h0 | h0
   ·subst h0; decide
   ·rw [txN_length h0]; omega
  clear p1 p2 hn H VA
  go_enter Tryz.func60, Tryz.ntmps60
  go_wp2_with fail
  (with_reducible refine (wDigits_c n _ _ HS.out sx).mono ?_)
  rintro e w3 ⟨rfl, hb⟩
  have HX2 := HX.out
  go_wp2
  go_ret
  exact ⟨rfl, below_step HB hb⟩
end Go.Proofs.YtibdipfhfaeooaaGreatDoor


set_option linter.unusedVariables false
set_option linter.unusedSimpArgs false
namespace Go.Proofs.YtibdipfhfaeooaaGreatDoor
open Go.RowKit

theorem lenB64_dl {z : Int} (h : dlN z.natAbs ≤ 2000) : (dg B64 z).length ≤ 2000 := by
 unfold dg
 have h1 := wlen_dl z.natAbs
 unfold dlN at h
 rcases Nat.eq_zero_or_pos z.natAbs with h0 | h0
 ·rw [h0, digs_zero]; simp
 ·rw [txN_length h0] at h; omega
set_option maxRecDepth 100000 in
set_option maxHeartbeats 2000000 in
theorem wNeg_c (x : Int) (v : Value) (w : World) (h : IsI w v x) :
  Calls Tryz.prog 79 #[v] w fun e w' => e = .returned (.bool (decide (x < 0))) ∧ Below w.heap.size w w' := by
 obtain ⟨na, A1, n1, c1, rfl, H⟩ := h.form
 clear h
 obtain ⟨-, p2, -⟩ := isI_size H.out
 have HB := below_alloc (Below.refl w.heap.size w) (Obj.cells #[Value.bool na, Value.slice A1 n1 c1] 83)
 have VA := VX.new w 83 H.out
 have x0 := VA.c0
 have HR := Lib.hid p2
 clear p2 VA H
 go_enter Tryz.func79, Tryz.ntmps79
 go_wp2
 go_ret
 exact ⟨by rw [← HR.out]; rfl, HB⟩
set_option maxRecDepth 100000 in
set_option maxHeartbeats 2000000 in
theorem compare9_c (x y : Int) (w : World) (hx : dlN x.natAbs ≤ 2000) (hy : dlN y.natAbs ≤ 2000) :
  Calls Tryz.prog 111 #[.string (tS x), .string (tS y)] w fun e w' => e = .returned (.int .i64 (icmp x y)) ∧ Below w.heap.size w w' := by
 have HB : Below w.heap.size w w := Below.refl _ _
 have HX := Lib.hid hx
 have HY := Lib.hid hy
 have LX := Lib.hid (lenB64_dl hx)
 have LY := Lib.hid (lenB64_dl hy)
 clear hx hy
 go_enter Tryz.func111, Tryz.ntmps111
 go_wp2_with fail
 (with_reducible refine (wParse_c x _ (by have := HX.out; omega)).mono ?_)
 rintro e w2 ⟨v, rfl, hv, hb⟩
 obtain ⟨n2, A2, m2, k2, rfl, H2⟩ := hv.form
 clear hv
 replace HB := below_step HB hb
 clear hb
 go_wp2_with fail
 (with_reducible refine (wParse_c y _ (by have := HY.out; omega)).mono ?_)
 rintro e w3 ⟨v, rfl, hv, hb⟩
 obtain ⟨n3, A3, m3, k3, rfl, H3⟩ := hv.form
 clear hv
 replace H2 := Lib.hid (H2.out.below hb)
 replace HB := below_step HB hb
 clear hb
 go_wp2_with fail
 (with_reducible refine (iCompare_c x y _ _ _ H2.out H3.out (by have := LX.out; omega) (by have := LY.out; omega)).mono ?_)
 rintro e w4 ⟨rfl, hb⟩
 go_wp2
 go_ret
 exact ⟨rfl, below_step HB hb⟩
end Go.Proofs.YtibdipfhfaeooaaGreatDoor


set_option linter.unusedVariables false
set_option linter.unusedSimpArgs false
namespace Go.Proofs.YtibdipfhfaeooaaGreatDoor

/-- A rest that has not come down yet. -/
structure Lf where
 at_ : Int
 mul : Int
 add : Int
/-- One step on. -/
def nxt (M : Mp) (div : Int) (x : Lf) (j : Nat) : Lf :=
  ⟨((x.at_ + x.mul * (j : Int)) * gd M.mul ((x.at_ + x.mul * (j : Int)) % M.mod).toNat + gd M.add ((x.at_ + x.mul * (j : Int)) % M.mod).toNat) / M.mod,
   x.mul * gd M.mul ((x.at_ + x.mul * (j : Int)) % M.mod).toNat,
   x.add * gd M.mul ((x.at_ + x.mul * (j : Int)) % M.mod).toNat + div * gd M.add ((x.at_ + x.mul * (j : Int)) % M.mod).toNat⟩
/-- The bound of a rest whose word comes down. -/
def bnd (div : Int) (x : Lf) : Int := x.add / (div - x.mul)
/-- What a child does to the rests that are left and to the greatest bound. -/
def put1 (dv : Int) (s : List Lf × Int) (y : Lf) : List Lf × Int := if dv ≤ y.mul then (s.1 ++ [y], s.2) else if s.2 < bnd dv y then (s.1, bnd dv y) else s
def row1 (M : Mp) (div : Int) (s : List Lf × Int) (x : Lf) : List Lf × Int := (List.range M.mod.toNat).foldl (fun s j => put1 (div * M.mod) s (nxt M div x j)) s
def lev (M : Mp) (div : Int) (l : List Lf) (top : Int) : List Lf × Int := l.foldl (row1 M div) ([], top)
def dwn (M : Mp) : Nat → Nat → List Lf → Int → Int → Nat × Int
 | 0, _, _, _, top => (0, top)
 | m + 1, k, l, div, top => if (lev M div l top).1 = [] then (k + 1, (lev M div l top).2) else dwn M m (k + 1) (lev M div l top).1 (div * M.mod) (lev M div l top).2
/-- The least number of steps within which all rests come down, and their greatest bound. -/
def downP (M : Mp) (most : Nat) : Nat × Int := dwn M most 0 [⟨0, 1, 0⟩] 1 0

theorem put1_keeps (dv : Int) (s : List Lf × Int) (y : Lf) : (∀ x, x ∈ s.1 → x ∈ (put1 dv s y).1) ∧ s.2 ≤ (put1 dv s y).2 := by
 unfold put1
 split
 ·exact ⟨fun x h => List.mem_append.2 (.inl h), Int.le_refl _⟩
 ·split
  ·exact ⟨fun x h => h, by dsimp only; omega⟩
  ·exact ⟨fun x h => h, Int.le_refl _⟩
theorem put1_has (dv : Int) (s : List Lf × Int) (y : Lf) : y ∈ (put1 dv s y).1 ∨ (y.mul < dv ∧ bnd dv y ≤ (put1 dv s y).2) := by
 unfold put1
 split
 ·exact .inl (by simp)
 ·split
  ·exact .inr ⟨by omega, Int.le_refl _⟩
  ·exact .inr ⟨by omega, by omega⟩
theorem fold_keeps {α : Type} (f : List Lf × Int → α → List Lf × Int) (hf : ∀ s a, (∀ x, x ∈ s.1 → x ∈ (f s a).1) ∧ s.2 ≤ (f s a).2) : ∀ (l : List α) (s : List Lf × Int), (∀ x, x ∈ s.1 → x ∈ (l.foldl f s).1) ∧ s.2 ≤ (l.foldl f s).2
 | [], s => ⟨fun _ h => h, Int.le_refl _⟩
 | a :: l, s => by
  obtain ⟨h1, h2⟩ := fold_keeps f hf l (f s a)
  obtain ⟨h3, h4⟩ := hf s a
  exact ⟨fun x h => h1 x (h3 x h), Int.le_trans h4 h2⟩
theorem fold_has {α : Type} (f : List Lf × Int → α → List Lf × Int) (hf : ∀ s a, (∀ x, x ∈ s.1 → x ∈ (f s a).1) ∧ s.2 ≤ (f s a).2) (P : List Lf × Int → Prop) (hP : ∀ s s' : List Lf × Int, (∀ x, x ∈ s.1 → x ∈ s'.1) → s.2 ≤ s'.2 → P s → P s') {a : α} (h : ∀ s, P (f s a)) : ∀ (l : List α) (s : List Lf × Int), a ∈ l → P (l.foldl f s)
 | [], s, ha => by cases ha
 | b :: l, s, ha => by
  rcases List.mem_cons.1 ha with rfl | ha
  ·obtain ⟨h1, h2⟩ := fold_keeps f hf l (f s a)
   exact hP _ _ h1 h2 (h s)
  ·exact fold_has f hf P hP h l (f s b) ha
theorem row1_keeps (M : Mp) (div : Int) (s : List Lf × Int) (x : Lf) : (∀ y, y ∈ s.1 → y ∈ (row1 M div s x).1) ∧ s.2 ≤ (row1 M div s x).2 := fold_keeps _ (fun s j => put1_keeps _ s _) _ s
/-- A child is left, or its bound is counted. -/
theorem lev_has {M : Mp} {div : Int} {l : List Lf} {top : Int} {x : Lf} {j : Nat} (hx : x ∈ l) (hj : j < M.mod.toNat) : nxt M div x j ∈ (lev M div l top).1 ∨ ((nxt M div x j).mul < div * M.mod ∧ bnd (div * M.mod) (nxt M div x j) ≤ (lev M div l top).2) := by
 refine fold_has (row1 M div) (row1_keeps M div) (fun s => nxt M div x j ∈ s.1 ∨ ((nxt M div x j).mul < div * M.mod ∧ bnd (div * M.mod) (nxt M div x j) ≤ s.2)) ?_ (fun s => ?_) l _ hx
 ·rintro s s' h1 h2 (h | ⟨h3, h4⟩)
  ·exact .inl (h1 _ h)
  ·exact .inr ⟨h3, Int.le_trans h4 h2⟩
 ·refine fold_has (fun s j => put1 (div * M.mod) s (nxt M div x j)) (fun s j => put1_keeps _ s _) (fun s => nxt M div x j ∈ s.1 ∨ ((nxt M div x j).mul < div * M.mod ∧ bnd (div * M.mod) (nxt M div x j) ≤ s.2)) ?_ (fun s => put1_has _ s _) _ s (List.mem_range.2 hj)
  rintro s s' h1 h2 (h | ⟨h3, h4⟩)
  ·exact .inl (h1 _ h)
  ·exact .inr ⟨h3, Int.le_trans h4 h2⟩
theorem lev_top (M : Mp) (div : Int) (l : List Lf) (top : Int) : top ≤ (lev M div l top).2 := (fold_keeps _ (row1_keeps M div) l ([], top)).2
/-- A number is in a rest's class. -/
def Cls (M : Mp) (k : Nat) (div : Int) (x : Lf) (n : Int) : Prop := ∃ t : Nat, itZ M n k = x.at_ + x.mul * (t : Int) ∧ div * itZ M n k = x.mul * n + x.add
theorem stepZ_mul {M : Mp} (hok : okM M) (z : Int) : M.mod * stepZ M z = gd M.mul (z % M.mod).toNat * z + gd M.add (z % M.mod).toNat := by
 obtain ⟨m2, m12, hl1, hl2, hrow⟩ := hok
 have h0 := Int.emod_nonneg z (show M.mod ≠ 0 by omega)
 have h1 := Int.emod_lt_of_pos z (show 0 < M.mod by omega)
 have h2 := (hrow (z % M.mod).toNat (by omega)).2.2.2.2
 rw [Int.toNat_of_nonneg h0] at h2
 unfold stepZ
 refine Int.mul_ediv_cancel' (Int.dvd_of_emod_eq_zero ?_)
 rw [Int.add_emod, Int.mul_emod] at h2 ⊢
 rw [Int.emod_emod_of_dvd _ (Int.dvd_refl _)] at h2
 exact h2
theorem cls_next {M : Mp} (hok : okM M) {k : Nat} {div : Int} {x : Lf} {n : Int} (h : Cls M k div x n) : ∃ j, j < M.mod.toNat ∧ Cls M (k + 1) (div * M.mod) (nxt M div x j) n := by
 obtain ⟨t, h1, h2⟩ := h
 have hm : 0 < M.mod := by have := hok.1; omega
 obtain ⟨m, hM⟩ := Int.eq_ofNat_of_zero_le (Int.le_of_lt hm)
 have hm0 : 0 < m := by omega
 refine ⟨t % m, by rw [hM]; exact Nat.mod_lt _ hm0, t / m, ?_, ?_⟩
 ·have e : (t : Int) = (t % m : Nat) + M.mod * (t / m : Nat) := by rw [hM, ← Int.natCast_mul, ← Int.natCast_add, Nat.mod_add_div]
  show stepZ M (itZ M n k) = _
  rw [h1]
  unfold nxt
  dsimp only
  generalize ((t % m : Nat) : Int) = j at *
  generalize ((t / m : Nat) : Int) = u at *
  have e2 : x.at_ + x.mul * (t : Int) = (x.at_ + x.mul * j) + M.mod * (x.mul * u) := by rw [e, Int.mul_add]; rw [show x.mul * (M.mod * u) = M.mod * (x.mul * u) by rw [← Int.mul_assoc, Int.mul_comm x.mul, Int.mul_assoc]]; omega
  have e3 : (x.at_ + x.mul * (t : Int)) % M.mod = (x.at_ + x.mul * j) % M.mod := by rw [e2, Int.add_mul_emod_self_left]
  unfold stepZ
  rw [e3, e2]
  generalize gd M.mul ((x.at_ + x.mul * j) % M.mod).toNat = q
  generalize gd M.add ((x.at_ + x.mul * j) % M.mod).toNat = a
  generalize x.at_ + x.mul * j = b
  rw [show q * (b + M.mod * (x.mul * u)) + a = (b * q + a) + M.mod * (x.mul * q * u) by rw [Int.mul_add, Int.mul_comm q b, show q * (M.mod * (x.mul * u)) = M.mod * (x.mul * q * u) by rw [← Int.mul_assoc, Int.mul_comm q, Int.mul_assoc, ← Int.mul_assoc q, Int.mul_comm q x.mul]]; omega]
  rw [Int.add_mul_ediv_left _ _ (by omega)]
 ·have e : (x.at_ + x.mul * ((t % m : Nat) : Int)) % M.mod = itZ M n k % M.mod := by
   have e : (t : Int) = (t % m : Nat) + M.mod * (t / m : Nat) := by rw [hM, ← Int.natCast_mul, ← Int.natCast_add, Nat.mod_add_div]
   rw [h1, e, Int.mul_add, ← Int.add_assoc, show x.mul * (M.mod * ((t / m : Nat) : Int)) = M.mod * (x.mul * ((t / m : Nat) : Int)) by rw [← Int.mul_assoc, Int.mul_comm x.mul, Int.mul_assoc], Int.add_mul_emod_self_left]
  show div * M.mod * stepZ M (itZ M n k) = _
  rw [Int.mul_assoc, stepZ_mul hok]
  unfold nxt
  dsimp only
  rw [e]
  generalize gd M.mul (itZ M n k % M.mod).toNat = q
  generalize gd M.add (itZ M n k % M.mod).toNat = a
  rw [Int.mul_add, show div * (q * itZ M n k) = q * (div * itZ M n k) by rw [← Int.mul_assoc, Int.mul_comm div, Int.mul_assoc], h2, Int.mul_add, Int.mul_comm q x.add, show q * (x.mul * n) = x.mul * q * n by rw [← Int.mul_assoc, Int.mul_comm q]]
  omega
theorem cls_falls {M : Mp} {k : Nat} {dv : Int} {x : Lf} {n : Int} (h : Cls M k dv x n) (hd : 0 < dv) (hl : x.mul < dv) (hb : bnd dv x < n) : itZ M n k < n := by
 obtain ⟨t, -, h2⟩ := h
 by_cases h3 : itZ M n k < n
 ·exact h3
 ·exfalso
  unfold bnd at hb
  have h4 : (0 : Int) < dv - x.mul := by omega
  have h5 : x.add < n * (dv - x.mul) := (Int.ediv_lt_iff_lt_mul h4).1 hb
  have h6 : dv * n ≤ dv * itZ M n k := Int.mul_le_mul_of_nonneg_left (by omega) (by omega)
  rw [Int.mul_sub, Int.mul_comm n dv, Int.mul_comm n x.mul] at h5
  omega
/-- Every number that is not negative has fallen, or is at most the bound, or is in a class that is left. -/
def Inv (M : Mp) (k : Nat) (l : List Lf) (div top : Int) : Prop := ∀ n : Int, 0 ≤ n → (∃ i, 1 ≤ i ∧ i ≤ k ∧ itZ M n i < n) ∨ n ≤ top ∨ ∃ x, x ∈ l ∧ Cls M k div x n
theorem inv_next {M : Mp} (hok : okM M) {k : Nat} {l : List Lf} {div top : Int} (hd : 0 < div) (h : Inv M k l div top) : Inv M (k + 1) (lev M div l top).1 (div * M.mod) (lev M div l top).2 := by
 intro n hn
 rcases h n hn with ⟨i, h1, h2, h3⟩ | h1 | ⟨x, hx, hc⟩
 ·exact .inl ⟨i, h1, by omega, h3⟩
 ·exact .inr (.inl (Int.le_trans h1 (lev_top M div l top)))
 ·obtain ⟨j, hj, hc2⟩ := cls_next hok hc
  rcases lev_has (top := top) (div := div) hx hj with h4 | ⟨h4, h5⟩
  ·exact .inr (.inr ⟨_, h4, hc2⟩)
  ·by_cases h6 : bnd (div * M.mod) (nxt M div x j) < n
   ·exact .inl ⟨k + 1, by omega, Nat.le_refl _, cls_falls hc2 (Int.mul_pos hd (by have := hok.1; omega)) h4 h6⟩
   ·exact .inr (.inl (by omega))
theorem dwn_falls {M : Mp} (hok : okM M) : ∀ (m k : Nat) (l : List Lf) (div top : Int), Inv M k l div top → 0 < div → 0 ≤ top → ∀ K T, dwn M m k l div top = (K, T) → K ≠ 0 → K ≤ k + m ∧ k < K ∧ 0 ≤ T ∧ ∀ n : Int, T < n → ∃ i, 1 ≤ i ∧ i ≤ K ∧ itZ M n i < n
 | 0, k, l, div, top, hi, hd, ht, K, T, h, hK => by
  unfold dwn at h
  cases h
  exact absurd rfl hK
 | m + 1, k, l, div, top, hi, hd, ht, K, T, h, hK => by
  have hi2 := inv_next hok hd hi
  have ht2 := Int.le_trans ht (lev_top M div l top)
  unfold dwn at h
  split at h
  ·rename_i he
   cases h
   refine ⟨by omega, by omega, ht2, fun n hn => ?_⟩
   rcases hi2 n (by omega) with ⟨i, h1, h2, h3⟩ | h1 | ⟨x, hx, -⟩
   ·exact ⟨i, h1, h2, h3⟩
   ·omega
   ·rw [he] at hx; cases hx
  ·obtain ⟨h1, h2, h3⟩ := dwn_falls hok m (k + 1) _ _ _ hi2 (Int.mul_pos hd (by have := hok.1; omega)) ht2 K T h hK
   exact ⟨by omega, by omega, h3⟩
/-- All numbers above the bound fall. -/
theorem downP_falls {M : Mp} (hok : okM M) {most K : Nat} {T : Int} (h : downP M most = (K, T)) (hK : K ≠ 0) : K ≤ most ∧ 0 ≤ T ∧ ∀ n : Int, T < n → ∃ i, 1 ≤ i ∧ i ≤ K ∧ itZ M n i < n := by
 obtain ⟨h1, h2, h3, h4⟩ := dwn_falls hok most 0 _ 1 0 (fun n hn => .inr (.inr ⟨_, List.mem_singleton.2 rfl, n.toNat, by show n = _; simp; omega, by show 1 * n = _; simp⟩)) (by omega) (Int.le_refl _) K T h hK
 exact ⟨by omega, h3, h4⟩
/-- With more steps, or just as many as it takes, the same comes out. -/
theorem dwn_gt {M : Mp} : ∀ (m k : Nat) (l : List Lf) (div top : Int) (K : Nat) (T : Int), dwn M m k l div top = (K, T) → K ≠ 0 → k < K
 | 0, k, l, div, top, K, T, h, hK => by
  unfold dwn at h
  cases h
  exact absurd rfl hK
 | m + 1, k, l, div, top, K, T, h, hK => by
  unfold dwn at h
  split at h
  ·cases h; omega
  ·have := dwn_gt m (k + 1) _ _ _ K T h hK
   omega
theorem dwn_same {M : Mp} : ∀ (m k : Nat) (l : List Lf) (div top : Int) (K : Nat) (T : Int), dwn M m k l div top = (K, T) → K ≠ 0 → ∀ m', K ≤ k + m' → dwn M m' k l div top = (K, T)
 | 0, k, l, div, top, K, T, h, hK, m', hm => by
  unfold dwn at h
  cases h
  exact absurd rfl hK
 | m + 1, k, l, div, top, K, T, h, hK, m', hm => by
  unfold dwn at h
  split at h
  ·rename_i he
   cases h
   cases m' with
   | zero => omega
   | succ m' => unfold dwn; rw [if_pos he]
  ·rename_i he
   have hlt : k + 1 < K := by
    clear hm
    exact dwn_gt m (k + 1) _ _ _ K T h hK
   cases m' with
   | zero => omega
   | succ m' =>
    unfold dwn
    rw [if_neg he]
    exact dwn_same m (k + 1) _ _ _ K T h hK m' (by omega)
end Go.Proofs.YtibdipfhfaeooaaGreatDoor


set_option linter.unusedVariables false
set_option linter.unusedSimpArgs false
namespace Go.Proofs.YtibdipfhfaeooaaGreatDoor

/-- A loop: a cycle of the map, of numbers that are not negative, the least one first. -/
structure LoopOK (M : Mp) (l : List Int) : Prop where
 len0 : 0 < l.length
 len1 : l.length ≤ 1000
 nn : 0 ≤ gd l 0
 fit : ∀ i, i < l.length → dl (gd l i) ≤ 2000
 step : ∀ i, i < l.length → stepZ M (gd l i) = gd l ((i + 1) % l.length)
 dist : ∀ i j, i < j → j < l.length → gd l i ≠ gd l j
 least : ∀ i, i < l.length → gd l 0 ≤ gd l i
def lpi (ls : List (List Int)) (i : Nat) : List Int := ls.getD i []
def LoopsOK (M : Mp) (ls : List (List Int)) : Prop := (∀ i, i < ls.length → LoopOK M (lpi ls i)) ∧ ∀ i, i + 1 < ls.length → gd (lpi ls i) 0 < gd (lpi ls (i + 1)) 0
def Rise (M : Mp) : Prop := ∀ r, r < M.add.length → 0 ≤ gd M.add r
/-- The numbers up to a bound come to the loops. -/
def Comes (M : Mp) (B : Int) (ls : List (List Int)) : Prop := ∀ n : Nat, (n : Int) ≤ B → (flwA M 20001 [] (n : Int)).1 = 0 ∧ ∃ i, i < ls.length ∧ gd (lpi ls i) 0 = gd (flwA M 20001 [] (n : Int)).2.2 0
/-- A certificate is accepted. -/
structure Acc (M : Mp) (K : Nat) (B : Int) (ls : List (List Int)) : Prop where
 rise : Rise M
 k0 : 1 ≤ K
 rests : M.mod ^ K ≤ 65536
 b0 : 0 ≤ B
 b1 : B ≤ 20000
 loops : LoopsOK M ls
 down : (downP M K).1 ≠ 0
 top : (downP M K).2 ≤ B
 come : Comes M B ls
section
variable {M : Mp} {l : List Int}
theorem LoopOK.it (h : LoopOK M l) {i : Nat} (hi : i < l.length) : ∀ k, itZ M (gd l i) k = gd l ((i + k) % l.length)
 | 0 => by rw [Nat.add_zero, Nat.mod_eq_of_lt hi]; rfl
 | k + 1 => by
  show stepZ M (itZ M (gd l i) k) = _
  rw [h.it hi k, h.step _ (Nat.mod_lt _ h.len0), Nat.mod_add_mod, Nat.add_assoc]
/-- From each number of a loop the least one is come to, and none less. -/
theorem LoopOK.reach (h : LoopOK M l) {x : Int} (hx : x ∈ l) : (∃ k, itZ M x k = gd l 0) ∧ ∀ k, itZ M x k ∈ l ∧ gd l 0 ≤ itZ M x k := by
 obtain ⟨i, hi, rfl⟩ := List.mem_iff_getElem.1 hx
 rw [← gd_lt hi]
 refine ⟨⟨l.length - i, ?_⟩, fun k => ?_⟩
 ·rw [h.it hi, show i + (l.length - i) = l.length by omega, Nat.mod_self]
 ·rw [h.it hi]
  have := Nat.mod_lt (i + k) h.len0
  exact ⟨by rw [gd_lt this]; exact List.getElem_mem this, h.least _ this⟩
theorem loops_least {l' : List Int} (h : LoopOK M l) (h' : LoopOK M l') {x : Int} (hx : x ∈ l) (hx' : x ∈ l') : gd l 0 = gd l' 0 := by
 obtain ⟨⟨k, hk⟩, h1⟩ := h.reach hx
 obtain ⟨⟨k', hk'⟩, h2⟩ := h'.reach hx'
 have := (h1 k').2
 have := (h2 k).2
 omega
theorem loops_mono {ls : List (List Int)} (h : LoopsOK M ls) : ∀ i j, i < j → j < ls.length → gd (lpi ls i) 0 < gd (lpi ls j) 0 := by
 intro i j hij
 obtain ⟨d, rfl⟩ : ∃ d, j = i + 1 + d := ⟨j - i - 1, by omega⟩
 clear hij
 induction d with
 | zero => exact fun hj => h.2 i hj
 | succ d ih =>
  intro hj
  have h1 := ih (by omega)
  have h2 := h.2 (i + 1 + d) (by omega)
  rw [show i + 1 + (d + 1) = i + 1 + d + 1 by omega]
  omega
/-- No number is in two loops. -/
theorem loops_one {ls : List (List Int)} (h : LoopsOK M ls) {i j : Nat} (hi : i < ls.length) (hj : j < ls.length) {x : Int} (hx : x ∈ lpi ls i) (hx' : x ∈ lpi ls j) : i = j := by
 have e := loops_least (h.1 i hi) (h.1 j hj) hx hx'
 rcases Nat.lt_trichotomy i j with h1 | h1 | h1
 ·have := loops_mono h i j h1 hj; omega
 ·exact h1
 ·have := loops_mono h j i h1 hi; omega
end
section
variable {M : Mp}
theorem rest_lt (hok : okM M) (z : Int) : (z % M.mod).toNat < M.add.length ∧ 1 ≤ gd M.mul (z % M.mod).toNat ∧ gd M.mul (z % M.mod).toNat ≤ 999 ∧ gd M.add (z % M.mod).toNat ≤ 999999 := by
 obtain ⟨m2, m12, hl1, hl2, hrow⟩ := hok
 have h0 := Int.emod_nonneg z (show M.mod ≠ 0 by omega)
 have h1 := Int.emod_lt_of_pos z (show 0 < M.mod by omega)
 obtain ⟨h2, h3, h4, h5, -⟩ := hrow (z % M.mod).toNat (by omega)
 exact ⟨by omega, h2, h3, h5⟩
/-- One step: not negative, and not much more. -/
theorem step_up (hok : okM M) (hr : Rise M) {z : Int} (hz : 0 ≤ z) : 0 ≤ stepZ M z ∧ stepZ M z + 1000 ≤ 501 * (z + 1000) := by
 obtain ⟨h1, h2, h3, h4⟩ := rest_lt hok z
 have h5 := hr _ h1
 have hs := stepZ_mul hok z
 have hm := hok.1
 generalize gd M.mul (z % M.mod).toNat = q at *
 generalize gd M.add (z % M.mod).toNat = a at *
 generalize stepZ M z = y at *
 have h6 : 0 ≤ q * z := Int.mul_nonneg (by omega) hz
 have h7 : q * z ≤ 999 * z := Int.mul_le_mul_of_nonneg_right h3 hz
 have hy : 0 ≤ y := by
  by_cases h : 0 ≤ y
  ·exact h
  ·exfalso
   have := Int.mul_le_mul_of_nonneg_left (show y ≤ -1 by omega) (show (0 : Int) ≤ M.mod by omega)
   omega
 refine ⟨hy, ?_⟩
 have := Int.mul_le_mul_of_nonneg_right hm hy
 omega
theorem it_nn (hok : okM M) (hr : Rise M) {z : Int} (hz : 0 ≤ z) : ∀ k, 0 ≤ itZ M z k
 | 0 => hz
 | k + 1 => (step_up hok hr (it_nn hok hr hz k)).1
theorem it_up (hok : okM M) (hr : Rise M) {z : Int} (hz : 0 ≤ z) : ∀ k, itZ M z k + 1000 ≤ 501 ^ k * (z + 1000)
 | 0 => by show z + 1000 ≤ _; rw [Int.pow_zero]; omega
 | k + 1 => by
  have h1 := (step_up hok hr (it_nn hok hr hz k)).2
  have h2 := it_up hok hr hz k
  show stepZ M (itZ M z k) + 1000 ≤ _
  rw [Int.pow_succ, Int.mul_comm ((501 : Int) ^ k) 501, Int.mul_assoc]
  omega
theorem pow_mono {a b : Nat} (h : a ≤ b) : (501 : Int) ^ a ≤ 501 ^ b := by
 have h2 : ((501 ^ a : Nat) : Int) ≤ ((501 ^ b : Nat) : Int) := Int.ofNat_le.2 (Nat.pow_le_pow_right (n := 501) (by omega) h)
 rw [Int.natCast_pow, Int.natCast_pow] at h2
 exact h2
/-- Where all numbers above a bound fall within K steps, none grows much. -/
theorem it_bounded (hok : okM M) (hr : Rise M) {K : Nat} {B : Int} (hB : 0 ≤ B) (hf : ∀ n : Int, B < n → ∃ i, 1 ≤ i ∧ i ≤ K ∧ itZ M n i < n) : ∀ k x, 0 ≤ x → x + 1000 ≤ 501 * (B + 1000) → itZ M x k + 1000 ≤ 501 ^ (K + 1) * (B + 1000) := by
 intro k
 induction k using Nat.strongRecOn with
 | ind k ih =>
  intro x hx hx2
  have hC : ∀ j, j ≤ K → (501 : Int) ^ j * (x + 1000) ≤ 501 ^ (K + 1) * (B + 1000) := fun j hj => by
   have h1 : (501 : Int) ^ j * (x + 1000) ≤ 501 ^ j * (501 * (B + 1000)) := Int.mul_le_mul_of_nonneg_left hx2 (Int.le_of_lt (Int.pow_pos (by omega)))
   have h2 : (501 : Int) ^ j * (501 * (B + 1000)) = 501 ^ (j + 1) * (B + 1000) := by rw [Int.pow_succ, Int.mul_assoc]
   have h3 : (501 : Int) ^ (j + 1) * (B + 1000) ≤ 501 ^ (K + 1) * (B + 1000) := Int.mul_le_mul_of_nonneg_right (pow_mono (by omega)) (by omega)
   omega
  by_cases hxB : B < x
  ·obtain ⟨i, h1, h2, h3⟩ := hf x hxB
   by_cases hki : k < i
   ·exact Int.le_trans (it_up hok hr hx k) (hC k (by omega))
   ·have h4 := ih (k - i) (by omega) (itZ M x i) (it_nn hok hr hx i) (by omega)
    rw [itZ_add, show i + (k - i) = k by omega] at h4
    exact h4
  ·cases k with
   | zero => exact Int.le_trans (it_up hok hr hx 0) (hC 0 (by omega))
   | succ k =>
    have h5 := step_up hok hr hx
    have h4 := ih k (by omega) (stepZ M x) h5.1 (by have := h5.2; omega)
    rw [itZ_shift] at h4
    exact h4
theorem rests_le (hm : 2 ≤ M.mod) {K : Nat} (h : M.mod ^ K ≤ 65536) : K ≤ 16 := by
 rcases Nat.lt_or_ge 16 K with h1 | h1
 ·exfalso
  have h2 : (2 : Int) ^ 17 ≤ M.mod ^ K := by
   obtain ⟨m, hm2⟩ := Int.eq_ofNat_of_zero_le (show 0 ≤ M.mod by omega)
   rw [hm2] at hm ⊢
   have h3 : ((2 ^ 17 : Nat) : Int) ≤ ((m ^ K : Nat) : Int) := Int.ofNat_le.2 (Nat.le_trans (Nat.pow_le_pow_right (by omega) (show 17 ≤ K by omega)) (Nat.pow_le_pow_left (by omega) K))
   rw [Int.natCast_pow, Int.natCast_pow] at h3
   exact h3
  have h4 : (2 : Int) ^ 17 = 131072 := by decide
  omega
 ·exact h1
theorem dl_big {z : Int} (h0 : 0 ≤ z) (h : z + 1000 ≤ 501 ^ 17 * 21000) : dl z ≤ 700 := by
 unfold dl
 split
 ·omega
 ·have h1 : z.natAbs < 10 ^ 60 := by
   have e : (501 : Int) ^ 17 * 21000 ≤ 10 ^ 60 := by decide
   have e2 : ((10 : Nat) ^ 60 : Nat) = 1000000000000000000000000000000000000000000000000000000000000 := by decide
   have e3 : (10 : Int) ^ 60 = 1000000000000000000000000000000000000000000000000000000000000 := by decide
   rw [e2]
   omega
  have := digs_len_le (B := 10) (by omega) h1
  omega
variable {K : Nat} {B : Int} {ls : List (List Int)}
theorem Acc.falls (h : Acc M K B ls) (hok : okM M) {n : Int} (hn : B < n) : ∃ i, 1 ≤ i ∧ i ≤ K ∧ itZ M n i < n := by
 obtain ⟨h1, h2, h3⟩ := downP_falls hok (most := K) (K := (downP M K).1) (T := (downP M K).2) rfl h.down
 obtain ⟨i, g1, g2, g3⟩ := h3 n (by have := h.top; omega)
 exact ⟨i, g1, by omega, g3⟩
theorem Acc.k1 (h : Acc M K B ls) (hok : okM M) : K ≤ 16 := rests_le hok.1 h.rests
/-- No number up to the bound grows to more than 700 digits. -/
theorem Acc.small (h : Acc M K B ls) (hok : okM M) {n : Int} (h0 : 0 ≤ n) (hn : n ≤ B) (k : Nat) : dl (itZ M n k) ≤ 700 := by
 refine dl_big (it_nn hok h.rise h0 k) ?_
 have h1 := it_bounded hok h.rise h.b0 (fun n hn => h.falls hok hn) k n h0 (by have := h.b0; omega)
 have h2 := pow_mono (show K + 1 ≤ 17 by have := h.k1 hok; omega)
 have h3 : (501 : Int) ^ (K + 1) * (B + 1000) ≤ 501 ^ 17 * 21000 := by
  have h4 : (501 : Int) ^ (K + 1) * (B + 1000) ≤ 501 ^ 17 * (B + 1000) := Int.mul_le_mul_of_nonneg_right h2 (by have := h.b0; omega)
  have h5 : (501 : Int) ^ 17 * (B + 1000) ≤ 501 ^ 17 * 21000 := Int.mul_le_mul_of_nonneg_left (by have := h.b1; omega) (by decide)
  omega
 omega
/-- What follow tells of a number that comes to a cycle. -/
theorem flw_orbit {n : Int} {most : Nat} (h : (flwA M (most + 1) [] n).1 = 0) : ∃ t s L, flwA M (most + 1) [] n = (0, t, (List.range L).map fun i => itZ M n (s + i)) ∧ 0 < L ∧ t + L ≤ most ∧ t ≤ s ∧ s < t + L ∧ (∀ j, dl (itZ M n j) ≤ 2000) ∧ itZ M n (t + L) = itZ M n t ∧ (∀ i j, i < j → j < t + L → itZ M n i ≠ itZ M n j) ∧ ∀ j, t ≤ j → itZ M n s ≤ itZ M n j := by
 rcases flwA_FS M n most with ⟨e, -⟩ | ⟨e, -⟩ | h'
 ·rw [e] at h; cases h
 ·rw [e] at h; cases h
 ·exact h'
/-- A number up to the bound comes to a loop, within 20000 steps. -/
theorem Acc.comes (h : Acc M K B ls) (hok : okM M) {n : Nat} (hn : (n : Int) ≤ B) : ∃ t, t ≤ 20000 ∧ ∃ i, i < ls.length ∧ itZ M (n : Int) t ∈ lpi ls i := by
 obtain ⟨h1, i, hi, h2⟩ := h.come n hn
 obtain ⟨t, s, L, e, hL, hm, hs1, hs2, -, hp, -, -⟩ := flw_orbit (most := 20000) h1
 rw [e] at h2
 dsimp only at h2
 rw [gd_range _ _ hL, Nat.add_zero] at h2
 have hl := h.loops.1 i hi
 refine ⟨s, by omega, i, hi, ?_⟩
 rw [← h2, gd_lt hl.len0]
 exact List.getElem_mem hl.len0
end
end Go.Proofs.YtibdipfhfaeooaaGreatDoor


set_option linter.unusedVariables false
set_option linter.unusedSimpArgs false
namespace Go.Proofs.YtibdipfhfaeooaaGreatDoor
open Go.RowKit

theorem bsBeq (x y : ByteArray) : (x.toList == y.toList) = decide (x = y) := by
 by_cases h : x = y
 ·subst h; simp
 ·rw [decide_eq_false h]
  have h2 : ¬ x.toList = y.toList := fun e => h (by
   rw [ByteArray.toList_eq, ByteArray.toList_eq] at e
   have e2 : x.data = y.data := by rw [← Array.toList_inj]; exact e
   cases x; cases y; simp only at e2; rw [e2])
  simpa using h2
theorem gsm (l : List Int) {i : Nat} (h : i < l.length) : gs (l.map tS) i = tS (gd l i) := by
 rw [gs_lt (by rw [List.length_map]; exact h), gd_lt h]
 simp
theorem tS_maxLen {z : Int} (h : dlN z.natAbs ≤ 2000) : (tS z).size ≤ maxLen := by
 rw [← codes_length, codes_tS]
 unfold tx
 have h1 : dl z = dlN z.natAbs := dl_dlN _
 unfold dlN at h h1
 rw [List.length_append]
 simp only [maxLen]
 split <;> simp <;> omega
theorem in_take {l : List Int} {i : Nat} (hi : i < l.length) : tS (gd l i) ∈ (l.take i).map tS ↔ ∃ k, k < i ∧ gd l k = gd l i := by
 rw [List.mem_map]
 constructor
 ·rintro ⟨z, hz, e⟩
  obtain ⟨k, hk, rfl⟩ := List.mem_iff_getElem.1 hz
  rw [List.length_take] at hk
  refine ⟨k, by omega, ?_⟩
  rw [gd_lt (show k < l.length by omega)]
  have := tS_inj e
  rw [← this, List.getElem_take]
 ·rintro ⟨k, hk, e⟩
  refine ⟨gd l k, ?_, by rw [e]⟩
  rw [gd_lt (show k < l.length by omega)]
  exact List.mem_iff_getElem.2 ⟨k, by rw [List.length_take]; omega, by rw [List.getElem_take]⟩
theorem take_snoc {l : List Int} {i : Nat} (hi : i < l.length) : (l.take i).map tS ++ [tS (gd l i)] = (l.take (i + 1)).map tS := by
 rw [List.take_add_one, List.getElem?_eq_getElem hi, List.map_append, gd_lt hi]
 rfl
set_option maxRecDepth 100000 in
set_option maxHeartbeats 16000000 in
theorem loop_c (M : Mp) (l : List Int) (v : Value) (A : Option Addr) (c : Nat) (w : World) (hM : IsM w v M) (hok : okM M) (hL : LsS w A c (l.map tS)) (hz : ∀ z ∈ l, dlN z.natAbs ≤ 2000) (ht : Tb w) (B : Bool) (hB : B = true ↔ LoopOK M l) :
  Calls Tryz.prog 134 #[v, .slice A l.length c] w fun e w' => e = .returned (.bool B) ∧ Below w.heap.size w w' := by
 obtain ⟨md, Am, nm, cm, A', n', c', rfl, HM⟩ := hM.form
 have V3 := VM.new w 24 HM.out
 have HB := below_alloc (Below.refl w.heap.size w) (Obj.cells #[Value.int .i64 md, Value.slice Am nm cm, Value.slice A' n' c'] 24)
 have HT := Lib.hid ht
 have HOK := Lib.hid hok
 have HL := Lib.hid hL
 have HZ := Lib.hid hz
 have HBB := Lib.hid hB
 have hF : Hid (¬ LoopOK M l → B = false) := fun h => by
  cases e : B with
  | false => rfl
  | true => exact absurd (HBB.out.1 e) h
 have hlc : l.length ≤ 9223372036854775807 := by
  have := hL.2
  rw [List.length_map] at this
  omega
 obtain ⟨n, hn⟩ : ∃ n, l.length = n := ⟨_, rfl⟩
 have HN := Lib.hid hn
 rw [hn] at hlc ⊢
 clear hM hok hL hz ht hB HM hn
 by_cases h0 : n = 0
 ·subst h0
  have HR := Lib.hid (hF.out fun h => by have := h.len0; rw [HN.out] at this; omega)
  go_enter Tryz.func134, Tryz.ntmps134
  go_wp2
  go_ret
  exact ⟨by rw [HR.out] <;> rfl, HB⟩
 have e1 : (n == 0) = false := by simpa using h0
 have e2 : ((n : Int) == 0) = false := by simp; omega
 by_cases h1 : 1000 < n
 ·have h2 : (1000 : Int) < (n : Int) := by omega
  have HR := Lib.hid (hF.out fun h => by have := h.len1; rw [HN.out] at this; omega)
  go_enter Tryz.func134, Tryz.ntmps134
  go_wp2
  go_ret
  exact ⟨by rw [HR.out] <;> rfl, HB⟩
 have h2 : ¬ (1000 : Int) < (n : Int) := by omega
 have h2b : decide ((1000 : Int) < (n : Int)) = false := decide_eq_false h2
 have h2c : decide (1000 < n) = false := decide_eq_false h1
 have HN0 : Hid (0 < l.length) := by show _ < _; rw [HN.out]; omega
 obtain ⟨bA, oA, rfl⟩ := HL.out.ptr (by rw [List.length_map]; exact HN0.out)
 have HZ0 : Hid (dlN (gd l 0).natAbs ≤ 2000) := HZ.out _ (by rw [gd_lt HN0.out]; exact List.getElem_mem HN0.out)
 have hc0 : w.cell? ⟨bA, oA, none⟩ = some (.string (tS (gd l 0))) := by
  have h := HL.out.at (j := 0) (by rw [List.length_map]; exact HN0.out)
  rw [Nat.add_zero, gsm _ HN0.out] at h
  exact h
 have C0 : CL w bA oA (.string (tS (gd l 0))) := ⟨hc0, by
  obtain ⟨b, off, e, hl, -⟩ := HL.out.cell (j := 0) (by rw [List.length_map]; exact HN0.out)
  cases e
  exact hl⟩
 replace C0 := C0.keep HB
 clear hc0
 have x0 := C0.c
 have hn0 : (0 : Int) < (n : Int) := by omega
 have hmm := @run_makeMap Tryz.prog
 go_enter Tryz.func134, Tryz.ntmps134
 go_wp2_with fail
 (with_reducible refine (wParse_c (gd l 0) _ (by have := HZ0.out; omega)).mono ?_)
 rintro e w2 ⟨v, rfl, hv, hb⟩
 obtain ⟨n2, A2, m2, k2, rfl, H2⟩ := hv.form
 clear hv x0
 replace HB := below_step HB hb
 replace V3 := V3.keep hb
 replace C0 := C0.keep hb
 clear hb
 go_wp2_with fail
 (with_reducible refine (wNeg_c (gd l 0) _ _ H2.out).mono ?_)
 rintro e w3 ⟨rfl, hb⟩
 replace HB := below_step HB hb
 replace V3 := V3.keep hb
 replace C0 := C0.keep hb
 clear hb H2
 by_cases hneg : gd l 0 < 0
 ·have hnd : decide (gd l 0 < 0) = true := decide_eq_true hneg
  have HR := Lib.hid (hF.out fun h => by have := h.nn; omega)
  rw [hnd]
  clear hnd hneg
  go_wp2
  go_ret
  exact ⟨by rw [HR.out] <;> rfl, HB⟩
 rw [decide_eq_false hneg]
 have HNN := Lib.hid hneg
 clear hneg
 go_upto_region 4 with fail
 have HS := Lib.hid (OwnSet.made w3)
 have hba := below_alloc (Below.refl w3.heap.size w3) (Obj.map #[] 0)
 have hbM := HB.size
 replace HB := below_step HB hba
 replace V3 := V3.keep hba
 replace C0 := C0.keep hba
 generalize hW : w3.alloc (Obj.map #[] 0) = W at *
 obtain ⟨bM, hbm⟩ : ∃ bM, w3.heap.size = bM := ⟨_, rfl⟩
 rw [hbm] at HS hbM ⊢
 clear hW hba hbm
 go_wp2_with fail
 clear hmm
 go_loopg [28] n (fun g iv wr => ∃ i : Nat, g = n - i ∧ iv = .int .i64 i ∧ i ≤ n ∧ VM wr w.heap.size md Am nm cm A' n' c' M ∧ CL wr bA oA (.string (tS (gd l 0))) ∧ Hid (OwnSet wr bM i ((l.take i).map tS)) ∧ Below w.heap.size w wr ∧ Hid (∀ j, j < i → stepZ M (gd l j) = gd l ((j + 1) % n) ∧ gd l 0 ≤ gd l j ∧ ∀ k, k < j → gd l k ≠ gd l j))
 case atStart => exact ⟨0, rfl, rfl, Nat.zero_le _, V3, C0, HS, HB, fun j h => absurd h (by omega)⟩
 case round =>
  clear V3 C0 HS HB
  obtain ⟨i, hgi, rfl, hi, V3, C0, HS, HB, HI⟩ := hrel
  have hi0 : (0 : Int) ≤ (i : Int) := by omega
  by_cases hin : i < n
  ·have hi1 : (i : Int) < (n : Int) := by omega
   have HIL : Hid (i < l.length) := by show _ < _; rw [HN.out]; exact hin
   obtain ⟨p, hp⟩ : ∃ p, (i + 1) % n = p := ⟨_, rfl⟩
   have hpn : p < n := by rw [← hp]; exact Nat.mod_lt _ (by omega)
   have HPL : Hid (p < l.length) := by show _ < _; rw [HN.out]; exact hpn
   have hp0 : (0 : Int) ≤ (p : Int) := by omega
   have hp1 : (p : Int) < (n : Int) := by omega
   have hw1 : IntKind.i64.wrap ((i : Int) + 1) = (i : Int) + 1 := by rw [IntKind.wrap_i64]; omega
   have hrem : ((i : Int) + 1).tmod (n : Int) = (p : Int) := by rw [← hp]; exact (Int.ofNat_tmod (i + 1) n).symm
   have hnz : ¬ n = 0 := h0
   have HP := Lib.hid hp
   have HZI : Hid (dlN (gd l i).natAbs ≤ 2000) := HZ.out _ (by rw [gd_lt HIL.out]; exact List.getElem_mem HIL.out)
   have HZP : Hid (dlN (gd l p).natAbs ≤ 2000) := HZ.out _ (by rw [gd_lt HPL.out]; exact List.getElem_mem HPL.out)
   have CI : CL wr bA (oA + i) (.string (tS (gd l i))) := ⟨by rw [(HL.out.below HB).at (j := i) (by rw [List.length_map]; exact HIL.out), gsm _ HIL.out], C0.lt⟩
   have CP : CL wr bA (oA + p) (.string (tS (gd l p))) := ⟨by rw [(HL.out.below HB).at (j := p) (by rw [List.length_map]; exact HPL.out), gsm _ HPL.out], C0.lt⟩
   clear hp
   have x0 := CI.c
   have m0 := V3.c0; have m1 := V3.c1; have m2_ := V3.c2
   go_wp2_with fail
   (with_reducible refine (Stp_ok M (gd l i) _ _ V3.im.out HOK.out HZI.out (HT.out.below HB)).mono ?_)
   rintro e w4 ⟨rfl, hb⟩
   replace HB := below_step HB hb
   replace V3 := V3.keep hb; replace C0 := C0.keep hb; replace CI := CI.keep hb; replace CP := CP.keep hb
   replace HS := Lib.hid (HS.out.below hb)
   clear hb x0 m0 m1 m2_
   by_cases hbig : 2000 < dl (stepZ M (gd l i))
   ·have hE : toldE (stepZ M (gd l i)) = 3 := by unfold toldE; rw [if_pos hbig]
    rw [hE]
    have HBG := Lib.hid hbig
    clear hE hbig
    have HR := Lib.hid (hF.out fun h => by have h1 := h.step i HIL.out; rw [HN.out, HP.out] at h1; have h2 := h.fit p HPL.out; rw [← h1] at h2; have := HBG.out; omega)
    clear HI
    go_wp2
    go_ret
    exact ⟨by rw [HR.out] <;> rfl, HB⟩
   ·have hE : toldE (stepZ M (gd l i)) = 0 := by unfold toldE; rw [if_neg hbig]
    have hS : toldS (stepZ M (gd l i)) = tS (stepZ M (gd l i)) := by unfold toldS; rw [if_neg hbig]
    rw [hE, hS]
    clear hE hS hbig
    by_cases hst : stepZ M (gd l i) = gd l p
    ·have HST := Lib.hid hst
     rw [hst]
     clear hst
     have hin_ := HS.out.look (s := tS (gd l i)) (tS_maxLen HZI.out)
     have xp := CP.c; have x0 := C0.c
     by_cases hmem : ∃ k, k < i ∧ gd l k = gd l i
     ·rw [inB_iff.2 ((in_take HIL.out).2 hmem)] at hin_
      have HMM := Lib.hid hmem
      clear hmem
      have HR := Lib.hid (hF.out fun h => by obtain ⟨k, hk, e⟩ := HMM.out; exact h.dist k i hk HIL.out e)
      clear HI
      go_wp2
      go_ret
      exact ⟨by rw [HR.out] <;> rfl, HB⟩
     ·have hnin : inB ((l.take i).map tS) (tS (gd l i)) = false := by
       cases e : inB ((l.take i).map tS) (tS (gd l i)) with
       | false => rfl
       | true => exact absurd ((in_take HIL.out).1 (inB_iff.1 e)) hmem
      rw [hnin] at hin_
      have HMM := Lib.hid hmem
      clear hmem hnin
      go_wp2_with fail
      (with_reducible refine (compare9_c (gd l i) (gd l 0) _ HZI.out HZ0.out).mono ?_)
      rintro e w5 ⟨rfl, hb⟩
      replace HB := below_step HB hb
      replace V3 := V3.keep hb; replace C0 := C0.keep hb; replace CI := CI.keep hb; replace CP := CP.keep hb
      replace HS := Lib.hid (HS.out.below hb)
      clear hb x0 xp hin_
      by_cases hlt : gd l i < gd l 0
      ·have hcm : icmp (gd l i) (gd l 0) < 0 := (icmp_lt' _ _).2 hlt
       have HLT := Lib.hid hlt
       clear hlt
       have HR := Lib.hid (hF.out fun h => by have := h.least i HIL.out; have := HLT.out; omega)
       clear HI
       go_wp2
       go_ret
       exact ⟨by rw [HR.out] <;> rfl, HB⟩
      ·have hcm : ¬ icmp (gd l i) (gd l 0) < 0 := fun h => hlt ((icmp_lt' _ _).1 h)
       have hcmd : decide (icmp (gd l i) (gd l 0) < 0) = false := decide_eq_false hcm
       have HLT := Lib.hid hlt
       have him : i < maxLen := by simp only [maxLen]; omega
       have hsm := tS_maxLen HZI.out
       clear hlt
       go_wp2_with (at_mapUpdate; refine upd_set rfl _ _ _ rfl bM i ((l.take i).map tS) (tS (gd l i)) rfl HS.out him hsm rfl rfl ?_; intro w6 HS6 hg6 hk6)
       have hnc := HS.out.nocells
       replace V3 := V3.grown hg6 (ne_of_cell V3.c0 hnc) hk6
       replace C0 : CL w6 bA oA (.string (tS (gd l 0))) := ⟨cell_kept C0.c hg6 hnc, Nat.lt_of_lt_of_le C0.lt hg6.size⟩
       replace HB := HB.grown hg6 HB.size (fun r e => by cases e; exact hbM)
       have HS7 : Hid (OwnSet w6 bM (i + 1) ((l.take (i + 1)).map tS)) := by
        show OwnSet _ _ _ _
        rw [← take_snoc HIL.out]
        exact HS6
       have HI7 : Hid (∀ j, j < i + 1 → stepZ M (gd l j) = gd l ((j + 1) % n) ∧ gd l 0 ≤ gd l j ∧ ∀ k, k < j → gd l k ≠ gd l j) := fun j hj => by
        rcases Nat.lt_or_ge j i with h | h
        ·exact HI.out j h
        ·obtain rfl : j = i := by omega
         exact ⟨by rw [HST.out, HP.out], by have := HLT.out; omega, fun k hk e => HMM.out ⟨k, hk, e⟩⟩
       clear HS6 hg6 hk6 hnc HI HS CI CP hcm hcmd hsm him
       go_wp2
       go_roundg (n - (i + 1))
       case measure => omega
       case rel => exact ⟨i + 1, rfl, by go_num, by omega, V3, C0, HS7, HB, HI7⟩
    ·have hb1 : ((tS (stepZ M (gd l i))).toList == (tS (gd l p)).toList) = false := by rw [bsBeq]; exact decide_eq_false (fun e => hst (tS_inj e))
     have HST := Lib.hid hst
     have xp := CP.c
     clear hst
     have HR := Lib.hid (hF.out fun h => by have h1 := h.step i HIL.out; rw [HN.out, HP.out] at h1; exact HST.out h1)
     clear HI
     go_wp2
     go_ret
     exact ⟨by rw [HR.out] <;> rfl, HB⟩
  ·obtain rfl : i = n := by omega
   have hi1 : ¬ (i : Int) < (i : Int) := by omega
   have HR : Hid (B = true) := HBB.out.2 ⟨HN0.out, by rw [HN.out]; omega, by have := HNN.out; omega, fun j hj => by
     rw [dl_dlN]
     exact HZ.out _ (by rw [gd_lt hj]; exact List.getElem_mem hj), fun j hj => by
     rw [HN.out] at hj ⊢
     exact (HI.out j hj).1, fun j k hjk hk => by
     rw [HN.out] at hk
     exact (HI.out k hk).2.2 j hjk, fun j hj => by
     rw [HN.out] at hj
     exact (HI.out j hj).2.1⟩
   clear HI
   go_wp2
   go_ret
   exact ⟨by rw [HR.out] <;> rfl, HB⟩
end Go.Proofs.YtibdipfhfaeooaaGreatDoor


set_option linter.unusedVariables false
set_option linter.unusedSimpArgs false
namespace Go.Proofs.YtibdipfhfaeooaaGreatDoor
open Go.RowKit

def lsi (L : List (List ByteArray)) (i : Nat) : List ByteArray := L.getD i []
theorem lsi_lt {L : List (List ByteArray)} {i : Nat} (h : i < L.length) : lsi L i = L[i] := by simp [lsi, h]
/-- A slice of loops, whatever their strings. -/
def LsB (w : World) (A : Option Addr) (c : Nat) (L : List (List ByteArray)) : Prop :=
 (L.length ≤ c ∧ c ≤ 9223372036854775807) ∧ ∀ j, j < L.length → ∃ b off A1 c1, A = some ⟨b, off, none⟩ ∧ CL w b (off + j) (.slice A1 (lsi L j).length c1) ∧ LsS w A1 c1 (lsi L j)
section
variable {w w' : World} {A : Option Addr} {c : Nat} {L : List (List ByteArray)}
theorem LsB.below (h : LsB w A c L) (hb : Below w.heap.size w w') : LsB w' A c L :=
 ⟨h.1, fun j hj => by
  obtain ⟨b, off, A1, c1, e, h1, h2⟩ := h.2 j hj
  exact ⟨b, off, A1, c1, e, h1.keep hb, h2.below hb⟩⟩
theorem LsB.ptr (h : LsB w A c L) (h0 : 0 < L.length) : ∃ b o, A = some ⟨b, o, none⟩ := by
 obtain ⟨b, off, A1, c1, e, h1, h2⟩ := h.2 0 h0
 exact ⟨b, off, e⟩
theorem LsB.at {bA oA : Nat} (h : LsB w (some ⟨bA, oA, none⟩) c L) {j : Nat} (hj : j < L.length) : ∃ A1 c1, CL w bA (oA + j) (.slice A1 (lsi L j).length c1) ∧ LsS w A1 c1 (lsi L j) := by
 obtain ⟨b, off, A1, c1, e, h1, h2⟩ := h.2 j hj
 injection e with e
 injection e with e1 e2
 subst e1 e2
 exact ⟨A1, c1, h1, h2⟩
end
/-- A slice of loops of numbers. -/
abbrev LsL (w : World) (A : Option Addr) (c : Nat) (ls : List (List Int)) : Prop := LsB w A c (ls.map fun l => l.map tS)
theorem lsi_map (ls : List (List Int)) (i : Nat) : lsi (ls.map fun l => l.map tS) i = (lpi ls i).map tS := by
 unfold lsi lpi
 rw [List.getD_eq_getElem?_getD, List.getD_eq_getElem?_getD, List.getElem?_map]
 cases ls[i]? <;> rfl
theorem lpi_lt {ls : List (List Int)} {i : Nat} (h : i < ls.length) : lpi ls i = ls[i] := by simp [lpi, h]
theorem lpi_mem {ls : List (List Int)} {i : Nat} (h : i < ls.length) : lpi ls i ∈ ls := by rw [lpi_lt h]; exact List.getElem_mem h
theorem LsB.atL {w : World} {bA oA c : Nat} {ls : List (List Int)} (h : LsL w (some ⟨bA, oA, none⟩) c ls) {j : Nat} (hj : j < ls.length) : ∃ A1 c1, CL w bA (oA + j) (.slice A1 (lpi ls j).length c1) ∧ LsS w A1 c1 ((lpi ls j).map tS) := by
 obtain ⟨A1, c1, h1, h2⟩ := LsB.at h (j := j) (by rw [List.length_map]; exact hj)
 rw [lsi_map] at h1 h2
 rw [List.length_map] at h1
 exact ⟨A1, c1, h1, h2⟩
/-- The first string of a loop lies there. -/
theorem LsS.head {w : World} {A : Option Addr} {c : Nat} {l : List Int} (h : LsS w A c (l.map tS)) (h0 : 0 < l.length) : ∃ b o, A = some ⟨b, o, none⟩ ∧ CL w b o (.string (tS (gd l 0))) := by
 obtain ⟨b, off, e, hl, hc⟩ := h.cell (j := 0) (by rw [List.length_map]; exact h0)
 rw [Nat.add_zero, gsm _ h0] at hc
 exact ⟨b, off, e, hc, hl⟩
theorem CL.new1 (W : World) (t : TypeId) (v : Value) : CL (W.alloc (.cells #[v] t)) W.heap.size 0 v := ⟨by simp [go_sem], by simp⟩
theorem CL.keepB {W w1 : World} {b o base : Nat} {u : Value} (h : CL W b o u) (hb : Below base W w1) (hl : b < base) : CL w1 b o u := ⟨kcellB hb hl h.c, Nat.lt_of_lt_of_le h.lt hb.size⟩
theorem CL.grown {W w1 : World} {b o : Nat} {u : Value} {row : Option Nat} (h : CL W b o u) (hg : W.grownBy w1 row) (hr : ∀ r, row = some r → ∃ o : Obj, W.heap[r]? = some o ∧ o.isCells = false) : CL w1 b o u := ⟨cell_kept h.c hg hr, Nat.lt_of_lt_of_le h.lt hg.size⟩
/-- Three cells of a block. -/
structure VQ (W : World) (b : Nat) (x y z : Value) : Prop where
 c0 : W.cell? ⟨b, 0, none⟩ = some x
 c1 : W.cell? ⟨b, 1, none⟩ = some y
 c2 : W.cell? ⟨b, 2, none⟩ = some z
 lt : b < W.heap.size
section
variable {W w1 : World} {b : Nat} {x y z : Value}
theorem VQ.keep (h : VQ W b x y z) (hb : Below W.heap.size W w1) : VQ w1 b x y z := ⟨kcell hb h.lt h.c0, kcell hb h.lt h.c1, kcell hb h.lt h.c2, Nat.lt_of_lt_of_le h.lt hb.size⟩
theorem VQ.keepB {base : Nat} (h : VQ W b x y z) (hb : Below base W w1) (hl : b < base) : VQ w1 b x y z := ⟨kcellB hb hl h.c0, kcellB hb hl h.c1, kcellB hb hl h.c2, Nat.lt_of_lt_of_le h.lt hb.size⟩
theorem VQ.drew (h : VQ W b x y z) : VQ W.drew b x y z := h.keep (below_drew (Below.refl _ _))
theorem VQ.grown {W' : World} {row : Option Nat} (h : VQ W b x y z) (hg : W.grownBy W' row) (hr : ∀ r, row = some r → ∃ o : Obj, W.heap[r]? = some o ∧ o.isCells = false) : VQ W' b x y z :=
 ⟨cell_kept h.c0 hg hr, cell_kept h.c1 hg hr, cell_kept h.c2 hg hr, Nat.lt_of_lt_of_le h.lt hg.size⟩
theorem VQ.far {b' : Nat} {p q : Value} (h : VQ W b x y z) (hne : b' ≠ b) : VQ ((W.setCell ⟨b', 0, none⟩ p).setCell ⟨b', 1, none⟩ q) b x y z := by
 have e : ∀ (o : Nat) (w : World) (u : Value) (o' : Nat), (w.setCell ⟨b', o', none⟩ u).cell? ⟨b, o, none⟩ = w.cell? ⟨b, o, none⟩ := fun o w u o' => World.cell?_setCell_other _ _ _ _ (by simp [hne])
 exact ⟨by rw [e, e]; exact h.c0, by rw [e, e]; exact h.c1, by rw [e, e]; exact h.c2, by simpa [World.setCell] using h.lt⟩
theorem VQ.new (W : World) (t : TypeId) : VQ (W.alloc (.cells #[x, y, z] t)) W.heap.size x y z := ⟨by simp [go_sem], by simp [go_sem], by simp [go_sem], by simp⟩
end
/-- A cell of another value is written. -/
theorem cell_far {W : World} {a a' : Addr} {u u' x : Value} (h : W.cell? a = some u) (h' : W.cell? a' = some u') (hne : u' ≠ u) : (W.setCell a' x).cell? a = some u := by
 have hn : ¬ a = a' := by
  intro e
  rw [e, h'] at h
  exact hne (by injection h)
 rw [World.cell?_setCell_other _ _ _ _ (fun e => hn e.symm)]
 exact h
theorem LsB.far {W : World} {A : Option Addr} {c : Nat} {L : List (List ByteArray)} {a' : Addr} {u' x : Value} (h : LsB W A c L) (h' : W.cell? a' = some u') (hu : ∀ A1 n1 c1, 0 < n1 → u' ≠ .slice A1 n1 c1) (hs : ∀ s : ByteArray, 0 < s.size → u' ≠ .string s) (hp : ∀ l ∈ L, 0 < l.length ∧ ∀ s ∈ l, 0 < s.size) : LsB (W.setCell a' x) A c L := by
 refine ⟨h.1, fun j hj => ?_⟩
 obtain ⟨b, off, A1, c1, e, h1, h2⟩ := h.2 j hj
 obtain ⟨p1, p2⟩ := hp (lsi L j) (by rw [lsi_lt hj]; exact List.getElem_mem hj)
 refine ⟨b, off, A1, c1, e, ⟨cell_far h1.c h' (hu _ _ _ p1), by simpa [World.setCell] using h1.lt⟩, ⟨h2.1.1, fun hn => ?_⟩, h2.2⟩
 obtain ⟨b2, o2, e2, hl, hc⟩ := h2.1.2 hn
 refine ⟨b2, o2, e2, by simpa [World.setCell] using hl, fun i u hu2 => ?_⟩
 obtain ⟨s, hs2, rfl⟩ : ∃ s, s ∈ lsi L j ∧ u = .string s := by
  unfold strs at hu2
  rw [List.getElem?_map] at hu2
  cases e3 : (lsi L j)[i]? with
  | none => rw [e3] at hu2; cases hu2
  | some s => rw [e3] at hu2; cases hu2; exact ⟨s, List.mem_of_getElem? e3, rfl⟩
 exact cell_far (hc i _ hu2) h' (hs s (p2 s hs2))
/-- Three cells of the call's own, to be written. -/
structure R3 (W : World) (b : Nat) (x y z : Value) : Prop where
 q : VQ W b x y z
 f0 : W.frozen? ⟨b, 0, none⟩ = false
 f1 : W.frozen? ⟨b, 1, none⟩ = false
 f2 : W.frozen? ⟨b, 2, none⟩ = false
theorem R3.keep {W w1 : World} {b : Nat} {x y z : Value} (h : R3 W b x y z) (hb : Below W.heap.size W w1) : R3 w1 b x y z := ⟨h.q.keep hb, kfroz hb h.q.lt h.f0, kfroz hb h.q.lt h.f1, kfroz hb h.q.lt h.f2⟩
theorem R3.drew {W : World} {b : Nat} {x y z : Value} (h : R3 W b x y z) : R3 W.drew b x y z := h.keep (below_drew (Below.refl _ _))
theorem R3.new {x y z : Value} (W : World) (t : TypeId) : R3 (W.alloc (.cells #[x, y, z] t)) W.heap.size x y z := ⟨VQ.new W t, by simp [go_sem], by simp [go_sem], by simp [go_sem]⟩
theorem below_set3 {w W : World} (h : Below w.heap.size w W) {b : Nat} (hb : w.heap.size ≤ b) (x y z : Value) : Below w.heap.size w (((W.setCell ⟨b, 0, none⟩ x).setCell ⟨b, 1, none⟩ y).setCell ⟨b, 2, none⟩ z) := below_set (below_set (below_set h hb x) hb y) hb z
theorem tS_pos (z : Int) : 0 < (tS z).size := by
 obtain ⟨_, -, -, -, h⟩ := cut_tS z
 exact h
/-- Loops are not lost where a new certificate is written. -/
theorem LsB.res3 {W : World} {A : Option Addr} {c b : Nat} {ls : List (List Int)} (h : LsL W A c ls) (hr : VQ W b (.int .i64 0) (.string { data := #[] }) (.slice none 0 0)) (hp : ∀ l ∈ ls, 0 < l.length) (k : Int) (s : ByteArray) (z : Value) : LsL (((W.setCell ⟨b, 0, none⟩ (.int .i64 k)).setCell ⟨b, 1, none⟩ (.string s)).setCell ⟨b, 2, none⟩ z) A c ls := by
 have hp2 : ∀ l ∈ ls.map (fun l => l.map tS), 0 < l.length ∧ ∀ s ∈ l, 0 < s.size := fun l hl => by
  obtain ⟨l2, h2, rfl⟩ := List.mem_map.1 hl
  refine ⟨by rw [List.length_map]; exact hp l2 h2, fun s hs => ?_⟩
  obtain ⟨q, -, rfl⟩ := List.mem_map.1 hs
  exact tS_pos q
 have e : ∀ (o o' : Nat) (w : World) (u : Value), o ≠ o' → (w.setCell ⟨b, o', none⟩ u).cell? ⟨b, o, none⟩ = w.cell? ⟨b, o, none⟩ := fun o o' w u hne => World.cell?_setCell_other _ _ _ _ (by simp <;> omega)
 have s1 : ∀ s : ByteArray, 0 < s.size → ({ data := #[] } : ByteArray) ≠ s := fun s hs e => by rw [← e] at hs; exact absurd hs (by decide)
 refine LsB.far (LsB.far (LsB.far h hr.c0 (fun _ _ _ _ h => by cases h) (fun _ _ h => by cases h) hp2) ((e 1 0 _ _ (by omega)).trans hr.c1) (fun _ _ _ _ h => by cases h) (fun s hs h => s1 s hs (by injection h)) hp2) ((e 2 1 _ _ (by omega)).trans ((e 2 0 _ _ (by omega)).trans hr.c2)) (fun _ n _ hn h => ?_) (fun _ _ h => by cases h) hp2
 injection h with h1 h2 h3
 omega
end Go.Proofs.YtibdipfhfaeooaaGreatDoor


set_option linter.unusedVariables false
set_option linter.unusedSimpArgs false
namespace Go.Proofs.YtibdipfhfaeooaaGreatDoor

/-- How great the numbers of a rest are after some steps. -/
structure Bd (k : Nat) (x : Lf) : Prop where
 at_ : x.at_.natAbs ≤ 10 ^ (8 * k + 1)
 mul0 : 1 ≤ x.mul
 mul : x.mul.natAbs ≤ 10 ^ (8 * k + 1)
 add : x.add.natAbs ≤ 10 ^ (8 * k + 8)
theorem Bd.first : Bd 0 ⟨0, 1, 0⟩ := ⟨by decide, by decide, by decide, by decide⟩
theorem mul_le' {a b c d : Nat} (h1 : a ≤ b) (h2 : c ≤ d) : a * c ≤ b * d := Nat.mul_le_mul h1 h2
theorem Bd.next {M : Mp} (hok : okM M) {k : Nat} {x : Lf} (h : Bd k x) {div : Int} (hd0 : 0 ≤ div) (hd : div ≤ 10 ^ (2 * k)) {j : Nat} (hj : j < M.mod.toNat) : Bd (k + 1) (nxt M div x j) := by
 obtain ⟨m2, m12, hl1, hl2, hrow⟩ := hok
 have h0 := Int.emod_nonneg (x.at_ + x.mul * (j : Int)) (show M.mod ≠ 0 by omega)
 have h1 := Int.emod_lt_of_pos (x.at_ + x.mul * (j : Int)) (show 0 < M.mod by omega)
 obtain ⟨q1, q2, a1, a2, -⟩ := hrow ((x.at_ + x.mul * (j : Int)) % M.mod).toNat (by omega)
 have hj12 : j ≤ 11 := by omega
 obtain ⟨b1, b2, b3, b4⟩ := h
 have e8 : (10 : Nat) ^ (8 * (k + 1) + 1) = 100000000 * 10 ^ (8 * k + 1) := by rw [show 8 * (k + 1) + 1 = 8 + (8 * k + 1) by omega, Nat.pow_add]
 have e9 : (10 : Nat) ^ (8 * (k + 1) + 8) = 1000000000000000 * 10 ^ (8 * k + 1) := by rw [show 8 * (k + 1) + 8 = 15 + (8 * k + 1) by omega, Nat.pow_add]
 have e7 : (10 : Nat) ^ (8 * k + 8) = 10000000 * 10 ^ (8 * k + 1) := by rw [show 8 * k + 8 = 7 + (8 * k + 1) by omega, Nat.pow_add]
 have hp : 0 < (10 : Nat) ^ (8 * k + 1) := Nat.pow_pos (by omega)
 have hd2 : div.natAbs ≤ 10 ^ (8 * k + 1) := by
  have h2 : ((10 ^ (2 * k) : Nat) : Int) ≤ ((10 ^ (8 * k + 1) : Nat) : Int) := Int.ofNat_le.2 (Nat.pow_le_pow_right (by omega) (by omega))
  rw [Int.natCast_pow] at h2
  have h3 : ((10 : Nat) : Int) ^ (2 * k) = 10 ^ (2 * k) := rfl
  omega
 unfold nxt
 generalize gd M.mul ((x.at_ + x.mul * (j : Int)) % M.mod).toNat = q at *
 generalize gd M.add ((x.at_ + x.mul * (j : Int)) % M.mod).toNat = a at *
 rw [e7] at b4
 generalize (10 : Nat) ^ (8 * k + 1) = p at *
 have hmj : (x.mul * (j : Int)).natAbs ≤ p * 11 := by rw [Int.natAbs_mul]; exact mul_le' b3 (by omega)
 have hat : (x.at_ + x.mul * (j : Int)).natAbs ≤ 12 * p := by omega
 have hq : ((x.at_ + x.mul * (j : Int)) * q).natAbs ≤ 12 * p * 999 := by rw [Int.natAbs_mul]; exact mul_le' hat (by omega)
 have hmq : (x.mul * q).natAbs ≤ p * 999 := by rw [Int.natAbs_mul]; exact mul_le' b3 (by omega)
 have haq : (x.add * q).natAbs ≤ 10000000 * p * 999 := by rw [Int.natAbs_mul]; exact mul_le' b4 (by omega)
 have hda : (div * a).natAbs ≤ p * 999999 := by rw [Int.natAbs_mul]; exact mul_le' hd2 (by omega)
 refine ⟨?_, ?_, ?_, ?_⟩
 ·dsimp only
  rw [e8]
  have h5 : ((x.at_ + x.mul * (j : Int)) * q + a).natAbs ≤ 12 * p * 999 + 999999 := by omega
  generalize (x.at_ + x.mul * (j : Int)) * q + a = y at h5 ⊢
  have h6 : (y / M.mod).natAbs ≤ y.natAbs + 12 := by
   have h7 := Int.emod_add_mul_ediv y M.mod
   have h8 := Int.emod_nonneg y (show M.mod ≠ 0 by omega)
   have h9 := Int.emod_lt_of_pos y (show 0 < M.mod by omega)
   generalize y / M.mod = d at *
   by_cases hd : 0 ≤ d
   ·have := Int.mul_le_mul_of_nonneg_right (show 1 ≤ M.mod by omega) hd
    omega
   ·have := Int.mul_le_mul_of_nonneg_right (show 2 ≤ M.mod by omega) (show (0 : Int) ≤ - d by omega)
    rw [Int.mul_neg, Int.mul_neg] at this
    omega
  omega
 ·dsimp only
  have := Int.mul_le_mul b2 q1 (by omega) (by omega)
  omega
 ·dsimp only; rw [e8]; omega
 ·dsimp only; rw [e9]; omega
end Go.Proofs.YtibdipfhfaeooaaGreatDoor

