/- What step.Next does to memory and what it returns. No condition. -/
import Derived.Test.YtibdipfhfaeooaaGreatDoorZ6
import Derived.Test.YtibdipfhfaeooaaGreatDoorZ5
import Derived.Maps.RangeWalk
import Derived.Shelf.Abstract
import Derived.Shelf.RegionOpen
import Derived.OwnWalkIn
import Derived.TacticsInMore
import Derived.LoopNIn
import Derived.LoopIn
set_option linter.unusedVariables false
set_option linter.unusedSimpArgs false
namespace Go.Proofs.YtibdipfhfaeooaaGreatDoor
open Go.RowKit

abbrev o21e53 : Oper := { dst := some 17, op := Go.Op.move (Go.Operand.tmp 35), type := 119, pos := "step.go:66", after := #[{ on := 17, ground := Go.Ground.data }], guard := none }
abbrev oe998e : Oper := { dst := some 36, op := Go.Op.extract (Go.Operand.tmp 17) 0, type := 118, pos := "step.go:66", after := #[{ on := 18, ground := Go.Ground.data }], guard := none }
abbrev o6f71d : Oper := { dst := some 37, op := Go.Op.extract (Go.Operand.tmp 17) 1, type := 3, pos := "step.go:66", after := #[{ on := 18, ground := Go.Ground.data }, { on := 22, ground := Go.Ground.gcOnly Go.Departure.lateStores }], guard := none }
attribute [local go_sem] o21e53 oe998e o6f71d
/-- A map and a number come in: their blocks. -/
theorem startMH (w : World) {md : Int} {A : Option Addr} {n c : Nat} {A' : Option Addr} {n' c' : Nat} {M : Mp} {nz : Bool} {Az : Option Addr} {mz kz : Nat} {z : Int} (t t' : TypeId) (W : World)
  (hM : IsM w (.agg #[.int .i64 md, .slice A n c, .slice A' n' c']) M) (hz : IsH w (.agg #[.bool nz, .slice Az mz kz]) z)
  (hW : (w.alloc (.cells #[.int .i64 md, .slice A n c, .slice A' n' c'] t)).alloc (.cells #[.bool nz, .slice Az mz kz] t') = W) :
  VM W w.heap.size md A n c A' n' c' M ∧ VH W (w.heap.size + 1) nz Az mz kz z ∧ W.heap.size = w.heap.size + 1 + 1 ∧ Below w.heap.size w W := by
 have h1 := VM.new w t hM
 have h2 := VX.new (w.alloc (.cells #[.int .i64 md, .slice A n c, .slice A' n' c'] t)) t' (hz.below (below_alloc (Below.refl _ _) _))
 have e : (w.alloc (.cells #[.int .i64 md, .slice A n c, .slice A' n' c'] t)).heap.size = w.heap.size + 1 := by simp
 rw [e] at h2
 subst hW
 exact ⟨h1.keep (below_alloc (Below.refl _ _) _), h2, by simp, below_alloc (below_alloc (Below.refl _ _) _) _⟩
set_option maxRecDepth 100000 in
set_option maxHeartbeats 8000000 in
theorem Next_c (M : Mp) (z : Int) (v u : Value) (w : World) (hM : IsM w v M) (hz : IsH w u z) (hok : okM M) (sz : (dg B9 z).length ≤ 900000000) :
  Calls Tryz.prog 80 #[v, u] w fun e w' => ∃ v r, e = .returned (.tuple #[v, .int .i64 r]) ∧ IsH w' v (stepZ M z) ∧ r = z % M.mod ∧ Below w.heap.size w w' := by
 obtain ⟨md, A, n, c, A', n', c', rfl, HM⟩ := hM.form
 obtain ⟨nz, Az, mz, kz, rfl, HZ⟩ := hz.form
 obtain ⟨emd, en, en', s1, s2⟩ := HM.out.sl
 obtain ⟨m2, m12, hl1, hl2, hrow⟩ := hok
 rw [← emd] at m2 m12 hl1 hl2 hrow
 obtain ⟨r, hr⟩ : ∃ r : Nat, z % md = r := ⟨(z % md).toNat, by have := Int.emod_nonneg z (show md ≠ 0 by omega); omega⟩
 have hrl : (r : Int) < md := by have := Int.emod_lt_of_pos z (show 0 < md by omega); omega
 have hrow := hrow r hrl
 obtain ⟨bA, oA, rfl, hlA, cA⟩ := s1.cell (j := r) (by omega)
 obtain ⟨bB, oB, rfl, hlB, cB⟩ := s2.cell (j := r) (by omega)
 have HST : Hid (stepZ M z = (gd M.mul r * z + gd M.add r) / md) := by show _ = _; unfold stepZ; rw [← emd, hr, Int.toNat_natCast]
 obtain ⟨x, hx⟩ : ∃ x, gd M.mul r = x := ⟨_, rfl⟩
 obtain ⟨y, hy⟩ : ∃ y, gd M.add r = y := ⟨_, rfl⟩
 obtain ⟨x1, x2, y1, y2, -⟩ := hrow
 rw [hx, Int.mul_comm] at HST
 rw [hx] at cA x1 x2
 rw [hy] at cB HST y1 y2
 have CA : CL w bA (oA + r) (.int .i64 x) := ⟨cA, hlA⟩
 have CB : CL w bB (oB + r) (.int .i64 y) := ⟨cB, hlB⟩
 have LX : Hid ((dg B9 x).length ≤ 2) := len_small (by omega) (by omega)
 have LY : Hid ((dg B9 y).length ≤ 2) := len_small (by omega) (by omega)
 have LXZ : Hid ((dg B9 (z * x)).length ≤ 900000002) := by have := len_mul B9two z x; have := LX.out; show _ ≤ _; omega
 have LS : Hid ((dg B9 (z * x + y)).length ≤ 1000000000) := by have := len_add B9two (z * x) y; have := LXZ.out; have := LY.out; show _ ≤ _; omega
 have LZ : Hid ((dg B9 z).length ≤ 900000000) := sz
 have hi0 : (0 : Int) ≤ (r : Int) := by omega
 have hrn : (r : Int) < (n : Int) := by omega
 have hrn' : (r : Int) < (n' : Int) := by omega
 have HRZ : Hid (z % md = r) := hr
 have HRM : Hid ((r : Int) = z % M.mod) := by show _ = _; rw [← emd, hr]
 clear hx hy cA cB hM hz s1 s2 hlA hlB hl1 hl2 en en' emd hr sz hrl
 go_enter Tryz.func80, Tryz.ntmps80
 go_upto_region 1 with fail
 generalize hW : (w.alloc (Obj.cells #[Value.int .i64 md, Value.slice (some ⟨bA, oA, none⟩) n c, Value.slice (some ⟨bB, oB, none⟩) n' c'] 24)).alloc (Obj.cells #[Value.bool nz, Value.slice Az mz kz] 118) = W at *
 obtain ⟨VM_, VZ, hs, HB⟩ := startMH w _ _ W HM.out HZ.out hW
 replace CA := CA.keep HB
 replace CB := CB.keep HB
 have RR := newRes W 118
 replace VM_ := VM_.keep (below_alloc (Below.refl W.heap.size W) (Obj.cells #[Value.bool false, Value.slice none 0 0] 118)); replace VZ := VZ.keep (below_alloc (Below.refl W.heap.size W) (Obj.cells #[Value.bool false, Value.slice none 0 0] 118)); replace CA := CA.keep (below_alloc (Below.refl W.heap.size W) (Obj.cells #[Value.bool false, Value.slice none 0 0] 118)); replace CB := CB.keep (below_alloc (Below.refl W.heap.size W) (Obj.cells #[Value.bool false, Value.slice none 0 0] 118))
 replace HB := below_alloc HB (Obj.cells #[Value.bool false, Value.slice none 0 0] 118)
 clear hW
 generalize hW : W.alloc (Obj.cells #[Value.bool false, Value.slice none 0 0] 118) = W1 at *
 clear hW HM HZ
 rw [hs] at RR
 clear hs
 have vz0 := VZ.c0; have vz1 := VZ.c1; have vm0 := VM_.c0
 go_wp2_with fail
 (with_reducible refine (hSmall_c z md _ _ VZ.iz.out (by omega) (by omega) (by have := LZ.out; omega)).mono ?_)
 rintro e w1 ⟨v, rfl, hv, hb1⟩
 obtain ⟨n1, A1, m1, k1, rfl, H1⟩ := hv.form; clear hv
 replace VM_ := VM_.keep hb1; replace VZ := VZ.keep hb1; replace CA := CA.keep hb1; replace CB := CB.keep hb1; replace RR := RR.keep hb1; replace HB := below_step HB hb1
 clear hb1 vz0 vz1 vm0
 rw [HRZ.out]
 go_upto_region 2 with fail
 replace VM_ := VM_.keep (below_alloc (Below.refl w1.heap.size w1) (Obj.cells #[Value.bool n1, Value.slice A1 m1 k1] 118)); replace VZ := VZ.keep (below_alloc (Below.refl w1.heap.size w1) (Obj.cells #[Value.bool n1, Value.slice A1 m1 k1] 118)); replace CA := CA.keep (below_alloc (Below.refl w1.heap.size w1) (Obj.cells #[Value.bool n1, Value.slice A1 m1 k1] 118)); replace CB := CB.keep (below_alloc (Below.refl w1.heap.size w1) (Obj.cells #[Value.bool n1, Value.slice A1 m1 k1] 118)); replace RR := RR.keep (below_alloc (Below.refl w1.heap.size w1) (Obj.cells #[Value.bool n1, Value.slice A1 m1 k1] 118)); replace HB := below_alloc HB ((Obj.cells #[Value.bool n1, Value.slice A1 m1 k1] 118))
 generalize hW : w1.alloc (Obj.cells #[Value.bool n1, Value.slice A1 m1 k1] 118) = W2 at *
 clear hW H1
 replace VM_ := VM_.drew; replace VZ := VZ.drew; replace CA := CA.drew; replace CB := CB.drew; replace RR := RR.drew
 replace HB := below_drew HB
 generalize hWd : W2.drew = wd at *
 refine wp_region_F (fun w' => w'.cell? ⟨w.heap.size, 0, none⟩ = some (.int .i64 md) ∧ w'.cell? ⟨w.heap.size, 1, none⟩ = some (.slice (some ⟨bA, oA, none⟩) n c) ∧ w'.cell? ⟨w.heap.size, 2, none⟩ = some (.slice (some ⟨bB, oB, none⟩) n' c') ∧ w'.cell? ⟨(w.heap.size + 1), 0, none⟩ = some (.bool nz) ∧ w'.cell? ⟨(w.heap.size + 1), 1, none⟩ = some (.slice Az mz kz) ∧ w'.cell? ⟨bA, oA + r, none⟩ = some (.int .i64 x) ∧ w'.cell? ⟨bB, oB + r, none⟩ = some (.int .i64 y)) [22, 23] (by kernel_rfl) (by rw [hWd]; exact ⟨VM_.c0, VM_.c1, VM_.c2, VZ.c0, VZ.c1, CA.c, CB.c⟩) (fun hHeld => ?_)
 rw [hWd] at hHeld ⊢
 refine tF 0 ({ dst := some 18, op := Go.Op.load 118 (Go.Operand.tmp 3), type := 118, pos := "step.go:66", after := #[], guard := none }) hHeld ?_; try go_frame
 refine tF 1 ({ dst := some 19, op := Go.Op.fieldAddr 24 (Go.Operand.tmp 2) 1, type := 0, pos := "step.go:66", after := #[], guard := none }) hHeld ?_; try go_frame
 refine tF 2 ({ dst := some 20, op := Go.Op.load 22 (Go.Operand.tmp 19), type := 22, pos := "step.go:66", after := #[{ on := 1, ground := Go.Ground.data }], guard := none }) hHeld ?_; try go_frame
 refine tF 3 ({ dst := some 21, op := Go.Op.move (Go.Operand.tmp 7), type := 3, pos := "step.go:66", after := #[], guard := none }) hHeld ?_; try go_frame
 refine tF 4 ({ dst := some 22, op := Go.Op.indexAddr 22 (Go.Operand.tmp 20) (Go.Operand.tmp 21), type := 0, pos := "step.go:66", after := #[{ on := 2, ground := Go.Ground.data }, { on := 3, ground := Go.Ground.data }], guard := none }) hHeld ?_; try go_frame
 refine tF 5 ({ dst := some 23, op := Go.Op.load 3 (Go.Operand.tmp 22), type := 3, pos := "step.go:66", after := #[{ on := 4, ground := Go.Ground.data }], guard := none }) hHeld ?_; try go_frame
 refine tF 8 ({ dst := some 26, op := Go.Op.fieldAddr 24 (Go.Operand.tmp 2) 2, type := 0, pos := "step.go:66", after := #[], guard := none }) hHeld ?_; try go_frame
 refine tF 9 ({ dst := some 27, op := Go.Op.load 22 (Go.Operand.tmp 26), type := 22, pos := "step.go:66", after := #[{ on := 8, ground := Go.Ground.data }], guard := none }) hHeld ?_; try go_frame
 refine tF 10 ({ dst := some 28, op := Go.Op.move (Go.Operand.tmp 7), type := 3, pos := "step.go:66", after := #[], guard := none }) hHeld ?_; try go_frame
 refine tF 11 ({ dst := some 29, op := Go.Op.indexAddr 22 (Go.Operand.tmp 27) (Go.Operand.tmp 28), type := 0, pos := "step.go:66", after := #[{ on := 9, ground := Go.Ground.data }, { on := 10, ground := Go.Ground.data }], guard := none }) hHeld ?_; try go_frame
 refine tF 12 ({ dst := some 30, op := Go.Op.load 3 (Go.Operand.tmp 29), type := 3, pos := "step.go:66", after := #[{ on := 11, ground := Go.Ground.data }], guard := none }) hHeld ?_; try go_frame
 refine tF 15 ({ dst := some 33, op := Go.Op.fieldAddr 24 (Go.Operand.tmp 2) 0, type := 0, pos := "step.go:66", after := #[], guard := none }) hHeld ?_; try go_frame
 refine tF 16 ({ dst := some 34, op := Go.Op.load 3 (Go.Operand.tmp 33), type := 3, pos := "step.go:66", after := #[{ on := 15, ground := Go.Ground.data }], guard := none }) hHeld ?_; try go_frame
 refine wpAnyF_two (i := 6) (j := 21) (by kernel_rfl) rfl rfl (fun K hK => ?_) (fun K hK => ?_)
 ·go_simp
  (go_at_call 123; (with_reducible refine (hOf_c x _ (by omega) (by omega)).mono ?_); rintro e w5 ⟨v, rfl, hv, hb5⟩; obtain ⟨n5, A5, m5, k5, rfl, H5⟩ := hv.form; clear hv; replace VM_ := VM_.keep hb5; replace VZ := VZ.keep hb5; replace CA := CA.keep hb5; replace CB := CB.keep hb5; replace RR := RR.keep hb5; replace HB := below_step HB hb5)
  clear hb5
  refine hK.out _ _ (by exact ⟨VM_.c0, VM_.c1, VM_.c2, VZ.c0, VZ.c1, CA.c, CB.c⟩) (fun hHeld => ?_)
  clear hK K
  try go_frame
  refine wpAnyF_two (i := 7) (j := 21) (by kernel_rfl) rfl rfl (fun K hK => ?_) (fun K hK => ?_)
  ·go_simp
   (go_at_call 122; (with_reducible refine (hMul_c z x _ _ _ (by exact VZ.iz.out) H5.out (by have := LZ.out; omega) (by have := LX.out; omega)).mono ?_); rintro e w7 ⟨v, rfl, hv, hb7⟩; obtain ⟨n7, A7, m7, k7, rfl, H7⟩ := hv.form; clear hv; replace VM_ := VM_.keep hb7; replace VZ := VZ.keep hb7; replace CA := CA.keep hb7; replace CB := CB.keep hb7; replace RR := RR.keep hb7; replace HB := below_step HB hb7)
   clear hb7
   refine hK.out _ _ (by exact ⟨VM_.c0, VM_.c1, VM_.c2, VZ.c0, VZ.c1, CA.c, CB.c⟩) (fun hHeld => ?_)
   clear hK K
   try go_frame
   refine wpAnyF_two (i := 13) (j := 21) (by kernel_rfl) rfl rfl (fun K hK => ?_) (fun K hK => ?_)
   ·go_simp
    (go_at_call 123; (with_reducible refine (hOf_c y _ (by omega) (by omega)).mono ?_); rintro e w13 ⟨v, rfl, hv, hb13⟩; obtain ⟨n13, A13, m13, k13, rfl, H13⟩ := hv.form; clear hv; replace VM_ := VM_.keep hb13; replace VZ := VZ.keep hb13; replace CA := CA.keep hb13; replace CB := CB.keep hb13; replace RR := RR.keep hb13; replace HB := below_step HB hb13; replace H7 := Lib.hid (H7.out.below hb13))
    clear hb13
    refine hK.out _ _ (by exact ⟨VM_.c0, VM_.c1, VM_.c2, VZ.c0, VZ.c1, CA.c, CB.c⟩) (fun hHeld => ?_)
    clear hK K
    try go_frame
    refine wpAnyF_two (i := 14) (j := 21) (by kernel_rfl) rfl rfl (fun K hK => ?_) (fun K hK => ?_)
    ·go_simp
     (go_at_call 124; (with_reducible refine (hAdd_c (z * x) y _ _ _ H7.out H13.out (by have := LXZ.out; omega) (by have := LY.out; omega)).mono ?_); rintro e w14 ⟨v, rfl, hv, hb14⟩; obtain ⟨n14, A14, m14, k14, rfl, H14⟩ := hv.form; clear hv; replace VM_ := VM_.keep hb14; replace VZ := VZ.keep hb14; replace CA := CA.keep hb14; replace CB := CB.keep hb14; replace RR := RR.keep hb14; replace HB := below_step HB hb14)
     clear hb14
     refine hK.out _ _ (by exact ⟨VM_.c0, VM_.c1, VM_.c2, VZ.c0, VZ.c1, CA.c, CB.c⟩) (fun hHeld => ?_)
     clear hK K
     try go_frame
     refine wpAnyF_two (i := 17) (j := 21) (by kernel_rfl) rfl rfl (fun K hK => ?_) (fun K hK => ?_)
     ·go_simp
      (go_at_call 121; (with_reducible refine (hSmall_c (z * x + y) md _ _ H14.out (by omega) (by omega) LS.out).mono ?_); rintro e w17 ⟨v, rfl, hv, hb17⟩; generalize (z * x + y) % md = rr at *; obtain ⟨n17, A17, m17, k17, rfl, H17⟩ := hv.form; clear hv; replace VM_ := VM_.keep hb17; replace VZ := VZ.keep hb17; replace CA := CA.keep hb17; replace CB := CB.keep hb17; replace RR := RR.keep hb17; replace HB := below_step HB hb17)
      clear hb17
      refine hK.out _ _ (by exact ⟨VM_.c0, VM_.c1, VM_.c2, VZ.c0, VZ.c1, CA.c, CB.c⟩) (fun hHeld => ?_)
      clear hK K
      try go_frame
      refine tF 18 o21e53 hHeld ?_; try go_frame
      refine tF 19 oe998e hHeld ?_; try go_frame
      refine pF 20 o6f71d hHeld ?_; try go_frame
      refine wpAnyF_one (i := 21) (by kernel_rfl) rfl (fun K hK => ?_)
      go_simp
      refine hK.out _ _ (by replace VM_ := VM_.keep (below_alloc (Below.refl w17.heap.size w17) (Obj.cells #[Value.bool false, Value.slice none 0 0] 118)); replace VZ := VZ.keep (below_alloc (Below.refl w17.heap.size w17) (Obj.cells #[Value.bool false, Value.slice none 0 0] 118)); replace CA := CA.keep (below_alloc (Below.refl w17.heap.size w17) (Obj.cells #[Value.bool false, Value.slice none 0 0] 118)); replace CB := CB.keep (below_alloc (Below.refl w17.heap.size w17) (Obj.cells #[Value.bool false, Value.slice none 0 0] 118)); replace RR := RR.keep (below_alloc (Below.refl w17.heap.size w17) (Obj.cells #[Value.bool false, Value.slice none 0 0] 118)); exact ⟨VM_.c0, VM_.c1, VM_.c2, VZ.c0, VZ.c1, CA.c, CB.c⟩) (fun hHeld => ?_)
      clear hK K
      try go_frame
      have hba1 := HB.size
      have ltVM_ := VM_.lt
      have ltVZ := VZ.lt
      have ltCA := CA.lt
      have ltCB := CB.lt
      have ltRR := RR.lt
      have RA := newRes w17 118
      replace VM_ := VM_.keep (below_alloc (Below.refl w17.heap.size w17) (Obj.cells #[Value.bool false, Value.slice none 0 0] 118)); replace VZ := VZ.keep (below_alloc (Below.refl w17.heap.size w17) (Obj.cells #[Value.bool false, Value.slice none 0 0] 118)); replace CA := CA.keep (below_alloc (Below.refl w17.heap.size w17) (Obj.cells #[Value.bool false, Value.slice none 0 0] 118)); replace CB := CB.keep (below_alloc (Below.refl w17.heap.size w17) (Obj.cells #[Value.bool false, Value.slice none 0 0] 118)); replace RR := RR.keep (below_alloc (Below.refl w17.heap.size w17) (Obj.cells #[Value.bool false, Value.slice none 0 0] 118))
      replace HB := below_alloc HB (Obj.cells #[Value.bool false, Value.slice none 0 0] 118)
      replace H17 := Lib.hid (H17.out.below (below_alloc (Below.refl w17.heap.size w17) (Obj.cells #[Value.bool false, Value.slice none 0 0] 118)))
      generalize hWa : w17.alloc (Obj.cells #[Value.bool false, Value.slice none 0 0] 118) = wa at *
      generalize hba : w17.heap.size = ba at *
      refine wpAnyF_st (i := 22) (by kernel_rfl) (by kernel_rfl) rfl (fun K hK => ?_)
      obtain ⟨⟨u1_, r1_⟩, ⟨u2_, u3_, u4_, r2_⟩, r3_, r4_, r5_⟩ := RA
      have RA : Res2 _ ba := ⟨⟨u1_, r1_⟩, ⟨u2_, u3_, u4_, r2_⟩, r3_, r4_, r5_⟩
      go_simp
      refine hK.out _ _ ?_
      clear hK K r1_ r2_ r3_ r4_ r5_
      try go_frame
      refine wpAnyF_st (i := 23) (by kernel_rfl) (by kernel_rfl) rfl (fun K hK => ?_)
      obtain ⟨⟨u1_, r1_⟩, ⟨u2_, u3_, u4_, r2_⟩, r3_, r4_, r5_⟩ := RA
      have RA : Res2 _ ba := ⟨⟨u1_, r1_⟩, ⟨u2_, u3_, u4_, r2_⟩, r3_, r4_, r5_⟩
      go_simp
      refine hK.out _ _ ?_
      clear hK K r1_ r2_ r3_ r4_ r5_
      try go_frame
      refine wpAnyF_done (by kernel_rfl) ?_ _
      clear hHeld
      have V6 := VX.store RA H17.out
      have hne : ba ≠ w.heap.size + 1 + 1 := by omega
      replace RR := RR.far (x := .bool n17) (y := .slice A17 m17 k17) hne
      replace HB := below_set2 (b := ba) HB (by omega) (.bool n17) (.slice A17 m17 k17)
      generalize hW9 : (wa.setCell ⟨ba, 0, none⟩ (.bool n17)).setCell ⟨ba, 1, none⟩ (.slice A17 m17 k17) = W9 at *
      clear hW9 RA CA CB VM_ VZ
      have vs0 := V6.c0; have vs1 := V6.c1; have vsf := V6.f0; have vsg := V6.f1; have vsl := V6.lt
      have RRh := RR
      obtain ⟨⟨u1, r1⟩, ⟨u2, u3, u4, r2⟩, r3, r4, r5⟩ := RR
      go_wp2
      refine bodyPost_ret (v := .tuple #[.agg #[.bool n17, .slice A17 m17 k17], .int .i64 r]) (by simp [results, Tryz.results80, go_sem, r1, r2, r5]) rfl ⟨_, r, rfl, by rw [HST.out]; exact V6.iz.out.res2 RRh _ _, HRM.out, below_set2 HB (by omega) _ _⟩
     ·go_simp
      refine hK.out _ _ (by replace VM_ := VM_.keep (below_alloc (Below.refl w14.heap.size w14) (Obj.cells #[Value.bool false, Value.slice none 0 0] 118)); replace VZ := VZ.keep (below_alloc (Below.refl w14.heap.size w14) (Obj.cells #[Value.bool false, Value.slice none 0 0] 118)); replace CA := CA.keep (below_alloc (Below.refl w14.heap.size w14) (Obj.cells #[Value.bool false, Value.slice none 0 0] 118)); replace CB := CB.keep (below_alloc (Below.refl w14.heap.size w14) (Obj.cells #[Value.bool false, Value.slice none 0 0] 118)); replace RR := RR.keep (below_alloc (Below.refl w14.heap.size w14) (Obj.cells #[Value.bool false, Value.slice none 0 0] 118)); exact ⟨VM_.c0, VM_.c1, VM_.c2, VZ.c0, VZ.c1, CA.c, CB.c⟩) (fun hHeld => ?_)
      clear hK K
      try go_frame
      have hba1 := HB.size
      have ltVM_ := VM_.lt
      have ltVZ := VZ.lt
      have ltCA := CA.lt
      have ltCB := CB.lt
      have ltRR := RR.lt
      have RA := newRes w14 118
      replace VM_ := VM_.keep (below_alloc (Below.refl w14.heap.size w14) (Obj.cells #[Value.bool false, Value.slice none 0 0] 118)); replace VZ := VZ.keep (below_alloc (Below.refl w14.heap.size w14) (Obj.cells #[Value.bool false, Value.slice none 0 0] 118)); replace CA := CA.keep (below_alloc (Below.refl w14.heap.size w14) (Obj.cells #[Value.bool false, Value.slice none 0 0] 118)); replace CB := CB.keep (below_alloc (Below.refl w14.heap.size w14) (Obj.cells #[Value.bool false, Value.slice none 0 0] 118)); replace RR := RR.keep (below_alloc (Below.refl w14.heap.size w14) (Obj.cells #[Value.bool false, Value.slice none 0 0] 118))
      replace HB := below_alloc HB (Obj.cells #[Value.bool false, Value.slice none 0 0] 118)
      replace H14 := Lib.hid (H14.out.below (below_alloc (Below.refl w14.heap.size w14) (Obj.cells #[Value.bool false, Value.slice none 0 0] 118)))
      generalize hWa : w14.alloc (Obj.cells #[Value.bool false, Value.slice none 0 0] 118) = wa at *
      generalize hba : w14.heap.size = ba at *
      refine wpAnyF_one (i := 17) (by kernel_rfl) rfl (fun K hK => ?_)
      go_simp
      (go_at_call 121; (with_reducible refine (hSmall_c (z * x + y) md _ _ H14.out (by omega) (by omega) LS.out).mono ?_); rintro e w17 ⟨v, rfl, hv, hb17⟩; generalize (z * x + y) % md = rr at *; obtain ⟨n17, A17, m17, k17, rfl, H17⟩ := hv.form; clear hv; replace VM_ := VM_.keep hb17; replace VZ := VZ.keep hb17; replace CA := CA.keep hb17; replace CB := CB.keep hb17; replace RR := RR.keep hb17; replace HB := below_step HB hb17)
      replace RA := RA.keep hb17
      clear hb17
      refine hK.out _ _ (by exact ⟨VM_.c0, VM_.c1, VM_.c2, VZ.c0, VZ.c1, CA.c, CB.c⟩) (fun hHeld => ?_)
      clear hK K
      try go_frame
      refine tF 18 o21e53 hHeld ?_; try go_frame
      refine tF 19 oe998e hHeld ?_; try go_frame
      refine pF 20 o6f71d hHeld ?_; try go_frame
      refine wpAnyF_st (i := 22) (by kernel_rfl) (by kernel_rfl) rfl (fun K hK => ?_)
      obtain ⟨⟨u1_, r1_⟩, ⟨u2_, u3_, u4_, r2_⟩, r3_, r4_, r5_⟩ := RA
      have RA : Res2 _ ba := ⟨⟨u1_, r1_⟩, ⟨u2_, u3_, u4_, r2_⟩, r3_, r4_, r5_⟩
      go_simp
      refine hK.out _ _ ?_
      clear hK K r1_ r2_ r3_ r4_ r5_
      try go_frame
      refine wpAnyF_st (i := 23) (by kernel_rfl) (by kernel_rfl) rfl (fun K hK => ?_)
      obtain ⟨⟨u1_, r1_⟩, ⟨u2_, u3_, u4_, r2_⟩, r3_, r4_, r5_⟩ := RA
      have RA : Res2 _ ba := ⟨⟨u1_, r1_⟩, ⟨u2_, u3_, u4_, r2_⟩, r3_, r4_, r5_⟩
      go_simp
      refine hK.out _ _ ?_
      clear hK K r1_ r2_ r3_ r4_ r5_
      try go_frame
      refine wpAnyF_done (by kernel_rfl) ?_ _
      clear hHeld
      have V6 := VX.store RA H17.out
      have hne : ba ≠ w.heap.size + 1 + 1 := by omega
      replace RR := RR.far (x := .bool n17) (y := .slice A17 m17 k17) hne
      replace HB := below_set2 (b := ba) HB (by omega) (.bool n17) (.slice A17 m17 k17)
      generalize hW9 : (w17.setCell ⟨ba, 0, none⟩ (.bool n17)).setCell ⟨ba, 1, none⟩ (.slice A17 m17 k17) = W9 at *
      clear hW9 RA CA CB VM_ VZ
      have vs0 := V6.c0; have vs1 := V6.c1; have vsf := V6.f0; have vsg := V6.f1; have vsl := V6.lt
      have RRh := RR
      obtain ⟨⟨u1, r1⟩, ⟨u2, u3, u4, r2⟩, r3, r4, r5⟩ := RR
      go_wp2
      refine bodyPost_ret (v := .tuple #[.agg #[.bool n17, .slice A17 m17 k17], .int .i64 r]) (by simp [results, Tryz.results80, go_sem, r1, r2, r5]) rfl ⟨_, r, rfl, by rw [HST.out]; exact V6.iz.out.res2 RRh _ _, HRM.out, below_set2 HB (by omega) _ _⟩
    ·go_simp
     refine hK.out _ _ (by replace VM_ := VM_.keep (below_alloc (Below.refl w13.heap.size w13) (Obj.cells #[Value.bool false, Value.slice none 0 0] 118)); replace VZ := VZ.keep (below_alloc (Below.refl w13.heap.size w13) (Obj.cells #[Value.bool false, Value.slice none 0 0] 118)); replace CA := CA.keep (below_alloc (Below.refl w13.heap.size w13) (Obj.cells #[Value.bool false, Value.slice none 0 0] 118)); replace CB := CB.keep (below_alloc (Below.refl w13.heap.size w13) (Obj.cells #[Value.bool false, Value.slice none 0 0] 118)); replace RR := RR.keep (below_alloc (Below.refl w13.heap.size w13) (Obj.cells #[Value.bool false, Value.slice none 0 0] 118)); exact ⟨VM_.c0, VM_.c1, VM_.c2, VZ.c0, VZ.c1, CA.c, CB.c⟩) (fun hHeld => ?_)
     clear hK K
     try go_frame
     have hba1 := HB.size
     have ltVM_ := VM_.lt
     have ltVZ := VZ.lt
     have ltCA := CA.lt
     have ltCB := CB.lt
     have ltRR := RR.lt
     have RA := newRes w13 118
     replace VM_ := VM_.keep (below_alloc (Below.refl w13.heap.size w13) (Obj.cells #[Value.bool false, Value.slice none 0 0] 118)); replace VZ := VZ.keep (below_alloc (Below.refl w13.heap.size w13) (Obj.cells #[Value.bool false, Value.slice none 0 0] 118)); replace CA := CA.keep (below_alloc (Below.refl w13.heap.size w13) (Obj.cells #[Value.bool false, Value.slice none 0 0] 118)); replace CB := CB.keep (below_alloc (Below.refl w13.heap.size w13) (Obj.cells #[Value.bool false, Value.slice none 0 0] 118)); replace RR := RR.keep (below_alloc (Below.refl w13.heap.size w13) (Obj.cells #[Value.bool false, Value.slice none 0 0] 118))
     replace HB := below_alloc HB (Obj.cells #[Value.bool false, Value.slice none 0 0] 118)
     replace H7 := Lib.hid (H7.out.below (below_alloc (Below.refl w13.heap.size w13) (Obj.cells #[Value.bool false, Value.slice none 0 0] 118)))
     replace H13 := Lib.hid (H13.out.below (below_alloc (Below.refl w13.heap.size w13) (Obj.cells #[Value.bool false, Value.slice none 0 0] 118)))
     generalize hWa : w13.alloc (Obj.cells #[Value.bool false, Value.slice none 0 0] 118) = wa at *
     generalize hba : w13.heap.size = ba at *
     refine wpAnyF_one (i := 14) (by kernel_rfl) rfl (fun K hK => ?_)
     go_simp
     (go_at_call 124; (with_reducible refine (hAdd_c (z * x) y _ _ _ H7.out H13.out (by have := LXZ.out; omega) (by have := LY.out; omega)).mono ?_); rintro e w14 ⟨v, rfl, hv, hb14⟩; obtain ⟨n14, A14, m14, k14, rfl, H14⟩ := hv.form; clear hv; replace VM_ := VM_.keep hb14; replace VZ := VZ.keep hb14; replace CA := CA.keep hb14; replace CB := CB.keep hb14; replace RR := RR.keep hb14; replace HB := below_step HB hb14)
     replace RA := RA.keep hb14
     clear hb14
     refine hK.out _ _ (by exact ⟨VM_.c0, VM_.c1, VM_.c2, VZ.c0, VZ.c1, CA.c, CB.c⟩) (fun hHeld => ?_)
     clear hK K
     try go_frame
     refine wpAnyF_one (i := 17) (by kernel_rfl) rfl (fun K hK => ?_)
     go_simp
     (go_at_call 121; (with_reducible refine (hSmall_c (z * x + y) md _ _ H14.out (by omega) (by omega) LS.out).mono ?_); rintro e w17 ⟨v, rfl, hv, hb17⟩; generalize (z * x + y) % md = rr at *; obtain ⟨n17, A17, m17, k17, rfl, H17⟩ := hv.form; clear hv; replace VM_ := VM_.keep hb17; replace VZ := VZ.keep hb17; replace CA := CA.keep hb17; replace CB := CB.keep hb17; replace RR := RR.keep hb17; replace HB := below_step HB hb17)
     replace RA := RA.keep hb17
     clear hb17
     refine hK.out _ _ (by exact ⟨VM_.c0, VM_.c1, VM_.c2, VZ.c0, VZ.c1, CA.c, CB.c⟩) (fun hHeld => ?_)
     clear hK K
     try go_frame
     refine tF 18 o21e53 hHeld ?_; try go_frame
     refine tF 19 oe998e hHeld ?_; try go_frame
     refine pF 20 o6f71d hHeld ?_; try go_frame
     refine wpAnyF_st (i := 22) (by kernel_rfl) (by kernel_rfl) rfl (fun K hK => ?_)
     obtain ⟨⟨u1_, r1_⟩, ⟨u2_, u3_, u4_, r2_⟩, r3_, r4_, r5_⟩ := RA
     have RA : Res2 _ ba := ⟨⟨u1_, r1_⟩, ⟨u2_, u3_, u4_, r2_⟩, r3_, r4_, r5_⟩
     go_simp
     refine hK.out _ _ ?_
     clear hK K r1_ r2_ r3_ r4_ r5_
     try go_frame
     refine wpAnyF_st (i := 23) (by kernel_rfl) (by kernel_rfl) rfl (fun K hK => ?_)
     obtain ⟨⟨u1_, r1_⟩, ⟨u2_, u3_, u4_, r2_⟩, r3_, r4_, r5_⟩ := RA
     have RA : Res2 _ ba := ⟨⟨u1_, r1_⟩, ⟨u2_, u3_, u4_, r2_⟩, r3_, r4_, r5_⟩
     go_simp
     refine hK.out _ _ ?_
     clear hK K r1_ r2_ r3_ r4_ r5_
     try go_frame
     refine wpAnyF_done (by kernel_rfl) ?_ _
     clear hHeld
     have V6 := VX.store RA H17.out
     have hne : ba ≠ w.heap.size + 1 + 1 := by omega
     replace RR := RR.far (x := .bool n17) (y := .slice A17 m17 k17) hne
     replace HB := below_set2 (b := ba) HB (by omega) (.bool n17) (.slice A17 m17 k17)
     generalize hW9 : (w17.setCell ⟨ba, 0, none⟩ (.bool n17)).setCell ⟨ba, 1, none⟩ (.slice A17 m17 k17) = W9 at *
     clear hW9 RA CA CB VM_ VZ
     have vs0 := V6.c0; have vs1 := V6.c1; have vsf := V6.f0; have vsg := V6.f1; have vsl := V6.lt
     have RRh := RR
     obtain ⟨⟨u1, r1⟩, ⟨u2, u3, u4, r2⟩, r3, r4, r5⟩ := RR
     go_wp2
     refine bodyPost_ret (v := .tuple #[.agg #[.bool n17, .slice A17 m17 k17], .int .i64 r]) (by simp [results, Tryz.results80, go_sem, r1, r2, r5]) rfl ⟨_, r, rfl, by rw [HST.out]; exact V6.iz.out.res2 RRh _ _, HRM.out, below_set2 HB (by omega) _ _⟩
   ·go_simp
    refine hK.out _ _ (by replace VM_ := VM_.keep (below_alloc (Below.refl w7.heap.size w7) (Obj.cells #[Value.bool false, Value.slice none 0 0] 118)); replace VZ := VZ.keep (below_alloc (Below.refl w7.heap.size w7) (Obj.cells #[Value.bool false, Value.slice none 0 0] 118)); replace CA := CA.keep (below_alloc (Below.refl w7.heap.size w7) (Obj.cells #[Value.bool false, Value.slice none 0 0] 118)); replace CB := CB.keep (below_alloc (Below.refl w7.heap.size w7) (Obj.cells #[Value.bool false, Value.slice none 0 0] 118)); replace RR := RR.keep (below_alloc (Below.refl w7.heap.size w7) (Obj.cells #[Value.bool false, Value.slice none 0 0] 118)); exact ⟨VM_.c0, VM_.c1, VM_.c2, VZ.c0, VZ.c1, CA.c, CB.c⟩) (fun hHeld => ?_)
    clear hK K
    try go_frame
    have hba1 := HB.size
    have ltVM_ := VM_.lt
    have ltVZ := VZ.lt
    have ltCA := CA.lt
    have ltCB := CB.lt
    have ltRR := RR.lt
    have RA := newRes w7 118
    replace VM_ := VM_.keep (below_alloc (Below.refl w7.heap.size w7) (Obj.cells #[Value.bool false, Value.slice none 0 0] 118)); replace VZ := VZ.keep (below_alloc (Below.refl w7.heap.size w7) (Obj.cells #[Value.bool false, Value.slice none 0 0] 118)); replace CA := CA.keep (below_alloc (Below.refl w7.heap.size w7) (Obj.cells #[Value.bool false, Value.slice none 0 0] 118)); replace CB := CB.keep (below_alloc (Below.refl w7.heap.size w7) (Obj.cells #[Value.bool false, Value.slice none 0 0] 118)); replace RR := RR.keep (below_alloc (Below.refl w7.heap.size w7) (Obj.cells #[Value.bool false, Value.slice none 0 0] 118))
    replace HB := below_alloc HB (Obj.cells #[Value.bool false, Value.slice none 0 0] 118)
    replace H7 := Lib.hid (H7.out.below (below_alloc (Below.refl w7.heap.size w7) (Obj.cells #[Value.bool false, Value.slice none 0 0] 118)))
    generalize hWa : w7.alloc (Obj.cells #[Value.bool false, Value.slice none 0 0] 118) = wa at *
    generalize hba : w7.heap.size = ba at *
    refine wpAnyF_one (i := 13) (by kernel_rfl) rfl (fun K hK => ?_)
    go_simp
    (go_at_call 123; (with_reducible refine (hOf_c y _ (by omega) (by omega)).mono ?_); rintro e w13 ⟨v, rfl, hv, hb13⟩; obtain ⟨n13, A13, m13, k13, rfl, H13⟩ := hv.form; clear hv; replace VM_ := VM_.keep hb13; replace VZ := VZ.keep hb13; replace CA := CA.keep hb13; replace CB := CB.keep hb13; replace RR := RR.keep hb13; replace HB := below_step HB hb13; replace H7 := Lib.hid (H7.out.below hb13))
    replace RA := RA.keep hb13
    clear hb13
    refine hK.out _ _ (by exact ⟨VM_.c0, VM_.c1, VM_.c2, VZ.c0, VZ.c1, CA.c, CB.c⟩) (fun hHeld => ?_)
    clear hK K
    try go_frame
    refine wpAnyF_one (i := 14) (by kernel_rfl) rfl (fun K hK => ?_)
    go_simp
    (go_at_call 124; (with_reducible refine (hAdd_c (z * x) y _ _ _ H7.out H13.out (by have := LXZ.out; omega) (by have := LY.out; omega)).mono ?_); rintro e w14 ⟨v, rfl, hv, hb14⟩; obtain ⟨n14, A14, m14, k14, rfl, H14⟩ := hv.form; clear hv; replace VM_ := VM_.keep hb14; replace VZ := VZ.keep hb14; replace CA := CA.keep hb14; replace CB := CB.keep hb14; replace RR := RR.keep hb14; replace HB := below_step HB hb14)
    replace RA := RA.keep hb14
    clear hb14
    refine hK.out _ _ (by exact ⟨VM_.c0, VM_.c1, VM_.c2, VZ.c0, VZ.c1, CA.c, CB.c⟩) (fun hHeld => ?_)
    clear hK K
    try go_frame
    refine wpAnyF_one (i := 17) (by kernel_rfl) rfl (fun K hK => ?_)
    go_simp
    (go_at_call 121; (with_reducible refine (hSmall_c (z * x + y) md _ _ H14.out (by omega) (by omega) LS.out).mono ?_); rintro e w17 ⟨v, rfl, hv, hb17⟩; generalize (z * x + y) % md = rr at *; obtain ⟨n17, A17, m17, k17, rfl, H17⟩ := hv.form; clear hv; replace VM_ := VM_.keep hb17; replace VZ := VZ.keep hb17; replace CA := CA.keep hb17; replace CB := CB.keep hb17; replace RR := RR.keep hb17; replace HB := below_step HB hb17)
    replace RA := RA.keep hb17
    clear hb17
    refine hK.out _ _ (by exact ⟨VM_.c0, VM_.c1, VM_.c2, VZ.c0, VZ.c1, CA.c, CB.c⟩) (fun hHeld => ?_)
    clear hK K
    try go_frame
    refine tF 18 o21e53 hHeld ?_; try go_frame
    refine tF 19 oe998e hHeld ?_; try go_frame
    refine pF 20 o6f71d hHeld ?_; try go_frame
    refine wpAnyF_st (i := 22) (by kernel_rfl) (by kernel_rfl) rfl (fun K hK => ?_)
    obtain ⟨⟨u1_, r1_⟩, ⟨u2_, u3_, u4_, r2_⟩, r3_, r4_, r5_⟩ := RA
    have RA : Res2 _ ba := ⟨⟨u1_, r1_⟩, ⟨u2_, u3_, u4_, r2_⟩, r3_, r4_, r5_⟩
    go_simp
    refine hK.out _ _ ?_
    clear hK K r1_ r2_ r3_ r4_ r5_
    try go_frame
    refine wpAnyF_st (i := 23) (by kernel_rfl) (by kernel_rfl) rfl (fun K hK => ?_)
    obtain ⟨⟨u1_, r1_⟩, ⟨u2_, u3_, u4_, r2_⟩, r3_, r4_, r5_⟩ := RA
    have RA : Res2 _ ba := ⟨⟨u1_, r1_⟩, ⟨u2_, u3_, u4_, r2_⟩, r3_, r4_, r5_⟩
    go_simp
    refine hK.out _ _ ?_
    clear hK K r1_ r2_ r3_ r4_ r5_
    try go_frame
    refine wpAnyF_done (by kernel_rfl) ?_ _
    clear hHeld
    have V6 := VX.store RA H17.out
    have hne : ba ≠ w.heap.size + 1 + 1 := by omega
    replace RR := RR.far (x := .bool n17) (y := .slice A17 m17 k17) hne
    replace HB := below_set2 (b := ba) HB (by omega) (.bool n17) (.slice A17 m17 k17)
    generalize hW9 : (w17.setCell ⟨ba, 0, none⟩ (.bool n17)).setCell ⟨ba, 1, none⟩ (.slice A17 m17 k17) = W9 at *
    clear hW9 RA CA CB VM_ VZ
    have vs0 := V6.c0; have vs1 := V6.c1; have vsf := V6.f0; have vsg := V6.f1; have vsl := V6.lt
    have RRh := RR
    obtain ⟨⟨u1, r1⟩, ⟨u2, u3, u4, r2⟩, r3, r4, r5⟩ := RR
    go_wp2
    refine bodyPost_ret (v := .tuple #[.agg #[.bool n17, .slice A17 m17 k17], .int .i64 r]) (by simp [results, Tryz.results80, go_sem, r1, r2, r5]) rfl ⟨_, r, rfl, by rw [HST.out]; exact V6.iz.out.res2 RRh _ _, HRM.out, below_set2 HB (by omega) _ _⟩
  ·go_simp
   refine hK.out _ _ (by replace VM_ := VM_.keep (below_alloc (Below.refl w5.heap.size w5) (Obj.cells #[Value.bool false, Value.slice none 0 0] 118)); replace VZ := VZ.keep (below_alloc (Below.refl w5.heap.size w5) (Obj.cells #[Value.bool false, Value.slice none 0 0] 118)); replace CA := CA.keep (below_alloc (Below.refl w5.heap.size w5) (Obj.cells #[Value.bool false, Value.slice none 0 0] 118)); replace CB := CB.keep (below_alloc (Below.refl w5.heap.size w5) (Obj.cells #[Value.bool false, Value.slice none 0 0] 118)); replace RR := RR.keep (below_alloc (Below.refl w5.heap.size w5) (Obj.cells #[Value.bool false, Value.slice none 0 0] 118)); exact ⟨VM_.c0, VM_.c1, VM_.c2, VZ.c0, VZ.c1, CA.c, CB.c⟩) (fun hHeld => ?_)
   clear hK K
   try go_frame
   have hba1 := HB.size
   have ltVM_ := VM_.lt
   have ltVZ := VZ.lt
   have ltCA := CA.lt
   have ltCB := CB.lt
   have ltRR := RR.lt
   have RA := newRes w5 118
   replace VM_ := VM_.keep (below_alloc (Below.refl w5.heap.size w5) (Obj.cells #[Value.bool false, Value.slice none 0 0] 118)); replace VZ := VZ.keep (below_alloc (Below.refl w5.heap.size w5) (Obj.cells #[Value.bool false, Value.slice none 0 0] 118)); replace CA := CA.keep (below_alloc (Below.refl w5.heap.size w5) (Obj.cells #[Value.bool false, Value.slice none 0 0] 118)); replace CB := CB.keep (below_alloc (Below.refl w5.heap.size w5) (Obj.cells #[Value.bool false, Value.slice none 0 0] 118)); replace RR := RR.keep (below_alloc (Below.refl w5.heap.size w5) (Obj.cells #[Value.bool false, Value.slice none 0 0] 118))
   replace HB := below_alloc HB (Obj.cells #[Value.bool false, Value.slice none 0 0] 118)
   replace H5 := Lib.hid (H5.out.below (below_alloc (Below.refl w5.heap.size w5) (Obj.cells #[Value.bool false, Value.slice none 0 0] 118)))
   generalize hWa : w5.alloc (Obj.cells #[Value.bool false, Value.slice none 0 0] 118) = wa at *
   generalize hba : w5.heap.size = ba at *
   refine wpAnyF_one (i := 7) (by kernel_rfl) rfl (fun K hK => ?_)
   go_simp
   (go_at_call 122; (with_reducible refine (hMul_c z x _ _ _ (by exact VZ.iz.out) H5.out (by have := LZ.out; omega) (by have := LX.out; omega)).mono ?_); rintro e w7 ⟨v, rfl, hv, hb7⟩; obtain ⟨n7, A7, m7, k7, rfl, H7⟩ := hv.form; clear hv; replace VM_ := VM_.keep hb7; replace VZ := VZ.keep hb7; replace CA := CA.keep hb7; replace CB := CB.keep hb7; replace RR := RR.keep hb7; replace HB := below_step HB hb7)
   replace RA := RA.keep hb7
   clear hb7
   refine hK.out _ _ (by exact ⟨VM_.c0, VM_.c1, VM_.c2, VZ.c0, VZ.c1, CA.c, CB.c⟩) (fun hHeld => ?_)
   clear hK K
   try go_frame
   refine wpAnyF_one (i := 13) (by kernel_rfl) rfl (fun K hK => ?_)
   go_simp
   (go_at_call 123; (with_reducible refine (hOf_c y _ (by omega) (by omega)).mono ?_); rintro e w13 ⟨v, rfl, hv, hb13⟩; obtain ⟨n13, A13, m13, k13, rfl, H13⟩ := hv.form; clear hv; replace VM_ := VM_.keep hb13; replace VZ := VZ.keep hb13; replace CA := CA.keep hb13; replace CB := CB.keep hb13; replace RR := RR.keep hb13; replace HB := below_step HB hb13; replace H7 := Lib.hid (H7.out.below hb13))
   replace RA := RA.keep hb13
   clear hb13
   refine hK.out _ _ (by exact ⟨VM_.c0, VM_.c1, VM_.c2, VZ.c0, VZ.c1, CA.c, CB.c⟩) (fun hHeld => ?_)
   clear hK K
   try go_frame
   refine wpAnyF_one (i := 14) (by kernel_rfl) rfl (fun K hK => ?_)
   go_simp
   (go_at_call 124; (with_reducible refine (hAdd_c (z * x) y _ _ _ H7.out H13.out (by have := LXZ.out; omega) (by have := LY.out; omega)).mono ?_); rintro e w14 ⟨v, rfl, hv, hb14⟩; obtain ⟨n14, A14, m14, k14, rfl, H14⟩ := hv.form; clear hv; replace VM_ := VM_.keep hb14; replace VZ := VZ.keep hb14; replace CA := CA.keep hb14; replace CB := CB.keep hb14; replace RR := RR.keep hb14; replace HB := below_step HB hb14)
   replace RA := RA.keep hb14
   clear hb14
   refine hK.out _ _ (by exact ⟨VM_.c0, VM_.c1, VM_.c2, VZ.c0, VZ.c1, CA.c, CB.c⟩) (fun hHeld => ?_)
   clear hK K
   try go_frame
   refine wpAnyF_one (i := 17) (by kernel_rfl) rfl (fun K hK => ?_)
   go_simp
   (go_at_call 121; (with_reducible refine (hSmall_c (z * x + y) md _ _ H14.out (by omega) (by omega) LS.out).mono ?_); rintro e w17 ⟨v, rfl, hv, hb17⟩; generalize (z * x + y) % md = rr at *; obtain ⟨n17, A17, m17, k17, rfl, H17⟩ := hv.form; clear hv; replace VM_ := VM_.keep hb17; replace VZ := VZ.keep hb17; replace CA := CA.keep hb17; replace CB := CB.keep hb17; replace RR := RR.keep hb17; replace HB := below_step HB hb17)
   replace RA := RA.keep hb17
   clear hb17
   refine hK.out _ _ (by exact ⟨VM_.c0, VM_.c1, VM_.c2, VZ.c0, VZ.c1, CA.c, CB.c⟩) (fun hHeld => ?_)
   clear hK K
   try go_frame
   refine tF 18 o21e53 hHeld ?_; try go_frame
   refine tF 19 oe998e hHeld ?_; try go_frame
   refine pF 20 o6f71d hHeld ?_; try go_frame
   refine wpAnyF_st (i := 22) (by kernel_rfl) (by kernel_rfl) rfl (fun K hK => ?_)
   obtain ⟨⟨u1_, r1_⟩, ⟨u2_, u3_, u4_, r2_⟩, r3_, r4_, r5_⟩ := RA
   have RA : Res2 _ ba := ⟨⟨u1_, r1_⟩, ⟨u2_, u3_, u4_, r2_⟩, r3_, r4_, r5_⟩
   go_simp
   refine hK.out _ _ ?_
   clear hK K r1_ r2_ r3_ r4_ r5_
   try go_frame
   refine wpAnyF_st (i := 23) (by kernel_rfl) (by kernel_rfl) rfl (fun K hK => ?_)
   obtain ⟨⟨u1_, r1_⟩, ⟨u2_, u3_, u4_, r2_⟩, r3_, r4_, r5_⟩ := RA
   have RA : Res2 _ ba := ⟨⟨u1_, r1_⟩, ⟨u2_, u3_, u4_, r2_⟩, r3_, r4_, r5_⟩
   go_simp
   refine hK.out _ _ ?_
   clear hK K r1_ r2_ r3_ r4_ r5_
   try go_frame
   refine wpAnyF_done (by kernel_rfl) ?_ _
   clear hHeld
   have V6 := VX.store RA H17.out
   have hne : ba ≠ w.heap.size + 1 + 1 := by omega
   replace RR := RR.far (x := .bool n17) (y := .slice A17 m17 k17) hne
   replace HB := below_set2 (b := ba) HB (by omega) (.bool n17) (.slice A17 m17 k17)
   generalize hW9 : (w17.setCell ⟨ba, 0, none⟩ (.bool n17)).setCell ⟨ba, 1, none⟩ (.slice A17 m17 k17) = W9 at *
   clear hW9 RA CA CB VM_ VZ
   have vs0 := V6.c0; have vs1 := V6.c1; have vsf := V6.f0; have vsg := V6.f1; have vsl := V6.lt
   have RRh := RR
   obtain ⟨⟨u1, r1⟩, ⟨u2, u3, u4, r2⟩, r3, r4, r5⟩ := RR
   go_wp2
   refine bodyPost_ret (v := .tuple #[.agg #[.bool n17, .slice A17 m17 k17], .int .i64 r]) (by simp [results, Tryz.results80, go_sem, r1, r2, r5]) rfl ⟨_, r, rfl, by rw [HST.out]; exact V6.iz.out.res2 RRh _ _, HRM.out, below_set2 HB (by omega) _ _⟩
 ·go_simp
  refine hK.out _ _ (by replace VM_ := VM_.keep (below_alloc (Below.refl wd.heap.size wd) (Obj.cells #[Value.bool false, Value.slice none 0 0] 118)); replace VZ := VZ.keep (below_alloc (Below.refl wd.heap.size wd) (Obj.cells #[Value.bool false, Value.slice none 0 0] 118)); replace CA := CA.keep (below_alloc (Below.refl wd.heap.size wd) (Obj.cells #[Value.bool false, Value.slice none 0 0] 118)); replace CB := CB.keep (below_alloc (Below.refl wd.heap.size wd) (Obj.cells #[Value.bool false, Value.slice none 0 0] 118)); replace RR := RR.keep (below_alloc (Below.refl wd.heap.size wd) (Obj.cells #[Value.bool false, Value.slice none 0 0] 118)); exact ⟨VM_.c0, VM_.c1, VM_.c2, VZ.c0, VZ.c1, CA.c, CB.c⟩) (fun hHeld => ?_)
  clear hK K
  try go_frame
  have hba1 := HB.size
  have ltVM_ := VM_.lt
  have ltVZ := VZ.lt
  have ltCA := CA.lt
  have ltCB := CB.lt
  have ltRR := RR.lt
  have RA := newRes wd 118
  replace VM_ := VM_.keep (below_alloc (Below.refl wd.heap.size wd) (Obj.cells #[Value.bool false, Value.slice none 0 0] 118)); replace VZ := VZ.keep (below_alloc (Below.refl wd.heap.size wd) (Obj.cells #[Value.bool false, Value.slice none 0 0] 118)); replace CA := CA.keep (below_alloc (Below.refl wd.heap.size wd) (Obj.cells #[Value.bool false, Value.slice none 0 0] 118)); replace CB := CB.keep (below_alloc (Below.refl wd.heap.size wd) (Obj.cells #[Value.bool false, Value.slice none 0 0] 118)); replace RR := RR.keep (below_alloc (Below.refl wd.heap.size wd) (Obj.cells #[Value.bool false, Value.slice none 0 0] 118))
  replace HB := below_alloc HB (Obj.cells #[Value.bool false, Value.slice none 0 0] 118)
  generalize hWa : wd.alloc (Obj.cells #[Value.bool false, Value.slice none 0 0] 118) = wa at *
  generalize hba : wd.heap.size = ba at *
  refine wpAnyF_one (i := 6) (by kernel_rfl) rfl (fun K hK => ?_)
  go_simp
  (go_at_call 123; (with_reducible refine (hOf_c x _ (by omega) (by omega)).mono ?_); rintro e w5 ⟨v, rfl, hv, hb5⟩; obtain ⟨n5, A5, m5, k5, rfl, H5⟩ := hv.form; clear hv; replace VM_ := VM_.keep hb5; replace VZ := VZ.keep hb5; replace CA := CA.keep hb5; replace CB := CB.keep hb5; replace RR := RR.keep hb5; replace HB := below_step HB hb5)
  replace RA := RA.keep hb5
  clear hb5
  refine hK.out _ _ (by exact ⟨VM_.c0, VM_.c1, VM_.c2, VZ.c0, VZ.c1, CA.c, CB.c⟩) (fun hHeld => ?_)
  clear hK K
  try go_frame
  refine wpAnyF_one (i := 7) (by kernel_rfl) rfl (fun K hK => ?_)
  go_simp
  (go_at_call 122; (with_reducible refine (hMul_c z x _ _ _ (by exact VZ.iz.out) H5.out (by have := LZ.out; omega) (by have := LX.out; omega)).mono ?_); rintro e w7 ⟨v, rfl, hv, hb7⟩; obtain ⟨n7, A7, m7, k7, rfl, H7⟩ := hv.form; clear hv; replace VM_ := VM_.keep hb7; replace VZ := VZ.keep hb7; replace CA := CA.keep hb7; replace CB := CB.keep hb7; replace RR := RR.keep hb7; replace HB := below_step HB hb7)
  replace RA := RA.keep hb7
  clear hb7
  refine hK.out _ _ (by exact ⟨VM_.c0, VM_.c1, VM_.c2, VZ.c0, VZ.c1, CA.c, CB.c⟩) (fun hHeld => ?_)
  clear hK K
  try go_frame
  refine wpAnyF_one (i := 13) (by kernel_rfl) rfl (fun K hK => ?_)
  go_simp
  (go_at_call 123; (with_reducible refine (hOf_c y _ (by omega) (by omega)).mono ?_); rintro e w13 ⟨v, rfl, hv, hb13⟩; obtain ⟨n13, A13, m13, k13, rfl, H13⟩ := hv.form; clear hv; replace VM_ := VM_.keep hb13; replace VZ := VZ.keep hb13; replace CA := CA.keep hb13; replace CB := CB.keep hb13; replace RR := RR.keep hb13; replace HB := below_step HB hb13; replace H7 := Lib.hid (H7.out.below hb13))
  replace RA := RA.keep hb13
  clear hb13
  refine hK.out _ _ (by exact ⟨VM_.c0, VM_.c1, VM_.c2, VZ.c0, VZ.c1, CA.c, CB.c⟩) (fun hHeld => ?_)
  clear hK K
  try go_frame
  refine wpAnyF_one (i := 14) (by kernel_rfl) rfl (fun K hK => ?_)
  go_simp
  (go_at_call 124; (with_reducible refine (hAdd_c (z * x) y _ _ _ H7.out H13.out (by have := LXZ.out; omega) (by have := LY.out; omega)).mono ?_); rintro e w14 ⟨v, rfl, hv, hb14⟩; obtain ⟨n14, A14, m14, k14, rfl, H14⟩ := hv.form; clear hv; replace VM_ := VM_.keep hb14; replace VZ := VZ.keep hb14; replace CA := CA.keep hb14; replace CB := CB.keep hb14; replace RR := RR.keep hb14; replace HB := below_step HB hb14)
  replace RA := RA.keep hb14
  clear hb14
  refine hK.out _ _ (by exact ⟨VM_.c0, VM_.c1, VM_.c2, VZ.c0, VZ.c1, CA.c, CB.c⟩) (fun hHeld => ?_)
  clear hK K
  try go_frame
  refine wpAnyF_one (i := 17) (by kernel_rfl) rfl (fun K hK => ?_)
  go_simp
  (go_at_call 121; (with_reducible refine (hSmall_c (z * x + y) md _ _ H14.out (by omega) (by omega) LS.out).mono ?_); rintro e w17 ⟨v, rfl, hv, hb17⟩; generalize (z * x + y) % md = rr at *; obtain ⟨n17, A17, m17, k17, rfl, H17⟩ := hv.form; clear hv; replace VM_ := VM_.keep hb17; replace VZ := VZ.keep hb17; replace CA := CA.keep hb17; replace CB := CB.keep hb17; replace RR := RR.keep hb17; replace HB := below_step HB hb17)
  replace RA := RA.keep hb17
  clear hb17
  refine hK.out _ _ (by exact ⟨VM_.c0, VM_.c1, VM_.c2, VZ.c0, VZ.c1, CA.c, CB.c⟩) (fun hHeld => ?_)
  clear hK K
  try go_frame
  refine tF 18 o21e53 hHeld ?_; try go_frame
  refine tF 19 oe998e hHeld ?_; try go_frame
  refine pF 20 o6f71d hHeld ?_; try go_frame
  refine wpAnyF_st (i := 22) (by kernel_rfl) (by kernel_rfl) rfl (fun K hK => ?_)
  obtain ⟨⟨u1_, r1_⟩, ⟨u2_, u3_, u4_, r2_⟩, r3_, r4_, r5_⟩ := RA
  have RA : Res2 _ ba := ⟨⟨u1_, r1_⟩, ⟨u2_, u3_, u4_, r2_⟩, r3_, r4_, r5_⟩
  go_simp
  refine hK.out _ _ ?_
  clear hK K r1_ r2_ r3_ r4_ r5_
  try go_frame
  refine wpAnyF_st (i := 23) (by kernel_rfl) (by kernel_rfl) rfl (fun K hK => ?_)
  obtain ⟨⟨u1_, r1_⟩, ⟨u2_, u3_, u4_, r2_⟩, r3_, r4_, r5_⟩ := RA
  have RA : Res2 _ ba := ⟨⟨u1_, r1_⟩, ⟨u2_, u3_, u4_, r2_⟩, r3_, r4_, r5_⟩
  go_simp
  refine hK.out _ _ ?_
  clear hK K r1_ r2_ r3_ r4_ r5_
  try go_frame
  refine wpAnyF_done (by kernel_rfl) ?_ _
  clear hHeld
  have V6 := VX.store RA H17.out
  have hne : ba ≠ w.heap.size + 1 + 1 := by omega
  replace RR := RR.far (x := .bool n17) (y := .slice A17 m17 k17) hne
  replace HB := below_set2 (b := ba) HB (by omega) (.bool n17) (.slice A17 m17 k17)
  generalize hW9 : (w17.setCell ⟨ba, 0, none⟩ (.bool n17)).setCell ⟨ba, 1, none⟩ (.slice A17 m17 k17) = W9 at *
  clear hW9 RA CA CB VM_ VZ
  have vs0 := V6.c0; have vs1 := V6.c1; have vsf := V6.f0; have vsg := V6.f1; have vsl := V6.lt
  have RRh := RR
  obtain ⟨⟨u1, r1⟩, ⟨u2, u3, u4, r2⟩, r3, r4, r5⟩ := RR
  go_wp2
  refine bodyPost_ret (v := .tuple #[.agg #[.bool n17, .slice A17 m17 k17], .int .i64 r]) (by simp [results, Tryz.results80, go_sem, r1, r2, r5]) rfl ⟨_, r, rfl, by rw [HST.out]; exact V6.iz.out.res2 RRh _ _, HRM.out, below_set2 HB (by omega) _ _⟩
end Go.Proofs.YtibdipfhfaeooaaGreatDoor


set_option linter.unusedVariables false
set_option linter.unusedSimpArgs false
namespace Go.Proofs.YtibdipfhfaeooaaGreatDoor
open Go.RowKit Go.Shelf

attribute [local go_sem] Oper.semAt_some
set_option maxHeartbeats 1000000 in
theorem Walk_c (M : Mp) (z : Int) (v u : Value) (w : World) (hM : IsM w v M) (hz : IsH w u z) :
  Calls Tryz.prog 88 #[v, u] w fun e w' => e = .returned (.func (.func 129) #[] #[.pointer (some ⟨w.heap.size + 1, 0, none⟩), .pointer (some ⟨w.heap.size, 0, none⟩)]) ∧
   (∃ md A n c A' n' c', VM w' w.heap.size md A n c A' n' c' M) ∧ (∃ nv A n c, VH w' (w.heap.size + 1) nv A n c z) ∧ Below w.heap.size w w' := by
 obtain ⟨md, A, n, c, A', n', c', rfl, HM⟩ := hM.form
 obtain ⟨nz, Az, mz, kz, rfl, HZ⟩ := hz.form
 clear hM hz
 go_enter Tryz.func88, Tryz.ntmps88
 go_wp2
 obtain ⟨V1, V2, hs, HB⟩ := startMH w 24 118 _ HM.out HZ.out rfl
 go_ret
 exact ⟨rfl, ⟨_, _, _, _, _, _, _, V1⟩, ⟨_, _, _, _, V2⟩, HB⟩

/-- The number after k steps. -/
def itZ (M : Mp) (z : Int) : Nat → Int
 | 0 => z
 | k + 1 => stepZ M (itZ M z k)
abbrev XZ := Bool × Option Addr × Nat × Nat
/-- What the iterator knows: its map's block, and that its own block holds the number after k steps. -/
def RW (M : Mp) (z : Int) (bm bn : Nat) (k : Nat) (x : XZ) (W : World) : Prop := (∃ md A n c A' n' c', VM W bm md A n c A' n' c' M) ∧ VH W bn x.1 x.2.1 x.2.2.1 x.2.2.2 (itZ M z k)
abbrev encZ (k : Nat) (x : XZ) : Array Value := #[.int .i64 (k : Int), .agg #[.bool x.1, .slice x.2.1 x.2.2.1 x.2.2.2]]

set_option maxRecDepth 100000 in
set_option maxHeartbeats 2000000 in
theorem Walk1_st (M : Mp) (z : Int) (bm bn N n : Nat) (hn1 : 1 ≤ n) (hne : bn ≠ bm) (hok : okM M) (sz : ∀ k, k < N → (dg B9 (itZ M z k)).length ≤ 900000000) (hN : N ≤ 1000000000) :
  SeqSt Fence.wide n Tryz.prog 129 #[.pointer (some ⟨bn, 0, none⟩), .pointer (some ⟨bm, 0, none⟩)] encZ (RW M z bm bn) bn N := by
 intro l J Jx W hJ hY hN0 h0 hR0
 refine callsIn_of_wp Tryz.func129 rfl trivial ?_ rfl
 simp only [Tryz.ntmps129, List.size_toArray, List.length_cons, List.length_nil, Nat.reduceAdd, Nat.reduceSub, Array.replicate_succ, Array.replicate_zero, List.push_toArray, List.append_toArray, List.nil_append, List.cons_append]
 obtain ⟨x0, hx0⟩ := hR0
 gi_wp2
 gi_loopw [4] (fun kv wr => ∃ (k : Nat) (x : XZ), kv = .int .i64 (k : Int) ∧ k ≤ N ∧ J k wr ∧ RW M z bm bn k x wr) (fun kv wr => N - (intOf kv).toNat)
 case atStart => exact ⟨0, x0, rfl, Nat.zero_le _, h0, hx0⟩
 case round =>
  obtain ⟨k, x, rfl, hk, hj, hr⟩ := hrel
  have hkN : k < N := by
   rcases Nat.lt_or_ge k N with h | h
   ·exact h
   ·obtain rfl : k = N := by omega
    exact absurd hj (hN0 wr)
  obtain ⟨fn, tmps, assign, body, hy, hR⟩ := hY k x wr hj hr hkN
  obtain ⟨nv, A, m, c⟩ := x
  dsimp only [encZ] at hy
  have hrV := hr.2
  have c0 := hrV.c0
  have c1 := hrV.c1
  clear hr hrV
  gi_wp2
  refine hR.mono ?_
  rintro e W3 (⟨rfl, hJ3, ⟨md, Am, nm, cm, Am', nm', cm', hM3⟩, hV3⟩ | ⟨rfl, hJx3⟩)
  ·have d0 := hV3.c0
   have d1 := hV3.c1
   have m0 := hM3.c0
   have m1 := hM3.c1
   have m2 := hM3.c2
   have HK := Lib.hid (sz k hkN)
   gi_wp2_with (refine ⟨trivial, ?_⟩; gi_at_call 80; refine (callsIn_wide.2 (Next_c M (itZ M z k) _ _ _ hM3.im.out hV3.iz.out hok HK.out)).mono ?_; rintro e w1 ⟨v1, r1, rfl, hv1, hr1, hb1⟩; obtain ⟨n1, A1, m1, k1, rfl, H1⟩ := hv1.form; have V4 := hV3.keep hb1; have M4 := hM3.keep hb1; have R4 := V4.res; have e0 := V4.c0; have e1 := V4.c1; have ef := V4.f0; have eg := V4.f1; clear hr1 hv1)
   refine ⟨⟨k + 1, (n1, A1, m1, k1), by go_num, by omega, hJ _ _ _ (hJ _ _ _ hJ3 (St.of hb1)) (St.set R4 _ _), ⟨md, Am, nm, cm, Am', nm', cm', M4.far R4 hne⟩, VX.store R4 H1.out⟩, ?_⟩
   simp only [intOf]
   omega
  ·gi_wp2
   go_end0
   exact ⟨⟨_, rfl⟩, hJx3⟩
end Go.Proofs.YtibdipfhfaeooaaGreatDoor

