/- cert.down: within how many steps all rests come down. No condition. -/
import Derived.Test.YtibdipfhfaeooaaGreatDoorZK
import Derived.Test.YtibdipfhfaeooaaGreatDoorZG
import Derived.Maps.RangeWalk
set_option linter.unusedVariables false
set_option linter.unusedSimpArgs false
namespace Go.Proofs.YtibdipfhfaeooaaGreatDoor
open Go.RowKit

theorem info_L : (Tryz.prog.info? 144).map (fun i => (i.zero, i.size, i.bytes)) = some (some (.agg #[.bool false, .slice none 0 0, .bool false, .slice none 0 0, .bool false, .slice none 0 0]), 6, 96) := by kernel_rfl
abbrev zL : Value := .agg #[.bool false, .slice none 0 0, .bool false, .slice none 0 0, .bool false, .slice none 0 0]
theorem nzL : ∀ u ∈ zL.cells.toList, NoInt u := by
 intro u hu
 have e : zL.cells.toList = [.bool false, .slice none 0 0, .bool false, .slice none 0 0, .bool false, .slice none 0 0] := by rfl
 rw [e] at hu
 simp at hu
 rcases hu with rfl | rfl | rfl | rfl | rfl | rfl <;> exact fun _ _ h => by cases h
theorem zeroI (w : World) : IsI w (.agg #[.bool false, .slice none 0 0]) 0 := by
 have e : dg B64 (0 : Int) = [] := digs_zero _
 exact ⟨none, 0, by rw [e]; rfl, by rw [e]; exact ⟨Rd.nil, by simp, by omega⟩⟩
theorem VL.isL {W : World} {b : Nat} {n1 : Bool} {A1 : Option Addr} {m1 k1 : Nat} {n2 : Bool} {A2 : Option Addr} {m2 k2 : Nat} {n3 : Bool} {A3 : Option Addr} {m3 k3 : Nat} {x : Lf} (h : VL W b n1 A1 m1 k1 n2 A2 m2 k2 n3 A3 m3 k3 x) :
  IsL W (.agg #[.bool n1, .slice A1 m1 k1, .bool n2, .slice A2 m2 k2, .bool n3, .slice A3 m3 k3]) x := ⟨_, _, _, _, _, _, _, _, _, _, _, _, rfl, h.i1.out, h.i2.out, h.i3.out⟩
/-- A map comes in: its block, and a result's. -/
theorem startMR (w : World) {md : Int} {A : Option Addr} {n c : Nat} {A' : Option Addr} {n' c' : Nat} {M : Mp} (t t' : TypeId) (W : World)
  (hM : IsM w (.agg #[.int .i64 md, .slice A n c, .slice A' n' c']) M)
  (hW : (w.alloc (.cells #[.int .i64 md, .slice A n c, .slice A' n' c'] t)).alloc (.cells #[.bool false, .slice none 0 0] t') = W) :
  VM W w.heap.size md A n c A' n' c' M ∧ Res2 W (w.heap.size + 1) ∧ Below w.heap.size w W := by
 have q1 := VM.new w t hM
 have q2 := newRes (w.alloc (.cells #[.int .i64 md, .slice A n c, .slice A' n' c'] t)) t'
 have e : (w.alloc (.cells #[.int .i64 md, .slice A n c, .slice A' n' c'] t)).heap.size = w.heap.size + 1 := by simp
 rw [e] at q2
 subst hW
 exact ⟨q1.keep (below_alloc (Below.refl _ _) _), q2, below_alloc (below_alloc (Below.refl _ _) _) _⟩
set_option maxRecDepth 100000 in
set_option maxHeartbeats 40000000 in
theorem down_c (M : Mp) (most : Nat) (u : Value) (w : World) (hM : IsM w u M) (hok : okM M) (hm1 : 1 ≤ most) (hm2 : M.mod ^ most ≤ 65536) :
  Calls Tryz.prog 56 #[u, .int .i64 (most : Int)] w fun e w' => ∃ v, e = .returned (.tuple #[.int .i64 ((downP M most).1 : Int), v]) ∧ IsI w' v (downP M most).2 ∧ Below w.heap.size w w' := by
 obtain ⟨md, A, n, c, A', n', c', rfl, HM⟩ := hM.form
 obtain ⟨emd, en, en', sl1, sl2⟩ := HM.out.sl
 have mlo : 2 ≤ md := by rw [emd]; exact hok.1
 have mhi : md ≤ 12 := by rw [emd]; exact hok.2.1
 rw [← emd] at hm2
 obtain ⟨mN, rfl⟩ := Int.eq_ofNat_of_zero_le (show 0 ≤ md by omega)
 have HMN : Hid (M.mod = (mN : Int)) := emd.symm
 have HOK := Lib.hid hok
 have hmN : mN ≤ 12 := by omega
 have hmN2 : 2 ≤ mN := by omega
 have HP16 := Lib.hid hm2
 have hmost : most ≤ 16 := pow_16 mlo mhi hm2
 clear hM hok hm2 emd en en' sl1 sl2
 go_enter Tryz.func56, Tryz.ntmps56
 go_upto_region 1 with fail
 generalize hW : (w.alloc (Obj.cells #[Value.int .i64 mN, Value.slice A n c, Value.slice A' n' c'] 24)).alloc (Obj.cells _ _) = W at *
 obtain ⟨V2, RR, HB⟩ := startMR w _ _ W HM.out hW
 clear hW HM
 go_wp2_with fail
 (with_reducible refine (Small_c 0 _ (by decide) (by decide)).mono ?_)
 rintro e w1 ⟨v, rfl, hv, hb⟩
 obtain ⟨n1, A1, m1, k1, rfl, H1⟩ := hv.form; clear hv
 replace V2 := V2.keep hb; replace RR := RR.keep hb; replace HB := below_step HB hb
 clear hb
 go_wp2_with fail
 (with_reducible refine (Small_c 1 _ (by decide) (by decide)).mono ?_)
 rintro e w2 ⟨v, rfl, hv, hb⟩
 obtain ⟨n2, A2, m2, k2, rfl, H2⟩ := hv.form; clear hv
 replace V2 := V2.keep hb; replace RR := RR.keep hb; replace H1 := Lib.hid (H1.out.below hb); replace HB := below_step HB hb
 clear hb
 go_wp2_with fail
 (with_reducible refine (Small_c 0 _ (by decide) (by decide)).mono ?_)
 rintro e w3 ⟨v, rfl, hv, hb⟩
 obtain ⟨n3, A3, m3, k3, rfl, H3⟩ := hv.form; clear hv
 replace V2 := V2.keep hb; replace RR := RR.keep hb; replace H1 := Lib.hid (H1.out.below hb); replace H2 := Lib.hid (H2.out.below hb); replace HB := below_step HB hb
 clear hb
 go_upto_region 3 with fail
 have HL : Hid (LsF B64 .u64 (w3.alloc (Obj.cells #[Value.bool n1, Value.slice A1 m1 k1, Value.bool n2, Value.slice A2 m2 k2, Value.bool n3, Value.slice A3 m3 k3] 144)) (some ⟨w3.heap.size, 0, none⟩) 1 [⟨0, 1, 0⟩]) := LsF.one _ H1.out H2.out H3.out
 have hba := below_alloc (Below.refl w3.heap.size w3) (Obj.cells #[Value.bool n1, Value.slice A1 m1 k1, Value.bool n2, Value.slice A2 m2 k2, Value.bool n3, Value.slice A3 m3 k3] 144)
 have hbl := hba.size
 have hbq : w3.heap.size < (w3.alloc (Obj.cells #[Value.bool n1, Value.slice A1 m1 k1, Value.bool n2, Value.slice A2 m2 k2, Value.bool n3, Value.slice A3 m3 k3] 144)).heap.size := by simp
 have hb3 := HB.size
 replace V2 := V2.keep hba; replace RR := RR.keep hba; replace HB := below_step HB hba
 generalize hW : w3.alloc (Obj.cells #[Value.bool n1, Value.slice A1 m1 k1, Value.bool n2, Value.slice A2 m2 k2, Value.bool n3, Value.slice A3 m3 k3] 144) = W3 at *
 obtain ⟨bl, hbl3⟩ : ∃ bl, w3.heap.size = bl := ⟨_, rfl⟩
 rw [hbl3] at hbq HL ⊢
 clear hW H1 H2 H3 hba hbl hb3 hbl3
 have V8 := VX.new W3 83 (zeroI W3)
 have hb8 : w.heap.size + 1 < W3.heap.size := RR.lt
 have hba := below_alloc (Below.refl W3.heap.size W3) (Obj.cells #[Value.bool false, Value.slice none 0 0] 83)
 replace V2 := V2.keep hba; replace RR := RR.keep hba; replace HL := Lib.hid (HL.out.below hba); replace HB := below_step HB hba
 have hbw : bl < (W3.alloc (Obj.cells #[Value.bool false, Value.slice none 0 0] 83)).heap.size := by simp; omega
 have hne8 : bl ≠ W3.heap.size := by omega
 go_upto_region 4 with fail
 generalize hW : W3.alloc (Obj.cells #[Value.bool false, Value.slice none 0 0] 83) = W4 at *
 obtain ⟨b8, hb8e⟩ : ∃ b8, W3.heap.size = b8 := ⟨_, rfl⟩
 rw [hb8e] at V8 hb8 hne8 ⊢
 clear hW hba hbq hb8e
 go_wp2_with fail
 go_loopg [6, 7, 22] most (fun g lv dv kv wr => ∃ (k : Nat) (l : List Lf) (d top : Int) (bl ol cl : Nat) (n8 : Bool) (A8 : Option Addr) (m8 k8 : Nat), g = most - k ∧ lv = .slice (some ⟨bl, ol, none⟩) l.length cl ∧ dv = .int .i64 d ∧ kv = .int .i64 k ∧ k ≤ most ∧ 1 ≤ d ∧ d ≤ 65536 ∧ Hid (d = (mN : Int) ^ k) ∧ VM wr w.heap.size mN A n c A' n' c' M ∧ Res2 wr (w.heap.size + 1) ∧ VX B64 .u64 wr b8 n8 A8 m8 k8 top ∧ Hid (LsF B64 .u64 wr (some ⟨bl, ol, none⟩) cl l) ∧ bl < wr.heap.size ∧ bl ≠ b8 ∧ Below w.heap.size w wr ∧ Hid (Good k d.toNat (l, top)) ∧ Hid (downP M most = dwn M (most - k) k l d top))
 case atStart => exact ⟨0, [⟨0, 1, 0⟩], 1, 0, bl, 0, 1, false, none, 0, 0, rfl, rfl, rfl, rfl, Nat.zero_le _, by omega, by omega, rfl, V2, RR, V8, HL, hbw, hne8, HB, Good.first, rfl⟩
 case round =>
  clear V2 RR V8 HL hbw hne8 HB
  obtain ⟨k, l, d, top, bl, ol, cl, n8, A8, m8, k8, hgk, rfl, rfl, rfl, hk, hd1, hd2, HD, V2, RR, V8, HL, hbw, hne8, HB, HG, HDN⟩ := hrel
  by_cases hkm : k < most
  ·have hk1 : (k : Int) < (most : Int) := by omega
   have HPS : Hid (d * (mN : Int) = (mN : Int) ^ (k + 1)) := by show _ = _; rw [HD.out, Int.pow_succ]
   obtain ⟨D, hD⟩ : ∃ D, d * (mN : Int) = D := ⟨_, rfl⟩
   have hD0 : 2 ≤ D := by rw [← hD]; have := Int.mul_le_mul (a := 1) (c := d) (b := 2) (d := (mN : Int)) hd1 (by omega) (by omega) (by omega); omega
   have hD1 : D ≤ 65536 := by
    have h1 := HPS.out
    rw [hD] at h1
    rw [h1]
    exact Int.le_trans (powm_mono (by omega) (show k + 1 ≤ most by omega)) HP16.out
   have hDw : IntKind.i64.wrap (d * (mN : Int)) = D := by rw [hD, IntKind.wrap_i64]; omega
   have HDD := Lib.hid hD
   have HD10 : Hid (d ≤ 10 ^ (2 * k)) := by show _ ≤ _; rw [HD.out]; exact (pow_hund mlo mhi k).2.1
   have hk16 : k + 1 ≤ 16 := by omega
   have hll : l.length ≤ 65536 := by have := HG.out.len; dsimp only at this; omega
   have HG0 : Hid (Good (k + 1) 0 ([], top)) := HG.out.first'
   have HS0 : Hid (levN M d l top 0 = ([], top)) := levN_zero M d l top
   clear hD
   have HBL := Lib.hid (rfl : wr.heap.size = wr.heap.size)
   clear HBL
   obtain ⟨base, hbase⟩ : ∃ base, wr.heap.size = base := ⟨_, rfl⟩
   have hb8b : b8 < base := by rw [← hbase]; exact V8.lt
   have hblb : bl < base := by rw [← hbase]; exact hbw
   have hb2b : w.heap.size ≤ base := by rw [← hbase]; exact HB.size
   have hb5b : w.heap.size + 1 < base := by rw [← hbase]; exact RR.lt
   have hbase0 : base ≤ wr.heap.size := by omega
   have HO : Hid (OwF B64 .u64 wr base 144 (.slice none 0 0) []) := OwF.nil _ _ _
   clear hbase
   go_wp2_with fail
   go_loopg [10, 27] l.length (fun g mv iv wx => ∃ (i : Nat) (R : List Lf) (T8 : Int) (n8 : Bool) (A8 : Option Addr) (m8 k8 : Nat), g = l.length - i ∧ iv = .int .i64 i ∧ i ≤ l.length ∧ VM wx w.heap.size mN A n c A' n' c' M ∧ Res2 wx (w.heap.size + 1) ∧ VX B64 .u64 wx b8 n8 A8 m8 k8 T8 ∧ Hid (LsF B64 .u64 wx (some ⟨bl, ol, none⟩) cl l) ∧ Hid (OwF B64 .u64 wx base 144 mv R) ∧ base ≤ wx.heap.size ∧ Below w.heap.size w wx ∧ Hid (Good (k + 1) (i * mN) (R, T8)) ∧ Hid (levN M d l top i = (R, T8)))
   case atStart => exact ⟨0, [], top, n8, A8, m8, k8, rfl, rfl, Nat.zero_le _, V2, RR, V8, HL, HO, hbase0, HB, by rw [Nat.zero_mul]; exact HG0, HS0⟩
   case round =>
    clear V2 RR V8 HL HO hbase0 HB HG0 HS0 hbw
    obtain ⟨i, R, T8, n8, A8, m8, k8, hgi, rfl, hi, V2, RR, V8, HL, HO, hbs, HB, HG0, HS0⟩ := hrel
    have hi0 : (0 : Int) ≤ (i : Int) := by omega
    by_cases hil : i < l.length
    ·have hil1 : (i : Int) < (l.length : Int) := by omega
     obtain ⟨bl', ol', n1, A1, m1, k1, n2, A2, m2, k2, n3, A3, m3, k3, eA, hlt', c0, c1, c2, c3, c4, c5, z1, z2, z3⟩ := HL.out.el hil
     cases eA
     obtain ⟨x, hx⟩ : ∃ x, gF l i = x := ⟨_, rfl⟩
     rw [hx] at z1 z2 z3
     have HX := Lib.hid hx
     have HBX : Hid (Bd k x) := by
      show Bd k x
      rw [← hx, gF_lt hil]
      exact HG.out.bd _ (List.getElem_mem hil)
     clear hx hlt'
     have HOFF := Lib.hid (HO.out.off (Nat.le_refl wr.heap.size))
     have hb812 : b8 ≠ wr.heap.size := by omega
     go_upto_region 11 with fail
     have V12 := VL.new wr 144 (x := x) z1.out z2.out z3.out
     have hba := below_alloc (Below.refl wr.heap.size wr) (Obj.cells #[Value.bool n1, Value.slice A1 m1 k1, Value.bool n2, Value.slice A2 m2 k2, Value.bool n3, Value.slice A3 m3 k3] 144)
     replace V2 := V2.keep hba; replace RR := RR.keep hba; replace V8 := V8.keep hba; replace HL := Lib.hid (HL.out.below hba); replace HO := Lib.hid (HO.out.below hba); replace HB := below_step HB hba
     replace hbs := Nat.le_trans hbs hba.size
     generalize hW : wr.alloc (Obj.cells #[Value.bool n1, Value.slice A1 m1 k1, Value.bool n2, Value.slice A2 m2 k2, Value.bool n3, Value.slice A3 m3 k3] 144) = wy at *
     generalize hb12 : wr.heap.size = b12 at *
     clear hW hba z1 z2 z3 c0 c1 c2 c3 c4 c5
     have m0 := V2.c0
     have HG1 : Hid (Good (k + 1) (i * mN + 0) (R, T8)) := HG0.out
     go_wp2_with fail
     go_loopg [10, 33] mN (fun g mv jv wz => ∃ (j : Nat) (R1 : List Lf) (T1 : Int) (n8 : Bool) (A8 : Option Addr) (m8 k8 : Nat), g = mN - j ∧ jv = .int .i64 j ∧ j ≤ mN ∧ VM wz w.heap.size mN A n c A' n' c' M ∧ Res2 wz (w.heap.size + 1) ∧ VX B64 .u64 wz b8 n8 A8 m8 k8 T1 ∧ Hid (LsF B64 .u64 wz (some ⟨bl, ol, none⟩) cl l) ∧ Hid (OwF B64 .u64 wz base 144 mv R1) ∧ Hid (Off mv b12) ∧ VL wz b12 n1 A1 m1 k1 n2 A2 m2 k2 n3 A3 m3 k3 x ∧ base ≤ wz.heap.size ∧ Below w.heap.size w wz ∧ Hid (Good (k + 1) (i * mN + j) (R1, T1)) ∧ Hid (rowN M d (R, T8) x j = (R1, T1)))
     case atStart => exact ⟨0, R, T8, n8, A8, m8, k8, rfl, rfl, Nat.zero_le _, V2, RR, V8, HL, HO, HOFF, V12, hbs, HB, HG1, rfl⟩
     case round =>
      clear V2 RR V8 HL HO HOFF V12 hbs HB HG1 HG0 m0
      generalize R = R0 at *
      generalize T8 = T0 at *
      obtain ⟨j, R, T8, n8, A8, m8, k8, hgj, rfl, hj, V2, RR, V8, HL, HO, HOFF, V12, hbs, HB, HG1, HS⟩ := hrel
      have hj0 : (0 : Int) ≤ (j : Int) := by omega
      by_cases hjm : j < mN
      ·have hj1 : (j : Int) < (mN : Int) := by omega
       have HBX2 := HBX.out.le200 (by omega)
       have m0 := V2.c0; have m1 := V2.c1; have m2_ := V2.c2
       have y0 := V12.c0; have y1 := V12.c1; have y2 := V12.c2; have y3 := V12.c3; have y4 := V12.c4; have y5 := V12.c5
       go_wp2_with fail
       (with_reducible refine (next_c M x j d _ _ _ V12.isL V2.im.out HOK.out (by omega) (by omega) (by omega) HBX2.1 HBX2.2.1 HBX2.2.2).mono ?_)
       rintro e w2 ⟨v, rfl, ⟨p1, B1, q1, r1, p2, B2, q2, r2, p3, B3, q3, r3, rfl, Y1, Y2, Y3⟩, hb⟩
       replace V2 := V2.keep hb; replace RR := RR.keep hb; replace V8 := V8.keep hb; replace V12 := V12.keep hb; replace HL := Lib.hid (HL.out.below hb); replace HO := Lib.hid (HO.out.below hb); replace HB := below_step HB hb; replace hbs := Nat.le_trans hbs hb.size
       have HBY : Hid (Bd (k + 1) (nxt M d x j)) := Bd.next HOK.out HBX.out (by omega) HD10.out (by rw [HMN.out, Int.toNat_natCast]; omega)
       have HSN : Hid (rowN M d (R0, T0) x (j + 1) = put1 D (R, T8) (nxt M d x j)) := by show _ = _; rw [rowN_succ, HS.out, HMN.out, HDD.out]
       clear hb m0 m1 m2_ y0 y1 y2 y3 y4 y5 HS HBX2
       generalize nxt M d x j = Y at *
       have HGP := Lib.hid (HG1.out.put HBY.out D)
       have LYM := Lib.hid (szI (z := Y.mul) (Nat.le_trans (HBY.out.le200 (by omega)).2.1 (Nat.le_mul_of_pos_left _ (by omega))))
       have LD := Lib.hid (szI (z := D) (Nat.le_trans (show D.natAbs ≤ 1000000000000 by omega) (Nat.le_mul_of_pos_right _ (Nat.pow_pos (by omega)))))
       have HRL : R.length ≤ 1000000 := by
        have h1 := HG1.out.len
        have h2 : i * mN ≤ 65536 * 12 := Nat.mul_le_mul (by have := HG.out.len; dsimp only at this; omega) hmN
        dsimp only at h1
        omega
       go_upto_region 15 with fail
       have V14 := VL.new w2 144 (x := Y) Y1 Y2 Y3
       have hba := below_alloc (Below.refl w2.heap.size w2) (Obj.cells #[Value.bool p1, Value.slice B1 q1 r1, Value.bool p2, Value.slice B2 q2 r2, Value.bool p3, Value.slice B3 q3 r3] 144)
       replace V2 := V2.keep hba; replace RR := RR.keep hba; replace V8 := V8.keep hba; replace V12 := V12.keep hba; replace HL := Lib.hid (HL.out.below hba); replace HO := Lib.hid (HO.out.below hba); replace HB := below_step HB hba; replace hbs := Nat.le_trans hbs hba.size
       generalize hW : w2.alloc (Obj.cells #[Value.bool p1, Value.slice B1 q1 r1, Value.bool p2, Value.slice B2 q2 r2, Value.bool p3, Value.slice B3 q3 r3] 144) = w3 at *
       generalize hb14 : w2.heap.size = b14 at *
       clear hW hba Y1 Y2 Y3 hb14
       replace V2 := V2.drew; replace RR := RR.drew; replace V8 := V8.drew; replace V12 := V12.drew; replace V14 := V14.drew
       replace HL := Lib.hid (HL.out.below (below_drew (Below.refl _ _))); replace HO := Lib.hid (HO.out.below (below_drew (Below.refl _ _))); replace hbs := Nat.le_trans hbs (below_drew (Below.refl w3.heap.size w3)).size
       replace HB := below_drew HB
       generalize hWd : w3.drew = wd at *
       refine wp_region_held_drew (S := fun w' => w'.cell? ⟨b14, 2, none⟩ = some (.bool p2) ∧ w'.cell? ⟨b14, 3, none⟩ = some (.slice B2 q2 r2) ∧ w'.cell? ⟨w.heap.size, 0, none⟩ = some (.int .i64 mN)) (by kernel_rfl) (by rw [hWd]; exact ⟨V14.c2, V14.c3, V2.c0⟩) (fun hHeld => ?_)
       rw [hWd] at hHeld ⊢
       refine tH 0 ({ dst := some 41, op := Go.Op.fieldAddr 144 (Go.Operand.tmp 14) 1, type := 0, pos := "cert.go:64", after := #[], guard := none }) hHeld ?_; try go_frame
       refine tH 1 ({ dst := some 42, op := Go.Op.load 83 (Go.Operand.tmp 41), type := 83, pos := "cert.go:64", after := #[{ on := 0, ground := Go.Ground.data }], guard := none }) hHeld ?_; try go_frame
       refine tH 2 ({ dst := some 43, op := Go.Op.move (Go.Operand.tmp 7), type := 3, pos := "cert.go:64", after := #[], guard := none }) hHeld ?_; try go_frame
       refine tH 3 ({ dst := some 44, op := Go.Op.fieldAddr 24 (Go.Operand.tmp 2) 0, type := 0, pos := "cert.go:64", after := #[], guard := none }) hHeld ?_; try go_frame
       refine tH 4 ({ dst := some 45, op := Go.Op.load 3 (Go.Operand.tmp 44), type := 3, pos := "cert.go:64", after := #[{ on := 3, ground := Go.Ground.data }], guard := none }) hHeld ?_; try go_frame
       refine tH 5 ({ dst := some 46, op := Go.Op.binOp Go.BinOp.mul 3 (Go.Operand.tmp 43) (Go.Operand.tmp 45) 3, type := 3, pos := "cert.go:64", after := #[{ on := 2, ground := Go.Ground.data }, { on := 4, ground := Go.Ground.data }], guard := none }) hHeld ?_; try go_frame
       refine wpAnyH_ready (rs := [6]) (by kernel_rfl) (by simp) ?_
       refine AllReadyH.cons (o := { dst := some 47, op := Go.Op.call { callee := Go.Callee.value (Go.Operand.func 58), args := #[Go.Operand.tmp 46], argTypes := #[3] }, type := 83, pos := "cert.go:64", after := #[{ on := 5, ground := Go.Ground.data }], guard := none }) rfl (fun K hK => ?_) AllReadyH.nil
       go_simp
       (go_at_call 58; (with_reducible refine (Small_c D _ (by omega) (by omega)).mono ?_); rintro e w7 ⟨v, rfl, hv, hb⟩; obtain ⟨n7, A7, m7, k7, rfl, H7⟩ := hv.form; clear hv; replace V2 := V2.keep hb; replace RR := RR.keep hb; replace V8 := V8.keep hb; replace V12 := V12.keep hb; replace V14 := V14.keep hb; replace HL := Lib.hid (HL.out.below hb); replace HO := Lib.hid (HO.out.below hb); replace HB := below_step HB hb; replace hbs := Nat.le_trans hbs (hb).size; clear hb)
       refine hK.out _ _ (by exact ⟨V14.c2, V14.c3, V2.c0⟩) (fun hHeld => ?_)
       clear hK K
       try go_frame
       refine wpAnyH_ready (rs := [7]) (by kernel_rfl) (by simp) ?_
       refine AllReadyH.cons (o := { dst := some 48, op := Go.Op.call { callee := Go.Callee.value (Go.Operand.func 57), args := #[Go.Operand.tmp 42, Go.Operand.tmp 47], argTypes := #[83, 83] }, type := 3, pos := "cert.go:64", after := #[{ on := 1, ground := Go.Ground.data }, { on := 6, ground := Go.Ground.data }, { on := 6, ground := Go.Ground.chain }], guard := none }) rfl (fun K hK => ?_) AllReadyH.nil
       go_simp
       (go_at_call 57; (with_reducible refine (iCompare_c Y.mul D _ _ _ V14.i2.out H7.out (by have := LYM.out; omega) (by have := LD.out; omega)).mono ?_); rintro e w9 ⟨rfl, hb⟩; replace V2 := V2.keep hb; replace RR := RR.keep hb; replace V8 := V8.keep hb; replace V12 := V12.keep hb; replace V14 := V14.keep hb; replace HL := Lib.hid (HL.out.below hb); replace HO := Lib.hid (HO.out.below hb); replace HB := below_step HB hb; replace hbs := Nat.le_trans hbs (hb).size; clear hb)
       refine hK.out _ _ (by exact ⟨V14.c2, V14.c3, V2.c0⟩) (fun hHeld => ?_)
       clear hK K
       try go_frame
       refine tH 8 ({ dst := some 49, op := Go.Op.binOp Go.BinOp.geq 3 (Go.Operand.tmp 48) (Go.Operand.const (Go.Value.int Go.IntKind.i64 0)) 3, type := 4, pos := "cert.go:64", after := #[{ on := 7, ground := Go.Ground.data }], guard := none }) hHeld ?_; try go_frame
       refine wpAnyH_done (by kernel_rfl) ?_ _
       clear hHeld hWd H7
       by_cases hDY : D ≤ Y.mul
       ·have hcm : 0 ≤ icmp Y.mul D := by
         apply Classical.byContradiction
         intro h
         have := (icmp_lt' Y.mul D).1 (by omega)
         omega
        have y0 := V14.c0; have y1 := V14.c1; have y2 := V14.c2; have y3 := V14.c3; have y4 := V14.c4; have y5 := V14.c5
        go_wp2_with (at_builtin; go_loud (refine app_F2 base b12 rfl _ _ 145 144 zL 96 rfl Tryz.underlying145 info_L rfl nzL (by decide) _ R Y p1 B1 q1 r1 p2 B2 q2 r2 p3 B3 q3 r3 HO.out HOFF.out V12.lt V14.i1.out V14.i2.out V14.i3.out rfl rfl hbs (by omega) ?_; intro v1 w1 HO1 HOFF1 HGR HB1 HK1))
        replace V2 := V2.keepB HB1 (by omega) HK1
        replace RR := RR.keepB HB1 (by omega)
        replace V8 := V8.keepB HB1 hb8b HK1
        replace HL := Lib.hid (HL.out.keepB HB1 HK1 hblb)
        replace V12 := V12.grown HGR (fun e => HOFF.out b12 e.symm rfl) HK1
        replace HB := HB.trans (HB1.mono hb2b)
        replace hbs := Nat.le_trans hbs HGR.size
        have HG2 : Hid (Good (k + 1) (i * mN + (j + 1)) (R ++ [Y], T8)) := by
         have h1 := HGP.out
         unfold put1 at h1
         rw [if_pos hDY] at h1
         exact h1
        have HS2 : Hid (rowN M d (R0, T0) x (j + 1) = (R ++ [Y], T8)) := by
         show _ = _
         rw [HSN.out]
         unfold put1
         rw [if_pos hDY]
        replace HO := Lib.hid HO1
        replace HOFF := Lib.hid HOFF1
        clear HSN HGP HO1 HOFF1 HGR HB1 HK1 y0 y1 y2 y3 y4 y5 hDY hcm HG1
        go_wp2
        go_roundg (mN - (j + 1))
        case measure => omega
        case rel => exact ⟨j + 1, R ++ [Y], T8, n8, A8, m8, k8, rfl, by go_num, by omega, V2, RR, V8, HL, HO, HOFF, V12, hbs, HB, HG2, HS2⟩
       ·have hcm : ¬ 0 ≤ icmp Y.mul D := by
         have := (icmp_lt' Y.mul D).2 (by omega)
         omega
        have hcmd : decide (0 ≤ icmp Y.mul D) = false := decide_eq_false hcm
        have y0 := V14.c0; have y1 := V14.c1; have y2 := V14.c2; have y3 := V14.c3; have y4 := V14.c4; have y5 := V14.c5; have m0 := V2.c0
        have HBYL := HBY.out.le200 (by omega)
        go_wp2_with fail
        (with_reducible refine (bound_c Y D _ _ V14.isL (by have := HBY.out.mul0; omega) (by omega) (by omega) HBYL.2.2).mono ?_)
        rintro e w4 ⟨v, rfl, hv, hb⟩
        obtain ⟨n7, A7, m7, k7, rfl, H7⟩ := hv.form; clear hv
        replace V2 := V2.keep hb; replace RR := RR.keep hb; replace V8 := V8.keep hb; replace V12 := V12.keep hb; replace HL := Lib.hid (HL.out.below hb); replace HO := Lib.hid (HO.out.below hb); replace HB := below_step HB hb; replace hbs := Nat.le_trans hbs hb.size
        have LBN : Hid ((dg B64 (bnd D Y)).length ≤ 1000) := szI (Nat.le_trans (Nat.le_trans (natAbs_div_le (by omega)) HBYL.2.2) (Nat.le_mul_of_pos_left _ (by omega)))
        have LT8 : Hid ((dg B64 T8).length ≤ 1000) := szI (Nat.le_trans (Nat.le_trans HG1.out.t1 (Nat.pow_le_pow_right (by omega) (by omega))) (Nat.le_mul_of_pos_left _ (by omega)))
        have HPF : Hid (put1 D (R, T8) Y = if T8 < bnd D Y then (R, bnd D Y) else (R, T8)) := by show _ = _; unfold put1; rw [if_neg (show ¬ D ≤ Y.mul by omega)]
        generalize bnd D Y = N at *
        clear hb y0 y1 y2 y3 y4 y5 m0 HBYL V14 hDY
        go_upto_region 18 with fail
        have V15 := VX.new w4 83 H7.out
        have hba := below_alloc (Below.refl w4.heap.size w4) (Obj.cells #[Value.bool n7, Value.slice A7 m7 k7] 83)
        have hb815 := V8.lt
        replace V2 := V2.keep hba; replace RR := RR.keep hba; replace V8 := V8.keep hba; replace V12 := V12.keep hba; replace HL := Lib.hid (HL.out.below hba); replace HO := Lib.hid (HO.out.below hba); replace HB := below_step HB hba; replace hbs := Nat.le_trans hbs hba.size
        generalize hW : w4.alloc (Obj.cells #[Value.bool n7, Value.slice A7 m7 k7] 83) = w5 at *
        generalize hb15 : w4.heap.size = b15 at *
        clear hW hba hb15 H7
        have y0 := V15.c0; have y1 := V15.c1; have y2 := V8.c0; have y3 := V8.c1
        go_wp2_with fail
        (with_reducible refine (iCompare_c N T8 _ _ _ V15.iz.out V8.iz.out (by have := LBN.out; omega) (by have := LT8.out; omega)).mono ?_)
        rintro e w6 ⟨rfl, hb⟩
        replace V2 := V2.keep hb; replace RR := RR.keep hb; replace V8 := V8.keep hb; replace V12 := V12.keep hb; replace V15 := V15.keep hb; replace HL := Lib.hid (HL.out.below hb); replace HO := Lib.hid (HO.out.below hb); replace HB := below_step HB hb; replace hbs := Nat.le_trans hbs hb.size
        clear hb y0 y1 y2 y3
        by_cases hNT : T8 < N
        ·have hcn : 0 < icmp N T8 := by
          apply Classical.byContradiction
          intro h
          by_cases h2 : icmp N T8 = 0
          ·have := (icmp_eq _ _).1 h2; omega
          ·have := (icmp_lt' N T8).1 (by omega); omega
         have HG2 : Hid (Good (k + 1) (i * mN + (j + 1)) (R, N)) := by
          have h1 := HGP.out
          rw [HPF.out, if_pos hNT] at h1
          exact h1
         have HS2 : Hid (rowN M d (R0, T0) x (j + 1) = (R, N)) := by show _ = _; rw [HSN.out, HPF.out, if_pos hNT]
         clear hNT HSN HGP HPF HG1
         have y0 := V15.c0; have y1 := V15.c1
         have RA := V8.res
         have RAh := Lib.hid RA
         obtain ⟨⟨u1_, r1_⟩, ⟨u2_, u3_, u4_, r2_⟩, r3_, r4_, r5_⟩ := RA
         have h82 : b8 ≠ w.heap.size := by omega
         have h85 : b8 ≠ w.heap.size + 1 := by omega
         have h8l : b8 ≠ bl := fun h => hne8 h.symm
         go_upto_region 20 with fail
         replace V2 := V2.far (x := .bool n7) (y := .slice A7 m7 k7) RAh.out h82
         replace RR := RR.far (x := .bool n7) (y := .slice A7 m7 k7) h85
         replace V12 := V12.far (p := .bool n7) (q := .slice A7 m7 k7) RAh.out hb812
         replace HL := Lib.hid (HL.out.res2 RAh.out h8l (.bool n7) (.slice A7 m7 k7))
         replace HO := Lib.hid (HO.out.res2 RAh.out hb8b (.bool n7) (.slice A7 m7 k7))
         replace V8 := VX.store RAh.out V15.iz.out
         replace HB := below_set2 (b := b8) HB (by omega) (.bool n7) (.slice A7 m7 k7)
         have hbs2 : base ≤ ((w6.setCell ⟨b8, 0, none⟩ (.bool n7)).setCell ⟨b8, 1, none⟩ (.slice A7 m7 k7)).heap.size := by simpa [World.setCell] using hbs
         replace hbs := hbs2
         clear y0 y1 RAh r1_ r2_ r3_ r4_ r5_ V15 hbs2
         generalize hW : (w6.setCell ⟨b8, 0, none⟩ (.bool n7)).setCell ⟨b8, 1, none⟩ (.slice A7 m7 k7) = w7 at *
         clear hW
         go_wp2
         go_roundg (mN - (j + 1))
         case measure => omega
         case rel => exact ⟨j + 1, R, N, n7, A7, m7, k7, rfl, by go_num, by omega, V2, RR, V8, HL, HO, HOFF, V12, hbs, HB, HG2, HS2⟩
        ·have hcn : ¬ 0 < icmp N T8 := by
          intro h
          by_cases h3 : N = T8
          ·have := (icmp_eq N T8).2 h3; omega
          ·have := (icmp_lt' N T8).2 (by omega); omega
         have hcnd : decide (0 < icmp N T8) = false := decide_eq_false hcn
         have HG2 : Hid (Good (k + 1) (i * mN + (j + 1)) (R, T8)) := by
          have h1 := HGP.out
          rw [HPF.out, if_neg hNT] at h1
          exact h1
         have HS2 : Hid (rowN M d (R0, T0) x (j + 1) = (R, T8)) := by show _ = _; rw [HSN.out, HPF.out, if_neg hNT]
         clear hNT HSN HGP HPF HG1 V15
         go_wp2
         go_roundg (mN - (j + 1))
         case measure => omega
         case rel => exact ⟨j + 1, R, T8, n8, A8, m8, k8, rfl, by go_num, by omega, V2, RR, V8, HL, HO, HOFF, V12, hbs, HB, HG2, HS2⟩
      ·obtain rfl : j = mN := by omega
       have hj1 : ¬ (j : Int) < (j : Int) := by omega
       have HLN : Hid (levN M d l top (i + 1) = (R, T8)) := by
        show _ = _
        rw [levN_succ _ _ _ _ _ hil, HS0.out, HX.out]
        show rowN M d (R0, T0) x M.mod.toNat = _
        rw [HMN.out, Int.toNat_natCast]
        exact HS.out
       have HGN : Hid (Good (k + 1) ((i + 1) * j) (R, T8)) := by rw [Nat.add_mul, Nat.one_mul]; exact HG1
       clear HS HG1 HS0
       go_wp2
       go_roundg (l.length - (i + 1))
       case measure => omega
       case rel => exact ⟨i + 1, R, T8, n8, A8, m8, k8, rfl, by go_num, by omega, V2, RR, V8, HL, HO, hbs, HB, HGN, HLN⟩
    ·obtain rfl : i = l.length := by omega
     have hil1 : ¬ (l.length : Int) < (l.length : Int) := by omega
     have HLV : Hid (lev M d l top = (R, T8)) := by show _ = _; rw [← levN_all, HS0.out]
     have m0 := V2.c0
     by_cases hR : R = []
     ·have HDP : Hid (downP M most = (k + 1, T8)) := by
       show _ = _
       rw [HDN.out, show most - k = (most - (k + 1)) + 1 by omega, dwn, HLV.out, if_pos hR]
      obtain ⟨A9, c9, hv9, -⟩ := HO.out.form
      rw [show R.length = 0 by rw [hR]; rfl] at hv9
      subst hv9
      have hkw : IntKind.i64.wrap ((k : Int) + 1) = (k : Int) + 1 := by rw [IntKind.wrap_i64]; omega
      clear hR HDN HG HD HO HS0 HG0 HPS HDD HLV HL
      go_upto_region 25 with fail
      replace V8 := V8.drew; replace RR := RR.drew; replace HB := below_drew HB
      generalize hWd : wr.drew = wd at *
      have RH := Lib.hid RR
      obtain ⟨⟨u1, r1⟩, ⟨u2, u3, u4, r2⟩, r3, r4, r5⟩ := RR
      refine wp_region_F (fun w' => w'.cell? ⟨b8, 0, none⟩ = some (.bool n8) ∧ w'.cell? ⟨b8, 1, none⟩ = some (.slice A8 m8 k8)) [4] (by kernel_rfl) (by rw [hWd]; exact ⟨V8.c0, V8.c1⟩) (fun hHeld => ?_)
      rw [hWd] at hHeld ⊢
      refine tF 0 ({ dst := some 75, op := Go.Op.move (Go.Operand.tmp 9), type := 3, pos := "cert.go:75", after := #[], guard := none }) hHeld ?_; try go_frame
      refine tF 1 ({ dst := some 76, op := Go.Op.binOp Go.BinOp.add 3 (Go.Operand.tmp 75) (Go.Operand.const (Go.Value.int Go.IntKind.i64 1)) 3, type := 3, pos := "cert.go:75", after := #[{ on := 0, ground := Go.Ground.data }], guard := none }) hHeld ?_; try go_frame
      refine tF 2 ({ dst := some 77, op := Go.Op.load 83 (Go.Operand.tmp 8), type := 83, pos := "cert.go:75", after := #[{ on := 3, ground := Go.Ground.gcOnly Go.Departure.lateStores }], guard := none }) hHeld ?_; try go_frame
      refine tF 3 ({ dst := some 4, op := Go.Op.assign (Go.Operand.tmp 76), type := 3, pos := "cert.go:75", after := #[{ on := 1, ground := Go.Ground.data }, { on := 0, ground := Go.Ground.phase }, { on := 1, ground := Go.Ground.phase }, { on := 2, ground := Go.Ground.textOnly Go.Departure.lateStores }], guard := none }) hHeld ?_; try go_frame
      refine wpAnyF_st (i := 4) (by kernel_rfl) (by kernel_rfl) rfl (fun K hK => ?_)
      go_simp
      refine hK.out _ _ ?_
      clear hK K
      try go_frame
      refine wpAnyF_done (by kernel_rfl) ?_ _
      clear hHeld hWd
      go_wp2
      refine bodyPost_ret (v := .tuple #[.int .i64 ((k : Int) + 1), .agg #[.bool n8, .slice A8 m8 k8]]) (by simp [results, Tryz.results56, go_sem, r1, r2, r5]) rfl ⟨_, by rw [HDP.out] <;> rfl, ?_, below_set2 HB (by omega) _ _⟩
      rw [HDP.out]
      exact V8.iz.out.res2 RH.out _ _
     ·obtain ⟨bl2, cl2, rfl, hbl2, hblw, HL2⟩ := HO.out.open hR
      have HL3 := Lib.hid HL2
      clear HL2
      have hlz : ((R.length : Int) == 0) = false := by have := List.length_pos_iff.2 hR; simp; omega
      have hlz2 : (R.length == 0) = false := by have := List.length_pos_iff.2 hR; simp; omega
      have HDN2 : Hid (downP M most = dwn M (most - (k + 1)) (k + 1) R D T8) := by
       show _ = _
       rw [HDN.out, show most - k = (most - (k + 1)) + 1 by omega, dwn, HMN.out, HDD.out, HLV.out, if_neg hR]
      have HG2 : Hid (Good (k + 1) D.toNat (R, T8)) := by
       have h1 := HG0.out
       have h2 := HG.out.len
       have h3 : l.length * mN ≤ d.toNat * mN := Nat.mul_le_mul_right _ h2
       have h4 : ((d.toNat * mN : Nat) : Int) = D := by rw [Int.natCast_mul, Int.toNat_of_nonneg (by omega), HDD.out]
       exact ⟨h1.bd, by have := h1.len; omega, h1.t0, h1.t1⟩
      have HD2 : Hid (D = (mN : Int) ^ (k + 1)) := by show _ = _; rw [← HPS.out, HDD.out]
      clear hR HDN HG HD HO HS0 HG0 HPS HDD HLV
      go_wp2
      go_roundg (most - (k + 1))
      case measure => omega
      case rel => exact ⟨k + 1, R, D, T8, bl2, 0, cl2, n8, A8, m8, k8, rfl, rfl, rfl, by go_num, by omega, by omega, hD1, HD2, V2, RR, V8, HL3, hblw, by omega, HB, HG2, HDN2⟩
  ·obtain rfl : k = most := by omega
   have hk1 : ¬ (k : Int) < (k : Int) := by omega
   have HDP : Hid (downP M k = (0, top)) := by
    show _ = _
    rw [HDN.out, Nat.sub_self]
    rfl
   clear HDN HG HD HL
   go_upto_region 27 with fail
   replace V8 := V8.drew; replace RR := RR.drew; replace HB := below_drew HB
   generalize hWd : wr.drew = wd at *
   have RH := Lib.hid RR
   obtain ⟨⟨u1, r1⟩, ⟨u2, u3, u4, r2⟩, r3, r4, r5⟩ := RR
   refine wp_region_F (fun w' => w'.cell? ⟨b8, 0, none⟩ = some (.bool n8) ∧ w'.cell? ⟨b8, 1, none⟩ = some (.slice A8 m8 k8)) [2] (by kernel_rfl) (by rw [hWd]; exact ⟨V8.c0, V8.c1⟩) (fun hHeld => ?_)
   rw [hWd] at hHeld ⊢
   refine tF 0 ({ dst := some 79, op := Go.Op.load 83 (Go.Operand.tmp 8), type := 83, pos := "cert.go:78", after := #[{ on := 1, ground := Go.Ground.gcOnly Go.Departure.lateStores }], guard := none }) hHeld ?_; try go_frame
   refine tF 1 ({ dst := some 4, op := Go.Op.assign (Go.Operand.const (Go.Value.int Go.IntKind.i64 0)), type := 3, pos := "cert.go:78", after := #[{ on := 0, ground := Go.Ground.textOnly Go.Departure.lateStores }], guard := none }) hHeld ?_; try go_frame
   refine wpAnyF_st (i := 2) (by kernel_rfl) (by kernel_rfl) rfl (fun K hK => ?_)
   go_simp
   refine hK.out _ _ ?_
   clear hK K
   try go_frame
   refine wpAnyF_done (by kernel_rfl) ?_ _
   clear hHeld hWd
   go_wp2
   refine bodyPost_ret (v := .tuple #[.int .i64 (0), .agg #[.bool n8, .slice A8 m8 k8]]) (by simp [results, Tryz.results56, go_sem, r1, r2, r5]) rfl ⟨_, by rw [HDP.out] <;> rfl, ?_, below_set2 HB (by omega) _ _⟩
   rw [HDP.out]
   exact V8.iz.out.res2 RH.out _ _

end Go.Proofs.YtibdipfhfaeooaaGreatDoor

