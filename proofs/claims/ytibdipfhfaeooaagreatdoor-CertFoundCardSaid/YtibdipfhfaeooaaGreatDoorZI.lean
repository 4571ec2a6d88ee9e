/- One step of a rest: (cert.left).next. No condition. -/
import Derived.Test.YtibdipfhfaeooaaGreatDoorZH
import Derived.Test.YtibdipfhfaeooaaGreatDoorZE
import Derived.Maps.RangeWalk
set_option linter.unusedVariables false
set_option linter.unusedSimpArgs false
namespace Go.Proofs.YtibdipfhfaeooaaGreatDoor
open Go.RowKit

/-- Block b is six cells for a rest. -/
structure Res6 (W : World) (b : Nat) : Prop where
 e0 : ∃ u, W.cell? ⟨b, 0, none⟩ = some (.bool u)
 e1 : ∃ A n c, W.cell? ⟨b, 1, none⟩ = some (.slice A n c)
 e2 : ∃ u, W.cell? ⟨b, 2, none⟩ = some (.bool u)
 e3 : ∃ A n c, W.cell? ⟨b, 3, none⟩ = some (.slice A n c)
 e4 : ∃ u, W.cell? ⟨b, 4, none⟩ = some (.bool u)
 e5 : ∃ A n c, W.cell? ⟨b, 5, none⟩ = some (.slice A n c)
 f : ∀ o, o < 6 → W.frozen? ⟨b, o, none⟩ = false
 lt : b < W.heap.size
theorem Res6.keep {W w1 : World} {b : Nat} (h : Res6 W b) (hb : Below W.heap.size W w1) : Res6 w1 b := by
 obtain ⟨⟨u0, h0⟩, ⟨A1, n1, c1, h1⟩, ⟨u2, h2⟩, ⟨A3, n3, c3, h3⟩, ⟨u4, h4⟩, ⟨A5, n5, c5, h5⟩, hf, hl⟩ := h
 exact ⟨⟨_, kcell hb hl h0⟩, ⟨_, _, _, kcell hb hl h1⟩, ⟨_, kcell hb hl h2⟩, ⟨_, _, _, kcell hb hl h3⟩, ⟨_, kcell hb hl h4⟩, ⟨_, _, _, kcell hb hl h5⟩, fun o ho => kfroz hb hl (hf o ho), Nat.lt_of_lt_of_le hl hb.size⟩
theorem Res6.drew {W : World} {b : Nat} (h : Res6 W b) : Res6 W.drew b := h.keep (below_drew (Below.refl _ _))
theorem Res6.new (W : World) (t : TypeId) : Res6 (W.alloc (.cells #[.bool false, .slice none 0 0, .bool false, .slice none 0 0, .bool false, .slice none 0 0] t)) W.heap.size :=
 ⟨⟨false, by simp [go_sem]⟩, ⟨none, 0, 0, by simp [go_sem]⟩, ⟨false, by simp [go_sem]⟩, ⟨none, 0, 0, by simp [go_sem]⟩, ⟨false, by simp [go_sem]⟩, ⟨none, 0, 0, by simp [go_sem]⟩, fun o ho => by simp [go_sem], by simp⟩
theorem Res6.far {W : World} {b b' : Nat} {x y : Value} (h : Res6 W b) (hne : b' ≠ b) : Res6 ((W.setCell ⟨b', 0, none⟩ x).setCell ⟨b', 1, none⟩ y) b := by
 have e : ∀ (o : Nat) (w : World) (u : Value) (o' : Nat), (w.setCell ⟨b', o', none⟩ u).cell? ⟨b, o, none⟩ = w.cell? ⟨b, o, none⟩ := fun o w u o' => World.cell?_setCell_other _ _ _ _ (by simp [hne])
 obtain ⟨⟨u0, h0⟩, ⟨A1, n1, c1, h1⟩, ⟨u2, h2⟩, ⟨A3, n3, c3, h3⟩, ⟨u4, h4⟩, ⟨A5, n5, c5, h5⟩, hf, hl⟩ := h
 exact ⟨⟨_, by rw [e, e]; exact h0⟩, ⟨_, _, _, by rw [e, e]; exact h1⟩, ⟨_, by rw [e, e]; exact h2⟩, ⟨_, _, _, by rw [e, e]; exact h3⟩, ⟨_, by rw [e, e]; exact h4⟩, ⟨_, _, _, by rw [e, e]; exact h5⟩, fun o ho => by rw [World.frozen?_setCell, World.frozen?_setCell]; exact hf o ho, by simpa [World.setCell] using hl⟩
/-- The store of a rest. -/
def set6 (W : World) (b : Nat) (x0 x1 x2 x3 x4 x5 : Value) : World := (((((W.setCell ⟨b, 0, none⟩ x0).setCell ⟨b, 1, none⟩ x1).setCell ⟨b, 2, none⟩ x2).setCell ⟨b, 3, none⟩ x3).setCell ⟨b, 4, none⟩ x4).setCell ⟨b, 5, none⟩ x5
theorem Res6.kp {W : World} {b : Nat} (h : Res6 W b) (x0 x1 x2 x3 x4 x5 : Value) : Kp W (set6 W b x0 x1 x2 x3 x4 x5) := by
 obtain ⟨⟨u0, h0⟩, ⟨A1, n1, c1, h1⟩, ⟨u2, h2⟩, ⟨A3, n3, c3, h3⟩, ⟨u4, h4⟩, ⟨A5, n5, c5, h5⟩, hf, hl⟩ := h
 have e : ∀ (o o' : Nat) (w : World) (u : Value), o' ≠ o → (w.setCell ⟨b, o', none⟩ u).cell? ⟨b, o, none⟩ = w.cell? ⟨b, o, none⟩ := fun o o' w u hne => World.cell?_setCell_other _ _ _ _ (by simp [hne])
 intro k A c l hs
 unfold set6
 refine (((((hs.set (x := x0) h0 (by simp)).set (x := x1) (u := .slice A1 n1 c1) ?_ (by simp)).set (x := x2) (u := .bool u2) ?_ (by simp)).set (x := x3) (u := .slice A3 n3 c3) ?_ (by simp)).set (x := x4) (u := .bool u4) ?_ (by simp)).set (x := x5) (u := .slice A5 n5 c5) ?_ (by simp)
 ·rw [e 1 0 _ _ (by omega)]; exact h1
 ·rw [e 2 1 _ _ (by omega), e 2 0 _ _ (by omega)]; exact h2
 ·rw [e 3 2 _ _ (by omega), e 3 1 _ _ (by omega), e 3 0 _ _ (by omega)]; exact h3
 ·rw [e 4 3 _ _ (by omega), e 4 2 _ _ (by omega), e 4 1 _ _ (by omega), e 4 0 _ _ (by omega)]; exact h4
 ·rw [e 5 4 _ _ (by omega), e 5 3 _ _ (by omega), e 5 2 _ _ (by omega), e 5 1 _ _ (by omega), e 5 0 _ _ (by omega)]; exact h5
theorem below_set6 {w W : World} (h : Below w.heap.size w W) {b : Nat} (hb : w.heap.size ≤ b) (x0 x1 x2 x3 x4 x5 : Value) : Below w.heap.size w (set6 W b x0 x1 x2 x3 x4 x5) :=
 below_set (below_set (below_set (below_set (below_set (below_set h hb x0) hb x1) hb x2) hb x3) hb x4) hb x5
theorem set6_cell {W : World} {b : Nat} (h : Res6 W b) (x0 x1 x2 x3 x4 x5 : Value) :
  (set6 W b x0 x1 x2 x3 x4 x5).cell? ⟨b, 0, none⟩ = some x0 ∧ (set6 W b x0 x1 x2 x3 x4 x5).cell? ⟨b, 1, none⟩ = some x1 ∧ (set6 W b x0 x1 x2 x3 x4 x5).cell? ⟨b, 2, none⟩ = some x2 ∧ (set6 W b x0 x1 x2 x3 x4 x5).cell? ⟨b, 3, none⟩ = some x3 ∧ (set6 W b x0 x1 x2 x3 x4 x5).cell? ⟨b, 4, none⟩ = some x4 ∧ (set6 W b x0 x1 x2 x3 x4 x5).cell? ⟨b, 5, none⟩ = some x5 := by
 obtain ⟨⟨u0, h0⟩, ⟨A1, n1, c1, h1⟩, ⟨u2, h2⟩, ⟨A3, n3, c3, h3⟩, ⟨u4, h4⟩, ⟨A5, n5, c5, h5⟩, hf, hl⟩ := h
 have e : ∀ (o o' : Nat) (w : World) (u : Value), o' ≠ o → (w.setCell ⟨b, o', none⟩ u).cell? ⟨b, o, none⟩ = w.cell? ⟨b, o, none⟩ := fun o o' w u hne => World.cell?_setCell_other _ _ _ _ (by simp [hne])
 unfold set6
 refine ⟨?_, ?_, ?_, ?_, ?_, ?_⟩
 ·rw [e 0 5 _ _ (by omega), e 0 4 _ _ (by omega), e 0 3 _ _ (by omega), e 0 2 _ _ (by omega), e 0 1 _ _ (by omega)]; exact World.cell?_setCell_same' _ _ _ (by rw [h0]; rfl)
 ·rw [e 1 5 _ _ (by omega), e 1 4 _ _ (by omega), e 1 3 _ _ (by omega), e 1 2 _ _ (by omega)]; exact World.cell?_setCell_same' _ _ _ (by rw [e 1 0 _ _ (by omega), h1]; rfl)
 ·rw [e 2 5 _ _ (by omega), e 2 4 _ _ (by omega), e 2 3 _ _ (by omega)]; exact World.cell?_setCell_same' _ _ _ (by rw [e 2 1 _ _ (by omega), e 2 0 _ _ (by omega), h2]; rfl)
 ·rw [e 3 5 _ _ (by omega), e 3 4 _ _ (by omega)]; exact World.cell?_setCell_same' _ _ _ (by rw [e 3 2 _ _ (by omega), e 3 1 _ _ (by omega), e 3 0 _ _ (by omega), h3]; rfl)
 ·rw [e 4 5 _ _ (by omega)]; exact World.cell?_setCell_same' _ _ _ (by rw [e 4 3 _ _ (by omega), e 4 2 _ _ (by omega), e 4 1 _ _ (by omega), e 4 0 _ _ (by omega), h4]; rfl)
 ·exact World.cell?_setCell_same' _ _ _ (by rw [e 5 4 _ _ (by omega), e 5 3 _ _ (by omega), e 5 2 _ _ (by omega), e 5 1 _ _ (by omega), e 5 0 _ _ (by omega), h5]; rfl)
theorem CL.far2 {W : World} {b o b' : Nat} {z : Int} {x y : Value} (h : CL W b o (.int .i64 z)) (hr : Res2 W b') : CL ((W.setCell ⟨b', 0, none⟩ x).setCell ⟨b', 1, none⟩ y) b o (.int .i64 z) := by
 obtain ⟨⟨u, h1⟩, ⟨A, n, c, h2⟩, -, -, -⟩ := hr
 refine ⟨?_, by simpa [World.setCell] using h.lt⟩
 have n0 : ¬ ((⟨b, o, none⟩ : Addr) = ⟨b', 0, none⟩) := by intro e; rw [← e, h.c] at h1; cases h1
 have n1 : ¬ ((⟨b, o, none⟩ : Addr) = ⟨b', 1, none⟩) := by intro e; rw [← e, h.c] at h2; cases h2
 rw [World.cell?_setCell_other _ _ _ _ (Ne.symm n1), World.cell?_setCell_other _ _ _ _ (Ne.symm n0)]
 exact h.c
theorem bdm {a b : Int} {A B : Nat} (h1 : a.natAbs ≤ A) (h2 : b.natAbs ≤ B) : (a * b).natAbs ≤ A * B := by rw [Int.natAbs_mul]; exact Nat.mul_le_mul h1 h2
theorem bda {a b : Int} {A B : Nat} (h1 : a.natAbs ≤ A) (h2 : b.natAbs ≤ B) : (a + b).natAbs ≤ A + B := by omega
/-- A rest and a map come in: their blocks, and the result's. -/
theorem startLM (w : World) {n1 : Bool} {A1 : Option Addr} {m1 k1 : Nat} {n2 : Bool} {A2 : Option Addr} {m2 k2 : Nat} {n3 : Bool} {A3 : Option Addr} {m3 k3 : Nat} {x : Lf} {md : Int} {A : Option Addr} {n c : Nat} {A' : Option Addr} {n' c' : Nat} {M : Mp} (t t' t'' : TypeId) (W : World)
  (h1 : IsI w (.agg #[.bool n1, .slice A1 m1 k1]) x.at_) (h2 : IsI w (.agg #[.bool n2, .slice A2 m2 k2]) x.mul) (h3 : IsI w (.agg #[.bool n3, .slice A3 m3 k3]) x.add) (hM : IsM w (.agg #[.int .i64 md, .slice A n c, .slice A' n' c']) M)
  (hW : ((w.alloc (.cells #[.bool n1, .slice A1 m1 k1, .bool n2, .slice A2 m2 k2, .bool n3, .slice A3 m3 k3] t)).alloc (.cells #[.int .i64 md, .slice A n c, .slice A' n' c'] t')).alloc (.cells #[.bool false, .slice none 0 0, .bool false, .slice none 0 0, .bool false, .slice none 0 0] t'') = W) :
  VL W w.heap.size n1 A1 m1 k1 n2 A2 m2 k2 n3 A3 m3 k3 x ∧ VM W (w.heap.size + 1) md A n c A' n' c' M ∧ Res6 W (w.heap.size + 1 + 1) ∧ W.heap.size = w.heap.size + 1 + 1 + 1 ∧ Below w.heap.size w W := by
 have q1 := VL.new w t (x := x) h1 h2 h3
 have q2 := VM.new (w.alloc (.cells #[.bool n1, .slice A1 m1 k1, .bool n2, .slice A2 m2 k2, .bool n3, .slice A3 m3 k3] t)) t' (hM.below (below_alloc (Below.refl _ _) _))
 have q3 := Res6.new ((w.alloc (.cells #[.bool n1, .slice A1 m1 k1, .bool n2, .slice A2 m2 k2, .bool n3, .slice A3 m3 k3] t)).alloc (.cells #[.int .i64 md, .slice A n c, .slice A' n' c'] t')) t''
 have e : (w.alloc (.cells #[.bool n1, .slice A1 m1 k1, .bool n2, .slice A2 m2 k2, .bool n3, .slice A3 m3 k3] t)).heap.size = w.heap.size + 1 := by simp
 have e2 : ((w.alloc (.cells #[.bool n1, .slice A1 m1 k1, .bool n2, .slice A2 m2 k2, .bool n3, .slice A3 m3 k3] t)).alloc (.cells #[.int .i64 md, .slice A n c, .slice A' n' c'] t')).heap.size = w.heap.size + 1 + 1 := by simp
 rw [e] at q2
 rw [e2] at q3
 subst hW
 exact ⟨(q1.keep (below_alloc (Below.refl _ _) _)).keep (below_alloc (Below.refl _ _) _), q2.keep (below_alloc (Below.refl _ _) _), q3, by simp, below_alloc (below_alloc (below_alloc (Below.refl _ _) _) _) _⟩
set_option maxRecDepth 100000 in
set_option maxHeartbeats 16000000 in
theorem next_c (M : Mp) (x : Lf) (j : Nat) (div : Int) (v u : Value) (w : World) (hv : IsL w v x) (hM : IsM w u M) (hok : okM M) (hj : j < 12) (hd0 : 0 ≤ div) (hd1 : div ≤ 100000000)
  (s1 : x.at_.natAbs ≤ 10 ^ 200) (s2 : x.mul.natAbs ≤ 10 ^ 200) (s3 : x.add.natAbs ≤ 10 ^ 200) :
  Calls Tryz.prog 101 #[v, u, .int .i64 j, .int .i64 div] w fun e w' => ∃ v, e = .returned v ∧ IsL w' v (nxt M div x j) ∧ Below w.heap.size w w' := by
 obtain ⟨n1, A1, m1, k1, n2, A2, m2, k2, n3, A3, m3, k3, rfl, HX1, HX2, HX3⟩ := hv
 obtain ⟨md, A, n, c, A', n', c', rfl, HM⟩ := hM.form
 obtain ⟨emd, en, en', sl1, sl2⟩ := HM.out.sl
 obtain ⟨m_2, m_12, hl1, hl2, hrow⟩ := hok
 rw [← emd] at m_2 m_12 hl1 hl2 hrow
 obtain ⟨X1, X2, X3⟩ := x
 dsimp only at HX1 HX2 HX3 s1 s2 s3
 obtain ⟨P1, hP1⟩ : ∃ P1 : Int, X2 * (j : Int) = P1 := ⟨_, rfl⟩
 obtain ⟨P, hP⟩ : ∃ P : Int, X1 + P1 = P := ⟨_, rfl⟩
 obtain ⟨r, hr⟩ : ∃ r : Nat, P % md = r := ⟨(P % md).toNat, by have := Int.emod_nonneg P (show md ≠ 0 by omega); omega⟩
 have hrl : (r : Int) < md := by have := Int.emod_lt_of_pos P (show 0 < md by omega); omega
 have hrow := hrow r hrl
 obtain ⟨bA, oA, rfl, hlA, cA⟩ := sl1.cell (j := r) (by omega)
 obtain ⟨bB, oB, rfl, hlB, cB⟩ := sl2.cell (j := r) (by omega)
 obtain ⟨q, hq⟩ : ∃ q, gd M.mul r = q := ⟨_, rfl⟩
 obtain ⟨a, ha⟩ : ∃ a, gd M.add r = a := ⟨_, rfl⟩
 obtain ⟨q1, q2, a1, a2, -⟩ := hrow
 have HNX : Hid (nxt M div ⟨X1, X2, X3⟩ j = ⟨(P * q + a) / md, X2 * q, X3 * q + div * a⟩) := by
  show _ = _
  unfold nxt
  dsimp only
  rw [hP1, hP, ← emd, hr, Int.toNat_natCast, hq, ha]
 rw [hq] at cA q1 q2
 rw [ha] at cB a1 a2
 have CA : CL w bA (oA + r) (.int .i64 q) := ⟨cA, hlA⟩
 have CB : CL w bB (oB + r) (.int .i64 a) := ⟨cB, hlB⟩
 have bq : q.natAbs ≤ 999 := by omega
 have ba_ : a.natAbs ≤ 999999 := by omega
 have bd_ : div.natAbs ≤ 100000000 := by omega
 have bP1 : P1.natAbs ≤ 10 ^ 200 * 12 := by rw [← hP1]; exact bdm s2 (by omega)
 have bP : P.natAbs ≤ 10 ^ 200 + 10 ^ 200 * 12 := by rw [← hP]; exact bda s1 bP1
 have bPq := bdm bP bq
 have bPa := bda bPq ba_
 have bXq := bdm s2 bq
 have bYq := bdm s3 bq
 have bda_ := bdm bd_ ba_
 have bS := bda bYq bda_
 generalize hT : (10 : Nat) ^ 200 = T at *
 have hT1 : 1 ≤ T := by rw [← hT]; exact Nat.pow_pos (by omega)
 have sz : ∀ {z : Int}, z.natAbs ≤ 1000000000000 * T → (dg B64 z).length ≤ 1000 := by intro z h; rw [← hT] at h; exact szI h
 have LX1 := Lib.hid (sz (z := X1) (by omega))
 have LX2 := Lib.hid (sz (z := X2) (by omega))
 have LX3 := Lib.hid (sz (z := X3) (by omega))
 have LP1 := Lib.hid (sz (z := P1) (by omega))
 have LP := Lib.hid (sz (z := P) (by omega))
 have LPq := Lib.hid (sz (z := P * q) (by omega))
 have LPa := Lib.hid (sz (z := P * q + a) (by omega))
 have La := Lib.hid (sz (z := a) (by omega))
 have LYq := Lib.hid (sz (z := X3 * q) (by omega))
 have Ld := Lib.hid (sz (z := div) (by omega))
 have Lda := Lib.hid (sz (z := div * a) (by omega))
 clear bPa bXq bYq bda_ bS bPq bP bP1 sz s1 s2 s3 bq ba_ bd_ hT1 hT T
 have hj0 : (0 : Int) ≤ (j : Int) := by omega
 have hj1 : (j : Int) < 12 := by omega
 have hi0 : (0 : Int) ≤ (r : Int) := by omega
 have hrn : (r : Int) < (n : Int) := by omega
 have hrn' : (r : Int) < (n' : Int) := by omega
 obtain ⟨d, rfl⟩ := Int.eq_ofNat_of_zero_le (show 0 ≤ md by omega)
 have HRZ := Lib.hid hr
 have HP1 := Lib.hid hP1
 have HP := Lib.hid hP
 have H1 := Lib.hid HX1
 have H2 := Lib.hid HX2
 have H3 := Lib.hid HX3
 clear cA cB hM sl1 sl2 hlA hlB hl1 hl2 en en' emd hr hrl hP1 hP HX1 HX2 HX3 hq ha hj
 go_enter Tryz.func101, Tryz.ntmps101
 go_upto_region 1 with fail
 generalize hW : ((w.alloc (Obj.cells #[Value.bool n1, Value.slice A1 m1 k1, Value.bool n2, Value.slice A2 m2 k2, Value.bool n3, Value.slice A3 m3 k3] 144)).alloc (Obj.cells #[Value.int .i64 d, Value.slice (some ⟨bA, oA, none⟩) n c, Value.slice (some ⟨bB, oB, none⟩) n' c'] 24)).alloc (Obj.cells _ _) = W at *
 obtain ⟨V4, V5, RR, hs, HB⟩ := startLM (x := ⟨X1, X2, X3⟩) w _ _ _ W H1.out H2.out H3.out HM.out hW
 replace CA := CA.keep HB
 replace CB := CB.keep HB
 clear hW hs H1 H2 H3 HM
 go_cut [9] from 12 to 18 (fun pv wx => ∃ (b9 : Nat) (n9 : Bool) (A9 : Option Addr) (m9 k9 : Nat), pv = .pointer (some ⟨b9, 0, none⟩) ∧ w.heap.size + 1 + 1 < b9 ∧ VX B64 .u64 wx b9 n9 A9 m9 k9 P ∧ VL wx w.heap.size n1 A1 m1 k1 n2 A2 m2 k2 n3 A3 m3 k3 ⟨X1, X2, X3⟩ ∧ VM wx (w.heap.size + 1) d (some ⟨bA, oA, none⟩) n c (some ⟨bB, oB, none⟩) n' c' M ∧ CL wx bA (oA + r) (.int .i64 q) ∧ CL wx bB (oB + r) (.int .i64 a) ∧ Res6 wx (w.heap.size + 1 + 1) ∧ Below w.heap.size w wx)
 case first =>
  replace V4 := V4.drew; replace V5 := V5.drew; replace CA := CA.drew; replace CB := CB.drew; replace RR := RR.drew
  replace HB := below_drew HB
  generalize hWd : W.drew = wd at *
  refine wp_region_F (fun w' => w'.cell? ⟨w.heap.size, 0, none⟩ = some (.bool n1) ∧ w'.cell? ⟨w.heap.size, 1, none⟩ = some (.slice A1 m1 k1) ∧ w'.cell? ⟨w.heap.size, 2, none⟩ = some (.bool n2) ∧ w'.cell? ⟨w.heap.size, 3, none⟩ = some (.slice A2 m2 k2) ∧ w'.cell? ⟨w.heap.size, 4, none⟩ = some (.bool n3) ∧ w'.cell? ⟨w.heap.size, 5, none⟩ = some (.slice A3 m3 k3) ∧ w'.cell? ⟨(w.heap.size + 1), 0, none⟩ = some (.int .i64 d) ∧ w'.cell? ⟨(w.heap.size + 1), 1, none⟩ = some (.slice (some ⟨bA, oA, none⟩) n c) ∧ w'.cell? ⟨(w.heap.size + 1), 2, none⟩ = some (.slice (some ⟨bB, oB, none⟩) n' c') ∧ w'.cell? ⟨bA, oA + r, none⟩ = some (.int .i64 q) ∧ w'.cell? ⟨bB, oB + r, none⟩ = some (.int .i64 a)) [8] (by kernel_rfl) (by rw [hWd]; exact ⟨V4.c0, V4.c1, V4.c2, V4.c3, V4.c4, V4.c5, V5.c0, V5.c1, V5.c2, CA.c, CB.c⟩) (fun hHeld => ?_)
  rw [hWd] at hHeld ⊢
  refine tF 0 ({ dst := some 12, op := Go.Op.fieldAddr 144 (Go.Operand.tmp 4) 0, type := 0, pos := "cert.go:38", after := #[], guard := none }) hHeld ?_; try go_frame
  refine tF 1 ({ dst := some 13, op := Go.Op.load 83 (Go.Operand.tmp 12), type := 83, pos := "cert.go:38", after := #[{ on := 0, ground := Go.Ground.data }], guard := none }) hHeld ?_; try go_frame
  refine tF 2 ({ dst := some 14, op := Go.Op.fieldAddr 144 (Go.Operand.tmp 4) 1, type := 0, pos := "cert.go:38", after := #[], guard := none }) hHeld ?_; try go_frame
  refine tF 3 ({ dst := some 15, op := Go.Op.load 83 (Go.Operand.tmp 14), type := 83, pos := "cert.go:38", after := #[{ on := 2, ground := Go.Ground.data }], guard := none }) hHeld ?_; try go_frame
  refine tF 4 ({ dst := some 16, op := Go.Op.move (Go.Operand.tmp 2), type := 3, pos := "cert.go:38", after := #[], guard := none }) hHeld ?_; try go_frame
  refine wpAnyF_two (i := 5) (j := 7) (by kernel_rfl) rfl rfl (fun K hK => ?_) (fun K hK => ?_)
  ·go_simp
   (go_at_call 139; (with_reducible refine (wTimes_c X2 j _ _ V4.i2.out (by omega) (by omega) (by have := LX2.out; omega)).mono ?_); rintro e w5 ⟨v, rfl, hv, hb5⟩; obtain ⟨n5, A5, m5, k5, rfl, H5⟩ := hv.form; clear hv; rw [HP1.out] at H5; replace V4 := V4.keep hb5; replace V5 := V5.keep hb5; replace CA := CA.keep hb5; replace CB := CB.keep hb5; replace RR := RR.keep hb5; replace HB := below_step HB hb5)
   clear hb5
   refine hK.out _ _ (by exact ⟨V4.c0, V4.c1, V4.c2, V4.c3, V4.c4, V4.c5, V5.c0, V5.c1, V5.c2, CA.c, CB.c⟩) (fun hHeld => ?_)
   clear hK K
   try go_frame
   refine wpAnyF_two (i := 6) (j := 7) (by kernel_rfl) rfl rfl (fun K hK => ?_) (fun K hK => ?_)
   ·go_simp
    (go_at_call 138; (with_reducible refine (wPlus_c X1 P1 _ _ _ (by exact V4.i1.out) H5.out (by have := LX1.out; omega) (by have := LP1.out; omega)).mono ?_); rintro e w6 ⟨v, rfl, hv, hb6⟩; obtain ⟨n6, A6, m6, k6, rfl, H6⟩ := hv.form; clear hv; rw [HP.out] at H6; replace V4 := V4.keep hb6; replace V5 := V5.keep hb6; replace CA := CA.keep hb6; replace CB := CB.keep hb6; replace RR := RR.keep hb6; replace HB := below_step HB hb6)
    clear hb6
    refine hK.out _ _ (by exact ⟨V4.c0, V4.c1, V4.c2, V4.c3, V4.c4, V4.c5, V5.c0, V5.c1, V5.c2, CA.c, CB.c⟩) (fun hHeld => ?_)
    clear hK K
    try go_frame
    refine wpAnyF_one (i := 7) (by kernel_rfl) rfl (fun K hK => ?_)
    go_simp
    refine hK.out _ _ (by replace V4 := V4.keep (below_alloc (Below.refl w6.heap.size w6) (Obj.cells #[Value.bool false, Value.slice none 0 0] 83)); replace V5 := V5.keep (below_alloc (Below.refl w6.heap.size w6) (Obj.cells #[Value.bool false, Value.slice none 0 0] 83)); replace CA := CA.keep (below_alloc (Below.refl w6.heap.size w6) (Obj.cells #[Value.bool false, Value.slice none 0 0] 83)); replace CB := CB.keep (below_alloc (Below.refl w6.heap.size w6) (Obj.cells #[Value.bool false, Value.slice none 0 0] 83)); replace RR := RR.keep (below_alloc (Below.refl w6.heap.size w6) (Obj.cells #[Value.bool false, Value.slice none 0 0] 83)); exact ⟨V4.c0, V4.c1, V4.c2, V4.c3, V4.c4, V4.c5, V5.c0, V5.c1, V5.c2, CA.c, CB.c⟩) (fun hHeld => ?_)
    clear hK K
    try go_frame
    have hba1 := HB.size
    have ltV4 := V4.lt
    have ltV5 := V5.lt
    have ltCA := CA.lt
    have ltCB := CB.lt
    have ltRR := RR.lt
    have RA := newRes w6 83
    replace V4 := V4.keep (below_alloc (Below.refl w6.heap.size w6) (Obj.cells #[Value.bool false, Value.slice none 0 0] 83)); replace V5 := V5.keep (below_alloc (Below.refl w6.heap.size w6) (Obj.cells #[Value.bool false, Value.slice none 0 0] 83)); replace CA := CA.keep (below_alloc (Below.refl w6.heap.size w6) (Obj.cells #[Value.bool false, Value.slice none 0 0] 83)); replace CB := CB.keep (below_alloc (Below.refl w6.heap.size w6) (Obj.cells #[Value.bool false, Value.slice none 0 0] 83)); replace RR := RR.keep (below_alloc (Below.refl w6.heap.size w6) (Obj.cells #[Value.bool false, Value.slice none 0 0] 83))
    replace HB := below_alloc HB (Obj.cells #[Value.bool false, Value.slice none 0 0] 83)
    replace H6 := Lib.hid (H6.out.below (below_alloc (Below.refl w6.heap.size w6) (Obj.cells #[Value.bool false, Value.slice none 0 0] 83)))
    generalize hWa : w6.alloc (Obj.cells #[Value.bool false, Value.slice none 0 0] 83) = wa at *
    generalize hba : w6.heap.size = ba at *
    refine wpAnyF_st (i := 8) (by kernel_rfl) (by kernel_rfl) rfl (fun K hK => ?_)
    obtain ⟨⟨u1_, r1_⟩, ⟨u2_, u3_, u4_, r2_⟩, r3_, r4_, r5_⟩ := RA
    have RA : Res2 _ ba := ⟨⟨u1_, r1_⟩, ⟨u2_, u3_, u4_, r2_⟩, r3_, r4_, r5_⟩
    go_simp
    refine hK.out _ _ ?_
    clear hK K r1_ r2_ r3_ r4_ r5_
    try go_frame
    refine wpAnyF_done (by kernel_rfl) ?_ _
    clear hHeld
    have V9 := VX.store RA H6.out
    have hne4 : ba ≠ w.heap.size := by omega
    have hne5 : ba ≠ w.heap.size + 1 := by omega
    have hne6 : ba ≠ w.heap.size + 1 + 1 := by omega
    replace V4 := V4.far (p := .bool n6) (q := .slice A6 m6 k6) RA hne4
    replace V5 := V5.far (x := .bool n6) (y := .slice A6 m6 k6) RA hne5
    replace CA := CA.far2 (x := .bool n6) (y := .slice A6 m6 k6) RA
    replace CB := CB.far2 (x := .bool n6) (y := .slice A6 m6 k6) RA
    replace RR := RR.far (x := .bool n6) (y := .slice A6 m6 k6) hne6
    replace HB := below_set2 (b := ba) HB (by omega) (.bool n6) (.slice A6 m6 k6)
    go_wp2_with fail
    go_meet
    exact ⟨ba, n6, A6, m6, k6, rfl, by omega, V9, V4, V5, CA, CB, RR, HB⟩
   ·go_simp
    refine hK.out _ _ (by replace V4 := V4.keep (below_alloc (Below.refl w5.heap.size w5) (Obj.cells #[Value.bool false, Value.slice none 0 0] 83)); replace V5 := V5.keep (below_alloc (Below.refl w5.heap.size w5) (Obj.cells #[Value.bool false, Value.slice none 0 0] 83)); replace CA := CA.keep (below_alloc (Below.refl w5.heap.size w5) (Obj.cells #[Value.bool false, Value.slice none 0 0] 83)); replace CB := CB.keep (below_alloc (Below.refl w5.heap.size w5) (Obj.cells #[Value.bool false, Value.slice none 0 0] 83)); replace RR := RR.keep (below_alloc (Below.refl w5.heap.size w5) (Obj.cells #[Value.bool false, Value.slice none 0 0] 83)); exact ⟨V4.c0, V4.c1, V4.c2, V4.c3, V4.c4, V4.c5, V5.c0, V5.c1, V5.c2, CA.c, CB.c⟩) (fun hHeld => ?_)
    clear hK K
    try go_frame
    have hba1 := HB.size
    have ltV4 := V4.lt
    have ltV5 := V5.lt
    have ltCA := CA.lt
    have ltCB := CB.lt
    have ltRR := RR.lt
    have RA := newRes w5 83
    replace V4 := V4.keep (below_alloc (Below.refl w5.heap.size w5) (Obj.cells #[Value.bool false, Value.slice none 0 0] 83)); replace V5 := V5.keep (below_alloc (Below.refl w5.heap.size w5) (Obj.cells #[Value.bool false, Value.slice none 0 0] 83)); replace CA := CA.keep (below_alloc (Below.refl w5.heap.size w5) (Obj.cells #[Value.bool false, Value.slice none 0 0] 83)); replace CB := CB.keep (below_alloc (Below.refl w5.heap.size w5) (Obj.cells #[Value.bool false, Value.slice none 0 0] 83)); replace RR := RR.keep (below_alloc (Below.refl w5.heap.size w5) (Obj.cells #[Value.bool false, Value.slice none 0 0] 83))
    replace HB := below_alloc HB (Obj.cells #[Value.bool false, Value.slice none 0 0] 83)
    replace H5 := Lib.hid (H5.out.below (below_alloc (Below.refl w5.heap.size w5) (Obj.cells #[Value.bool false, Value.slice none 0 0] 83)))
    generalize hWa : w5.alloc (Obj.cells #[Value.bool false, Value.slice none 0 0] 83) = wa at *
    generalize hba : w5.heap.size = ba at *
    refine wpAnyF_one (i := 6) (by kernel_rfl) rfl (fun K hK => ?_)
    go_simp
    (go_at_call 138; (with_reducible refine (wPlus_c X1 P1 _ _ _ (by exact V4.i1.out) H5.out (by have := LX1.out; omega) (by have := LP1.out; omega)).mono ?_); rintro e w6 ⟨v, rfl, hv, hb6⟩; obtain ⟨n6, A6, m6, k6, rfl, H6⟩ := hv.form; clear hv; rw [HP.out] at H6; replace V4 := V4.keep hb6; replace V5 := V5.keep hb6; replace CA := CA.keep hb6; replace CB := CB.keep hb6; replace RR := RR.keep hb6; replace HB := below_step HB hb6)
    replace RA := RA.keep hb6
    clear hb6
    refine hK.out _ _ (by exact ⟨V4.c0, V4.c1, V4.c2, V4.c3, V4.c4, V4.c5, V5.c0, V5.c1, V5.c2, CA.c, CB.c⟩) (fun hHeld => ?_)
    clear hK K
    try go_frame
    refine wpAnyF_st (i := 8) (by kernel_rfl) (by kernel_rfl) rfl (fun K hK => ?_)
    obtain ⟨⟨u1_, r1_⟩, ⟨u2_, u3_, u4_, r2_⟩, r3_, r4_, r5_⟩ := RA
    have RA : Res2 _ ba := ⟨⟨u1_, r1_⟩, ⟨u2_, u3_, u4_, r2_⟩, r3_, r4_, r5_⟩
    go_simp
    refine hK.out _ _ ?_
    clear hK K r1_ r2_ r3_ r4_ r5_
    try go_frame
    refine wpAnyF_done (by kernel_rfl) ?_ _
    clear hHeld
    have V9 := VX.store RA H6.out
    have hne4 : ba ≠ w.heap.size := by omega
    have hne5 : ba ≠ w.heap.size + 1 := by omega
    have hne6 : ba ≠ w.heap.size + 1 + 1 := by omega
    replace V4 := V4.far (p := .bool n6) (q := .slice A6 m6 k6) RA hne4
    replace V5 := V5.far (x := .bool n6) (y := .slice A6 m6 k6) RA hne5
    replace CA := CA.far2 (x := .bool n6) (y := .slice A6 m6 k6) RA
    replace CB := CB.far2 (x := .bool n6) (y := .slice A6 m6 k6) RA
    replace RR := RR.far (x := .bool n6) (y := .slice A6 m6 k6) hne6
    replace HB := below_set2 (b := ba) HB (by omega) (.bool n6) (.slice A6 m6 k6)
    go_wp2_with fail
    go_meet
    exact ⟨ba, n6, A6, m6, k6, rfl, by omega, V9, V4, V5, CA, CB, RR, HB⟩
  ·go_simp
   refine hK.out _ _ (by replace V4 := V4.keep (below_alloc (Below.refl wd.heap.size wd) (Obj.cells #[Value.bool false, Value.slice none 0 0] 83)); replace V5 := V5.keep (below_alloc (Below.refl wd.heap.size wd) (Obj.cells #[Value.bool false, Value.slice none 0 0] 83)); replace CA := CA.keep (below_alloc (Below.refl wd.heap.size wd) (Obj.cells #[Value.bool false, Value.slice none 0 0] 83)); replace CB := CB.keep (below_alloc (Below.refl wd.heap.size wd) (Obj.cells #[Value.bool false, Value.slice none 0 0] 83)); replace RR := RR.keep (below_alloc (Below.refl wd.heap.size wd) (Obj.cells #[Value.bool false, Value.slice none 0 0] 83)); exact ⟨V4.c0, V4.c1, V4.c2, V4.c3, V4.c4, V4.c5, V5.c0, V5.c1, V5.c2, CA.c, CB.c⟩) (fun hHeld => ?_)
   clear hK K
   try go_frame
   have hba1 := HB.size
   have ltV4 := V4.lt
   have ltV5 := V5.lt
   have ltCA := CA.lt
   have ltCB := CB.lt
   have ltRR := RR.lt
   have RA := newRes wd 83
   replace V4 := V4.keep (below_alloc (Below.refl wd.heap.size wd) (Obj.cells #[Value.bool false, Value.slice none 0 0] 83)); replace V5 := V5.keep (below_alloc (Below.refl wd.heap.size wd) (Obj.cells #[Value.bool false, Value.slice none 0 0] 83)); replace CA := CA.keep (below_alloc (Below.refl wd.heap.size wd) (Obj.cells #[Value.bool false, Value.slice none 0 0] 83)); replace CB := CB.keep (below_alloc (Below.refl wd.heap.size wd) (Obj.cells #[Value.bool false, Value.slice none 0 0] 83)); replace RR := RR.keep (below_alloc (Below.refl wd.heap.size wd) (Obj.cells #[Value.bool false, Value.slice none 0 0] 83))
   replace HB := below_alloc HB (Obj.cells #[Value.bool false, Value.slice none 0 0] 83)
   generalize hWa : wd.alloc (Obj.cells #[Value.bool false, Value.slice none 0 0] 83) = wa at *
   generalize hba : wd.heap.size = ba at *
   refine wpAnyF_one (i := 5) (by kernel_rfl) rfl (fun K hK => ?_)
   go_simp
   (go_at_call 139; (with_reducible refine (wTimes_c X2 j _ _ V4.i2.out (by omega) (by omega) (by have := LX2.out; omega)).mono ?_); rintro e w5 ⟨v, rfl, hv, hb5⟩; obtain ⟨n5, A5, m5, k5, rfl, H5⟩ := hv.form; clear hv; rw [HP1.out] at H5; replace V4 := V4.keep hb5; replace V5 := V5.keep hb5; replace CA := CA.keep hb5; replace CB := CB.keep hb5; replace RR := RR.keep hb5; replace HB := below_step HB hb5)
   replace RA := RA.keep hb5
   clear hb5
   refine hK.out _ _ (by exact ⟨V4.c0, V4.c1, V4.c2, V4.c3, V4.c4, V4.c5, V5.c0, V5.c1, V5.c2, CA.c, CB.c⟩) (fun hHeld => ?_)
   clear hK K
   try go_frame
   refine wpAnyF_one (i := 6) (by kernel_rfl) rfl (fun K hK => ?_)
   go_simp
   (go_at_call 138; (with_reducible refine (wPlus_c X1 P1 _ _ _ (by exact V4.i1.out) H5.out (by have := LX1.out; omega) (by have := LP1.out; omega)).mono ?_); rintro e w6 ⟨v, rfl, hv, hb6⟩; obtain ⟨n6, A6, m6, k6, rfl, H6⟩ := hv.form; clear hv; rw [HP.out] at H6; replace V4 := V4.keep hb6; replace V5 := V5.keep hb6; replace CA := CA.keep hb6; replace CB := CB.keep hb6; replace RR := RR.keep hb6; replace HB := below_step HB hb6)
   replace RA := RA.keep hb6
   clear hb6
   refine hK.out _ _ (by exact ⟨V4.c0, V4.c1, V4.c2, V4.c3, V4.c4, V4.c5, V5.c0, V5.c1, V5.c2, CA.c, CB.c⟩) (fun hHeld => ?_)
   clear hK K
   try go_frame
   refine wpAnyF_st (i := 8) (by kernel_rfl) (by kernel_rfl) rfl (fun K hK => ?_)
   obtain ⟨⟨u1_, r1_⟩, ⟨u2_, u3_, u4_, r2_⟩, r3_, r4_, r5_⟩ := RA
   have RA : Res2 _ ba := ⟨⟨u1_, r1_⟩, ⟨u2_, u3_, u4_, r2_⟩, r3_, r4_, r5_⟩
   go_simp
   refine hK.out _ _ ?_
   clear hK K r1_ r2_ r3_ r4_ r5_
   try go_frame
   refine wpAnyF_done (by kernel_rfl) ?_ _
   clear hHeld
   have V9 := VX.store RA H6.out
   have hne4 : ba ≠ w.heap.size := by omega
   have hne5 : ba ≠ w.heap.size + 1 := by omega
   have hne6 : ba ≠ w.heap.size + 1 + 1 := by omega
   replace V4 := V4.far (p := .bool n6) (q := .slice A6 m6 k6) RA hne4
   replace V5 := V5.far (x := .bool n6) (y := .slice A6 m6 k6) RA hne5
   replace CA := CA.far2 (x := .bool n6) (y := .slice A6 m6 k6) RA
   replace CB := CB.far2 (x := .bool n6) (y := .slice A6 m6 k6) RA
   replace RR := RR.far (x := .bool n6) (y := .slice A6 m6 k6) hne6
   replace HB := below_set2 (b := ba) HB (by omega) (.bool n6) (.slice A6 m6 k6)
   go_wp2_with fail
   go_meet
   exact ⟨ba, n6, A6, m6, k6, rfl, by omega, V9, V4, V5, CA, CB, RR, HB⟩

 case rest =>
  clear V4 V5 CA CB RR HB
  obtain ⟨b9, n9, A9, m9, k9, rfl, hb9, V9, V4, V5, CA, CB, RR, HB⟩ := hcut
  have x0 := V9.c0; have x1 := V9.c1; have v0 := V5.c0
  go_wp2_with fail
  (with_reducible refine (wOver_c P d _ _ V9.iz.out (by omega) (by omega) (by have := LP.out; omega)).mono ?_)
  rintro e w2 ⟨v, rfl, hv, hb2⟩
  obtain ⟨ng, Ag, mg, kg, rfl, Hg⟩ := hv.form
  clear hv x0 x1 v0
  replace V4 := V4.keep hb2; replace V5 := V5.keep hb2; replace CA := CA.keep hb2; replace CB := CB.keep hb2; replace RR := RR.keep hb2; replace V9 := V9.keep hb2; replace HB := below_step HB hb2
  clear hb2
  rw [HRZ.out]
  have hba := below_alloc (Below.refl w2.heap.size w2) (Obj.cells #[Value.bool ng, Value.slice Ag mg kg] 83)
  go_upto_region 3 with fail
  replace V4 := V4.keep hba; replace V5 := V5.keep hba; replace CA := CA.keep hba; replace CB := CB.keep hba; replace RR := RR.keep hba; replace V9 := V9.keep hba; replace HB := below_step HB hba
  generalize hWa : w2.alloc (Obj.cells #[Value.bool ng, Value.slice Ag mg kg] 83) = wa at *
  clear hba Hg hWa
  replace V4 := V4.drew; replace V5 := V5.drew; replace CA := CA.drew; replace CB := CB.drew; replace RR := RR.drew; replace V9 := V9.drew
  replace HB := below_drew HB
  generalize hWd : wa.drew = wd at *
  refine wp_region_F (fun w' => w'.cell? ⟨w.heap.size, 0, none⟩ = some (.bool n1) ∧ w'.cell? ⟨w.heap.size, 1, none⟩ = some (.slice A1 m1 k1) ∧ w'.cell? ⟨w.heap.size, 2, none⟩ = some (.bool n2) ∧ w'.cell? ⟨w.heap.size, 3, none⟩ = some (.slice A2 m2 k2) ∧ w'.cell? ⟨w.heap.size, 4, none⟩ = some (.bool n3) ∧ w'.cell? ⟨w.heap.size, 5, none⟩ = some (.slice A3 m3 k3) ∧ w'.cell? ⟨(w.heap.size + 1), 0, none⟩ = some (.int .i64 d) ∧ w'.cell? ⟨(w.heap.size + 1), 1, none⟩ = some (.slice (some ⟨bA, oA, none⟩) n c) ∧ w'.cell? ⟨(w.heap.size + 1), 2, none⟩ = some (.slice (some ⟨bB, oB, none⟩) n' c') ∧ w'.cell? ⟨bA, oA + r, none⟩ = some (.int .i64 q) ∧ w'.cell? ⟨bB, oB + r, none⟩ = some (.int .i64 a) ∧ w'.cell? ⟨b9, 0, none⟩ = some (.bool n9) ∧ w'.cell? ⟨b9, 1, none⟩ = some (.slice A9 m9 k9)) [20] (by kernel_rfl) (by rw [hWd]; exact ⟨V4.c0, V4.c1, V4.c2, V4.c3, V4.c4, V4.c5, V5.c0, V5.c1, V5.c2, CA.c, CB.c, V9.c0, V9.c1⟩) (fun hHeld => ?_)
  rw [hWd] at hHeld ⊢
  refine tF 0 ({ dst := some 27, op := Go.Op.load 83 (Go.Operand.tmp 9), type := 83, pos := "cert.go:40", after := #[], guard := none }) hHeld ?_; try go_frame
  refine tF 1 ({ dst := some 28, op := Go.Op.fieldAddr 24 (Go.Operand.tmp 5) 1, type := 0, pos := "cert.go:40", after := #[], guard := none }) hHeld ?_; try go_frame
  refine tF 2 ({ dst := some 29, op := Go.Op.load 22 (Go.Operand.tmp 28), type := 22, pos := "cert.go:40", after := #[{ on := 1, ground := Go.Ground.data }], guard := none }) hHeld ?_; try go_frame
  refine tF 3 ({ dst := some 30, op := Go.Op.move (Go.Operand.tmp 11), type := 3, pos := "cert.go:40", after := #[], guard := none }) hHeld ?_; try go_frame
  refine tF 4 ({ dst := some 31, op := Go.Op.indexAddr 22 (Go.Operand.tmp 29) (Go.Operand.tmp 30), type := 0, pos := "cert.go:40", after := #[{ on := 2, ground := Go.Ground.data }, { on := 3, ground := Go.Ground.data }], guard := none }) hHeld ?_; try go_frame
  refine tF 5 ({ dst := some 32, op := Go.Op.load 3 (Go.Operand.tmp 31), type := 3, pos := "cert.go:40", after := #[{ on := 4, ground := Go.Ground.data }], guard := none }) hHeld ?_; try go_frame
  refine tF 7 ({ dst := some 34, op := Go.Op.fieldAddr 24 (Go.Operand.tmp 5) 2, type := 0, pos := "cert.go:40", after := #[], guard := none }) hHeld ?_; try go_frame
  refine tF 8 ({ dst := some 35, op := Go.Op.load 22 (Go.Operand.tmp 34), type := 22, pos := "cert.go:40", after := #[{ on := 7, ground := Go.Ground.data }], guard := none }) hHeld ?_; try go_frame
  refine tF 9 ({ dst := some 36, op := Go.Op.move (Go.Operand.tmp 11), type := 3, pos := "cert.go:40", after := #[], guard := none }) hHeld ?_; try go_frame
  refine tF 10 ({ dst := some 37, op := Go.Op.indexAddr 22 (Go.Operand.tmp 35) (Go.Operand.tmp 36), type := 0, pos := "cert.go:40", after := #[{ on := 8, ground := Go.Ground.data }, { on := 9, ground := Go.Ground.data }], guard := none }) hHeld ?_; try go_frame
  refine tF 11 ({ dst := some 38, op := Go.Op.load 3 (Go.Operand.tmp 37), type := 3, pos := "cert.go:40", after := #[{ on := 10, ground := Go.Ground.data }], guard := none }) hHeld ?_; try go_frame
  refine tF 14 ({ dst := some 41, op := Go.Op.fieldAddr 24 (Go.Operand.tmp 5) 0, type := 0, pos := "cert.go:40", after := #[], guard := none }) hHeld ?_; try go_frame
  refine tF 15 ({ dst := some 42, op := Go.Op.load 3 (Go.Operand.tmp 41), type := 3, pos := "cert.go:40", after := #[{ on := 14, ground := Go.Ground.data }], guard := none }) hHeld ?_; try go_frame
  refine wpAnyF_one (i := 6) (by kernel_rfl) rfl (fun K hK => ?_)
  go_simp
  (go_at_call 139; (with_reducible refine (wTimes_c P q _ _ V9.iz.out (by omega) (by omega) (by have := LP.out; omega)).mono ?_); rintro e w3 ⟨v, rfl, hv, hb3⟩; obtain ⟨n7, A7, m7, k7, rfl, H7⟩ := hv.form; clear hv; replace V4 := V4.keep hb3; replace V5 := V5.keep hb3; replace CA := CA.keep hb3; replace CB := CB.keep hb3; replace RR := RR.keep hb3; replace V9 := V9.keep hb3; replace HB := below_step HB hb3)
  refine hK.out _ _ (by exact ⟨V4.c0, V4.c1, V4.c2, V4.c3, V4.c4, V4.c5, V5.c0, V5.c1, V5.c2, CA.c, CB.c, V9.c0, V9.c1⟩) (fun hHeld => ?_)
  clear hK K
  try go_frame
  refine wpAnyF_one (i := 12) (by kernel_rfl) rfl (fun K hK => ?_)
  go_simp
  (go_at_call 58; (with_reducible refine (Small_c a _ (by omega) (by omega)).mono ?_); rintro e w4 ⟨v, rfl, hv, hb4⟩; obtain ⟨n4, A4, m4, k4, rfl, H4⟩ := hv.form; clear hv; replace V4 := V4.keep hb4; replace V5 := V5.keep hb4; replace CA := CA.keep hb4; replace CB := CB.keep hb4; replace RR := RR.keep hb4; replace V9 := V9.keep hb4; replace HB := below_step HB hb4; replace H7 := Lib.hid (H7.out.below hb4))
  refine hK.out _ _ (by exact ⟨V4.c0, V4.c1, V4.c2, V4.c3, V4.c4, V4.c5, V5.c0, V5.c1, V5.c2, CA.c, CB.c, V9.c0, V9.c1⟩) (fun hHeld => ?_)
  clear hK K
  try go_frame
  refine wpAnyF_one (i := 13) (by kernel_rfl) rfl (fun K hK => ?_)
  go_simp
  (go_at_call 138; (with_reducible refine (wPlus_c (P * q) a _ _ _ H7.out H4.out (by have := LPq.out; omega) (by have := La.out; omega)).mono ?_); rintro e w5 ⟨v, rfl, hv, hb5⟩; obtain ⟨n5, A5, m5, k5, rfl, H5⟩ := hv.form; clear hv; replace V4 := V4.keep hb5; replace V5 := V5.keep hb5; replace CA := CA.keep hb5; replace CB := CB.keep hb5; replace RR := RR.keep hb5; replace V9 := V9.keep hb5; replace HB := below_step HB hb5)
  refine hK.out _ _ (by exact ⟨V4.c0, V4.c1, V4.c2, V4.c3, V4.c4, V4.c5, V5.c0, V5.c1, V5.c2, CA.c, CB.c, V9.c0, V9.c1⟩) (fun hHeld => ?_)
  clear hK K
  try go_frame
  refine wpAnyF_one (i := 16) (by kernel_rfl) rfl (fun K hK => ?_)
  go_simp
  (go_at_call 140; (with_reducible refine (wOver_c (P * q + a) d _ _ H5.out (by omega) (by omega) (by have := LPa.out; omega)).mono ?_); rintro e w6 ⟨v, rfl, hv, hb6⟩; generalize (P * q + a) % (d : Int) = rr at *; obtain ⟨n6, A6, m6, k6, rfl, H6⟩ := hv.form; clear hv; replace V4 := V4.keep hb6; replace V5 := V5.keep hb6; replace CA := CA.keep hb6; replace CB := CB.keep hb6; replace RR := RR.keep hb6; replace V9 := V9.keep hb6; replace HB := below_step HB hb6; have RA := V9.res; obtain ⟨⟨u1, r1⟩, ⟨u2, u3, u4, r2⟩, r3, r4, r5⟩ := RA)
  refine hK.out _ _ (by exact ⟨V4.c0, V4.c1, V4.c2, V4.c3, V4.c4, V4.c5, V5.c0, V5.c1, V5.c2, CA.c, CB.c, V9.c0, V9.c1⟩) (fun hHeld => ?_)
  clear hK K
  try go_frame
  refine tF 17 ({ dst := some 26, op := Go.Op.move (Go.Operand.tmp 43), type := 180, pos := "cert.go:40", after := #[{ on := 16, ground := Go.Ground.data }], guard := none }) hHeld ?_; try go_frame
  refine tF 18 ({ dst := some 44, op := Go.Op.extract (Go.Operand.tmp 26) 0, type := 83, pos := "cert.go:40", after := #[{ on := 17, ground := Go.Ground.data }], guard := none }) hHeld ?_; try go_frame
  refine pF 19 ({ dst := some 45, op := Go.Op.extract (Go.Operand.tmp 26) 1, type := 3, pos := "cert.go:40", after := #[{ on := 17, ground := Go.Ground.data }, { on := 20, ground := Go.Ground.gcOnly Go.Departure.lateStores }], guard := none }) hHeld ?_; try go_frame
  refine wpAnyF_st (i := 20) (by kernel_rfl) (by kernel_rfl) rfl (fun K hK => ?_)
  go_simp
  refine hK.out _ _ ?_
  clear hK K
  try go_frame
  refine wpAnyF_done (by kernel_rfl) ?_ _
  clear hHeld hWd
  have hb9 : b9 < w6.heap.size := V9.lt
  have RA := V9.res
  have hne4 : b9 ≠ w.heap.size := by omega
  have hne5 : b9 ≠ w.heap.size + 1 := by omega
  have hne6 : b9 ≠ w.heap.size + 1 + 1 := by omega
  replace V4 := V4.far (p := .bool n6) (q := .slice A6 m6 k6) RA hne4
  replace V5 := V5.far (x := .bool n6) (y := .slice A6 m6 k6) RA hne5
  replace CA := CA.far2 (x := .bool n6) (y := .slice A6 m6 k6) RA
  replace CB := CB.far2 (x := .bool n6) (y := .slice A6 m6 k6) RA
  replace RR := RR.far (x := .bool n6) (y := .slice A6 m6 k6) hne6
  replace V9 := VX.store V9.res H6.out
  replace HB := below_set2 (b := b9) HB (by omega) (.bool n6) (.slice A6 m6 k6)
  generalize hW6 : (w6.setCell ⟨b9, 0, none⟩ (.bool n6)).setCell ⟨b9, 1, none⟩ (.slice A6 m6 k6) = W6 at *
  go_upto_region 4 with fail
  replace V4 := V4.drew; replace V5 := V5.drew; replace CA := CA.drew; replace CB := CB.drew; replace RR := RR.drew; replace V9 := V9.drew
  replace HB := below_drew HB
  clear hW6
  generalize hWd : W6.drew = wd at *
  refine wp_region_F (fun w' => w'.cell? ⟨w.heap.size, 0, none⟩ = some (.bool n1) ∧ w'.cell? ⟨w.heap.size, 1, none⟩ = some (.slice A1 m1 k1) ∧ w'.cell? ⟨w.heap.size, 2, none⟩ = some (.bool n2) ∧ w'.cell? ⟨w.heap.size, 3, none⟩ = some (.slice A2 m2 k2) ∧ w'.cell? ⟨w.heap.size, 4, none⟩ = some (.bool n3) ∧ w'.cell? ⟨w.heap.size, 5, none⟩ = some (.slice A3 m3 k3) ∧ w'.cell? ⟨(w.heap.size + 1), 0, none⟩ = some (.int .i64 d) ∧ w'.cell? ⟨(w.heap.size + 1), 1, none⟩ = some (.slice (some ⟨bA, oA, none⟩) n c) ∧ w'.cell? ⟨(w.heap.size + 1), 2, none⟩ = some (.slice (some ⟨bB, oB, none⟩) n' c') ∧ w'.cell? ⟨bA, oA + r, none⟩ = some (.int .i64 q) ∧ w'.cell? ⟨bB, oB + r, none⟩ = some (.int .i64 a) ∧ w'.cell? ⟨b9, 0, none⟩ = some (.bool n6) ∧ w'.cell? ⟨b9, 1, none⟩ = some (.slice A6 m6 k6)) [27] (by kernel_rfl) (by rw [hWd]; exact ⟨V4.c0, V4.c1, V4.c2, V4.c3, V4.c4, V4.c5, V5.c0, V5.c1, V5.c2, CA.c, CB.c, V9.c0, V9.c1⟩) (fun hHeld => ?_)
  rw [hWd] at hHeld ⊢
  refine tF 0 ({ dst := some 46, op := Go.Op.load 83 (Go.Operand.tmp 9), type := 83, pos := "cert.go:41", after := #[], guard := none }) hHeld ?_; try go_frame
  refine tF 1 ({ dst := some 47, op := Go.Op.fieldAddr 144 (Go.Operand.tmp 4) 1, type := 0, pos := "cert.go:41", after := #[], guard := none }) hHeld ?_; try go_frame
  refine tF 2 ({ dst := some 48, op := Go.Op.load 83 (Go.Operand.tmp 47), type := 83, pos := "cert.go:41", after := #[{ on := 1, ground := Go.Ground.data }], guard := none }) hHeld ?_; try go_frame
  refine tF 3 ({ dst := some 49, op := Go.Op.fieldAddr 24 (Go.Operand.tmp 5) 1, type := 0, pos := "cert.go:41", after := #[], guard := none }) hHeld ?_; try go_frame
  refine tF 4 ({ dst := some 50, op := Go.Op.load 22 (Go.Operand.tmp 49), type := 22, pos := "cert.go:41", after := #[{ on := 3, ground := Go.Ground.data }], guard := none }) hHeld ?_; try go_frame
  refine tF 5 ({ dst := some 51, op := Go.Op.move (Go.Operand.tmp 11), type := 3, pos := "cert.go:41", after := #[], guard := none }) hHeld ?_; try go_frame
  refine tF 6 ({ dst := some 52, op := Go.Op.indexAddr 22 (Go.Operand.tmp 50) (Go.Operand.tmp 51), type := 0, pos := "cert.go:41", after := #[{ on := 4, ground := Go.Ground.data }, { on := 5, ground := Go.Ground.data }], guard := none }) hHeld ?_; try go_frame
  refine tF 7 ({ dst := some 53, op := Go.Op.load 3 (Go.Operand.tmp 52), type := 3, pos := "cert.go:41", after := #[{ on := 6, ground := Go.Ground.data }], guard := none }) hHeld ?_; try go_frame
  refine tF 9 ({ dst := some 55, op := Go.Op.fieldAddr 144 (Go.Operand.tmp 4) 2, type := 0, pos := "cert.go:41", after := #[], guard := none }) hHeld ?_; try go_frame
  refine tF 10 ({ dst := some 56, op := Go.Op.load 83 (Go.Operand.tmp 55), type := 83, pos := "cert.go:41", after := #[{ on := 9, ground := Go.Ground.data }], guard := none }) hHeld ?_; try go_frame
  refine tF 11 ({ dst := some 57, op := Go.Op.fieldAddr 24 (Go.Operand.tmp 5) 1, type := 0, pos := "cert.go:41", after := #[], guard := none }) hHeld ?_; try go_frame
  refine tF 12 ({ dst := some 58, op := Go.Op.load 22 (Go.Operand.tmp 57), type := 22, pos := "cert.go:41", after := #[{ on := 11, ground := Go.Ground.data }], guard := none }) hHeld ?_; try go_frame
  refine tF 13 ({ dst := some 59, op := Go.Op.move (Go.Operand.tmp 11), type := 3, pos := "cert.go:41", after := #[], guard := none }) hHeld ?_; try go_frame
  refine tF 14 ({ dst := some 60, op := Go.Op.indexAddr 22 (Go.Operand.tmp 58) (Go.Operand.tmp 59), type := 0, pos := "cert.go:41", after := #[{ on := 12, ground := Go.Ground.data }, { on := 13, ground := Go.Ground.data }], guard := none }) hHeld ?_; try go_frame
  refine tF 15 ({ dst := some 61, op := Go.Op.load 3 (Go.Operand.tmp 60), type := 3, pos := "cert.go:41", after := #[{ on := 14, ground := Go.Ground.data }], guard := none }) hHeld ?_; try go_frame
  refine tF 17 ({ dst := some 63, op := Go.Op.move (Go.Operand.tmp 3), type := 3, pos := "cert.go:41", after := #[], guard := none }) hHeld ?_; try go_frame
  refine tF 19 ({ dst := some 65, op := Go.Op.fieldAddr 24 (Go.Operand.tmp 5) 2, type := 0, pos := "cert.go:41", after := #[], guard := none }) hHeld ?_; try go_frame
  refine tF 20 ({ dst := some 66, op := Go.Op.load 22 (Go.Operand.tmp 65), type := 22, pos := "cert.go:41", after := #[{ on := 19, ground := Go.Ground.data }], guard := none }) hHeld ?_; try go_frame
  refine tF 21 ({ dst := some 67, op := Go.Op.move (Go.Operand.tmp 11), type := 3, pos := "cert.go:41", after := #[], guard := none }) hHeld ?_; try go_frame
  refine tF 22 ({ dst := some 68, op := Go.Op.indexAddr 22 (Go.Operand.tmp 66) (Go.Operand.tmp 67), type := 0, pos := "cert.go:41", after := #[{ on := 20, ground := Go.Ground.data }, { on := 21, ground := Go.Ground.data }], guard := none }) hHeld ?_; try go_frame
  refine tF 23 ({ dst := some 69, op := Go.Op.load 3 (Go.Operand.tmp 68), type := 3, pos := "cert.go:41", after := #[{ on := 22, ground := Go.Ground.data }], guard := none }) hHeld ?_; try go_frame
  refine wpAnyF_one (i := 8) (by kernel_rfl) rfl (fun K hK => ?_)
  go_simp
  (go_at_call 139; (with_reducible refine (wTimes_c X2 q _ _ V4.i2.out (by omega) (by omega) (by have := LX2.out; omega)).mono ?_); rintro e w10 ⟨v, rfl, hv, hb10⟩; obtain ⟨n10, A10, m10, k10, rfl, H10⟩ := hv.form; clear hv; replace V4 := V4.keep hb10; replace V5 := V5.keep hb10; replace CA := CA.keep hb10; replace CB := CB.keep hb10; replace RR := RR.keep hb10; replace V9 := V9.keep hb10; replace HB := below_step HB hb10)
  refine hK.out _ _ (by exact ⟨V4.c0, V4.c1, V4.c2, V4.c3, V4.c4, V4.c5, V5.c0, V5.c1, V5.c2, CA.c, CB.c, V9.c0, V9.c1⟩) (fun hHeld => ?_)
  clear hK K
  try go_frame
  refine wpAnyF_one (i := 16) (by kernel_rfl) rfl (fun K hK => ?_)
  go_simp
  (go_at_call 139; (with_reducible refine (wTimes_c X3 q _ _ V4.i3.out (by omega) (by omega) (by have := LX3.out; omega)).mono ?_); rintro e w11 ⟨v, rfl, hv, hb11⟩; obtain ⟨n11, A11, m11, k11, rfl, H11⟩ := hv.form; clear hv; replace V4 := V4.keep hb11; replace V5 := V5.keep hb11; replace CA := CA.keep hb11; replace CB := CB.keep hb11; replace RR := RR.keep hb11; replace V9 := V9.keep hb11; replace HB := below_step HB hb11; replace H10 := Lib.hid (H10.out.below hb11))
  refine hK.out _ _ (by exact ⟨V4.c0, V4.c1, V4.c2, V4.c3, V4.c4, V4.c5, V5.c0, V5.c1, V5.c2, CA.c, CB.c, V9.c0, V9.c1⟩) (fun hHeld => ?_)
  clear hK K
  try go_frame
  refine wpAnyF_one (i := 18) (by kernel_rfl) rfl (fun K hK => ?_)
  go_simp
  (go_at_call 58; (with_reducible refine (Small_c div _ (by omega) (by omega)).mono ?_); rintro e w12 ⟨v, rfl, hv, hb12⟩; obtain ⟨n12, A12, m12, k12, rfl, H12⟩ := hv.form; clear hv; replace V4 := V4.keep hb12; replace V5 := V5.keep hb12; replace CA := CA.keep hb12; replace CB := CB.keep hb12; replace RR := RR.keep hb12; replace V9 := V9.keep hb12; replace HB := below_step HB hb12; replace H10 := Lib.hid (H10.out.below hb12); replace H11 := Lib.hid (H11.out.below hb12))
  refine hK.out _ _ (by exact ⟨V4.c0, V4.c1, V4.c2, V4.c3, V4.c4, V4.c5, V5.c0, V5.c1, V5.c2, CA.c, CB.c, V9.c0, V9.c1⟩) (fun hHeld => ?_)
  clear hK K
  try go_frame
  refine wpAnyF_one (i := 24) (by kernel_rfl) rfl (fun K hK => ?_)
  go_simp
  (go_at_call 139; (with_reducible refine (wTimes_c div a _ _ H12.out (by omega) (by omega) (by have := Ld.out; omega)).mono ?_); rintro e w13 ⟨v, rfl, hv, hb13⟩; obtain ⟨n13, A13, m13, k13, rfl, H13⟩ := hv.form; clear hv; replace V4 := V4.keep hb13; replace V5 := V5.keep hb13; replace CA := CA.keep hb13; replace CB := CB.keep hb13; replace RR := RR.keep hb13; replace V9 := V9.keep hb13; replace HB := below_step HB hb13; replace H10 := Lib.hid (H10.out.below hb13); replace H11 := Lib.hid (H11.out.below hb13))
  refine hK.out _ _ (by exact ⟨V4.c0, V4.c1, V4.c2, V4.c3, V4.c4, V4.c5, V5.c0, V5.c1, V5.c2, CA.c, CB.c, V9.c0, V9.c1⟩) (fun hHeld => ?_)
  clear hK K
  try go_frame
  refine wpAnyF_one (i := 25) (by kernel_rfl) rfl (fun K hK => ?_)
  go_simp
  (go_at_call 138; (with_reducible refine (wPlus_c (X3 * q) (div * a) _ _ _ H11.out H13.out (by have := LYq.out; omega) (by have := Lda.out; omega)).mono ?_); rintro e w14 ⟨v, rfl, hv, hb14⟩; obtain ⟨n14, A14, m14, k14, rfl, H14⟩ := hv.form; clear hv; replace V4 := V4.keep hb14; replace V5 := V5.keep hb14; replace CA := CA.keep hb14; replace CB := CB.keep hb14; replace RR := RR.keep hb14; replace V9 := V9.keep hb14; replace HB := below_step HB hb14; replace H10 := Lib.hid (H10.out.below hb14); have RRh := Lib.hid RR; obtain ⟨⟨f0, e0⟩, ⟨f1, f2, f3, e1⟩, ⟨f4, e2⟩, ⟨f5, f6, f7, e3⟩, ⟨f8, e4⟩, ⟨f9, fa, fb, e5⟩, hfz, hlt⟩ := RR; have z0 := hfz 0 (by omega); have z1 := hfz 1 (by omega); have z2 := hfz 2 (by omega); have z3 := hfz 3 (by omega); have z4 := hfz 4 (by omega); have z5 := hfz 5 (by omega))
  refine hK.out _ _ (by exact ⟨V4.c0, V4.c1, V4.c2, V4.c3, V4.c4, V4.c5, V5.c0, V5.c1, V5.c2, CA.c, CB.c, V9.c0, V9.c1⟩) (fun hHeld => ?_)
  clear hK K
  try go_frame
  refine tF 26 ({ dst := some 72, op := Go.Op.build 144 #[(0, Go.Operand.tmp 46), (1, Go.Operand.tmp 54), (2, Go.Operand.tmp 71)], type := 144, pos := "cert.go:41", after := #[{ on := 0, ground := Go.Ground.data }, { on := 8, ground := Go.Ground.data }, { on := 25, ground := Go.Ground.data }], guard := none }) hHeld ?_; try go_frame
  refine wpAnyF_st (i := 27) (by kernel_rfl) (by kernel_rfl) rfl (fun K hK => ?_)
  go_simp
  refine hK.out _ _ ?_
  clear hK K
  try go_frame
  refine wpAnyF_done (by kernel_rfl) ?_ _
  clear hHeld hWd
  have HBe := below_set6 (b := w.heap.size + 1 + 1) HB (by omega) (.bool n6) (.slice A6 m6 k6) (.bool n10) (.slice A10 m10 k10) (.bool n14) (.slice A14 m14 k14)
  have HK := RRh.out.kp (.bool n6) (.slice A6 m6 k6) (.bool n10) (.slice A10 m10 k10) (.bool n14) (.slice A14 m14 k14)
  have h6 := Lib.hid (HK.isZ V9.iz.out)
  have h10 := Lib.hid (HK.isZ H10.out)
  have h14 := Lib.hid (HK.isZ H14.out)
  obtain ⟨y0, y1, y2, y3, y4, y5⟩ := set6_cell RRh.out (.bool n6) (.slice A6 m6 k6) (.bool n10) (.slice A10 m10 k10) (.bool n14) (.slice A14 m14 k14)
  unfold set6 at HBe y0 y1 y2 y3 y4 y5 h6 h10 h14
  clear HK e0 e1 e2 e3 e4 e5 z0 z1 z2 z3 z4 z5 hfz hlt V4 V5 CA CB V9 RRh HB
  generalize hWe : (((((w14.setCell ⟨w.heap.size + 1 + 1, 0, none⟩ (.bool n6)).setCell ⟨w.heap.size + 1 + 1, 1, none⟩ (.slice A6 m6 k6)).setCell ⟨w.heap.size + 1 + 1, 2, none⟩ (.bool n10)).setCell ⟨w.heap.size + 1 + 1, 3, none⟩ (.slice A10 m10 k10)).setCell ⟨w.heap.size + 1 + 1, 4, none⟩ (.bool n14)).setCell ⟨w.heap.size + 1 + 1, 5, none⟩ (.slice A14 m14 k14) = We at *
  clear hWe
  go_wp2
  refine bodyPost_ret (v := .agg #[.bool n6, .slice A6 m6 k6, .bool n10, .slice A10 m10 k10, .bool n14, .slice A14 m14 k14]) (by simp [results, Tryz.results101, go_sem, y0, y1, y2, y3, y4, y5]) rfl ⟨_, rfl, ?_, HBe⟩
  rw [HNX.out]
  exact ⟨n6, A6, m6, k6, n10, A10, m10, k10, n14, A14, m14, k14, rfl, h6.out, h10.out, h14.out⟩
end Go.Proofs.YtibdipfhfaeooaaGreatDoor

