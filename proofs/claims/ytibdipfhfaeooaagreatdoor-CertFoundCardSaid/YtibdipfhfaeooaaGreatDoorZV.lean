/- slices.ContainsFunc at a certificate's loops; cert.form. No condition. -/
import Derived.Test.YtibdipfhfaeooaaGreatDoorZP
import Derived.Test.YtibdipfhfaeooaaGreatDoorZG
import Derived.Test.YtibdipfhfaeooaaGreatDoorZU
import Derived.Test.YtibdipfhfaeooaaGreatDoorZC
set_option linter.unusedVariables false
set_option linter.unusedSimpArgs false
namespace Go.Proofs.YtibdipfhfaeooaaGreatDoor
open Go.RowKit

/-- Is a string of a loop no number? -/
def badL (l : List ByteArray) : Bool := l.any fun s => !vldL (codes s)
theorem badL_iff {l : List ByteArray} : badL l = true ↔ ∃ j, j < l.length ∧ (!vldL (codes (gs l j))) = true := by
 unfold badL
 rw [List.any_eq_true]
 constructor
 ·rintro ⟨s, hs, h⟩
  obtain ⟨j, hj, rfl⟩ := List.mem_iff_getElem.1 hs
  exact ⟨j, hj, by rw [gs_lt hj]; exact h⟩
 ·rintro ⟨j, hj, h⟩
  exact ⟨gs l j, by rw [gs_lt hj]; exact List.getElem_mem hj, h⟩
set_option maxRecDepth 100000 in
set_option maxHeartbeats 2000000 in
theorem formL_c (l : List ByteArray) (A : Option Addr) (c : Nat) (w : World) (h : LsS w A c l) (hsz : ∀ s ∈ l, s.size ≤ 9223372036854775807) :
  Calls Tryz.prog 92 #[.agg #[.slice A l.length c]] w fun e w' => e = .returned (.bool (badL l)) ∧ Below w.heap.size w w' := by
 have HL := Lib.hid h
 have HZ : Hid (∀ j, j < l.length → (gs l j).size ≤ 9223372036854775807) := fun j hj => by rw [gs_lt hj]; exact hsz _ (List.getElem_mem hj)
 have HBW := below_alloc (Below.refl w.heap.size w) (Obj.cells #[Value.slice A l.length c] 45)
 have C3 := CL.new1 w 45 (.slice A l.length c)
 have HBA : Hid (badL l = true ↔ ∃ j, j < l.length ∧ (!vldL (codes (gs l j))) = true) := badL_iff
 have x0 := C3.c
 clear h hsz
 go_enter Tryz.func92, Tryz.ntmps92
 go_wp2_with fail
 (with_reducible refine (sContains_c A c l _ (HL.out.below HBW) HZ.out (badL l) HBA.out).mono ?_)
 rintro e w2 ⟨rfl, hb⟩
 replace HBW := below_step HBW hb
 go_wp2
 go_ret
 exact ⟨rfl, HBW⟩
set_option maxRecDepth 100000 in
set_option maxHeartbeats 2000000 in
theorem lIndex_c (A : Option Addr) (c : Nat) (l : List (List ByteArray)) (w : World) (h : LsB w A c l) (hsz : ∀ j, j < l.length → ∀ s ∈ lsi l j, s.size ≤ 9223372036854775807) :
  Calls Tryz.prog 132 #[.slice A l.length c, .func (.func 92) #[] #[]] w fun e w' => (∃ n : Int, e = .returned (.int .i64 n) ∧ (0 ≤ n ↔ ∃ j, j < l.length ∧ (badL (lsi l j)) = true)) ∧ Below w.heap.size w w' := by
 have HB : Below w.heap.size w w := Below.refl _ _
 have hcl := h.1
 have H1 := Lib.hid h
 clear h
 go_enter Tryz.func132, Tryz.ntmps132
 go_wp2_with fail
 go_loopg [8] l.length (fun gg iv wr => ∃ j : Nat, gg = l.length - j ∧ iv = .int .i64 j ∧ j ≤ l.length ∧ Below w.heap.size w wr ∧ Hid (∀ i, i < j → (badL (lsi l i)) = false))
 case atStart => exact ⟨0, rfl, rfl, Nat.zero_le _, HB, fun i hi => absurd hi (by omega)⟩
 case round =>
  clear HB
  obtain ⟨j, hgj, rfl, hj, HB, HI⟩ := hrel
  have hj0 : (0 : Int) ≤ (j : Int) := by omega
  by_cases hjl : j < l.length
  ·have hj1 : (j : Int) < (l.length : Int) := by omega
   obtain ⟨b1, o1, A1, c1, rfl, CC, hs1⟩ := (H1.out.below HB).2 j hjl
   have k1 := CC.c
   have hbl := CC.lt
   obtain ⟨x, hx⟩ : ∃ x, lsi l j = x := ⟨_, rfl⟩
   rw [hx] at k1 hs1
   have HS1 := Lib.hid hs1
   clear hs1 CC
   have HX := Lib.hid hx
   clear hx hbl
   cases hp : (badL x) with
   | true =>
    have HP := Lib.hid hp
    clear hp
    go_wp2_with fail
    (with_reducible refine (formL_c x A1 c1 _ HS1.out (by rw [← HX.out]; exact hsz j hjl)).mono ?_)
    rintro e w3 ⟨he, hb⟩
    obtain rfl : e = .returned (.bool true) := by rw [he, HP.out]
    clear he
    replace HB := below_step HB hb
    clear hb
    go_wp2
    go_ret
    exact ⟨⟨_, rfl, fun _ => ⟨j, hjl, by rw [HX.out]; exact HP.out⟩, fun _ => hj0⟩, HB⟩
   | false =>
    have HP := Lib.hid hp
    clear hp
    have HI2 : Hid (∀ i, i < j + 1 → (badL (lsi l i)) = false) := fun i hi => by
     rcases Nat.lt_or_ge i j with h2 | h2
     ·exact HI.out i h2
     ·obtain rfl : i = j := by omega
      rw [HX.out]; exact HP.out
    go_wp2_with fail
    (with_reducible refine (formL_c x A1 c1 _ HS1.out (by rw [← HX.out]; exact hsz j hjl)).mono ?_)
    rintro e w3 ⟨he, hb⟩
    obtain rfl : e = .returned (.bool false) := by rw [he, HP.out]
    clear he
    replace HB := below_step HB hb
    clear hb
    go_wp2
    go_roundg (l.length - (j + 1))
    case measure => omega
    case rel => exact ⟨j + 1, rfl, by go_num, by omega, HB, HI2⟩
  ·have hj1 : ¬ (j : Int) < (l.length : Int) := by omega
   go_wp2
   go_ret
   exact ⟨⟨_, rfl, fun h => absurd h (by decide), fun ⟨i, hi, hp⟩ => absurd hp (by have := HI.out i (by omega); simpa using this)⟩, HB⟩
set_option maxRecDepth 100000 in
set_option maxHeartbeats 2000000 in
theorem lContains_c (A : Option Addr) (c : Nat) (l : List (List ByteArray)) (w : World) (h : LsB w A c l) (hsz : ∀ j, j < l.length → ∀ s ∈ lsi l j, s.size ≤ 9223372036854775807) (B : Bool) (hB : B = true ↔ ∃ j, j < l.length ∧ (badL (lsi l j)) = true) :
  Calls Tryz.prog 91 #[.slice A l.length c, .func (.func 92) #[] #[]] w fun e w' => e = .returned (.bool B) ∧ Below w.heap.size w w' := by
 have hcl := h.1
 have H1 := Lib.hid h
 have HBB := Lib.hid hB
 clear h hB
 go_enter Tryz.func91, Tryz.ntmps91
 go_wp2_with fail
 (with_reducible refine (lIndex_c A c l _ H1.out hsz).mono ?_)
 rintro e w2 ⟨⟨n, rfl, hn⟩, hb⟩
 have HN := Lib.hid hn
 clear hn
 by_cases h0 : 0 ≤ n
 ·have HR : Hid (B = true) := HBB.out.2 (HN.out.1 h0)
  go_wp2
  go_ret
  exact ⟨by rw [HR.out] <;> rfl, hb⟩
 ·have HR : Hid (B = false) := by
   cases hq : B with
   | false => exact rfl
   | true => exact absurd (HN.out.2 (HBB.out.1 hq)) h0
  have hdf : decide (0 ≤ n) = false := decide_eq_false h0
  go_wp2
  go_ret
  exact ⟨by rw [HR.out] <;> rfl, hb⟩
/-- Has a certificate the form of one? -/
def formB (S : ByteArray) (L : List (List ByteArray)) : Bool := vldL (codes S) && !L.any badL
theorem lany {L : List (List ByteArray)} : L.any badL = true ↔ ∃ j, j < L.length ∧ badL (lsi L j) = true := by
 rw [List.any_eq_true]
 constructor
 ·rintro ⟨s, hs, h⟩
  obtain ⟨j, hj, rfl⟩ := List.mem_iff_getElem.1 hs
  exact ⟨j, hj, by rw [lsi_lt hj]; exact h⟩
 ·rintro ⟨j, hj, h⟩
  exact ⟨lsi L j, by rw [lsi_lt hj]; exact List.getElem_mem hj, h⟩
set_option maxRecDepth 100000 in
set_option maxHeartbeats 2000000 in
theorem form_c (K : Int) (S : ByteArray) (L : List (List ByteArray)) (A : Option Addr) (c : Nat) (w : World) (hS : S.size ≤ 9223372036854775807) (h : LsB w A c L) (hsz : ∀ l ∈ L, ∀ s ∈ l, s.size ≤ 9223372036854775807) :
  Calls Tryz.prog 48 #[.agg #[.int .i64 K, .string S, .slice A L.length c]] w fun e w' => e = .returned (.bool (formB S L)) ∧ Below w.heap.size w w' := by
 have HL := Lib.hid h
 have HZ : Hid (∀ j, j < L.length → ∀ s ∈ lsi L j, s.size ≤ 9223372036854775807) := fun j hj => by rw [lsi_lt hj]; exact hsz _ (List.getElem_mem hj)
 have HBW := below_alloc (Below.refl w.heap.size w) (Obj.cells #[Value.int .i64 K, Value.string S, Value.slice A L.length c] 27)
 have V3 := VQ.new (x := .int .i64 K) (y := .string S) (z := .slice A L.length c) w 27
 have HFB : Hid (formB S L = (vldL (codes S) && !L.any badL)) := rfl
 have HLA : Hid (L.any badL = true ↔ ∃ j, j < L.length ∧ badL (lsi L j) = true) := lany
 generalize formB S L = R at *
 have x1 := V3.c1; have x2 := V3.c2
 clear h hsz
 cases hv : vldL (codes S) with
 | false =>
  have HR : Hid (R = false) := by show _ = _; rw [HFB.out, hv]; rfl
  have HV := Lib.hid hv
  clear hv
  go_enter Tryz.func48, Tryz.ntmps48
  go_wp2_with fail
  (with_reducible refine (nValid_c S _ hS).mono ?_)
  rintro e w2 ⟨he, hb⟩
  obtain rfl : e = .returned (.bool false) := by rw [he, HV.out]
  clear he
  replace HBW := below_step HBW hb
  go_wp2
  go_ret
  exact ⟨by rw [HR.out] <;> rfl, HBW⟩
 | true =>
  have HR : Hid (R = !L.any badL) := by show _ = _; rw [HFB.out, hv]; rfl
  have HV := Lib.hid hv
  clear hv
  go_enter Tryz.func48, Tryz.ntmps48
  go_wp2_with fail
  (with_reducible refine (nValid_c S _ hS).mono ?_)
  rintro e w2 ⟨he, hb⟩
  obtain rfl : e = .returned (.bool true) := by rw [he, HV.out]
  clear he
  replace HBW := below_step HBW hb
  replace V3 := V3.keep hb
  clear hb x1 x2
  have x1 := V3.c1; have x2 := V3.c2
  cases hq : L.any badL with
  | false =>
   have HR2 : Hid (R = true) := by show _ = _; rw [HR.out, hq]; rfl
   have HQ : Hid (¬ ∃ j, j < L.length ∧ badL (lsi L j) = true) := fun h => by have := HLA.out.2 h; rw [hq] at this; cases this
   clear hq
   go_wp2_with fail
   (with_reducible refine (lContains_c A c L _ (HL.out.below HBW) HZ.out false ⟨fun h => (by cases h), fun h => absurd h HQ.out⟩).mono ?_)
   rintro e w3 ⟨rfl, hb⟩
   replace HBW := below_step HBW hb
   go_wp2
   go_ret
   exact ⟨by rw [HR2.out] <;> rfl, HBW⟩
  | true =>
   have HR2 : Hid (R = false) := by show _ = _; rw [HR.out, hq]; rfl
   have HQ : Hid (∃ j, j < L.length ∧ badL (lsi L j) = true) := HLA.out.1 hq
   clear hq
   go_wp2_with fail
   (with_reducible refine (lContains_c A c L _ (HL.out.below HBW) HZ.out true ⟨fun _ => HQ.out, fun _ => rfl⟩).mono ?_)
   rintro e w3 ⟨rfl, hb⟩
   replace HBW := below_step HBW hb
   go_wp2
   go_ret
   exact ⟨by rw [HR2.out] <;> rfl, HBW⟩
end Go.Proofs.YtibdipfhfaeooaaGreatDoor


set_option linter.unusedVariables false
set_option linter.unusedSimpArgs false
namespace Go.Proofs.YtibdipfhfaeooaaGreatDoor
open Go.RowKit

theorem formB_ok {Bz : Int} {ls : List (List Int)} (hB : dlN Bz.natAbs ≤ 2000) (hz : ∀ l ∈ ls, ∀ z ∈ l, dlN z.natAbs ≤ 2000) : formB (tS Bz) (ls.map fun l => l.map tS) = true := by
 unfold formB
 rw [vld_tS hB, Bool.true_and]
 cases e : (ls.map fun l => l.map tS).any badL with
 | false => rfl
 | true =>
  exfalso
  obtain ⟨l, hl, hb⟩ := List.any_eq_true.1 e
  obtain ⟨l2, h2, rfl⟩ := List.mem_map.1 hl
  unfold badL at hb
  obtain ⟨s, hs, hv⟩ := List.any_eq_true.1 hb
  obtain ⟨q, hq, rfl⟩ := List.mem_map.1 hs
  rw [vld_tS (hz l2 h2 q hq)] at hv
  cases hv
/-- A certificate's form: numbers. -/
theorem formB_iff {S : ByteArray} {L : List (List ByteArray)} (h : formB S L = true) : ∃ (Bz : Int) (ls : List (List Int)), S = tS Bz ∧ L = ls.map (fun l => l.map tS) ∧ dlN Bz.natAbs ≤ 2000 ∧ ∀ l ∈ ls, ∀ z ∈ l, dlN z.natAbs ≤ 2000 := by
 unfold formB at h
 rw [Bool.and_eq_true] at h
 obtain ⟨h1, h2⟩ := h
 obtain ⟨Bz, rfl, hB⟩ := dig_of_valid h1
 have hL : ∀ l ∈ L, ∀ s ∈ l, vldL (codes s) = true := fun l hl s hs => by
  cases e : vldL (codes s) with
  | true => rfl
  | false =>
   exfalso
   have : L.any badL = true := List.any_eq_true.2 ⟨l, hl, List.any_eq_true.2 ⟨s, hs, by rw [e]; rfl⟩⟩
   rw [this] at h2
   cases h2
 have hl1 : ∀ l : List ByteArray, (∀ s ∈ l, vldL (codes s) = true) → ∃ q : List Int, l = q.map tS ∧ ∀ z ∈ q, dlN z.natAbs ≤ 2000 := by
  intro l
  induction l with
  | nil => intro _; exact ⟨[], rfl, fun z h => by cases h⟩
  | cons a l ih =>
   intro h
   obtain ⟨q, rfl, hq⟩ := ih fun s hs => h s (.tail _ hs)
   obtain ⟨z, rfl, hz⟩ := dig_of_valid (h a (.head _))
   exact ⟨z :: q, rfl, fun y hy => by rcases List.mem_cons.1 hy with rfl | hy; exact hz; exact hq y hy⟩
 have hl2 : ∀ L : List (List ByteArray), (∀ l ∈ L, ∀ s ∈ l, vldL (codes s) = true) → ∃ ls : List (List Int), L = ls.map (fun l => l.map tS) ∧ ∀ l ∈ ls, ∀ z ∈ l, dlN z.natAbs ≤ 2000 := by
  intro L
  induction L with
  | nil => intro _; exact ⟨[], rfl, fun l h => by cases h⟩
  | cons a L ih =>
   intro h
   obtain ⟨ls, e, hls⟩ := ih fun l hl => h l (.tail _ hl)
   obtain ⟨q, e2, hq⟩ := hl1 a (h a (.head _))
   exact ⟨q :: ls, by rw [e, e2]; rfl, fun y hy => by rcases List.mem_cons.1 hy with rfl | hy; exact hq; exact hls y hy⟩
 obtain ⟨ls, e, hls⟩ := hl2 L hL
 exact ⟨Bz, ls, rfl, e, hB, hls⟩
theorem tS_max {z : Int} (h : dlN z.natAbs ≤ 2000) : (tS z).size ≤ 9223372036854775807 := tS_sz h
set_option maxRecDepth 100000 in
set_option maxHeartbeats 8000000 in
/-- A certificate that has the form of one, for a map. -/
theorem Check_c (M : Mp) (K Bz : Int) (ls : List (List Int)) (v : Value) (A : Option Addr) (c : Nat) (w : World) (hM : IsM w v M) (hok : okM M) (hBz : dlN Bz.natAbs ≤ 2000) (hL : LsL w A c ls) (hz : ∀ l ∈ ls, ∀ z ∈ l, dlN z.natAbs ≤ 2000) (ht : Tb w) (B : Bool) (hB : B = true ↔ (1 ≤ K ∧ Acc M K.toNat Bz ls)) :
  Calls Tryz.prog 14 #[v, .agg #[.int .i64 K, .string (tS Bz), .slice A ls.length c]] w fun e w' => e = .returned (.tuple #[.bool B, .int .i64 0]) ∧ Below w.heap.size w w' := by
 have HOK : Hid (okB M = true) := okB_iff.2 hok
 have HFO := Lib.hid (formB_ok hBz hz)
 have HL := Lib.hid hL
 have HTB := Lib.hid ht
 have HAC : Hid (∀ (u : Value) {W : World}, IsM W u M → LsL W A c ls → Tb W → Calls Tryz.prog 49 #[u, .agg #[.int .i64 K, .string (tS Bz), .slice A ls.length c]] W fun e w' => e = .returned (.bool B) ∧ Below W.heap.size W w') := fun u W h1 h2 h3 => accepted_c M K Bz ls u A c W h1 hok hBz h2 hz h3 B hB
 have hsz0 := tS_max hBz
 have hsz : ∀ l ∈ ls.map (fun l => l.map tS), ∀ s ∈ l, s.size ≤ 9223372036854775807 := fun l hl s hs => by
  obtain ⟨l2, h2, rfl⟩ := List.mem_map.1 hl
  obtain ⟨q, hq, rfl⟩ := List.mem_map.1 hs
  exact tS_max (hz l2 h2 q hq)
 have hll : (ls.map fun l => l.map tS).length = ls.length := List.length_map _
 obtain ⟨LL, hLL⟩ : ∃ LL, ls.map (fun l => l.map tS) = LL := ⟨_, rfl⟩
 have HLE := Lib.hid hLL
 rw [hLL] at hsz hll HFO
 have HLB : Hid (LsB w A c LL) := by rw [← hLL]; exact hL
 rw [← hll] at HAC ⊢
 clear hok hL hLL hz ht hB hll
 obtain ⟨md, Am, nm, cm, A', n', c', rfl, HM⟩ := hM.form
 go_enter Tryz.func14, Tryz.ntmps14
 go_upto_region 1 with fail
 generalize hW : (w.alloc (Obj.cells #[Value.int .i64 md, Value.slice Am nm cm, Value.slice A' n' c'] 24)).alloc _ = W
 have HB : Below w.heap.size w W := by subst hW; exact below_alloc (below_alloc (Below.refl _ _) _) _
 have V3 : VM W w.heap.size md Am nm cm A' n' c' M := by subst hW; exact (VM.new w 24 HM.out).keep (below_alloc (Below.refl _ _) _)
 have VP : VQ W (w.heap.size + 1) (.int .i64 K) (.string (tS Bz)) (.slice A LL.length c) := by
  subst hW
  have := VQ.new (x := .int .i64 K) (y := .string (tS Bz)) (z := .slice A LL.length c) (w.alloc (Obj.cells #[Value.int .i64 md, Value.slice Am nm cm, Value.slice A' n' c'] 24)) 27
  rwa [show (w.alloc (Obj.cells #[Value.int .i64 md, Value.slice Am nm cm, Value.slice A' n' c'] 24)).heap.size = w.heap.size + 1 by simp] at this
 clear hW HM
 have m0 := V3.c0; have m1 := V3.c1; have m2 := V3.c2
 go_wp2_with fail
 (with_reducible refine (SValid_c M _ _ V3.im.out).mono ?_)
 rintro e w4 ⟨he, hb⟩
 obtain rfl : e = .returned (.bool true) := by rw [he, HOK.out]
 clear he m0 m1 m2
 replace HB := below_step HB hb
 replace V3 := V3.keep hb
 replace VP := VP.keep hb
 clear hb
 have p0 := VP.c0; have p1 := VP.c1; have p2 := VP.c2
 go_wp2_with fail
 (with_reducible refine (form_c K (tS Bz) LL A c _ hsz0 (HLB.out.below HB) hsz).mono ?_)
 rintro e w5 ⟨he, hb⟩
 obtain rfl : e = .returned (.bool true) := by rw [he, HFO.out]
 clear he p0 p1 p2
 replace HB := below_step HB hb
 replace V3 := V3.keep hb
 replace VP := VP.keep hb
 clear hb
 have m0 := V3.c0; have m1 := V3.c1; have m2 := V3.c2
 have p0 := VP.c0; have p1 := VP.c1; have p2 := VP.c2
 go_wp2_with fail
 (with_reducible refine (HAC.out _ V3.im.out (HL.out.below HB) (HTB.out.below HB)).mono ?_)
 rintro e w6 ⟨rfl, hb⟩
 replace HB := below_step HB hb
 clear m0 m1 m2 p0 p1 p2
 go_wp2
 go_ret2
 exact ⟨rfl, HB⟩
end Go.Proofs.YtibdipfhfaeooaaGreatDoor

