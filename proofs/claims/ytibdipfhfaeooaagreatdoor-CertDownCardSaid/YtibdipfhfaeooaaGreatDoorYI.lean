/- The plain law behind CertDown: the cycle to which fate leads a number is the loop that its orbit meets. No condition. -/
import Derived.Test.YtibdipfhfaeooaaGreatDoorZM
import Derived.Test.YtibdipfhfaeooaaGreatDoorYF
import Derived.Test.YtibdipfhfaeooaaGreatDoorYE
set_option linter.unusedVariables false
set_option linter.unusedSimpArgs false
namespace Go.Proofs.YtibdipfhfaeooaaGreatDoor

theorem loop_fit {M : Mp} {l : List Int} (hl : LoopOK M l) {x : Int} (hx : x ∈ l) : dl x ≤ 2000 := by
 obtain ⟨i, hi, rfl⟩ := List.mem_iff_getElem.1 hx
 rw [← gd_lt hi]
 exact hl.fit i hi
theorem loop_step {M : Mp} {l : List Int} (hl : LoopOK M l) {x : Int} (hx : x ∈ l) : stepZ M x ∈ l := by
 have := ((hl.reach hx).2 1).1
 exact this
theorem fate_of_loop {M : Mp} {l : List Int} (hl : LoopOK M l) {n : Int} {t0 : Nat} (ht0 : t0 ≤ 1500) (hin : itZ M n t0 ∈ l) (hfit : ∀ j, j < t0 → dl (itZ M n j) ≤ 2000) : ∃ t, flwA M (20000 + 1) [] n = (0, t, l) := by
 have hst : ∀ k, itZ M n (t0 + k) ∈ l ∧ gd l 0 ≤ itZ M n (t0 + k) := fun k => by
  have := (hl.reach hin).2 k
  rw [itZ_add] at this
  exact this
 have hall : ∀ j, dl (itZ M n j) ≤ 2000 := fun j => by
  rcases Nat.lt_or_ge j t0 with h | h
  ·exact hfit j h
  ·have := (hst (j - t0)).1
   rw [show t0 + (j - t0) = j by omega] at this
   exact loop_fit hl this
 have hlen := hl.len1
 have hpos := hl.len0
 rcases flwA_FS M n 20000 with ⟨-, j, -, h, -⟩ | ⟨-, -, h⟩ | ⟨t, s, L, e, hL, hm, hs1, hs2, -, hp, hd, hle⟩
 ·have := hall j
  omega
 ·exfalso
  obtain ⟨i, hi, e⟩ := List.mem_iff_getElem.1 hin
  have h1 := hl.it hi l.length
  rw [Nat.add_mod_right, Nat.mod_eq_of_lt hi, gd_lt hi, e, itZ_add] at h1
  exact h t0 (t0 + l.length) (by omega) (by omega) h1.symm
 ·refine ⟨t, ?_⟩
  rw [e]
  have hLs : ∀ m, itZ M n (s + L * m) = itZ M n s := fun m => by
   rw [per_low hL hp (show t ≤ s + L * m by omega), show s + L * m - t = (s - t) + L * m by omega, Nat.add_mul_mod_self_left, Nat.mod_eq_of_lt (by omega), show t + (s - t) = s by omega]
  have hs : itZ M n s ∈ l := by
   have h1 := (hst (s + L * t0 - t0)).1
   have h2 : t0 ≤ L * t0 := Nat.le_mul_of_pos_left t0 hL
   rw [show t0 + (s + L * t0 - t0) = s + L * t0 by omega, hLs] at h1
   exact h1
  have hh : itZ M n s = gd l 0 := by
   obtain ⟨⟨k, hk⟩, h2⟩ := hl.reach hs
   have h3 := (h2 0).2
   rw [itZ_add] at hk
   have h4 := hle (s + k) (by omega)
   have h5 : itZ M (itZ M n s) 0 = itZ M n s := rfl
   rw [h5] at h3
   omega
  have hg : ∀ i, itZ M n (s + i) = gd l (i % l.length) := fun i => by
   have h1 := hl.it hpos i
   rw [← hh, itZ_add, Nat.zero_add] at h1
   exact h1
  have h1 : L ≤ l.length := by
   rcases Nat.lt_or_ge l.length L with h | h
   ·exfalso
    refine per_dist hL hp hd hs1 (show s < s + l.length by omega) (by omega) ?_
    rw [hg, Nat.mod_self, hh]
   ·exact h
  have h2 : l.length ≤ L := by
   rcases Nat.lt_or_ge L l.length with h | h
   ·exfalso
    refine hl.dist 0 L hL h ?_
    have h3 := hLs 1
    rw [Nat.mul_one, hg, Nat.mod_eq_of_lt h, hh] at h3
    exact h3.symm
   ·exact h
  have hLl : L = l.length := by omega
  congr 2
  apply List.ext_getElem
  ·simp [hLl]
  ·intro i h3 h4
   rw [List.getElem_map, List.getElem_range, hg, Nat.mod_eq_of_lt h4, gd_lt h4]
/-- Which loop has a number. -/
def AtL (ls : List (List Int)) (x : Int) (a : Int) : Prop := (a = -1 ∧ ∀ q, q < ls.length → x ∉ lpi ls q) ∨ ∃ q : Nat, a = (q : Int) ∧ q < ls.length ∧ x ∈ lpi ls q
theorem AtL.next {M : Mp} {ls : List (List Int)} (hl : LoopsOK M ls) {x : Int} {q : Nat} (hq : q < ls.length) (hx : x ∈ lpi ls q) {a : Int} (h : AtL ls (stepZ M x) a) : a = (q : Int) := by
 have h1 := loop_step (hl.1 q hq) hx
 rcases h with ⟨-, h2⟩ | ⟨q2, rfl, h2, h3⟩
 ·exact absurd h1 (h2 q hq)
 ·rw [loops_one hl h2 hq h3 h1]
end Go.Proofs.YtibdipfhfaeooaaGreatDoor


set_option linter.unusedVariables false
set_option linter.unusedSimpArgs false
namespace Go.Proofs.YtibdipfhfaeooaaGreatDoor
open Go.RowKit

def LoR (ls : List (List Int)) (x : Int) (e : Ending) : Prop := ∃ a : Int, e = .returned (.int .i64 a) ∧ AtL ls x a
set_option maxRecDepth 100000 in
set_option maxHeartbeats 8000000 in
theorem loopOf_c (ls : List (List Int)) (z : Int) (A : Option Addr) (c : Nat) (w : World) (hL : LsL w A c ls) :
  Calls Tryz.prog 36 #[.slice A ls.length c, .string (tS z)] w fun e w' => LoR ls z e ∧ Below w.heap.size w w' := by
 have HB : Below w.heap.size w w := Below.refl _ _
 have HL := Lib.hid hL
 have hlc : ls.length ≤ 9223372036854775807 := by
  have := hL.1
  rw [List.length_map] at this
  omega
 obtain ⟨n, hn⟩ : ∃ n, ls.length = n := ⟨_, rfl⟩
 have HN := Lib.hid hn
 rw [hn] at hlc ⊢
 clear hL hn
 go_enter Tryz.func36, Tryz.ntmps36
 go_wp2_with fail
 go_loopg [5] n (fun g iv wr => ∃ i : Nat, g = n - i ∧ iv = .int .i64 i ∧ i ≤ n ∧ Below w.heap.size w wr ∧ Hid (∀ j, j < i → z ∉ lpi ls j))
 case atStart => exact ⟨0, rfl, rfl, Nat.zero_le _, HB, fun j h => absurd h (by omega)⟩
 case round =>
  clear HB
  obtain ⟨i, hgi, rfl, hi, HB, HI⟩ := hrel
  have hi0 : (0 : Int) ≤ (i : Int) := by omega
  by_cases hin : i < n
  ·have hi1 : (i : Int) < (n : Int) := by omega
   have HIL : Hid (i < ls.length) := by show _ < _; rw [HN.out]; exact hin
   obtain ⟨bA, oA, rfl⟩ := HL.out.ptr (by rw [List.length_map]; have := HIL.out; omega)
   obtain ⟨A1, c1, CA, hs1⟩ := (HL.out.below HB).atL (j := i) HIL.out
   obtain ⟨x, hx⟩ : ∃ x, lpi ls i = x := ⟨_, rfl⟩
   rw [hx] at CA hs1
   have HX := Lib.hid hx
   obtain ⟨n1, hn1⟩ : ∃ n1, x.length = n1 := ⟨_, rfl⟩
   rw [hn1] at CA
   have HN1 := Lib.hid hn1
   have hl1 : n1 ≤ 9223372036854775807 := by have := hs1.2; rw [List.length_map] at this; omega
   have HS1 := Lib.hid hs1
   clear hx hn1 hs1
   have q0 := CA.c
   go_wp2_with fail
   clear q0
   go_loopg [6] n1 (fun g kv wz => ∃ k : Nat, g = n1 - k ∧ kv = .int .i64 k ∧ k ≤ n1 ∧ CL wz bA (oA + i) (.slice A1 n1 c1) ∧ Hid (LsS wz A1 c1 (x.map tS)) ∧ Below w.heap.size w wz ∧ Hid (∀ j, j < k → gd x j ≠ z))
   case atStart => exact ⟨0, rfl, rfl, Nat.zero_le _, CA, HS1, HB, fun j h => absurd h (by omega)⟩
   case round =>
    clear CA HS1 HB
    obtain ⟨k, hgk, rfl, hk, CA, HS1, HB, HK⟩ := hrel
    have hk0 : (0 : Int) ≤ (k : Int) := by omega
    have q0 := CA.c
    by_cases hkn : k < n1
    ·have hk1 : (k : Int) < (n1 : Int) := by omega
     have HKL : Hid (k < x.length) := by show _ < _; rw [HN1.out]; exact hkn
     obtain ⟨b1, o1, rfl, hlt1, hc1⟩ := HS1.out.cell (j := k) (by rw [List.length_map]; exact HKL.out)
     rw [gsm _ HKL.out] at hc1
     clear hlt1
     by_cases he : gd x k = z
     ·have HR : Hid (LoR ls z (.returned (.int .i64 (i : Int)))) := ⟨_, rfl, .inr ⟨i, rfl, HIL.out, by rw [HX.out, ← he, gd_lt HKL.out]; exact List.getElem_mem HKL.out⟩⟩
      have hb1 : ((tS (gd x k)).toList == (tS z).toList) = true := by rw [bsBeq]; exact decide_eq_true (by rw [he])
      clear he HI HK
      go_wp2
      go_ret
      exact ⟨HR.out, HB⟩
     ·have hb1 : ((tS (gd x k)).toList == (tS z).toList) = false := by rw [bsBeq]; exact decide_eq_false (fun e => he (tS_inj e))
      have HK2 : Hid (∀ j, j < k + 1 → gd x j ≠ z) := fun j hj => by
       rcases Nat.lt_or_ge j k with h | h
       ·exact HK.out j h
       ·obtain rfl : j = k := by omega
        exact he
      clear he HK
      go_wp2
      go_roundg (n1 - (k + 1))
      case measure => omega
      case rel => exact ⟨k + 1, rfl, by go_num, by omega, CA, HS1, HB, HK2⟩
    ·obtain rfl : k = n1 := by omega
     have hk1 : ¬ (k : Int) < (k : Int) := by omega
     have HI2 : Hid (∀ j, j < i + 1 → z ∉ lpi ls j) := fun j hj => by
      rcases Nat.lt_or_ge j i with h | h
      ·exact HI.out j h
      ·obtain rfl : j = i := by omega
       rw [HX.out]
       intro hm
       obtain ⟨q, hq, e⟩ := List.mem_iff_getElem.1 hm
       exact HK.out q (by rw [← HN1.out]; exact hq) (by rw [gd_lt hq]; exact e)
     clear HI HK
     go_wp2
     go_roundg (n - (i + 1))
     case measure => omega
     case rel => exact ⟨i + 1, rfl, by go_num, by omega, HB, HI2⟩
  ·obtain rfl : i = n := by omega
   have hi1 : ¬ (i : Int) < (i : Int) := by omega
   have HR : Hid (LoR ls z (.returned (.int .i64 (-1)))) := ⟨_, rfl, .inl ⟨rfl, fun q hq => HI.out q (by rw [← HN.out]; exact hq)⟩⟩
   clear HI
   go_wp2
   go_ret
   exact ⟨HR.out, HB⟩
/-- What End told, as a string and an error. -/
theorem EndR.form {M : Mp} {ls : List (List Int)} {n : Int} {e : Ending} (h : EndR M ls n e) : ∃ nm f, e = .returned (.tuple #[.string nm, .int .i64 f]) ∧ EndR M ls n (.returned (.tuple #[.string nm, .int .i64 f])) := by
 have h2 := h
 rcases h with ⟨t, i, -, -, -, -, -, e1⟩ | ⟨t, -, -, -, -, e1⟩
 ·exact ⟨_, _, e1, by rw [← e1]; exact h2⟩
 ·exact ⟨_, _, e1, by rw [← e1]; exact h2⟩
theorem EndR.err {M : Mp} {ls : List (List Int)} {n : Int} {nm : ByteArray} {f : Int} (h : EndR M ls n (.returned (.tuple #[.string nm, .int .i64 f]))) : f = 0 ∨ f = 3 := by
 rcases h with ⟨t, i, -, -, -, -, -, e1⟩ | ⟨t, -, -, -, -, e1⟩
 ·injection e1 with e1
  simp at e1
  exact .inl e1.2
 ·injection e1 with e1
  simp at e1
  exact .inr e1.2
/-- What End told of a number whose orbit meets a loop early. -/
theorem EndR.named {M : Mp} {ls : List (List Int)} {n : Int} {nm : ByteArray} {f : Int} (hl : LoopsOK M ls) (h : EndR M ls n (.returned (.tuple #[.string nm, .int .i64 f]))) {t0 q : Nat} (ht0 : t0 ≤ 1500) (hq : q < ls.length) (hin : itZ M n t0 ∈ lpi ls q) (hfit : ∀ j, j ≤ t0 → dl (itZ M n j) ≤ 2000) : f = 0 ∧ nm = tS (gd (lpi ls q) 0) := by
 rcases h with ⟨t, i, -, hi, h1, h2, -, e1⟩ | ⟨t, -, h2, -, h3, -⟩
 ·injection e1 with e1
  simp at e1
  refine ⟨e1.2, ?_⟩
  rw [e1.1]
  have ht : t ≤ t0 := by
   apply Classical.byContradiction
   intro h
   exact h2 t0 (by omega) q hq hin
  have h3 := ((hl.1 i hi).reach h1).2 (t0 - t)
  rw [itZ_add, show t + (t0 - t) = t0 by omega] at h3
  rw [loops_one hl hi hq h3.1 hin]
 ·exfalso
  have ht : t ≤ t0 := by
   apply Classical.byContradiction
   intro h
   exact h2 t0 (by omega) q hq hin
  rcases h3 with h3 | h3
  ·omega
  ·have := hfit t ht
   omega
/-- One loop of a slice of loops, as a slice; a slice of one loop. -/
theorem LsB.sub {w : World} {b o c : Nat} {ls : List (List Int)} (h : LsL w (some ⟨b, o, none⟩) c ls) {q : Nat} (hq : q < ls.length) : LsB w (some ⟨b, o + q, none⟩) (c - q) [(lpi ls q).map tS] := by
 have h1 := h.1
 rw [List.length_map] at h1
 refine ⟨by simp; omega, fun j hj => ?_⟩
 have e : j = 0 := by simpa using hj
 subst e
 obtain ⟨A1, c1, h2, h3⟩ := h.atL hq
 rw [show lsi [(lpi ls q).map tS] 0 = (lpi ls q).map tS from rfl, List.length_map]
 exact ⟨b, o + q, A1, c1, rfl, h2, h3⟩
theorem LsB.one {w : World} {A : Option Addr} {c : Nat} {l : List Int} (h : LsS w A c (l.map tS)) (t : TypeId) : LsB (w.alloc (.cells #[.slice A l.length c] t)) (some ⟨w.heap.size, 0, none⟩) 1 [l.map tS] := by
 refine ⟨by simp, fun j hj => ?_⟩
 have e : j = 0 := by simpa using hj
 subst e
 rw [show lsi [l.map tS] 0 = l.map tS from rfl, List.length_map]
 exact ⟨_, 0, A, c, rfl, CL.new1 w t _, h.below (below_alloc (Below.refl _ _) _)⟩
set_option maxRecDepth 100000 in
set_option maxHeartbeats 32000000 in
theorem CertDown_law (M : Mp) (Kz : Int) (S : ByteArray) (A : Option Addr) (c : Nat) (L : List (List ByteArray)) (s : ByteArray) (v : Value) (w : World) (hM : IsM w v M) (hS : S.size ≤ 9223372036854775807) (hL : LsB w A c L) (hsz : ∀ l ∈ L, ∀ s ∈ l, s.size ≤ 9223372036854775807) (hs : s.size ≤ 9223372036854775807) (ht : Tb w) :
  Calls Tryz.prog 8 #[v, .agg #[.int .i64 Kz, .string S, .slice A L.length c], .string s] w fun e w' => e = .returned (.bool true) ∧ Below w.heap.size w w' := by
 obtain ⟨md, Am, nm, cm, A', n', c', rfl, HM⟩ := hM.form
 have HTB := Lib.hid ht
 have HL := Lib.hid hL
 have hlc : L.length ≤ 9223372036854775807 := by have := hL.1; omega
 obtain ⟨nl, hnl⟩ : ∃ nl, L.length = nl := ⟨_, rfl⟩
 have HNL := Lib.hid hnl
 have HQK : Hid (∀ (u : Value) {W : World}, IsM W u M → LsB W A c L → Calls Tryz.prog 35 #[u, .agg #[.int .i64 Kz, .string S, .slice A nl c]] W fun e w' => QuickR M S L e ∧ Below W.heap.size W w') := fun u W h1 h2 => by
  rw [← hnl]
  exact quick_c M Kz S L u A c W h1 hS h2 hsz
 rw [hnl] at hlc ⊢
 clear hM hL hsz ht hnl hS
 go_enter Tryz.func8, Tryz.ntmps8
 go_upto_region 1 with fail
 generalize hW : (w.alloc (Obj.cells #[Value.int .i64 md, Value.slice Am nm cm, Value.slice A' n' c'] 24)).alloc _ = W
 have HB : Below w.heap.size w W := by subst hW; exact below_alloc (below_alloc (Below.refl _ _) _) _
 have V3 : VM W w.heap.size md Am nm cm A' n' c' M := by subst hW; exact (VM.new w 24 HM.out).keep (below_alloc (Below.refl _ _) _)
 have VP : VQ W (w.heap.size + 1) (.int .i64 Kz) (.string S) (.slice A nl c) := by
  subst hW
  have := VQ.new (x := .int .i64 Kz) (y := .string S) (z := .slice A nl c) (w.alloc (Obj.cells #[Value.int .i64 md, Value.slice Am nm cm, Value.slice A' n' c'] 24)) 27
  rwa [show (w.alloc (Obj.cells #[Value.int .i64 md, Value.slice Am nm cm, Value.slice A' n' c'] 24)).heap.size = w.heap.size + 1 by simp] at this
 clear hW HM
 have m0 := V3.c0; have m1 := V3.c1; have m2 := V3.c2
 have p0 := VP.c0; have p1 := VP.c1; have p2 := VP.c2
 go_wp2_with fail
 (with_reducible refine (HQK.out _ V3.im.out (HL.out.below HB)).mono ?_)
 rintro e w2 ⟨⟨b, rfl, hbq⟩, hb⟩
 clear m0 m1 m2
 clear p0 p1 p2
 replace V3 := V3.keep hb; replace VP := VP.keep hb; replace HB := below_step HB hb
 clear hb
 cases b with
 | false =>
  go_wp2_with fail
  (with_reducible refine (awake9_c _ (HTB.out.below HB)).mono ?_)
  rintro e wz ⟨rfl, hb⟩
  replace HB := below_step HB hb
  clear hb
  go_wp2
  go_ret
  exact ⟨rfl, HB⟩
 | true =>
  obtain ⟨hok, hfo⟩ := hbq rfl
  obtain ⟨Bz, ls, rfl, hLe, hBz, hzz⟩ := formB_iff hfo
  have HOM : Hid (okM M) := okB_iff.1 hok
  have HLE := Lib.hid hLe
  have HBZ := Lib.hid hBz
  have HZZ := Lib.hid hzz
  have HNS : Hid (ls.length = nl) := by show _ = _; rw [← HNL.out, HLE.out, List.length_map]
  have HLL : Hid (LsL w A c ls) := by show LsB _ _ _ _; rw [← HLE.out]; exact HL.out
  clear hok hfo hLe hBz hzz HL HLE HNL HQK hbq
  by_cases hv : vldL (codes s) = true
  rotate_left
  ·have HV : Hid (vldL (codes s) = false) := by show _ = _; revert hv; cases vldL (codes s) <;> simp
   clear hv
   go_wp2_with fail
   (with_reducible refine (Valid_c s _ hs).mono ?_)
   rintro e w3 ⟨he, rfl⟩
   obtain rfl : e = .returned (.bool false) := by rw [he, HV.out]
   clear he
   go_wp2_with fail
   (with_reducible refine (awake9_c _ (HTB.out.below HB)).mono ?_)
   rintro e wz ⟨rfl, hb⟩
   replace HB := below_step HB hb
   clear hb
   go_wp2
   go_ret
   exact ⟨rfl, HB⟩
  have HV := Lib.hid hv
  by_cases hbg : 100 < s.size
  ·have hb1 : (100 : Int) < (s.size : Int) := by omega
   clear hv hbg
   go_wp2_with fail
   (with_reducible refine (Valid_c s _ hs).mono ?_)
   rintro e w3 ⟨he, rfl⟩
   obtain rfl : e = .returned (.bool true) := by rw [he, HV.out]
   clear he
   go_wp2_with fail
   (with_reducible refine (awake9_c _ (HTB.out.below HB)).mono ?_)
   rintro e wz ⟨rfl, hb⟩
   replace HB := below_step HB hb
   clear hb
   go_wp2
   go_ret
   exact ⟨rfl, HB⟩
  have hb1 : ¬ (100 : Int) < (s.size : Int) := by omega
  have hb2 : decide ((100 : Int) < (s.size : Int)) = false := decide_eq_false hb1
  have hb3 : decide (100 < s.size) = false := decide_eq_false hbg
  go_wp2_with fail
  (with_reducible refine (Valid_c s _ hs).mono ?_)
  rintro e w3 ⟨he, rfl⟩
  obtain rfl : e = .returned (.bool true) := by rw [he, HV.out]
  clear he
  obtain ⟨z, rfl, hz⟩ := dig_of_valid hv
  have HZ := Lib.hid hz
  obtain ⟨sg, hsg⟩ : ∃ sg : Int, (if z = 0 then (0 : Int) else if z < 0 then -1 else 1) = sg := ⟨_, rfl⟩
  have HSG : Hid (∀ (u : Value) {W : World}, IsN W u z → Calls Tryz.prog 16 #[u] W fun e w' => e = .returned (.int .i64 sg) ∧ Below W.heap.size W w') := fun u W h1 => by
   have := Sign_c z u W h1
   rw [hsg] at this
   exact this
  clear hv hz hbg
  go_wp2_with fail
  (with_reducible refine (Parse_c z _ (by have := HZ.out; omega)).mono ?_)
  rintro e w4 ⟨v, rfl, hv, hb⟩
  obtain ⟨n4, A4, m4, k4, rfl, H4⟩ := hv.form; clear hv
  replace V3 := V3.keep hb; replace VP := VP.keep hb; replace HB := below_step HB hb
  clear hb
  clear hb1 hb2 hb3
  go_wp2_with fail
  (with_reducible refine (HSG.out _ H4.out).mono ?_)
  rintro e w5 ⟨rfl, hb⟩
  replace V3 := V3.keep hb; replace VP := VP.keep hb; replace HB := below_step HB hb
  clear hb
  clear H4 HSG
  by_cases hneg : z < 0
  ·have hs0 : sg < 0 := by rw [← hsg, if_neg (by omega), if_pos hneg]; omega
   clear hsg hneg
   go_wp2_with fail
   (with_reducible refine (awake9_c _ (HTB.out.below HB)).mono ?_)
   rintro e wz ⟨rfl, hb⟩
   replace HB := below_step HB hb
   clear hb
   go_wp2
   go_ret
   exact ⟨rfl, HB⟩
  have hs0 : ¬ sg < 0 := by rw [← hsg]; split <;> (try split) <;> omega
  have hs1 : decide (sg < 0) = false := decide_eq_false hs0
  have HZ0 : Hid (0 ≤ z) := by show _ ≤ _; omega
  clear hsg hneg
  by_cases hac : 1 ≤ Kz ∧ Acc M Kz.toNat Bz ls
  rotate_left
  ·have HCK : Hid (∀ (u : Value) {W : World}, IsM W u M → LsL W A c ls → Tb W → Calls Tryz.prog 14 #[u, .agg #[.int .i64 Kz, .string (tS Bz), .slice A nl c]] W fun e w' => e = .returned (.tuple #[.bool false, .int .i64 0]) ∧ Below W.heap.size W w') := fun u W h1 h2 h3 => by
    rw [← HNS.out]
    exact Check_c M Kz Bz ls u A c W h1 HOM.out HBZ.out h2 HZZ.out h3 false ⟨fun h => (by cases h), fun h => absurd h hac⟩
   have HEN : Hid (∀ (u : Value) {W : World}, IsM W u M → LsL W A c ls → Tb W → Calls Tryz.prog 34 #[u, .agg #[.int .i64 Kz, .string (tS Bz), .slice A nl c], .string (tS z)] W fun e w' => e = .returned (.tuple #[.string { data := #[] }, .int .i64 4]) ∧ Below W.heap.size W w') := fun u W h1 h2 h3 => by
    rw [← HNS.out]
    exact End_not M Kz Bz z ls u A c W h1 HOM.out HBZ.out h2 HZZ.out h3 HZ.out HZ0.out hac
   clear hac
   have m0 := V3.c0; have m1 := V3.c1; have m2 := V3.c2
   have p0 := VP.c0; have p1 := VP.c1; have p2 := VP.c2
   go_wp2_with fail
   (with_reducible refine (HCK.out _ V3.im.out (HLL.out.below HB) (HTB.out.below HB)).mono ?_)
   rintro e w7 ⟨rfl, hb⟩
   clear m0 m1 m2
   clear p0 p1 p2
   replace V3 := V3.keep hb; replace VP := VP.keep hb; replace HB := below_step HB hb
   clear hb
   have m0 := V3.c0; have m1 := V3.c1; have m2 := V3.c2
   have p0 := VP.c0; have p1 := VP.c1; have p2 := VP.c2
   go_wp2_with fail
   (with_reducible refine (HEN.out _ V3.im.out (HLL.out.below HB) (HTB.out.below HB)).mono ?_)
   rintro e w8 ⟨rfl, hb⟩
   clear m0 m1 m2
   clear p0 p1 p2
   replace V3 := V3.keep hb; replace VP := VP.keep hb; replace HB := below_step HB hb
   clear hb
   clear HCK HEN hs0 hs1
   go_wp2_with fail
   (with_reducible refine (awake9_c _ (HTB.out.below HB)).mono ?_)
   rintro e wz ⟨rfl, hb⟩
   replace HB := below_step HB hb
   clear hb
   go_wp2
   go_ret
   exact ⟨rfl, HB⟩
  have HLS := Lib.hid hac.2.loops
  have HCK : Hid (∀ (u : Value) {W : World}, IsM W u M → LsL W A c ls → Tb W → Calls Tryz.prog 14 #[u, .agg #[.int .i64 Kz, .string (tS Bz), .slice A nl c]] W fun e w' => e = .returned (.tuple #[.bool true, .int .i64 0]) ∧ Below W.heap.size W w') := fun u W h1 h2 h3 => by
   rw [← HNS.out]
   exact Check_c M Kz Bz ls u A c W h1 HOM.out HBZ.out h2 HZZ.out h3 true ⟨fun _ => hac, fun _ => rfl⟩
  have HEN : Hid (∀ (u : Value) {W : World}, IsM W u M → LsL W A c ls → Tb W → Calls Tryz.prog 34 #[u, .agg #[.int .i64 Kz, .string (tS Bz), .slice A nl c], .string (tS z)] W fun e w' => EndR M ls z e ∧ Below W.heap.size W w') := fun u W h1 h2 h3 => by
   rw [← HNS.out]
   exact End_acc M Kz Bz z ls u A c W h1 HOM.out HBZ.out h2 HZZ.out h3 HZ.out HZ0.out hac
  have HLO : Hid (∀ (x : Int) (W : World), LsL W A c ls → Calls Tryz.prog 36 #[.slice A nl c, .string (tS x)] W fun e w' => LoR ls x e ∧ Below W.heap.size W w') := fun x W h1 => by
   rw [← HNS.out]
   exact loopOf_c ls x A c W h1
  clear hac
  have m0 := V3.c0; have m1 := V3.c1; have m2 := V3.c2
  have p0 := VP.c0; have p1 := VP.c1; have p2 := VP.c2
  go_wp2_with fail
  (with_reducible refine (HCK.out _ V3.im.out (HLL.out.below HB) (HTB.out.below HB)).mono ?_)
  rintro e w7 ⟨rfl, hb⟩
  clear m0 m1 m2
  clear p0 p1 p2
  replace V3 := V3.keep hb; replace VP := VP.keep hb; replace HB := below_step HB hb
  clear hb
  have m0 := V3.c0; have m1 := V3.c1; have m2 := V3.c2
  have p0 := VP.c0; have p1 := VP.c1; have p2 := VP.c2
  go_wp2_with fail
  (with_reducible refine (HEN.out _ V3.im.out (HLL.out.below HB) (HTB.out.below HB)).mono ?_)
  rintro e w8 ⟨hE, hb⟩
  obtain ⟨nme, fe, rfl, hE2⟩ := hE.form
  have HEE := Lib.hid hE2
  clear m0 m1 m2
  clear p0 p1 p2
  replace V3 := V3.keep hb; replace VP := VP.keep hb; replace HB := below_step HB hb
  clear hb
  clear HCK HEN hs0 hs1 hE hE2
  have HZD : Hid (∀ j, j ≤ 0 → dl (itZ M z j) ≤ 2000) := fun j h => by
   have e : j = 0 := by omega
   rw [e]
   show dl z ≤ 2000
   rw [dl_dlN]
   exact HZ.out
  go_wp2_with fail
  go_loopg [13, 11, 12] 1500 (fun g iv xv av wr => ∃ (i : Nat) (X a : Int), g = 1500 - i ∧ iv = .int .i64 i ∧ xv = .string (tS X) ∧ av = .int .i64 a ∧ i ≤ 1500 ∧ VM wr w.heap.size md Am nm cm A' n' c' M ∧ VQ wr (w.heap.size + 1) (.int .i64 Kz) (.string (tS Bz)) (.slice A nl c) ∧ Below w.heap.size w wr ∧ Hid (X = itZ M z i) ∧ Hid (∀ j, j ≤ i → dl (itZ M z j) ≤ 2000) ∧ Hid ((i = 0 ∧ a = -1) ∨ ∃ k, k + 1 = i ∧ AtL ls (itZ M z k) a))
  case atStart => exact ⟨0, z, -1, rfl, rfl, rfl, rfl, Nat.zero_le _, V3, VP, HB, rfl, HZD.out, .inl ⟨rfl, rfl⟩⟩
  case round =>
   clear V3 VP HB
   obtain ⟨i, X, a, hgi, rfl, rfl, rfl, hi, V3, VP, HB, HX, HD, HA⟩ := hrel
   have hi0 : (0 : Int) ≤ (i : Int) := by omega
   by_cases hin : i < 1500
   ·have hi1 : (i : Int) < 1500 := by omega
    have p2 := VP.c2
    go_wp2_with fail
    (with_reducible refine (HLO.out X _ (HLL.out.below HB)).mono ?_)
    rintro e w9 ⟨⟨k, rfl, hk⟩, hb⟩
    replace V3 := V3.keep hb; replace VP := VP.keep hb; replace HB := below_step HB hb
    clear hb
    clear p2
    have hak : ¬ 0 ≤ a ∨ (0 ≤ a ∧ k = a) := by
     rcases HA.out with ⟨-, h⟩ | ⟨k0, h1, h2⟩
     ·exact .inl (by omega)
     ·rcases h2 with ⟨h3, -⟩ | ⟨q, h3, h4, h5⟩
      ·exact .inl (by omega)
      ·refine .inr ⟨by omega, ?_⟩
       have h6 : X = stepZ M (itZ M z k0) := by rw [HX.out, ← h1]; rfl
       rw [h6] at hk
       rw [h3]
       exact hk.next HLS.out h4 h5
    have HAK : Hid (AtL ls X k) := hk
    have HXZ : Hid (dlN X.natAbs ≤ 2000) := by show _ ≤ _; rw [← dl_dlN, HX.out]; exact HD.out i (Nat.le_refl _)
    have hstep : Hid ((k = -1) ∨ dl (stepZ M X) ≤ 2000) := by
     rcases hk with ⟨h, -⟩ | ⟨q, -, h4, h5⟩
     ·exact .inl h
     ·exact .inr (loop_fit (HLS.out.1 q h4) (loop_step (HLS.out.1 q h4) h5))
    clear hk
    have m0 := V3.c0; have m1 := V3.c1; have m2 := V3.c2
    have HNX : Hid (∀ (u : Value) {W : World}, IsM W u M → Tb W → Calls Tryz.prog 37 #[u, .string (tS X)] W fun e w' => e = .returned (.tuple #[.string (toldS (stepZ M X)), .int .i64 (toldE (stepZ M X))]) ∧ Below W.heap.size W w') := fun u W h1 h2 => Stp_ok M X u W h1 HOM.out HXZ.out h2
    rcases hak with ha | ⟨ha0, ha⟩
    rotate_left
    ·subst ha
     have hkk : (k == k) = true := by simp
     have hk1 : ¬ k < 0 := by omega
     have hk2 : decide (k < 0) = false := decide_eq_false hk1
     go_wp2_with fail
     (with_reducible refine (HNX.out _ V3.im.out (HTB.out.below HB)).mono ?_)
     rintro e wa ⟨rfl, hb⟩
     replace V3 := V3.keep hb; replace VP := VP.keep hb; replace HB := below_step HB hb
     clear hb
     clear m0 m1 m2 HNX
     by_cases hbig : 2000 < dl (stepZ M X)
     ·have hE : toldE (stepZ M X) = 3 := by unfold toldE; rw [if_pos hbig]
      rw [hE]
      have hk1 : k = -1 := by
       rcases hstep.out with h | h
       ·exact h
       ·omega
      subst hk1
      clear hE hbig HX HD HA HAK hstep
      go_wp2_with fail
      (with_reducible refine (awake9_c _ (HTB.out.below HB)).mono ?_)
      rintro e wz ⟨rfl, hb⟩
      replace HB := below_step HB hb
      clear hb
      go_wp2
      go_ret
      exact ⟨rfl, HB⟩
     ·have hE : toldE (stepZ M X) = 0 := by unfold toldE; rw [if_neg hbig]
      have hS : toldS (stepZ M X) = tS (stepZ M X) := by unfold toldS; rw [if_neg hbig]
      rw [hE, hS]
      have HX2 : Hid (stepZ M X = itZ M z (i + 1)) := by show _ = _; rw [HX.out]; rfl
      have HD2 : Hid (∀ j, j ≤ i + 1 → dl (itZ M z j) ≤ 2000) := fun j hj => by
       rcases Nat.lt_or_ge j (i + 1) with h | h
       ·exact HD.out j (by omega)
       ·obtain rfl : j = i + 1 := by omega
        rw [← HX2.out]
        omega
      have HA2 : Hid ((i + 1 = 0 ∧ k = -1) ∨ ∃ k0, k0 + 1 = i + 1 ∧ AtL ls (itZ M z k0) k) := .inr ⟨i, rfl, by rw [← HX.out]; exact HAK.out⟩
      clear hE hS hbig HX HD HA HAK hstep
      generalize stepZ M X = Y at *
      go_wp2
      go_roundg (1500 - (i + 1))
      case measure => omega
      case rel => exact ⟨i + 1, Y, k, rfl, by go_num, rfl, rfl, by omega, V3, VP, HB, HX2, HD2, HA2⟩
    ·have ha1 : decide (0 ≤ a) = false := decide_eq_false ha
     go_wp2_with fail
     (with_reducible refine (HNX.out _ V3.im.out (HTB.out.below HB)).mono ?_)
     rintro e wa ⟨rfl, hb⟩
     replace V3 := V3.keep hb; replace VP := VP.keep hb; replace HB := below_step HB hb
     clear hb
     clear m0 m1 m2 HNX
     by_cases hbig : 2000 < dl (stepZ M X)
     ·have hE : toldE (stepZ M X) = 3 := by unfold toldE; rw [if_pos hbig]
      rw [hE]
      have hk1 : k = -1 := by
       rcases hstep.out with h | h
       ·exact h
       ·omega
      subst hk1
      clear hE hbig HX HD HA HAK hstep
      go_wp2_with fail
      (with_reducible refine (awake9_c _ (HTB.out.below HB)).mono ?_)
      rintro e wz ⟨rfl, hb⟩
      replace HB := below_step HB hb
      clear hb
      go_wp2
      go_ret
      exact ⟨rfl, HB⟩
     ·have hE : toldE (stepZ M X) = 0 := by unfold toldE; rw [if_neg hbig]
      have hS : toldS (stepZ M X) = tS (stepZ M X) := by unfold toldS; rw [if_neg hbig]
      rw [hE, hS]
      have HX2 : Hid (stepZ M X = itZ M z (i + 1)) := by show _ = _; rw [HX.out]; rfl
      have HD2 : Hid (∀ j, j ≤ i + 1 → dl (itZ M z j) ≤ 2000) := fun j hj => by
       rcases Nat.lt_or_ge j (i + 1) with h | h
       ·exact HD.out j (by omega)
       ·obtain rfl : j = i + 1 := by omega
        rw [← HX2.out]
        omega
      have HA2 : Hid ((i + 1 = 0 ∧ k = -1) ∨ ∃ k0, k0 + 1 = i + 1 ∧ AtL ls (itZ M z k0) k) := .inr ⟨i, rfl, by rw [← HX.out]; exact HAK.out⟩
      clear hE hS hbig HX HD HA HAK hstep
      generalize stepZ M X = Y at *
      go_wp2
      go_roundg (1500 - (i + 1))
      case measure => omega
      case rel => exact ⟨i + 1, Y, k, rfl, by go_num, rfl, rfl, by omega, V3, VP, HB, HX2, HD2, HA2⟩
   ·obtain rfl : i = 1500 := by omega
    have HAT : Hid (AtL ls (itZ M z 1499) a) := by
     rcases HA.out with ⟨h, -⟩ | ⟨k0, h1, h2⟩
     ·omega
     ·obtain rfl : k0 = 1499 := by omega
      exact h2
    clear HA
    by_cases han : a < 0
    ·clear HX HD
     rcases HEE.out.err with hf | hf
     ·subst hf
      go_wp2_with fail
      (with_reducible refine (awake9_c _ (HTB.out.below HB)).mono ?_)
      rintro e wz ⟨rfl, hb⟩
      replace HB := below_step HB hb
      clear hb
      go_wp2
      go_ret
      exact ⟨rfl, HB⟩
     ·subst hf
      go_wp2_with fail
      (with_reducible refine (awake9_c _ (HTB.out.below HB)).mono ?_)
      rintro e wz ⟨rfl, hb⟩
      replace HB := below_step HB hb
      clear hb
      go_wp2
      go_ret
      exact ⟨rfl, HB⟩
    ·obtain ⟨q, haq, hq, hxq⟩ : ∃ q : Nat, a = (q : Int) ∧ q < ls.length ∧ itZ M z 1499 ∈ lpi ls q := by
      rcases HAT.out with ⟨h, -⟩ | h
      ·omega
      ·exact h
     subst haq
     have HQ := Lib.hid hq
     have HFT := Lib.hid (fate_of_loop (HLS.out.1 q hq) (by omega) hxq (fun j hj => HD.out j (by omega)))
     obtain ⟨hf0, hnm⟩ := HEE.out.named HLS.out (t0 := 1499) (by omega) hq hxq (fun j hj => HD.out j (by omega))
     subst hf0
     subst hnm
     have hqn0 : (0 : Int) ≤ (q : Int) := by omega
     have hqn1 : (q : Int) < (nl : Int) := by have := HNS.out; omega
     have hqn2 : q < nl := by omega
     have hqw : IntKind.i64.wrap ((q : Int) + 1) = (q : Int) + 1 := by rw [IntKind.wrap_i64]; omega
     have hqq : ¬ (q : Int) < 0 := by omega
     have hqd : decide ((q : Int) < 0) = false := decide_eq_false hqq
     have hcc : nl ≤ c := by have := HLL.out.1.1; rw [List.length_map, HNS.out] at this; exact this
     have hcq : (q : Int) + 1 ≤ (c : Int) := by omega
     have hcq2 : q + 1 ≤ c := by omega
     obtain ⟨t, ht⟩ := HFT.out
     have HFC : Hid (∀ (u : Value) {W : World}, IsM W u M → Tb W → Calls Tryz.prog 38 #[u, .string (tS z), .int .i64 20000] W fun e w' => ∃ A c, e = .returned (.tuple #[.int .i64 (t : Int), .slice A (lpi ls q).length c, .int .i64 0]) ∧ Hid (LsS w' A c ((lpi ls q).map tS)) ∧ Below W.heap.size W w') := fun u W h1 h2 => by
      have := Fate_ok M z 20000 u W h1 HOM.out HZ.out (by omega) h2
      rw [ht] at this
      exact this
     have HLQ := Lib.hid (HLS.out.1 q hq)
     clear HFT ht hq hxq han HAT HX HD HEE HLO
     have m0 := V3.c0; have m1 := V3.c1; have m2 := V3.c2
     go_wp2_with fail
     (with_reducible refine (HFC.out _ V3.im.out (HTB.out.below HB)).mono ?_)
     rintro e wb ⟨A9, c9, rfl, HL9, hb⟩
     replace V3 := V3.keep hb; replace VP := VP.keep hb; replace HB := below_step HB hb
     clear hb m0 m1 m2 HFC
     obtain ⟨bA, oA, rfl⟩ := HLL.out.ptr (by rw [List.length_map, HNS.out]; omega)
     obtain ⟨A1, c1, CA, hs1⟩ := (HLL.out.below HB).atL (j := q) HQ.out
     have HSB := Lib.hid ((HLL.out.below HB).sub HQ.out)
     have HSO := Lib.hid (LsB.one HL9.out 45)
     obtain ⟨x, hx⟩ : ∃ x, lpi ls q = x := ⟨_, rfl⟩
     rw [hx] at CA hs1 HSB HSO HLQ ⊢
     obtain ⟨n1, hn1⟩ : ∃ n1, x.length = n1 := ⟨_, rfl⟩
     have hn10 : (0 : Int) < (n1 : Int) := by have := HLQ.out.len0; omega
     have hn11 : 0 < n1 := by omega
     obtain ⟨b1, o1, rfl, C1⟩ := hs1.head HLQ.out.len0
     rw [hn1] at CA HSO ⊢
     clear hx hn1 hs1 HL9
     obtain ⟨s0, hs0⟩ : ∃ s0, tS (gd x 0) = s0 := ⟨_, rfl⟩
     rw [hs0] at C1 ⊢
     have hss : (s0.toList == s0.toList) = true := by simp
     have hbb := below_alloc (Below.refl wb.heap.size wb) (Obj.cells #[Value.slice A9 n1 c9] 45)
     have HSM : Hid (Calls Tryz.prog 39 #[.slice (some ⟨wb.heap.size, 0, none⟩) 1 1, .slice (some ⟨bA, oA + q, none⟩) 1 (c - q)] (wb.alloc (Obj.cells #[Value.slice A9 n1 c9] 45)) fun e w' => e = .returned (.bool true) ∧ Below (wb.alloc (Obj.cells #[Value.slice A9 n1 c9] 45)).heap.size (wb.alloc (Obj.cells #[Value.slice A9 n1 c9] 45)) w') :=
      SameLoops_c [x.map tS] _ _ 1 (c - q) _ HSO.out (HSB.out.below hbb)
     have p2 := VP.c2; have p2a := (VP.keep hbb).c2; have x0 := CA.c; have x1 := C1.c
     go_wp2_with fail
     (with_reducible refine HSM.out.mono ?_)
     rintro e wc ⟨rfl, hb⟩
     replace HB := below_step (below_step HB hbb) hb
     clear hb hbb p2 p2a x0 x1 HSM
     go_wp2_with fail
     (with_reducible refine (awake9_c _ (HTB.out.below HB)).mono ?_)
     rintro e wz ⟨rfl, hb⟩
     replace HB := below_step HB hb
     clear hb
     go_wp2
     go_ret
     exact ⟨rfl, HB⟩
end Go.Proofs.YtibdipfhfaeooaaGreatDoor

