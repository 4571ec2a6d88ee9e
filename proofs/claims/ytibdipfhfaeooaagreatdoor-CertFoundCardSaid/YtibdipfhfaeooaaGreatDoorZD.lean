/- What num.Valid returns. No condition. -/
import Derived.Test.YtibdipfhfaeooaaGreatDoorZ2
import Derived.Laws.RangeAny
import Derived.Test.YtibdipfhfaeooaaGreatDoorZA
import Derived.Test.YtibdipfhfaeooaaGreatDoorZ6
import Derived.Deep.LoopGhost
import Derived.Test.YtibdipfhfaeooaaGreatDoorZB
import Derived.Test.YtibdipfhfaeooaaGreatDoorZC
import Derived.Maps.RangeWalk
set_option linter.unusedVariables false
set_option linter.unusedSimpArgs false
namespace Go.Proofs.YtibdipfhfaeooaaGreatDoor
open Go.RowKit

theorem codes_nonneg (s : ByteArray) (k : Nat) : 0 ≤ gd (codes s) k := by
 rcases Nat.lt_or_ge k (codes s).length with h | h
 ·rw [gd_lt h]; exact (codes_range s _ (List.getElem_mem h)).1
 ·rw [gd_ge h]; exact Int.le_refl _
theorem dec_digit (s : ByteArray) (pos : Nat) (h : pos < s.size) (h1 : gd (codes s) pos < 128) : Utf8.decode s pos = ((gd (codes s) pos).toNat, 1) := by
 have e := codes_gd h
 rw [decode_ascii s pos h (by omega)]
 congr 1
 omega
theorem dec_other (s : ByteArray) (pos : Nat) (h : pos < s.size) (h1 : ¬ gd (codes s) pos < 128) : 128 ≤ (Utf8.decode s pos).1 := by
 have e := codes_gd h
 exact (decode_high s pos h (by omega)).1


theorem codes_drop1 {s t : ByteArray} (h : s.extract 1 s.size = t) : codes t = (codes s).drop 1 := by
 subst h
 unfold codes
 rw [ByteArray.data_extract, Array.toList_extract]
 simp only [List.extract_eq_take_drop, List.map_take, List.map_drop]
 rw [List.take_of_length_le]
 simp
/-- What is asked of the digits. -/
def okD (T : List Int) (neg : Bool) : Prop := (0 < T.length ∧ T.length ≤ 2000) ∧ ¬ (gd T 0 = 48 ∧ (1 < T.length ∨ neg = true)) ∧ ∀ j, j < T.length → 48 ≤ gd T j ∧ gd T j ≤ 57
def okQ (T : List Int) (neg : Bool) : Prop := ¬ (gd T 0 = 48 ∧ (1 < T.length ∨ neg = true))
theorem okD0 {l : List Int} (h : l ≠ []) (q : gd l 0 ≠ 45) : vldL l = true ↔ okD l false := by
 rw [vld_char (a := 0) h (by rw [if_neg q])]
 unfold okD
 simp
theorem okD1 {l : List Int} (h : l ≠ []) (q : gd l 0 = 45) : vldL l = true ↔ okD (l.drop 1) true := by
 rw [vld_char (a := 1) h (by rw [if_pos q])]
 unfold okD
 have hl : (l.drop 1).length = l.length - 1 := by simp
 rw [hl]
 constructor
 ·rintro ⟨⟨h1, h2⟩, h3, h4⟩
  refine ⟨⟨by omega, h2⟩, fun h5 => h3 ⟨by rw [gd_drop] at h5; exact h5.1, by omega⟩, fun j hj => by rw [gd_drop, Nat.add_comm]; exact h4 _ (by omega) (by omega)⟩
 ·rintro ⟨⟨h1, h2⟩, h3, h4⟩
  refine ⟨⟨by omega, h2⟩, fun h5 => h3 ⟨by rw [gd_drop]; exact h5.1, .inr rfl⟩, fun j hj hj2 => ?_⟩
  have := h4 (j - 1) (by omega)
  rw [gd_drop, show 1 + (j - 1) = j by omega] at this
  exact this
theorem not_ok {b : Bool} {P : Prop} (h : b = true ↔ P) (hn : ¬ P) : b = false := by cases b with | false => rfl | true => exact absurd (h.1 rfl) hn

set_option maxRecDepth 100000 in
set_option maxHeartbeats 4000000 in
theorem nValid_c (s : ByteArray) (w : World) (hs : s.size ≤ 9223372036854775807) :
  Calls Tryz.prog 77 #[.string s] w fun e w' => e = .returned (.bool (vldL (codes s))) ∧ Below w.heap.size w w' := by
 have hB : Below w.heap.size w w := Below.refl _ _
 rcases Nat.eq_zero_or_pos s.size with h0 | h0
 ·have e0 := toList_nil h0
  have hr : vldL (codes s) = false := by rw [codes_nil h0]; rfl
  rw [hr]
  have hz : (s.size : Int) ≤ 0 := by omega
  clear hr h0
  go_enter Tryz.func77, Tryz.ntmps77
  go_wp2
  go_ret
  exact ⟨rfl, hB⟩
 ·obtain ⟨e1, e2, e3⟩ := toList_cons h0
  have HNE : Hid (codes s ≠ []) := fun h => by have := codes_length s; rw [h] at this; simp at this; omega
  have HL := Lib.hid (codes_length s)
  have hx0 : ∀ h : 0 < s.size, ((s[0]'h).toNat : Int) = gd (codes s) 0 := fun h => codes_gd h
  by_cases hsz : (s.size : Int) ≤ 2001
  ·by_cases q : gd (codes s) 0 = 45
   ·have qb : (gd (codes s) 0 == 45) = true := by simpa using q
    obtain ⟨t, ht⟩ : ∃ t, s.extract 1 s.size = t := ⟨_, rfl⟩
    have hct := codes_drop1 ht
    have hts : s.size - 1 = t.size := by rw [← codes_length t, hct, ← codes_length s]; simp
    have HC := Lib.hid (okD1 HNE.out q)
    rw [← hct] at HC
    have hx1 : ∀ h : 1 < s.size, ((s[1]'h).toNat : Int) = gd (codes t) 0 := fun h => by rw [hct, gd_drop]; exact codes_gd h
    clear q hct
    have HT := Lib.hid (codes_length t)
    by_cases q1 : 0 < t.size
    ·have e4 := toList_cons q1
     obtain ⟨e4, e5, e6⟩ := e4
     have hxa : ∀ h : 0 < t.size, ((t[0]'h).toNat : Int) = gd (codes t) 0 := fun h => codes_gd h
     by_cases q2 : (t.size : Int) ≤ 2000
     ·by_cases q3 : gd (codes t) 0 = 48 ∧ (1 < t.size ∨ true = true)
      ·have hr := not_ok HC.out (fun h => h.2.1 ⟨q3.1, by rw [HT.out]; exact q3.2⟩)
       rw [hr]
       have qc : (gd (codes t) 0 == 48) = true := by simpa using q3.1
       
       clear q3 hr
       go_enter Tryz.func77, Tryz.ntmps77
       go_wp2
       all_goals (go_ret; exact ⟨rfl, hB⟩)
      ·have HQ : Hid (okQ (codes t) true) := by show ¬ _; rw [HT.out]; exact q3
       have q3' : (gd (codes t) 0 == 48) = false ∨ ((gd (codes t) 0 == 48) = true ∧ ¬ (1 : Int) < (t.size : Int)) := by
        by_cases h48 : gd (codes t) 0 = 48
        ·exact .inr ⟨by simpa using h48, fun h => q3 ⟨h48, .inl (by omega)⟩⟩
        ·exact .inl (by simpa using h48)
       have q4 : (gd (codes t) 0 == 48) = false := by by_cases h48 : gd (codes t) 0 = 48; exact absurd ⟨h48, .inr rfl⟩ q3; simpa using h48
       clear q3
       clear q3'
       all_goals
        go_enter Tryz.func77, Tryz.ntmps77
        go_wp2
        go_loopw [5] (fun _ wr => ∃ k : Nat, k ≤ t.size ∧ wr = w.iter t k ∧ Hid (Digs (codes t) 0 k)) (fun _ wr => t.size - wr.iterPos w.heap.size)
        case atStart => exact ⟨0, by omega, rfl, fun j h1 h2 => by omega⟩
        case round =>
         obtain ⟨k, hk2, rfl, HI⟩ := hrel
         by_cases hk : k < t.size
         ·have hnx := fun ty => run_next_any (P := Tryz.prog) w t k ty hk
          have HD := Lib.hid (dec_digit t k hk)
          have HO := Lib.hid (dec_other t k hk)
          have r0 := codes_nonneg t k
          by_cases d0 : gd (codes t) k < 128
          ·have e0 := HD.out d0
           rw [e0] at hnx
           simp only [Int.toNat_of_nonneg r0] at hnx
           clear e0
           by_cases d1 : gd (codes t) k < 48
           ·have HR : Hid (vldL (codes s) = false) := not_ok HC.out (fun h => by have := h.2.2 k (by rw [HT.out]; exact hk); omega)
            go_wp2
            go_ret
            exact ⟨by rw [HR.out]; rfl, below_alloc hB _⟩
           ·by_cases d2 : 57 < gd (codes t) k
            ·have HR : Hid (vldL (codes s) = false) := not_ok HC.out (fun h => by have := h.2.2 k (by rw [HT.out]; exact hk); omega)
             go_wp2
             go_ret
             exact ⟨by rw [HR.out]; rfl, below_alloc hB _⟩
            ·have HS : Hid (Digs (codes t) 0 (k + 1)) := HI.out.snoc (by omega) (by omega)
             go_wp2
             go_roundw
             case rel => exact ⟨k + 1, by omega, rfl, HS⟩
             case measure => simp; omega
          ·have h128 := HO.out d0
           have HR : Hid (vldL (codes s) = false) := not_ok HC.out (fun h => by have := h.2.2 k (by rw [HT.out]; exact hk); omega)
           clear d0
           generalize (Utf8.decode t k).1 = rn at *
           have d1 : ¬ (rn : Int) < 48 := by omega
           have d2 : (57 : Int) < (rn : Int) := by omega
           go_wp2
           go_ret
           exact ⟨by rw [HR.out]; rfl, below_alloc hB _⟩
         ·have hnx := fun ty => run_next_end (P := Tryz.prog) w t k ty hk
          have HR : Hid (vldL (codes s) = true) := HC.out.2 ⟨⟨by rw [HT.out]; exact q1, by rw [HT.out]; omega⟩, HQ.out, fun j h2 => HI.out j (by omega) (by rw [HT.out] at h2; omega)⟩
          go_wp2
          go_ret
          exact ⟨by rw [HR.out]; rfl, below_alloc hB _⟩
     ·exact absurd (by omega) q2
    ·have hr := not_ok HC.out (fun h => by have := h.1.1; rw [HT.out] at this; omega)
     have e4 := toList_nil (s := t) (by omega)
     have hz : (t.size : Int) ≤ 0 := by omega
     rw [hr]
     clear hr
     go_enter Tryz.func77, Tryz.ntmps77
     go_wp2
     all_goals (go_ret; exact ⟨rfl, hB⟩)

  
   ·have qb : (gd (codes s) 0 == 45) = false := by simpa using q
    have HC := Lib.hid (okD0 HNE.out q)
    clear q 
    have HT := Lib.hid (codes_length s)
    by_cases q1 : 0 < s.size
    ·
     
     have hxa : ∀ h : 0 < s.size, ((s[0]'h).toNat : Int) = gd (codes s) 0 := fun h => codes_gd h
     by_cases q2 : (s.size : Int) ≤ 2000
     ·by_cases q3 : gd (codes s) 0 = 48 ∧ (1 < s.size ∨ false = true)
      ·have hr := not_ok HC.out (fun h => h.2.1 ⟨q3.1, by rw [HT.out]; exact q3.2⟩)
       rw [hr]
       have qc : (gd (codes s) 0 == 48) = true := by simpa using q3.1
       have qd : (1 : Int) < (s.size : Int) := by have := q3.2; simp at this; omega
       clear q3 hr
       go_enter Tryz.func77, Tryz.ntmps77
       go_wp2
       all_goals (go_ret; exact ⟨rfl, hB⟩)
      ·have HQ : Hid (okQ (codes s) false) := by show ¬ _; rw [HT.out]; exact q3
       have q3' : (gd (codes s) 0 == 48) = false ∨ ((gd (codes s) 0 == 48) = true ∧ ¬ (1 : Int) < (s.size : Int)) := by
        by_cases h48 : gd (codes s) 0 = 48
        ·exact .inr ⟨by simpa using h48, fun h => q3 ⟨h48, .inl (by omega)⟩⟩
        ·exact .inl (by simpa using h48)
       
       clear q3
       rcases q3' with q3 | ⟨q3, q4⟩
       all_goals
        go_enter Tryz.func77, Tryz.ntmps77
        go_wp2
        go_loopw [5] (fun _ wr => ∃ k : Nat, k ≤ s.size ∧ wr = w.iter s k ∧ Hid (Digs (codes s) 0 k)) (fun _ wr => s.size - wr.iterPos w.heap.size)
        case atStart => exact ⟨0, by omega, rfl, fun j h1 h2 => by omega⟩
        case round =>
         obtain ⟨k, hk2, rfl, HI⟩ := hrel
         by_cases hk : k < s.size
         ·have hnx := fun ty => run_next_any (P := Tryz.prog) w s k ty hk
          have HD := Lib.hid (dec_digit s k hk)
          have HO := Lib.hid (dec_other s k hk)
          have r0 := codes_nonneg s k
          by_cases d0 : gd (codes s) k < 128
          ·have e0 := HD.out d0
           rw [e0] at hnx
           simp only [Int.toNat_of_nonneg r0] at hnx
           clear e0
           by_cases d1 : gd (codes s) k < 48
           ·have HR : Hid (vldL (codes s) = false) := not_ok HC.out (fun h => by have := h.2.2 k (by rw [HT.out]; exact hk); omega)
            go_wp2
            go_ret
            exact ⟨by rw [HR.out]; rfl, below_alloc hB _⟩
           ·by_cases d2 : 57 < gd (codes s) k
            ·have HR : Hid (vldL (codes s) = false) := not_ok HC.out (fun h => by have := h.2.2 k (by rw [HT.out]; exact hk); omega)
             go_wp2
             go_ret
             exact ⟨by rw [HR.out]; rfl, below_alloc hB _⟩
            ·have HS : Hid (Digs (codes s) 0 (k + 1)) := HI.out.snoc (by omega) (by omega)
             go_wp2
             go_roundw
             case rel => exact ⟨k + 1, by omega, rfl, HS⟩
             case measure => simp; omega
          ·have h128 := HO.out d0
           have HR : Hid (vldL (codes s) = false) := not_ok HC.out (fun h => by have := h.2.2 k (by rw [HT.out]; exact hk); omega)
           clear d0
           generalize (Utf8.decode s k).1 = rn at *
           have d1 : ¬ (rn : Int) < 48 := by omega
           have d2 : (57 : Int) < (rn : Int) := by omega
           go_wp2
           go_ret
           exact ⟨by rw [HR.out]; rfl, below_alloc hB _⟩
         ·have hnx := fun ty => run_next_end (P := Tryz.prog) w s k ty hk
          have HR : Hid (vldL (codes s) = true) := HC.out.2 ⟨⟨by rw [HT.out]; exact q1, by rw [HT.out]; omega⟩, HQ.out, fun j h2 => HI.out j (by omega) (by rw [HT.out] at h2; omega)⟩
          go_wp2
          go_ret
          exact ⟨by rw [HR.out]; rfl, below_alloc hB _⟩
     ·have hr := not_ok HC.out (fun h => by have := h.1.2; rw [HT.out] at this; omega)
      rw [hr]
      clear hr
      go_enter Tryz.func77, Tryz.ntmps77
      go_wp2
      all_goals (go_ret; exact ⟨rfl, hB⟩)

    ·exact absurd h0 q1
  ·have hr : vldL (codes s) = false := by
    by_cases q : gd (codes s) 0 = 45
    ·exact not_ok (okD1 HNE.out q) (fun h => by have := h.1.2; simp only [List.length_drop, HL.out] at this; omega)
    ·exact not_ok (okD0 HNE.out q) (fun h => by have := h.1.2; rw [HL.out] at this; omega)
   rw [hr]
   clear hr
   go_enter Tryz.func77, Tryz.ntmps77
   go_wp2
   go_ret
   exact ⟨rfl, hB⟩
end Go.Proofs.YtibdipfhfaeooaaGreatDoor


set_option linter.unusedVariables false
set_option linter.unusedSimpArgs false
namespace Go.Proofs.YtibdipfhfaeooaaGreatDoor
open Go.RowKit

theorem codes_seg {s t : ByteArray} {a b : Nat} (h : s.extract a b = t) : codes t = seg (codes s) a b := by
 subst h
 unfold codes seg
 rw [ByteArray.data_extract, Array.toList_extract]
 simp only [List.extract_eq_take_drop, List.map_take, List.map_drop]
 rw [List.drop_take]
set_option maxRecDepth 100000 in
set_option maxHeartbeats 2000000 in
theorem hParse_c (z : Int) (w : World) (hz : dlN z.natAbs ≤ 100000000000) :
  Calls Tryz.prog 81 #[.string (tS z)] w fun e w' => ∃ v, e = .returned v ∧ IsH w' v z ∧ Below w.heap.size w w' := by
 have HC := Lib.hid (codes_tS z)
 generalize tS z = s at *
 have hst := strip_tx z
 have hneg := tx_neg (z := z)
 have hne : codes s ≠ [] := by rw [HC.out]; unfold tx; have := txN_ne z.natAbs; split <;> simp [this]
 have hL := codes_length s
 have hlen : (codes s).length ≤ 100000000001 := by rw [HC.out]; unfold tx; unfold dlN at hz; split <;> simp <;> omega
 have h0 : 0 < s.size := by have := List.length_pos_iff.2 hne; omega
 have hx0 : ∀ h : 0 < s.size, ((s[0]'h).toNat : Int) = gd (codes s) 0 := fun h => codes_gd h
 have hg : (codes s).head? = some 45 ↔ gd (codes s) 0 = 45 := by
  cases e : codes s with
  | nil => exact absurd e hne
  | cons c t => simp [gd]
 rw [← HC.out] at hst hneg
 rw [hg] at hneg
 by_cases q : gd (codes s) 0 = 45
 ·have qb : (gd (codes s) 0 == 45) = true := by simpa using q
  have hz0 : z < 0 := hneg.1 q
  have hsd := strip_drop (a := 1) hne (by rw [if_pos q])
  rw [hst] at hsd
  obtain ⟨t, ht⟩ : ∃ t, s.extract 1 s.size = t := ⟨_, rfl⟩
  have hct : codes t = (codes s).drop 1 := codes_drop1 ht
  have hts : s.size - 1 = t.size := by rw [← codes_length t, hct, ← codes_length s]; simp
  rw [← hct] at hsd
  have HT : Hid (codes t = txN z.natAbs) := hsd.symm
  have HD : Hid (Dgt (codes t) 0) := by
   intro j h1 h2
   rw [gd_lt h2]
   exact txN_range z.natAbs _ (by rw [hsd]; exact List.getElem_mem _)
  have hal : 0 < (codes t).length := by
   rw [← hsd]
   exact List.length_pos_iff.2 (txN_ne z.natAbs)
  have HV : Hid (dv (codes t) = z.natAbs) := by rw [← hsd]; exact dv_txN _
  have HZ : Hid (sgnd true (z.natAbs : Int) = z) := by show _ = _; unfold sgnd; rw [if_pos rfl]; omega
  have HL := Lib.hid (codes_length t)
  have hs1 : t.size ≤ 100000000001 := by omega
  have hs2 : 0 < t.size := by have := HL.out; omega
  have hs3 : (1 : Int) ≤ (s.size : Int) := by omega
  clear hsd hz0 q hneg hst hne hL hlen hg hz hct
  go_enter Tryz.func81, Tryz.ntmps81
  go_wp2
  generalize hW : w.alloc (Obj.cells #[Value.bool false, Value.slice none 0 0] 118) = W
  obtain ⟨HR2, hWs, HBW⟩ := start1 w _ W hW
  clear hW hx0
  go_loopg [4, 5] (t.size + 9) (fun g out ev wr => ∃ (e : Int) (l : List Int), ev = .int .i64 e ∧ g = (e + 9).toNat ∧ OwI wr W.heap.size 168 .u32 out l ∧ Below W.heap.size W wr ∧ e ≤ t.size ∧ -9 ≤ e ∧ Hid (ParI (codes t) 0 e l))
  case atStart => exact ⟨t.size, [], rfl, by omega, OwI.nil _ _ _ _, Below.refl _ _, by omega, by omega, by have := ParI.first hal; rw [HL.out] at this; exact this⟩
  case round =>
   obtain ⟨e, l, rfl, hgk, HO, HB, he1, he2, HI⟩ := hrel
   have hB := HB.size
   by_cases he : 0 < e
   ·obtain ⟨E, rfl⟩ : ∃ E : Nat, e = E := ⟨e.toNat, by omega⟩
    have hLL : Hid ((l.length + 1) * 4 ≤ 140737488355328) := by have := HI.out.len (by omega); have := HL.out; show _ ≤ _; omega
    have hw : IntKind.i64.wrap ((E : Int) - 9) = (E : Int) - 9 := by rw [IntKind.wrap_i64]; omega
    have hE0 : (0 : Int) < (E : Int) := by omega
    obtain ⟨lo, hlo⟩ : ∃ lo, (max 0 ((E : Int) - 9)).toNat = lo := ⟨_, rfl⟩
    have hj : (0 + 9 < E ∧ lo = E - 9) ∨ (E ≤ 0 + 9 ∧ lo = 0) := by omega
    have HST := Lib.hid (ParI.step (j := lo) HD.out HI.out (by omega) hj)
    obtain ⟨p, hp⟩ : ∃ p, t.extract lo E = p := ⟨_, rfl⟩
    have hcp := codes_seg hp
    have hps : p.size = E - lo := by rw [← codes_length, hcp, seg_length _ (by omega) (by rw [HL.out]; omega)]
    have HPC := Lib.hid (fun w => ParseUint_c p w (by omega) (by omega) (by rw [hcp]; exact seg_all HD.out (Nat.zero_le _) (by rw [HL.out]; omega)))
    rw [← hcp] at HST
    have hdr : 0 ≤ dv (codes p) ∧ dv (codes p) < 1000000000 := by
     have hr := dv_range (seg_all (b := lo) (c := E) HD.out (Nat.zero_le _) (by rw [HL.out]; omega))
     rw [← hcp, codes_length, hps] at hr
     have h1 : (10 : Nat) ^ (E - lo) ≤ 10 ^ 9 := Nat.pow_le_pow_right (by omega) (by omega)
     have h2 : ((10 ^ (E - lo) : Nat) : Int) ≤ ((10 ^ 9 : Nat) : Int) := by omega
     rw [Int.natCast_pow] at h2
     have e9 : ((10 ^ 9 : Nat) : Int) = 1000000000 := rfl
     rw [e9] at h2
     exact ⟨hr.1, Int.lt_of_lt_of_le hr.2 h2⟩
    generalize dv (codes p) = d at *
    obtain ⟨hd0, hd1⟩ := hdr
    clear hcp HI
    go_wp2_with fail
    (with_reducible refine (HPC.out _).mono ?_)
    rintro e w2 ⟨rfl, hb2⟩
    clear HPC
    replace HO := HO.below hb2
    replace HB := HB.trans (hb2.mono HB.size)
    replace hB := HB.size
    clear hb2
    have hdw : IntKind.u32.wrap d = d := by rw [IntKind.wrap_u32]; omega

    go_wp2_with (at_builtin; refine app_I W.heap.size rfl _ _ 116 168 .u32 4 rfl Tryz.underlying116 info_u32 (by decide) _ l _ HO rfl rfl HB hB hLL.out ?_; intro v1 w1 HO1 HB1 hB1)
    go_roundg ((E : Int) - 9 + 9).toNat
    case measure => omega
    case rel => exact ⟨(E : Int) - 9, _, rfl, rfl, HO1, HB1, by omega, by omega, HST⟩
   ·obtain ⟨hd, hv⟩ := HI.out.last (by omega)
    have HVl : Hid (V B9 l = z.natAbs) := by have := hv; rw [List.drop_zero] at this; exact this.trans HV.out
    have HDl := Lib.hid hd
    clear hd hv HI
    obtain ⟨A1, c1, rfl, hs⟩ := HO.form
    have HSl := Lib.hid hs
    have HR4 := HR2.keep HB
    clear hs
    go_wp2_with (go_at_call 126; (with_reducible refine (htrim_n _ _ _ l _ HSl.out HDl.out).mono ?_); rintro e w2 ⟨v, rfl, hv, hb2⟩; obtain ⟨nv, A4, n4, c4, rfl, HV4⟩ := hv.form; clear hv; have HR5 := Lib.hid (HR4.keep hb2); obtain ⟨⟨u1, r1⟩, ⟨u2, u3, u4, r2⟩, r3, r4, r5⟩ := HR5.out)
    refine bodyPost_ret (v := .agg #[.bool nv, .slice A4 n4 c4]) (by simp [results, Tryz.results81, go_sem, r1, r2, r5]) rfl ⟨_, rfl, ?_, ?_⟩
    ·refine IsZ.res2 (z := z) ?_ HR5.out _ _
     rw [← HZ.out, ← HVl.out]
     exact HV4.out
    ·exact below_set (below_set (below_step (below_step HBW HB) hb2) (by omega) _) (by omega) _
 
 ·have qb : (gd (codes s) 0 == 45) = false := by simpa using q
  have hz0 : ¬ z < 0 := fun h => q (hneg.2 h)
  have hsd := strip_drop (a := 0) hne (by rw [if_neg q])
  rw [hst] at hsd
  
  have hct : codes s = (codes s).drop 0 := by rw [List.drop_zero]
  
  rw [← hct] at hsd
  have HT : Hid (codes s = txN z.natAbs) := hsd.symm
  have HD : Hid (Dgt (codes s) 0) := by
   intro j h1 h2
   rw [gd_lt h2]
   exact txN_range z.natAbs _ (by rw [hsd]; exact List.getElem_mem _)
  have hal : 0 < (codes s).length := by
   rw [← hsd]
   exact List.length_pos_iff.2 (txN_ne z.natAbs)
  have HV : Hid (dv (codes s) = z.natAbs) := by rw [← hsd]; exact dv_txN _
  have HZ : Hid (sgnd false (z.natAbs : Int) = z) := by show _ = _; unfold sgnd; rw [if_neg (by simp)]; omega
  have HL := Lib.hid (codes_length s)
  have hs1 : s.size ≤ 100000000001 := by omega
  have hs2 : 0 < s.size := by have := HL.out; omega
  have hs3 : (1 : Int) ≤ (s.size : Int) := by omega
  clear hsd hz0 q hneg hst hne hL hlen hg hz hct
  go_enter Tryz.func81, Tryz.ntmps81
  go_wp2
  generalize hW : w.alloc (Obj.cells #[Value.bool false, Value.slice none 0 0] 118) = W
  obtain ⟨HR2, hWs, HBW⟩ := start1 w _ W hW
  clear hW hx0
  go_loopg [4, 5] (s.size + 9) (fun g out ev wr => ∃ (e : Int) (l : List Int), ev = .int .i64 e ∧ g = (e + 9).toNat ∧ OwI wr W.heap.size 168 .u32 out l ∧ Below W.heap.size W wr ∧ e ≤ s.size ∧ -9 ≤ e ∧ Hid (ParI (codes s) 0 e l))
  case atStart => exact ⟨s.size, [], rfl, by omega, OwI.nil _ _ _ _, Below.refl _ _, by omega, by omega, by have := ParI.first hal; rw [HL.out] at this; exact this⟩
  case round =>
   obtain ⟨e, l, rfl, hgk, HO, HB, he1, he2, HI⟩ := hrel
   have hB := HB.size
   by_cases he : 0 < e
   ·obtain ⟨E, rfl⟩ : ∃ E : Nat, e = E := ⟨e.toNat, by omega⟩
    have hLL : Hid ((l.length + 1) * 4 ≤ 140737488355328) := by have := HI.out.len (by omega); have := HL.out; show _ ≤ _; omega
    have hw : IntKind.i64.wrap ((E : Int) - 9) = (E : Int) - 9 := by rw [IntKind.wrap_i64]; omega
    have hE0 : (0 : Int) < (E : Int) := by omega
    obtain ⟨lo, hlo⟩ : ∃ lo, (max 0 ((E : Int) - 9)).toNat = lo := ⟨_, rfl⟩
    have hj : (0 + 9 < E ∧ lo = E - 9) ∨ (E ≤ 0 + 9 ∧ lo = 0) := by omega
    have HST := Lib.hid (ParI.step (j := lo) HD.out HI.out (by omega) hj)
    obtain ⟨p, hp⟩ : ∃ p, s.extract lo E = p := ⟨_, rfl⟩
    have hcp := codes_seg hp
    have hps : p.size = E - lo := by rw [← codes_length, hcp, seg_length _ (by omega) (by rw [HL.out]; omega)]
    have HPC := Lib.hid (fun w => ParseUint_c p w (by omega) (by omega) (by rw [hcp]; exact seg_all HD.out (Nat.zero_le _) (by rw [HL.out]; omega)))
    rw [← hcp] at HST
    have hdr : 0 ≤ dv (codes p) ∧ dv (codes p) < 1000000000 := by
     have hr := dv_range (seg_all (b := lo) (c := E) HD.out (Nat.zero_le _) (by rw [HL.out]; omega))
     rw [← hcp, codes_length, hps] at hr
     have h1 : (10 : Nat) ^ (E - lo) ≤ 10 ^ 9 := Nat.pow_le_pow_right (by omega) (by omega)
     have h2 : ((10 ^ (E - lo) : Nat) : Int) ≤ ((10 ^ 9 : Nat) : Int) := by omega
     rw [Int.natCast_pow] at h2
     have e9 : ((10 ^ 9 : Nat) : Int) = 1000000000 := rfl
     rw [e9] at h2
     exact ⟨hr.1, Int.lt_of_lt_of_le hr.2 h2⟩
    generalize dv (codes p) = d at *
    obtain ⟨hd0, hd1⟩ := hdr
    clear hcp HI
    go_wp2_with fail
    (with_reducible refine (HPC.out _).mono ?_)
    rintro e w2 ⟨rfl, hb2⟩
    clear HPC
    replace HO := HO.below hb2
    replace HB := HB.trans (hb2.mono HB.size)
    replace hB := HB.size
    clear hb2
    have hdw : IntKind.u32.wrap d = d := by rw [IntKind.wrap_u32]; omega

    go_wp2_with (at_builtin; refine app_I W.heap.size rfl _ _ 116 168 .u32 4 rfl Tryz.underlying116 info_u32 (by decide) _ l _ HO rfl rfl HB hB hLL.out ?_; intro v1 w1 HO1 HB1 hB1)
    go_roundg ((E : Int) - 9 + 9).toNat
    case measure => omega
    case rel => exact ⟨(E : Int) - 9, _, rfl, rfl, HO1, HB1, by omega, by omega, HST⟩
   ·obtain ⟨hd, hv⟩ := HI.out.last (by omega)
    have HVl : Hid (V B9 l = z.natAbs) := by have := hv; rw [List.drop_zero] at this; exact this.trans HV.out
    have HDl := Lib.hid hd
    clear hd hv HI
    obtain ⟨A1, c1, rfl, hs⟩ := HO.form
    have HSl := Lib.hid hs
    have HR4 := HR2.keep HB
    clear hs
    go_wp2_with (go_at_call 126; (with_reducible refine (htrim_n _ _ _ l _ HSl.out HDl.out).mono ?_); rintro e w2 ⟨v, rfl, hv, hb2⟩; obtain ⟨nv, A4, n4, c4, rfl, HV4⟩ := hv.form; clear hv; have HR5 := Lib.hid (HR4.keep hb2); obtain ⟨⟨u1, r1⟩, ⟨u2, u3, u4, r2⟩, r3, r4, r5⟩ := HR5.out)
    refine bodyPost_ret (v := .agg #[.bool nv, .slice A4 n4 c4]) (by simp [results, Tryz.results81, go_sem, r1, r2, r5]) rfl ⟨_, rfl, ?_, ?_⟩
    ·refine IsZ.res2 (z := z) ?_ HR5.out _ _
     rw [← HZ.out, ← HVl.out]
     exact HV4.out
    ·exact below_set (below_set (below_step (below_step HBW HB) hb2) (by omega) _) (by omega) _
end Go.Proofs.YtibdipfhfaeooaaGreatDoor


set_option linter.unusedVariables false
set_option linter.unusedSimpArgs false
namespace Go.Proofs.YtibdipfhfaeooaaGreatDoor
open Go.RowKit

theorem len_dlN {z : Int} (h : dlN z.natAbs ≤ 2000) : (dg B9 z).length ≤ 2000 := len_of_dl (by rw [dl_dlN]; exact h)
/-- The cases of what follow returns. -/
theorem flw_cases (M : Mp) (z : Int) (most : Nat) : flwA M (most + 1) [] z = (3, 0, []) ∨ flwA M (most + 1) [] z = (4, 0, []) ∨ ∃ t l, flwA M (most + 1) [] z = (0, t, l) ∧ 0 < l.length ∧ l.length ≤ most ∧ t + l.length ≤ most ∧ ∀ x, x ∈ l → dl x ≤ 2000 := by
 rcases flwA_FS M z most with ⟨h, -⟩ | ⟨h, -⟩ | ⟨t, s, L, h, h1, h2, h3, h4, h5, -⟩
 ·exact .inl h
 ·exact .inr (.inl h)
 ·refine .inr (.inr ⟨t, _, h, by simpa using h1, by simp; omega, by simpa using h2, fun x hx => ?_⟩)
  obtain ⟨i, -, rfl⟩ := List.mem_map.1 hx
  exact h5 _
theorem info_S : (Tryz.prog.info? 9).map (fun i => (i.zero, i.size, i.bytes)) = some (some (.string ByteArray.empty), 1, 16) := by kernel_rfl
theorem gd_mem {l : List Int} {i : Nat} (h : i < l.length) : gd l i ∈ l := by rw [gd_lt h]; exact List.getElem_mem h
theorem take_snoc_gd {l : List Int} {i : Nat} (h : i < l.length) : (l.take (i + 1)).map tS = (l.take i).map tS ++ [tS (gd l i)] := by
 rw [List.take_succ_eq_append_getElem h, List.map_append, gd_lt h]; rfl
set_option maxRecDepth 100000 in
set_option maxHeartbeats 8000000 in
theorem Fate_ok (M : Mp) (z : Int) (most : Nat) (v : Value) (w : World) (hM : IsM w v M) (hok : okM M) (hz : dlN z.natAbs ≤ 2000) (hmo : most ≤ 20000) (ht : Tb w) :
  Calls Tryz.prog 38 #[v, .string (tS z), .int .i64 most] w fun e w' => ∃ A c, e = .returned (.tuple #[.int .i64 (flwA M (most + 1) [] z).2.1, .slice A (flwA M (most + 1) [] z).2.2.length c, .int .i64 (flwA M (most + 1) [] z).1]) ∧ Hid (LsS w' A c ((flwA M (most + 1) [] z).2.2.map tS)) ∧ Below w.heap.size w w' := by
 obtain ⟨md, A, n, c, A', n', c', rfl, HM⟩ := hM.form
 have V3 := VM.new w 24 HM.out
 have HB := below_alloc (Below.refl w.heap.size w) (Obj.cells #[Value.int .i64 md, Value.slice A n c, Value.slice A' n' c'] 24)
 have HOK : Hid (okB M = true) := okB_iff.2 hok
 have HV := Lib.hid (vld_tS hz)
 have hs := Lib.hid (tS_sz hz)
 have HT := Lib.hid ht
 have HOKM := Lib.hid hok
 have HZ := Lib.hid hz
 have HLZ := Lib.hid (len_dlN hz)
 have hm0 : (0 : Int) ≤ (most : Int) := by omega
 have hm1 : (most : Int) ≤ 20000 := by omega
 obtain ⟨Rr, hRr⟩ : ∃ R, flwA M (most + 1) [] z = R := ⟨_, rfl⟩
 have HC : Hid (Rr = (3, 0, []) ∨ Rr = (4, 0, []) ∨ ∃ t l, Rr = (0, t, l) ∧ 0 < l.length ∧ l.length ≤ most ∧ t + l.length ≤ most ∧ ∀ x, x ∈ l → dl x ≤ 2000) := by have := flw_cases M z most; rw [hRr] at this; exact this
 have HF : Hid (∀ (u : Value) (W : World) (v : Value), IsM W v M → IsH W u z → Tb W → Calls Tryz.prog 83 #[v, u, .int .i64 most] W fun e w' => ∃ A c, e = .returned (.tuple #[.int .i64 Rr.2.1, .slice A Rr.2.2.length c, .int .i64 Rr.1]) ∧ Hid (LsZ B9 .u32 w' A c Rr.2.2) ∧ Below W.heap.size W w') :=
  fun u W v h1 h2 h3 => by have := follow_c M z most v u W h1 h2 hok (by have := HLZ.out; omega) (by omega) h3; rw [hRr] at this; exact this
 rw [hRr]
 clear hRr hok hM hz ht
 go_enter Tryz.func38, Tryz.ntmps38
 go_wp2_with fail
 (with_reducible refine (SValid_c M _ _ V3.im.out).mono ?_)
 rintro e w4 ⟨he, hb⟩
 replace HB := below_step HB hb
 replace V3 := V3.keep hb
 clear hb
 obtain rfl : e = .returned (.bool true) := by rw [he, HOK.out] <;> rfl
 clear he

 go_wp2_with fail
 (with_reducible refine (nValid_c (tS z) _ hs.out).mono ?_)
 rintro e w5 ⟨he, hb⟩
 replace HB := below_step HB hb
 replace V3 := V3.keep hb
 clear hb
 obtain rfl : e = .returned (.bool true) := by rw [he, HV.out] <;> rfl
 clear he

 have m0 := V3.c0; have m1 := V3.c1; have m2 := V3.c2
 go_wp2_with fail
 clear m0 m1 m2
 replace V3 := V3.drew
 replace HB := below_drew HB
 generalize hWd : w5.drew = wd at *

 refine wp_region_F (fun w' => w'.cell? ⟨w.heap.size, 0, none⟩ = some (.int .i64 md) ∧ w'.cell? ⟨w.heap.size, 1, none⟩ = some (.slice A n c) ∧ w'.cell? ⟨w.heap.size, 2, none⟩ = some (.slice A' n' c')) [] (by kernel_rfl) (by rw [hWd]; exact ⟨V3.c0, V3.c1, V3.c2⟩) (fun hHeld => ?_)
 rw [hWd] at hHeld ⊢
 refine tF 0 ({ dst := some 32, op := Go.Op.load 24 (Go.Operand.tmp 3), type := 24, pos := "fate.go:56", after := #[], guard := none }) hHeld ?_; try go_frame
 refine tF 1 ({ dst := some 33, op := Go.Op.move (Go.Operand.tmp 1), type := 9, pos := "fate.go:56", after := #[], guard := none }) hHeld ?_; try go_frame
 refine tF 3 ({ dst := some 35, op := Go.Op.move (Go.Operand.tmp 2), type := 3, pos := "fate.go:56", after := #[], guard := none }) hHeld ?_; try go_frame
 refine wpAnyF_one (i := 2) (by kernel_rfl) rfl (fun K hK => ?_)
 go_simp
 (go_at_call 81; (with_reducible refine (hParse_c z _ (by have := HZ.out; omega)).mono ?_); rintro e w6 ⟨v, rfl, hv, hb⟩; obtain ⟨n6, A6, m6, k6, rfl, H6⟩ := hv.form; clear hv; replace V3 := V3.keep hb; replace HB := below_step HB hb; clear hb)
 refine hK.out _ _ (by exact ⟨V3.c0, V3.c1, V3.c2⟩) (fun hHeld => ?_)
 clear hK K
 try go_frame
 refine wpAnyF_one (i := 4) (by kernel_rfl) rfl (fun K hK => ?_)
 go_simp
 (go_at_call 83; (with_reducible refine (HF.out _ _ _ V3.im.out H6.out (HT.out.below HB)).mono ?_); rintro e w7 ⟨A7, c7, rfl, HL, hb⟩; replace V3 := V3.keep hb; replace HB := below_step HB hb; clear hb)
 refine hK.out _ _ (by exact ⟨V3.c0, V3.c1, V3.c2⟩) (fun hHeld => ?_)
 clear hK K
 try go_frame
 refine tF 5 ({ dst := some 31, op := Go.Op.move (Go.Operand.tmp 36), type := 124, pos := "fate.go:56", after := #[{ on := 4, ground := Go.Ground.data }], guard := none }) hHeld ?_; try go_frame
 refine tF 6 ({ dst := some 37, op := Go.Op.extract (Go.Operand.tmp 31) 0, type := 3, pos := "fate.go:56", after := #[{ on := 5, ground := Go.Ground.data }], guard := none }) hHeld ?_; try go_frame
 refine tF 7 ({ dst := some 38, op := Go.Op.extract (Go.Operand.tmp 31) 1, type := 123, pos := "fate.go:56", after := #[{ on := 5, ground := Go.Ground.data }, { on := 9, ground := Go.Ground.gcOnly Go.Departure.lateStores }], guard := none }) hHeld ?_; try go_frame
 refine tF 8 ({ dst := some 39, op := Go.Op.extract (Go.Operand.tmp 31) 2, type := 31, pos := "fate.go:56", after := #[{ on := 5, ground := Go.Ground.data }, { on := 10, ground := Go.Ground.gcOnly Go.Departure.lateStores }], guard := none }) hHeld ?_; try go_frame
 refine tF 9 ({ dst := some 9, op := Go.Op.assign (Go.Operand.tmp 37), type := 3, pos := "fate.go:56", after := #[{ on := 6, ground := Go.Ground.data }, { on := 4, ground := Go.Ground.chain }, { on := 0, ground := Go.Ground.phase }, { on := 1, ground := Go.Ground.phase }, { on := 2, ground := Go.Ground.phase }, { on := 3, ground := Go.Ground.phase }, { on := 4, ground := Go.Ground.phase }, { on := 5, ground := Go.Ground.phase }, { on := 6, ground := Go.Ground.phase }, { on := 7, ground := Go.Ground.textOnly Go.Departure.lateStores }, { on := 8, ground := Go.Ground.textOnly Go.Departure.lateStores }], guard := none }) hHeld ?_; try go_frame
 refine tF 10 ({ dst := some 10, op := Go.Op.assign (Go.Operand.tmp 38), type := 123, pos := "fate.go:56", after := #[{ on := 7, ground := Go.Ground.data }, { on := 9, ground := Go.Ground.chain }, { on := 0, ground := Go.Ground.phase }, { on := 1, ground := Go.Ground.phase }, { on := 2, ground := Go.Ground.phase }, { on := 3, ground := Go.Ground.phase }, { on := 4, ground := Go.Ground.phase }, { on := 5, ground := Go.Ground.phase }, { on := 6, ground := Go.Ground.phase }, { on := 7, ground := Go.Ground.phase }, { on := 8, ground := Go.Ground.textOnly Go.Departure.lateStores }, { on := 9, ground := Go.Ground.phase }], guard := none }) hHeld ?_; try go_frame
 refine tF 11 ({ dst := some 11, op := Go.Op.assign (Go.Operand.tmp 39), type := 31, pos := "fate.go:56", after := #[{ on := 8, ground := Go.Ground.data }, { on := 10, ground := Go.Ground.chain }, { on := 0, ground := Go.Ground.phase }, { on := 1, ground := Go.Ground.phase }, { on := 2, ground := Go.Ground.phase }, { on := 3, ground := Go.Ground.phase }, { on := 4, ground := Go.Ground.phase }, { on := 5, ground := Go.Ground.phase }, { on := 6, ground := Go.Ground.phase }, { on := 7, ground := Go.Ground.phase }, { on := 8, ground := Go.Ground.phase }, { on := 9, ground := Go.Ground.phase }, { on := 10, ground := Go.Ground.phase }], guard := none }) hHeld ?_; try go_frame
 refine wpAnyF_done (by kernel_rfl) ?_ _
 clear hHeld hWd HF
 rcases HC.out with h | h | ⟨t, l, h, h1, h2, h3, h4⟩
 ·subst h
  clear HC
  go_wp2
  go_ret3
  exact ⟨none, 0, rfl, LsS.nil _, HB⟩
 ·subst h
  clear HC
  go_wp2
  go_ret3
  exact ⟨none, 0, rfl, LsS.nil _, HB⟩
 ·subst h
  clear HC
  dsimp only at HL ⊢
  obtain ⟨bl, ol, _, _, _, _, rfl, _⟩ := HL.out.at (j := 0) h1
  have H4 := Lib.hid h4
  have HLL : Hid ((l.length + 1) * 16 ≤ 140737488355328) := by show _ ≤ _; omega
  clear h3 h4
  have hll : (0 : Int) < (l.length : Int) := by omega
  go_wp2_with fail
  have HLL0 := Lib.hid HT.out
  have HB7 := HB
  have HT7 := Lib.hid (HT.out.below HB)
  clear HB V3 H6
  go_loopg [45, 12] l.length (fun g iv ov wr => ∃ (i : Nat), g = l.length - i ∧ iv = .int .i64 i ∧ i ≤ l.length ∧ Hid (OwS wr w7.heap.size 9 ov ((l.take i).map tS)) ∧ Below w7.heap.size w7 wr)
  case atStart => exact ⟨0, rfl, rfl, Nat.zero_le _, OwS.nil _ _ _, Below.refl _ _⟩
  case round =>
   obtain ⟨i, hgk, rfl, hi, HO, HB⟩ := hrel
   by_cases hil : i < l.length
   ·obtain ⟨nv, A8, n8, c8, c0, c1, hz8⟩ := (HL.out.below HB).el hil
    have hi0 : (0 : Int) ≤ (i : Int) := by omega
    have hi1 : (i : Int) < (l.length : Int) := by omega
    have hd8 := H4.out _ (gd_mem hil)
    have HTK := Lib.hid (take_snoc_gd hil)
    have q0 := c0.c
    have q1 := c1.c
    go_upto_region 12 with fail
    clear q0 q1
    have hba := below_alloc (Below.refl wr.heap.size wr) (Obj.cells #[Value.bool nv, Value.slice A8 n8 c8] 118)
    have V14 := VX.new wr 118 hz8.out
    replace HO := Lib.hid (HO.out.below hba)
    replace HB := below_step HB hba
    generalize hW : wr.alloc (Obj.cells #[Value.bool nv, Value.slice A8 n8 c8] 118) = W14 at *
    clear hW c0 c1 hz8 hba
    have m0 := V14.c0; have m1 := V14.c1
    go_wp2_with fail
    (with_reducible refine (hStr_c (gd l i) _ _ V14.iz.out (HT7.out.below HB) (by have := len_of_dl hd8; omega)).mono ?_)
    rintro e w15 ⟨rfl, hb⟩
    replace HO := Lib.hid (HO.out.below hb)
    replace HB := below_step HB hb
    clear hb m0 m1 V14
    have hbs := HB.size
    have hlt : ((List.map tS (List.take i l)).length + 1) * 16 ≤ 140737488355328 := by rw [List.length_map, List.length_take]; have := HLL.out; omega
    go_wp2_with (at_builtin; refine app_T w7.heap.size rfl _ _ 43 9 16 rfl Tryz.underlying43 info_S (by decide) _ _ (tS (gd l i)) HO.out rfl rfl hbs hlt ?_; intro v1 w1 HO1 HB1 HK1 hb1)
    replace HO1 := Lib.hid HO1
    rw [← HTK.out] at HO1
    go_roundg (l.length - (i + 1))
    case measure => omega
    case rel => exact ⟨i + 1, rfl, by go_num, by omega, HO1, HB.trans HB1⟩
   ·obtain rfl : i = l.length := by omega
    rw [List.take_length] at HO
    obtain ⟨A9, c9, rfl, hs9⟩ := HO.out.form
    rw [List.length_map] at *
    have HS9 := Lib.hid hs9
    clear hs9 HO
    go_wp2
    go_ret3
    exact ⟨A9, c9, rfl, HS9, HB7.trans (HB.mono HB7.size)⟩
end Go.Proofs.YtibdipfhfaeooaaGreatDoor

