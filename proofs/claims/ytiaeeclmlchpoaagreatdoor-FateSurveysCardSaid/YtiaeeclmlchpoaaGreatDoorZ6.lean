/- What num.Valid returns. No condition. -/
import Derived.Test.YtiaeeclmlchpoaaGreatDoorZ1
import Derived.Laws.RangeAny
import Derived.Test.YtiaeeclmlchpoaaGreatDoorZ5
import Derived.Lib.AppendIntMem
import Derived.Lib.AtoiErrMem
import Derived.Test.YtiaeeclmlchpoaaGreatDoorZ4
import Derived.Test.YtiaeeclmlchpoaaGreatDoorZ3
import Derived.Maps.RangeWalk
import Derived.Test.YtiaeeclmlchpoaaGreatDoorZ2
import Derived.Lib.AppendStr
import Derived.Deep.LoopGhost
import Derived.Maps.OwnIn
import Derived.Maps.Views
set_option linter.unusedVariables false
set_option linter.unusedSimpArgs false
namespace Go.Proofs.YtiaeeclmlchpoaaGreatDoor
open Go.RowKit

theorem codes_nonneg (s : ByteArray) (k : Nat) : 0 ≤ gd (codes s) k := by
  rcases Nat.lt_or_ge k (codes s).length with h | h
  · rw [gd_lt h]; exact (codes_range s _ (List.getElem_mem h)).1
  · rw [gd_ge h]; exact Int.le_refl _
theorem dec_digit (s : ByteArray) (pos : Nat) (h : pos < s.size) (h1 : gd (codes s) pos < 128) : Utf8.decode s pos = ((gd (codes s) pos).toNat, 1) := by
  have e := codes_gd h
  rw [decode_ascii s pos h (by omega)]
  congr 1
  omega
theorem dec_other (s : ByteArray) (pos : Nat) (h : pos < s.size) (h1 : ¬ gd (codes s) pos < 128) : 128 ≤ (Utf8.decode s pos).1 := by
  have e := codes_gd h
  exact (decode_high s pos h (by omega)).1


theorem codes_drop1 {s t : ByteArray} (h : s.extract 1 s.size = t) : codes t = (codes s).drop 1 := by
  subst h
  unfold codes
  rw [ByteArray.data_extract, Array.toList_extract]
  simp only [List.extract_eq_take_drop, List.map_take, List.map_drop]
  rw [List.take_of_length_le]
  simp
/-- What is asked of the digits. -/
def okD (T : List Int) (neg : Bool) : Prop := (0 < T.length ∧ T.length ≤ 2000) ∧ ¬ (gd T 0 = 48 ∧ (1 < T.length ∨ neg = true)) ∧ ∀ j, j < T.length → 48 ≤ gd T j ∧ gd T j ≤ 57
def okQ (T : List Int) (neg : Bool) : Prop := ¬ (gd T 0 = 48 ∧ (1 < T.length ∨ neg = true))
theorem okD0 {l : List Int} (h : l ≠ []) (q : gd l 0 ≠ 45) : vldL l = true ↔ okD l false := by
  rw [vld_char (a := 0) h (by rw [if_neg q])]
  unfold okD
  simp
theorem okD1 {l : List Int} (h : l ≠ []) (q : gd l 0 = 45) : vldL l = true ↔ okD (l.drop 1) true := by
  rw [vld_char (a := 1) h (by rw [if_pos q])]
  unfold okD
  have hl : (l.drop 1).length = l.length - 1 := by simp
  rw [hl]
  constructor
  · rintro ⟨⟨h1, h2⟩, h3, h4⟩
    refine ⟨⟨by omega, h2⟩, fun h5 => h3 ⟨by rw [gd_drop] at h5; exact h5.1, by omega⟩, fun j hj => by rw [gd_drop, Nat.add_comm]; exact h4 _ (by omega) (by omega)⟩
  · rintro ⟨⟨h1, h2⟩, h3, h4⟩
    refine ⟨⟨by omega, h2⟩, fun h5 => h3 ⟨by rw [gd_drop]; exact h5.1, .inr rfl⟩, fun j hj hj2 => ?_⟩
    have := h4 (j - 1) (by omega)
    rw [gd_drop, show 1 + (j - 1) = j by omega] at this
    exact this
theorem not_ok {b : Bool} {P : Prop} (h : b = true ↔ P) (hn : ¬ P) : b = false := by cases b with | false => rfl | true => exact absurd (h.1 rfl) hn

set_option maxRecDepth 100000 in
set_option maxHeartbeats 4000000 in
theorem nValid_c (s : ByteArray) (w : World) (hs : s.size ≤ 9223372036854775807) :
    Calls Tryz.prog 23 #[.string s] w fun e w' => e = .returned (.bool (vldL (codes s))) ∧ Below w.heap.size w w' := by
  have hB : Below w.heap.size w w := Below.refl _ _
  rcases Nat.eq_zero_or_pos s.size with h0 | h0
  · have e0 := toList_nil h0
    have hr : vldL (codes s) = false := by rw [codes_nil h0]; rfl
    rw [hr]
    have hz : (s.size : Int) ≤ 0 := by omega
    clear hr h0
    go_enter Tryz.func23, Tryz.ntmps23
    go_wp2
    go_ret
    exact ⟨rfl, hB⟩
  · obtain ⟨e1, e2, e3⟩ := toList_cons h0
    have HNE : Hid (codes s ≠ []) := fun h => by have := codes_length s; rw [h] at this; simp at this; omega
    have HL := Lib.hid (codes_length s)
    have hx0 : ∀ h : 0 < s.size, ((s[0]'h).toNat : Int) = gd (codes s) 0 := fun h => codes_gd h
    by_cases hsz : (s.size : Int) ≤ 2001
    · by_cases q : gd (codes s) 0 = 45
      · have qb : (gd (codes s) 0 == 45) = true := by simpa using q
        obtain ⟨t, ht⟩ : ∃ t, s.extract 1 s.size = t := ⟨_, rfl⟩
        have hct := codes_drop1 ht
        have hts : s.size - 1 = t.size := by rw [← codes_length t, hct, ← codes_length s]; simp
        have HC := Lib.hid (okD1 HNE.out q)
        rw [← hct] at HC
        have hx1 : ∀ h : 1 < s.size, ((s[1]'h).toNat : Int) = gd (codes t) 0 := fun h => by rw [hct, gd_drop]; exact codes_gd h
        clear q hct
        have HT := Lib.hid (codes_length t)
        by_cases q1 : 0 < t.size
        · have e4 := toList_cons q1
          obtain ⟨e4, e5, e6⟩ := e4
          have hxa : ∀ h : 0 < t.size, ((t[0]'h).toNat : Int) = gd (codes t) 0 := fun h => codes_gd h
          by_cases q2 : (t.size : Int) ≤ 2000
          · by_cases q3 : gd (codes t) 0 = 48 ∧ (1 < t.size ∨ true = true)
            · have hr := not_ok HC.out (fun h => h.2.1 ⟨q3.1, by rw [HT.out]; exact q3.2⟩)
              rw [hr]
              have qc : (gd (codes t) 0 == 48) = true := by simpa using q3.1
              
              clear q3 hr
              go_enter Tryz.func23, Tryz.ntmps23
              go_wp2
              all_goals (go_ret; exact ⟨rfl, hB⟩)
            · have HQ : Hid (okQ (codes t) true) := by show ¬ _; rw [HT.out]; exact q3
              have q3' : (gd (codes t) 0 == 48) = false ∨ ((gd (codes t) 0 == 48) = true ∧ ¬ (1 : Int) < (t.size : Int)) := by
                by_cases h48 : gd (codes t) 0 = 48
                · exact .inr ⟨by simpa using h48, fun h => q3 ⟨h48, .inl (by omega)⟩⟩
                · exact .inl (by simpa using h48)
              have q4 : (gd (codes t) 0 == 48) = false := by by_cases h48 : gd (codes t) 0 = 48; exact absurd ⟨h48, .inr rfl⟩ q3; simpa using h48
              clear q3
              clear q3'
              all_goals
                go_enter Tryz.func23, Tryz.ntmps23
                go_wp2
                go_loopw [5] (fun _ wr => ∃ k : Nat, k ≤ t.size ∧ wr = w.iter t k ∧ Hid (Digs (codes t) 0 k)) (fun _ wr => t.size - wr.iterPos w.heap.size)
                case atStart => exact ⟨0, by omega, rfl, fun j h1 h2 => by omega⟩
                case round =>
                  obtain ⟨k, hk2, rfl, HI⟩ := hrel
                  by_cases hk : k < t.size
                  · have hnx := fun ty => run_next_any (P := Tryz.prog) w t k ty hk
                    have HD := Lib.hid (dec_digit t k hk)
                    have HO := Lib.hid (dec_other t k hk)
                    have r0 := codes_nonneg t k
                    by_cases d0 : gd (codes t) k < 128
                    · have e0 := HD.out d0
                      rw [e0] at hnx
                      simp only [Int.toNat_of_nonneg r0] at hnx
                      clear e0
                      by_cases d1 : gd (codes t) k < 48
                      · have HR : Hid (vldL (codes s) = false) := not_ok HC.out (fun h => by have := h.2.2 k (by rw [HT.out]; exact hk); omega)
                        go_wp2
                        go_ret
                        exact ⟨by rw [HR.out]; rfl, below_alloc hB _⟩
                      · by_cases d2 : 57 < gd (codes t) k
                        · have HR : Hid (vldL (codes s) = false) := not_ok HC.out (fun h => by have := h.2.2 k (by rw [HT.out]; exact hk); omega)
                          go_wp2
                          go_ret
                          exact ⟨by rw [HR.out]; rfl, below_alloc hB _⟩
                        · have HS : Hid (Digs (codes t) 0 (k + 1)) := HI.out.snoc (by omega) (by omega)
                          go_wp2
                          go_roundw
                          case rel => exact ⟨k + 1, by omega, rfl, HS⟩
                          case measure => simp; omega
                    · have h128 := HO.out d0
                      have HR : Hid (vldL (codes s) = false) := not_ok HC.out (fun h => by have := h.2.2 k (by rw [HT.out]; exact hk); omega)
                      clear d0
                      generalize (Utf8.decode t k).1 = rn at *
                      have d1 : ¬ (rn : Int) < 48 := by omega
                      have d2 : (57 : Int) < (rn : Int) := by omega
                      go_wp2
                      go_ret
                      exact ⟨by rw [HR.out]; rfl, below_alloc hB _⟩
                  · have hnx := fun ty => run_next_end (P := Tryz.prog) w t k ty hk
                    have HR : Hid (vldL (codes s) = true) := HC.out.2 ⟨⟨by rw [HT.out]; exact q1, by rw [HT.out]; omega⟩, HQ.out, fun j h2 => HI.out j (by omega) (by rw [HT.out] at h2; omega)⟩
                    go_wp2
                    go_ret
                    exact ⟨by rw [HR.out]; rfl, below_alloc hB _⟩
          · exact absurd (by omega) q2
        · have hr := not_ok HC.out (fun h => by have := h.1.1; rw [HT.out] at this; omega)
          have e4 := toList_nil (s := t) (by omega)
          have hz : (t.size : Int) ≤ 0 := by omega
          rw [hr]
          clear hr
          go_enter Tryz.func23, Tryz.ntmps23
          go_wp2
          all_goals (go_ret; exact ⟨rfl, hB⟩)

    
      · have qb : (gd (codes s) 0 == 45) = false := by simpa using q
        have HC := Lib.hid (okD0 HNE.out q)
        clear q 
        have HT := Lib.hid (codes_length s)
        by_cases q1 : 0 < s.size
        · 
          
          have hxa : ∀ h : 0 < s.size, ((s[0]'h).toNat : Int) = gd (codes s) 0 := fun h => codes_gd h
          by_cases q2 : (s.size : Int) ≤ 2000
          · by_cases q3 : gd (codes s) 0 = 48 ∧ (1 < s.size ∨ false = true)
            · have hr := not_ok HC.out (fun h => h.2.1 ⟨q3.1, by rw [HT.out]; exact q3.2⟩)
              rw [hr]
              have qc : (gd (codes s) 0 == 48) = true := by simpa using q3.1
              have qd : (1 : Int) < (s.size : Int) := by have := q3.2; simp at this; omega
              clear q3 hr
              go_enter Tryz.func23, Tryz.ntmps23
              go_wp2
              all_goals (go_ret; exact ⟨rfl, hB⟩)
            · have HQ : Hid (okQ (codes s) false) := by show ¬ _; rw [HT.out]; exact q3
              have q3' : (gd (codes s) 0 == 48) = false ∨ ((gd (codes s) 0 == 48) = true ∧ ¬ (1 : Int) < (s.size : Int)) := by
                by_cases h48 : gd (codes s) 0 = 48
                · exact .inr ⟨by simpa using h48, fun h => q3 ⟨h48, .inl (by omega)⟩⟩
                · exact .inl (by simpa using h48)
              
              clear q3
              rcases q3' with q3 | ⟨q3, q4⟩
              all_goals
                go_enter Tryz.func23, Tryz.ntmps23
                go_wp2
                go_loopw [5] (fun _ wr => ∃ k : Nat, k ≤ s.size ∧ wr = w.iter s k ∧ Hid (Digs (codes s) 0 k)) (fun _ wr => s.size - wr.iterPos w.heap.size)
                case atStart => exact ⟨0, by omega, rfl, fun j h1 h2 => by omega⟩
                case round =>
                  obtain ⟨k, hk2, rfl, HI⟩ := hrel
                  by_cases hk : k < s.size
                  · have hnx := fun ty => run_next_any (P := Tryz.prog) w s k ty hk
                    have HD := Lib.hid (dec_digit s k hk)
                    have HO := Lib.hid (dec_other s k hk)
                    have r0 := codes_nonneg s k
                    by_cases d0 : gd (codes s) k < 128
                    · have e0 := HD.out d0
                      rw [e0] at hnx
                      simp only [Int.toNat_of_nonneg r0] at hnx
                      clear e0
                      by_cases d1 : gd (codes s) k < 48
                      · have HR : Hid (vldL (codes s) = false) := not_ok HC.out (fun h => by have := h.2.2 k (by rw [HT.out]; exact hk); omega)
                        go_wp2
                        go_ret
                        exact ⟨by rw [HR.out]; rfl, below_alloc hB _⟩
                      · by_cases d2 : 57 < gd (codes s) k
                        · have HR : Hid (vldL (codes s) = false) := not_ok HC.out (fun h => by have := h.2.2 k (by rw [HT.out]; exact hk); omega)
                          go_wp2
                          go_ret
                          exact ⟨by rw [HR.out]; rfl, below_alloc hB _⟩
                        · have HS : Hid (Digs (codes s) 0 (k + 1)) := HI.out.snoc (by omega) (by omega)
                          go_wp2
                          go_roundw
                          case rel => exact ⟨k + 1, by omega, rfl, HS⟩
                          case measure => simp; omega
                    · have h128 := HO.out d0
                      have HR : Hid (vldL (codes s) = false) := not_ok HC.out (fun h => by have := h.2.2 k (by rw [HT.out]; exact hk); omega)
                      clear d0
                      generalize (Utf8.decode s k).1 = rn at *
                      have d1 : ¬ (rn : Int) < 48 := by omega
                      have d2 : (57 : Int) < (rn : Int) := by omega
                      go_wp2
                      go_ret
                      exact ⟨by rw [HR.out]; rfl, below_alloc hB _⟩
                  · have hnx := fun ty => run_next_end (P := Tryz.prog) w s k ty hk
                    have HR : Hid (vldL (codes s) = true) := HC.out.2 ⟨⟨by rw [HT.out]; exact q1, by rw [HT.out]; omega⟩, HQ.out, fun j h2 => HI.out j (by omega) (by rw [HT.out] at h2; omega)⟩
                    go_wp2
                    go_ret
                    exact ⟨by rw [HR.out]; rfl, below_alloc hB _⟩
          · have hr := not_ok HC.out (fun h => by have := h.1.2; rw [HT.out] at this; omega)
            rw [hr]
            clear hr
            go_enter Tryz.func23, Tryz.ntmps23
            go_wp2
            all_goals (go_ret; exact ⟨rfl, hB⟩)

        · exact absurd h0 q1
    · have hr : vldL (codes s) = false := by
        by_cases q : gd (codes s) 0 = 45
        · exact not_ok (okD1 HNE.out q) (fun h => by have := h.1.2; simp only [List.length_drop, HL.out] at this; omega)
        · exact not_ok (okD0 HNE.out q) (fun h => by have := h.1.2; rw [HL.out] at this; omega)
      rw [hr]
      clear hr
      go_enter Tryz.func23, Tryz.ntmps23
      go_wp2
      go_ret
      exact ⟨rfl, hB⟩
end Go.Proofs.YtiaeeclmlchpoaaGreatDoor

set_option linter.unusedVariables false
set_option linter.unusedSimpArgs false
namespace Go.Proofs.YtiaeeclmlchpoaaGreatDoor
open Go.RowKit

/-- The library's table of powers of ten lies as it should. -/
def Tb (w : World) : Prop := Lib.TabIs Tryz.prog w "internal/strconv.uint64pow10" .u64 Lib.pow10Tab
theorem Tb.below {w w' : World} (h : Tb w) (hb : Below w.heap.size w w') : Tb w' := by
  unfold Tb Lib.TabIs World.var? at h ⊢
  cases hg : Tryz.prog.globalNamed "internal/strconv.uint64pow10" with
  | none => rw [hg] at h; exact h
  | some g =>
    rw [hg] at h
    simp only [Option.bind_some] at h ⊢
    have hlt : g < w.heap.size := by
      rcases Nat.lt_or_ge g w.heap.size with h' | h'
      · exact h'
      · rw [Array.getElem?_eq_none h'] at h; cases h
    rw [hb.block g hlt]
    exact h
theorem decDigits_tx (u : Nat) : (Lib.decDigits u).map (fun c => (c.toNat : Int)) = txN u := by
  induction u using Nat.strongRecOn with
  | _ u ih =>
    rw [Lib.decDigits]
    split
    · rename_i h
      rcases Nat.eq_zero_or_pos u with rfl | h0
      · rfl
      · unfold txN
        rw [if_neg (by omega), digs_pos (by omega) h0, show u / 10 = 0 by omega, digs_zero]
        simp
        omega
    · rename_i h
      unfold txN
      rw [if_neg (by omega), digs_pos (by omega) (by omega), List.map_append, ih _ (by omega)]
      unfold txN
      rw [if_neg (by omega)]
      simp
      omega
theorem itoa_tS (u : Nat) : (⟨(Lib.itoa (u : Int)).toArray⟩ : ByteArray) = tS (u : Int) := by
  apply codes_inj
  rw [codes_tS]
  unfold codes tx Lib.itoa
  rw [if_neg (by omega), if_neg (by omega)]
  simp only [Int.toNat_natCast, Int.natAbs_natCast, List.nil_append]
  exact decDigits_tx u
theorem Itoa_c (u : Nat) (w : World) (h : u < 4294967296) (ht : Tb w) :
    Calls Tryz.prog 47 #[.int .i64 (u : Int)] w fun e w' => e = .returned (.string (tS (u : Int))) ∧ Below w.heap.size w w' := by
  refine (Go.Proofs.Tryz.strconv_Itoa (u : Int) (by omega) (by omega) w ht).mono ?_
  rintro e w' ⟨rfl, k, os, rfl⟩
  exact ⟨by rw [itoa_tS], Lib.below_grow _ _ (Nat.le_refl _) _ _⟩
theorem dv_nonneg {l : List Int} (h : ∀ c ∈ l, 48 ≤ c ∧ c ≤ 57) : 0 ≤ dv l := by
  unfold dv
  refine V_nonneg fun d hd => ?_
  simp only [List.mem_map, List.mem_reverse] at hd
  obtain ⟨c, hc, rfl⟩ := hd
  have := h c hc
  omega
theorem dv_cons (c : Int) (l : List Int) : dv (c :: l) = (10 : Int) ^ l.length * (c - 48) + dv l := by
  rw [show c :: l = [c] ++ l from rfl, dv_append]
  simp [dv, V]
/-- The number that digits spell. -/
theorem parse_dv (l : List UInt8) : ∀ (n : Nat), (∀ c ∈ l, 48 ≤ c.toNat ∧ c.toNat ≤ 57) → n * 10 ^ l.length + (dv (l.map fun c => (c.toNat : Int))).toNat ≤ 4294967295 →
    Lib.parseUintM 4294967295 n l = .ok (n * 10 ^ l.length + (dv (l.map fun c => (c.toNat : Int))).toNat) := by
  induction l with
  | nil => intro n _ _; simp [Lib.parseUintM, dv, V]
  | cons c r ih =>
    intro n hd hb
    have hc := hd c (by simp)
    have hr : ∀ c ∈ r, 48 ≤ c.toNat ∧ c.toNat ≤ 57 := fun c hc => hd c (by simp [hc])
    have h0 : 0 ≤ dv (r.map fun c => (c.toNat : Int)) := dv_nonneg (by
      intro x hx
      obtain ⟨c, hc, rfl⟩ := List.mem_map.1 hx
      have := hr c hc
      omega)
    have e : n * 10 ^ (c :: r).length + (dv ((c :: r).map fun c => (c.toNat : Int))).toNat = (n * 10 + (c.toNat - 48)) * 10 ^ r.length + (dv (r.map fun c => (c.toNat : Int))).toNat := by
      rw [List.map_cons, dv_cons, List.length_map, List.length_cons]
      obtain ⟨d, hd⟩ : ∃ d : Nat, c.toNat = 48 + d := ⟨c.toNat - 48, by omega⟩
      obtain ⟨m, hm⟩ : ∃ m : Nat, dv (r.map fun c => (c.toNat : Int)) = m := ⟨_, (Int.toNat_of_nonneg h0).symm⟩
      rw [hm, hd]
      have e1 : (10 : Int) ^ r.length * (((48 + d : Nat) : Int) - 48) + (m : Int) = ((10 ^ r.length * d + m : Nat) : Int) := by
        rw [show (((48 + d : Nat) : Int) - 48) = (d : Int) by omega, Int.natCast_add, Int.natCast_mul, Int.natCast_pow]
        rfl
      rw [e1, Int.toNat_natCast, Int.toNat_natCast, Nat.pow_succ, Nat.add_sub_cancel_left, Nat.add_mul, Nat.mul_comm d, Nat.mul_assoc, Nat.mul_comm (10 ^ r.length) 10]
      omega
    rw [e] at hb ⊢
    have hp : 0 < 10 ^ r.length := Nat.pow_pos (by omega)
    have hle : n * 10 + (c.toNat - 48) ≤ (n * 10 + (c.toNat - 48)) * 10 ^ r.length := Nat.le_mul_of_pos_right _ hp
    rw [Lib.parseUintM, if_pos hc, if_neg (by omega), if_neg (by omega)]
    exact ih _ hr hb
/-- ParseUint at a row of at most nine digits. -/
theorem ParseUint_c (s : ByteArray) (w : World) (h0 : 0 < s.size) (h9 : s.size ≤ 9) (hd : ∀ c ∈ codes s, 48 ≤ c ∧ c ≤ 57) :
    Calls Tryz.prog 42 #[.string s, .int .i64 10, .int .i64 32] w fun e w' => e = .returned (.tuple #[.int .u64 (dv (codes s)), .nilIface]) ∧ Below w.heap.size w w' := by
  have hn := dv_nonneg hd
  have hd' : ∀ c ∈ s.data.toList, 48 ≤ c.toNat ∧ c.toNat ≤ 57 := fun c hc => by
    have := hd _ (List.mem_map.2 ⟨c, hc, rfl⟩)
    omega
  have hl : dv (codes s) < 1000000000 := by
    have h1 : Dg 10 ((codes s).reverse.map (· - 48)) := by
      intro d h
      simp only [List.mem_map, List.mem_reverse] at h
      obtain ⟨c, hc, rfl⟩ := h
      have := hd c hc
      omega
    have h2 := V_lt h1
    have h3 : ((10 : Nat) : Int) ^ ((codes s).reverse.map (· - 48)).length ≤ (10 : Int) ^ 9 := by
      rw [List.length_map, List.length_reverse, codes_length]
      exact_mod_cast Nat.pow_le_pow_right (show 0 < 10 by omega) h9
    unfold dv
    omega
  have hp := parse_dv s.data.toList 0 hd' (by
    rw [Nat.zero_mul, Nat.zero_add]
    show (dv (codes s)).toNat ≤ _
    omega)
  rw [Nat.zero_mul, Nat.zero_add] at hp
  have hne : s.data.toList ≠ [] := fun h => by
    have : s.size = 0 := by rw [← codes_length]; unfold codes; rw [h]; rfl
    omega
  have hq : Lib.parseUintB 32 s.data.toList = .ok (dv (codes s)).toNat := by
    unfold Lib.parseUintB
    rw [if_neg hne]
    exact hp
  refine (Go.Proofs.Tryz.strconv_ParseUint_10_at32_ok s (by omega) _ hq w).mono ?_
  rintro e w' ⟨rfl, h⟩
  refine ⟨by rw [Int.toNat_of_nonneg hn], ?_⟩
  rcases h with rfl | rfl
  · exact Below.refl _ _
  · exact Lib.bytesWorld_below _ _ _
end Go.Proofs.YtiaeeclmlchpoaaGreatDoor

set_option linter.unusedVariables false
set_option linter.unusedSimpArgs false
namespace Go.Proofs.YtiaeeclmlchpoaaGreatDoor
open Go.RowKit

theorem tS_size (u : Nat) (h : 0 < u) : (tS (u : Int)).size = (digs 10 u).length := by
  rw [← codes_length, codes_tS]
  unfold tx
  rw [if_neg (by omega), List.nil_append, Int.natAbs_natCast, txN_length h]
set_option maxRecDepth 100000 in
set_option maxHeartbeats 2000000 in
theorem hDigits_c (z : Int) (v : Value) (w : World) (h : IsH w v z) (ht : Tb w) (sz : (dg B9 z).length ≤ 1000000000) :
    Calls Tryz.prog 27 #[v] w fun e w' => e = .returned (.int .i64 (dl z : Int)) ∧ Below w.heap.size w w' := by
  obtain ⟨na, A, n, c, rfl, H⟩ := h.form
  clear h
  have HB0 : Below w.heap.size w w := Below.refl _ _
  obtain ⟨-, hn, L1⟩ := H.out.sl
  have hc1 := L1.2.1
  have hc2 := L1.2.2
  by_cases hz : z = 0
  · have e2 : dg B9 z = [] := by rw [hz]; exact digs_zero _
    rw [e2] at hn
    have hn0 : n = 0 := hn
    subst hn0
    have e3 : dl z = 1 := by rw [hz]; rfl
    rw [e3]
    clear hn L1 hc1 hc2 e2 e3 H sz
    go_enter Tryz.func27, Tryz.ntmps27
    go_wp2
    go_ret
    exact ⟨rfl, below_alloc HB0 _⟩
  · obtain ⟨t, ht1, ht2, ht3, ht4⟩ := dl_parts (n := z.natAbs) (by omega)
    have HDL : Hid (dl z = 9 * ((dg B9 z).length - 1) + (digs 10 t).length) := by show _ = _; unfold dl; rw [if_neg hz, ht4]; rfl
    have HTS := Lib.hid (tS_size t ht2)
    have hne : 0 < (dg B9 z).length := by
      rcases Nat.eq_zero_or_pos (dg B9 z).length with h0 | h0
      · have := digs_nil B9two (List.eq_nil_of_length_eq_zero h0); omega
      · exact h0
    have hta : gd (dg B9 z) ((dg B9 z).length - 1) = t := ht1
    clear ht1 ht4 hz
    generalize dg B9 z = a at *
    subst hn
    obtain ⟨m, hm⟩ : ∃ m, a.length = m + 1 := ⟨a.length - 1, by omega⟩
    obtain ⟨b, off, rfl, hbl, hcell⟩ := L1.cell (j := m) (by omega)
    rw [hm, Nat.add_sub_cancel] at hta
    rw [hta] at hcell
    have CA : CL w b (off + m) (.int .u32 (t : Int)) := ⟨hcell, hbl⟩
    rw [hm] at HDL ⊢
    rw [Nat.add_sub_cancel] at HDL
    have HT := Lib.hid ht
    clear L1 hcell hbl hta hne ht hc1 hc2
    have hmb : m ≤ 1000000000 := by omega
    rw [hm] at H
    clear hm sz
    have hnb : (((m + 1 : Nat) : Int) == 0) = false := beq_eq_false_iff_ne.2 (by omega)
    go_enter Tryz.func27, Tryz.ntmps27
    go_wp2_with fail
    have V1 := VX.new w 57 H.out
    replace CA := CA.keep (below_alloc (Below.refl w.heap.size w) (Obj.cells #[Value.bool na, Value.slice (some ⟨b, off, none⟩) (m + 1) c] 57))
    replace HT := Lib.hid (HT.out.below (below_alloc (Below.refl w.heap.size w) (Obj.cells #[Value.bool na, Value.slice (some ⟨b, off, none⟩) (m + 1) c] 57)))
    have HB := below_alloc HB0 (Obj.cells #[Value.bool na, Value.slice (some ⟨b, off, none⟩) (m + 1) c] 57)
    generalize hW : w.alloc (Obj.cells #[Value.bool na, Value.slice (some ⟨b, off, none⟩) (m + 1) c] 57) = W at *
    clear hW H
    replace V1 := V1.drew
    replace CA := CA.drew
    replace HT := Lib.hid (HT.out.below (below_drew (Below.refl _ _)))
    replace HB := below_drew HB
    generalize hWd : W.drew = wd at *
    have hi0 : (0 : Int) ≤ (m : Int) := by omega
    have hi1 : (m : Int) < (m : Int) + 1 := by omega
    have hw1 : IntKind.i64.wrap (m : Int) = (m : Int) := by rw [IntKind.wrap_i64]; omega
    have hw2 : IntKind.i64.wrap (t : Int) = (t : Int) := by rw [IntKind.wrap_i64]; omega
    refine wp_region_F (fun w' => w'.cell? ⟨w.heap.size, 0, none⟩ = some (.bool na) ∧ w'.cell? ⟨w.heap.size, 1, none⟩ = some (.slice (some ⟨b, off, none⟩) (m + 1) c) ∧ w'.cell? ⟨b, off + m, none⟩ = some (.int .u32 (t : Int))) [] (by kernel_rfl) (by rw [hWd]; exact ⟨V1.c0, V1.c1, CA.c⟩) (fun hHeld => ?_)
    rw [hWd] at hHeld ⊢
    refine wpF_t (i := 0) (oi := { dst := some 7, op := Go.Op.fieldAddr 57 (Go.Operand.tmp 1) 1, type := 0, pos := "whole.go:78", after := #[], guard := none }) (v := ?_) rfl (by kernel_rfl) (fun _ _ _ h => h) (Or.inl ⟨by rfl, ?_⟩) hHeld ?_; rotate_left
    · intro w_ hSw_; (try dsimp only at hSw_); go_simp; (try with_reducible rfl)
    try go_frame
    refine wpF_t (i := 1) (oi := { dst := some 8, op := Go.Op.load 55 (Go.Operand.tmp 7), type := 55, pos := "whole.go:78", after := #[{ on := 0, ground := Go.Ground.data }], guard := none }) (v := ?_) rfl (by kernel_rfl) (fun _ _ _ h => h) (Or.inl ⟨by rfl, ?_⟩) hHeld ?_; rotate_left
    · intro w_ hSw_; (try dsimp only at hSw_); go_simp; (try with_reducible rfl)
    try go_frame
    refine wpF_t (i := 2) (oi := { dst := some 9, op := Go.Op.call { callee := Go.Callee.builtin Go.Builtin.len, args := #[Go.Operand.tmp 8], argTypes := #[55] }, type := 3, pos := "whole.go:78", after := #[{ on := 1, ground := Go.Ground.data }], guard := none }) (v := ?_) rfl (by kernel_rfl) (fun _ _ _ h => h) (Or.inl ⟨by rfl, ?_⟩) hHeld ?_; rotate_left
    · intro w_ hSw_; (try dsimp only at hSw_); go_simp; (try with_reducible rfl)
    try go_frame
    refine wpF_t (i := 3) (oi := { dst := some 10, op := Go.Op.binOp Go.BinOp.sub 3 (Go.Operand.tmp 9) (Go.Operand.const (Go.Value.int Go.IntKind.i64 1)) 3, type := 3, pos := "whole.go:78", after := #[{ on := 2, ground := Go.Ground.data }], guard := none }) (v := ?_) rfl (by kernel_rfl) (fun _ _ _ h => h) (Or.inl ⟨by rfl, ?_⟩) hHeld ?_; rotate_left
    · intro w_ hSw_; (try dsimp only at hSw_); go_simp; (try with_reducible rfl)
    try go_frame
    refine wpF_t (i := 4) (oi := { dst := some 11, op := Go.Op.binOp Go.BinOp.mul 3 (Go.Operand.const (Go.Value.int Go.IntKind.i64 9)) (Go.Operand.tmp 10) 3, type := 3, pos := "whole.go:78", after := #[{ on := 3, ground := Go.Ground.data }], guard := none }) (v := ?_) rfl (by kernel_rfl) (fun _ _ _ h => h) (Or.inl ⟨by rfl, ?_⟩) hHeld ?_; rotate_left
    · intro w_ hSw_; (try dsimp only at hSw_); go_simp; (try with_reducible rfl)
    try go_frame
    refine wpF_t (i := 5) (oi := { dst := some 12, op := Go.Op.fieldAddr 57 (Go.Operand.tmp 1) 1, type := 0, pos := "whole.go:78", after := #[], guard := none }) (v := ?_) rfl (by kernel_rfl) (fun _ _ _ h => h) (Or.inl ⟨by rfl, ?_⟩) hHeld ?_; rotate_left
    · intro w_ hSw_; (try dsimp only at hSw_); go_simp; (try with_reducible rfl)
    try go_frame
    refine wpF_t (i := 6) (oi := { dst := some 13, op := Go.Op.load 55 (Go.Operand.tmp 12), type := 55, pos := "whole.go:78", after := #[{ on := 5, ground := Go.Ground.data }], guard := none }) (v := ?_) rfl (by kernel_rfl) (fun _ _ _ h => h) (Or.inl ⟨by rfl, ?_⟩) hHeld ?_; rotate_left
    · intro w_ hSw_; (try dsimp only at hSw_); go_simp; (try with_reducible rfl)
    try go_frame
    refine wpF_t (i := 7) (oi := { dst := some 14, op := Go.Op.fieldAddr 57 (Go.Operand.tmp 1) 1, type := 0, pos := "whole.go:78", after := #[], guard := none }) (v := ?_) rfl (by kernel_rfl) (fun _ _ _ h => h) (Or.inl ⟨by rfl, ?_⟩) hHeld ?_; rotate_left
    · intro w_ hSw_; (try dsimp only at hSw_); go_simp; (try with_reducible rfl)
    try go_frame
    refine wpF_t (i := 8) (oi := { dst := some 15, op := Go.Op.load 55 (Go.Operand.tmp 14), type := 55, pos := "whole.go:78", after := #[{ on := 7, ground := Go.Ground.data }], guard := none }) (v := ?_) rfl (by kernel_rfl) (fun _ _ _ h => h) (Or.inl ⟨by rfl, ?_⟩) hHeld ?_; rotate_left
    · intro w_ hSw_; (try dsimp only at hSw_); go_simp; (try with_reducible rfl)
    try go_frame
    refine wpF_t (i := 9) (oi := { dst := some 16, op := Go.Op.call { callee := Go.Callee.builtin Go.Builtin.len, args := #[Go.Operand.tmp 15], argTypes := #[55] }, type := 3, pos := "whole.go:78", after := #[{ on := 8, ground := Go.Ground.data }], guard := none }) (v := ?_) rfl (by kernel_rfl) (fun _ _ _ h => h) (Or.inl ⟨by rfl, ?_⟩) hHeld ?_; rotate_left
    · intro w_ hSw_; (try dsimp only at hSw_); go_simp; (try with_reducible rfl)
    try go_frame
    refine wpF_t (i := 10) (oi := { dst := some 17, op := Go.Op.binOp Go.BinOp.sub 3 (Go.Operand.tmp 16) (Go.Operand.const (Go.Value.int Go.IntKind.i64 1)) 3, type := 3, pos := "whole.go:78", after := #[{ on := 9, ground := Go.Ground.data }], guard := none }) (v := ?_) rfl (by kernel_rfl) (fun _ _ _ h => h) (Or.inl ⟨by rfl, ?_⟩) hHeld ?_; rotate_left
    · intro w_ hSw_; (try dsimp only at hSw_); go_simp; (try with_reducible rfl)
    try go_frame
    refine wpF_t (i := 11) (oi := { dst := some 18, op := Go.Op.indexAddr 55 (Go.Operand.tmp 13) (Go.Operand.tmp 17), type := 0, pos := "whole.go:78", after := #[{ on := 6, ground := Go.Ground.data }, { on := 10, ground := Go.Ground.data }], guard := none }) (v := ?_) rfl (by kernel_rfl) (fun _ _ _ h => h) (Or.inl ⟨by rfl, ?_⟩) hHeld ?_; rotate_left
    · intro w_ hSw_; (try dsimp only at hSw_); go_simp; (try with_reducible rfl)
    try go_frame
    refine wpF_t (i := 12) (oi := { dst := some 19, op := Go.Op.load 90 (Go.Operand.tmp 18), type := 90, pos := "whole.go:78", after := #[{ on := 11, ground := Go.Ground.data }], guard := none }) (v := ?_) rfl (by kernel_rfl) (fun _ _ _ h => h) (Or.inl ⟨by rfl, ?_⟩) hHeld ?_; rotate_left
    · intro w_ hSw_; (try dsimp only at hSw_); go_simp; (try with_reducible rfl)
    try go_frame
    refine wpF_t (i := 13) (oi := { dst := some 20, op := Go.Op.convert 90 3 (Go.Operand.tmp 19), type := 3, pos := "whole.go:78", after := #[{ on := 12, ground := Go.Ground.data }], guard := none }) (v := ?_) rfl (by kernel_rfl) (fun _ _ _ h => h) (Or.inl ⟨by rfl, ?_⟩) hHeld ?_; rotate_left
    · intro w_ hSw_; (try dsimp only at hSw_); go_simp; (try with_reducible rfl)
    try go_frame
    refine wpAnyF_one (i := 14) (by kernel_rfl) rfl (fun K hK => ?_)
    go_simp
    (go_at_call 47; (with_reducible refine (Itoa_c t _ (by omega) HT.out).mono ?_); rintro e w5 ⟨rfl, hb⟩; replace V1 := V1.keep hb; replace CA := CA.keep hb; replace HB := below_step HB hb; clear hb)
    refine hK.out _ _ (by exact ⟨V1.c0, V1.c1, CA.c⟩) (fun hHeld => ?_)
    clear hK K
    try go_frame
    refine wpF_t (i := 15) (oi := { dst := some 22, op := Go.Op.call { callee := Go.Callee.builtin Go.Builtin.len, args := #[Go.Operand.tmp 21], argTypes := #[9] }, type := 3, pos := "whole.go:78", after := #[{ on := 14, ground := Go.Ground.data }], guard := none }) (v := ?_) rfl (by kernel_rfl) (fun _ _ _ h => h) (Or.inl ⟨by rfl, ?_⟩) hHeld ?_; rotate_left
    · intro w_ hSw_; (try dsimp only at hSw_); go_simp; (try with_reducible rfl)
    try go_frame
    refine wpF_t (i := 16) (oi := { dst := some 23, op := Go.Op.binOp Go.BinOp.add 3 (Go.Operand.tmp 11) (Go.Operand.tmp 22) 3, type := 3, pos := "whole.go:78", after := #[{ on := 4, ground := Go.Ground.data }, { on := 15, ground := Go.Ground.data }], guard := none }) (v := ?_) rfl (by kernel_rfl) (fun _ _ _ h => h) (Or.inl ⟨by rfl, ?_⟩) hHeld ?_; rotate_left
    · intro w_ hSw_; (try dsimp only at hSw_); go_simp; (try with_reducible rfl)
    try go_frame
    refine wpF_t (i := 17) (oi := { dst := some 2, op := Go.Op.assign (Go.Operand.tmp 23), type := 3, pos := "whole.go:78", after := #[{ on := 16, ground := Go.Ground.data }, { on := 14, ground := Go.Ground.chain }, { on := 0, ground := Go.Ground.phase }, { on := 1, ground := Go.Ground.phase }, { on := 2, ground := Go.Ground.phase }, { on := 3, ground := Go.Ground.phase }, { on := 4, ground := Go.Ground.phase }, { on := 5, ground := Go.Ground.phase }, { on := 6, ground := Go.Ground.phase }, { on := 7, ground := Go.Ground.phase }, { on := 8, ground := Go.Ground.phase }, { on := 9, ground := Go.Ground.phase }, { on := 10, ground := Go.Ground.phase }, { on := 11, ground := Go.Ground.phase }, { on := 12, ground := Go.Ground.phase }, { on := 13, ground := Go.Ground.phase }, { on := 14, ground := Go.Ground.phase }, { on := 15, ground := Go.Ground.phase }, { on := 16, ground := Go.Ground.phase }], guard := none }) (v := ?_) rfl (by kernel_rfl) (fun _ _ _ h => h) (Or.inl ⟨by rfl, ?_⟩) hHeld ?_; rotate_left
    · intro w_ hSw_; (try dsimp only at hSw_); go_simp; (try with_reducible rfl)
    try go_frame
    refine wpAnyF_done (by kernel_rfl) ?_ _
    clear hHeld hWd
    have hq : IntKind.i64.wrap (IntKind.i64.wrap (9 * (m : Int)) + ((tS (t : Int)).size : Int)) = ((9 * m + (digs 10 t).length : Nat) : Int) := by
      have := digs_len_le (B := 10) (n := t) (k := 9) (by omega) (by show t < 1000000000; omega)
      rw [HTS.out, IntKind.wrap_i64, IntKind.wrap_i64]
      omega
    have HQ := Lib.hid hq
    clear hq
    go_wp2
    go_ret
    exact ⟨by rw [HDL.out, ← HQ.out] <;> rfl, HB⟩
end Go.Proofs.YtiaeeclmlchpoaaGreatDoor

set_option linter.unusedVariables false
set_option linter.unusedSimpArgs false
namespace Go.Proofs.YtiaeeclmlchpoaaGreatDoor
open Go.RowKit

theorem strCells_codes (s : ByteArray) : Lib.strCells s = ints .u8 (codes s) := by
  unfold Lib.strCells ints codes
  rw [List.map_map]
  rfl
section
variable {P : Program} {ops : Array Oper} {rest : List Oper} {o : Oper} {a : Act} {Q : Exit → Act → World → Prop}
/-- A string's bytes at the end of a row of the call's own. -/
theorem app_S {w0 W : World} (base : Nat) (hgd : o.guard = none) (s x : Operand) (t u e : TypeId)
    (ho : o.op = .call { callee := .builtin .append, args := #[s, x], argTypes := #[t, u] })
    (ht : P.underlying t = some (.slice e)) (hu : P.underlying u = some .string) (hinfo : (P.info? e).map (fun i => (i.zero, i.size, i.bytes)) = some (some (.int .u8 0), 1, 1))
    (v : Value) (l : List Int) (y : ByteArray) (HO : OwI W base e .u8 v l) (hs : a.eval s = v) (hx : a.eval x = .string y) (HB : Below base w0 W) (hbase : base ≤ W.heap.size) (hl : l.length + y.size ≤ 140737488355328)
    (h : ∀ v1 w1, OwI w1 base e .u8 v1 (l ++ codes y) → Below base w0 w1 → base ≤ w1.heap.size → wpList P ops Q rest (a.put o.dst v1) w1) :
    wpList P ops Q (o :: rest) a W := by
  obtain ⟨i0, hi, hzz⟩ := Option.map_eq_some_iff.1 hinfo
  simp only [Prod.mk.injEq] at hzz
  obtain ⟨hz0, hz1, hz2⟩ := hzz
  refine Lib.wpList_append_own_string (w := W) hgd s x t u ho base e i0 ht hu hi hz0 hz1 hz2 v l.length (ints .u8 l) hs HO y hx (by simp only [maxLen]; omega) hl hbase ?_
  intro v1 w1 hown hg _
  refine h v1 w1 ?_ (HB.grown hg hbase (ownsRow_base HO)) (Nat.le_trans hbase hg.size)
  unfold OwI
  rw [ints_append, List.length_append, codes_length, ← strCells_codes]
  exact hown
end
/-- The digits of a part that is not the highest, all nine. -/
theorem txN_pad {p m : Nat} (hp : p < 1000000000) (hm : 0 < m) : txN (p + 10 ^ 9 * m) = txN m ++ List.replicate (9 - (txN p).length) 48 ++ txN p ∧ (txN p).length ≤ 9 := by
  have hl := digs_len_le (B := 10) (n := p) (k := 9) (by omega) (by show p < 1000000000; omega)
  have hq : digs 10 p ++ List.replicate (9 - (digs 10 p).length) 0 ++ digs 10 m = digs 10 (p + 10 ^ 9 * m) := by
    refine digs_eq (by omega) (Dg.append (Dg.append (digs_dg (by omega) _) (Dg.zeros (by omega) _)) (digs_dg (by omega) _)) ?_ ?_
    · unfold Nm
      have := digs_nm (B := 10) (by omega) m
      unfold Nm at this
      have hne : digs 10 m ≠ [] := fun h => by have := digs_nil (B := 10) (by omega) h; omega
      rw [List.getLast?_append, Option.or_of_isSome (by rw [List.getLast?_isSome]; exact hne)]
      exact this
    · rw [V_append, V_append, digs_V (by omega), digs_V (by omega), V_zeros, List.length_append, List.length_replicate, show (digs 10 p).length + (9 - (digs 10 p).length) = 9 by omega]
      rw [Int.natCast_add, Int.natCast_mul, Int.natCast_pow]
      simp
  have e1 : txN (p + 10 ^ 9 * m) = ((digs 10 (p + 10 ^ 9 * m)).map (· + 48)).reverse := by unfold txN; rw [if_neg (by omega)]
  have e2 : txN m = ((digs 10 m).map (· + 48)).reverse := by unfold txN; rw [if_neg (by omega)]
  rw [e1, e2, ← hq]
  rcases Nat.eq_zero_or_pos p with rfl | h0
  · rw [digs_zero]
    exact ⟨by simp [txN], by simp [txN]⟩
  · have e3 : txN p = ((digs 10 p).map (· + 48)).reverse := by unfold txN; rw [if_neg (by omega)]
    have e4 : (txN p).length = (digs 10 p).length := by rw [e3]; simp
    rw [e4]
    refine ⟨?_, hl⟩
    rw [e3]
    simp
/-- What is written of the parts from k on. -/
def TX (a : List Int) (k : Nat) : List Int := if k < a.length then txN (hi9 a k) else []
theorem TX_step {a : List Int} (ha : Dg B9 a) (hn : Nm a) {k p : Nat} (hk : k < a.length) (hp : gd a k = p) :
    TX a k = TX a (k + 1) ++ List.replicate (if k + 1 < a.length then 9 - (txN p).length else 0) 48 ++ txN p ∧ p < 1000000000 ∧ (txN p).length ≤ 9 := by
  obtain ⟨p', hp1, hp2, hp3⟩ := hi9_step ha (i := k)
  have : p = p' := by omega
  subst this
  unfold TX
  rw [if_pos hk, hp3]
  by_cases h1 : k + 1 < a.length
  · rw [if_pos h1, if_pos h1]
    have h2 := txN_pad hp2 (hi9_pos ha hn h1)
    exact ⟨h2.1, hp2, h2.2⟩
  · rw [if_neg h1, if_neg h1, hi9_end (by omega)]
    refine ⟨by simp, hp2, (txN_pad (m := 1) hp2 (by omega)).2⟩
set_option maxRecDepth 100000 in
set_option maxHeartbeats 4000000 in
theorem hStr_c (z : Int) (v : Value) (w : World) (h : IsH w v z) (ht : Tb w) (sz : (dg B9 z).length ≤ 1000000000) :
    Calls Tryz.prog 29 #[v] w fun e w' => e = .returned (.string (tS z)) ∧ Below w.heap.size w w' := by
  obtain ⟨A, c, rfl, hs⟩ := h
  have hB : Below w.heap.size w w := Below.refl _ _
  have hc1 := hs.2.1
  have hc2 := hs.2.2
  by_cases hz : z = 0
  · have e2 : dg B9 z = [] := by rw [hz]; exact digs_zero _
    have e3 : tS z = ({ data := #[48] } : ByteArray) := by rw [hz]; rfl
    rw [e3]
    rw [e2] at hs hc1 ⊢
    clear e2 e3 hz sz
    generalize decide (z < 0) = na
    go_enter Tryz.func29, Tryz.ntmps29
    go_wp2
    go_ret
    exact ⟨rfl, below_alloc hB _⟩
  · have hn0 : 0 < z.natAbs := by omega
    have HD := Lib.hid (dg_dg B9two z)
    have HN := Lib.hid (dg_nm B9two z)
    have HT := Lib.hid ht
    have hne : 0 < (dg B9 z).length := by
      rcases Nat.eq_zero_or_pos (dg B9 z).length with h0 | h0
      · have := digs_nil B9two (List.eq_nil_of_length_eq_zero h0); omega
      · exact h0
    have HX : Hid (tx z = (if decide (z < 0) then [45] else []) ++ TX (dg B9 z) 0) := by
      show _ = _; unfold tx TX; rw [if_pos hne]; unfold hi9; rw [List.drop_zero, dg_V B9two]; simp
    have hnb2 : (((dg B9 z).length : Int) == 0) = false := beq_eq_false_iff_ne.2 (by omega)
    have HL := Lib.hid hs
    clear hz hs hn0 ht
    generalize dg B9 z = a at *
    generalize decide (z < 0) = na at *
    obtain ⟨top, htop⟩ : ∃ top, a.length = top + 1 := ⟨a.length - 1, by omega⟩
    have HTOP := Lib.hid htop
    rw [htop] at hnb2 sz hc1 ⊢
    clear htop hne
    have htw : IntKind.i64.wrap (top : Int) = (top : Int) := by rw [IntKind.wrap_i64]; omega
    cases na
    rotate_left
    · go_enter Tryz.func29, Tryz.ntmps29
      go_upto_region 3 with fail
      generalize hW : w.alloc (Obj.cells #[Value.bool true, Value.slice A (top + 1) c] 57) = W
      have HS : Hid (S1 W w.heap.size true (.slice A (top + 1) c)) := by subst hW; constructor <;> simp [go_sem]
      have HBW : Below w.heap.size w W := by subst hW; exact below_alloc (Below.refl _ _) _
      have hWs : w.heap.size < W.heap.size := by subst hW; simp
      clear hW
      replace HL := Lib.hid (HL.out.below HBW)
      replace HT := Lib.hid (HT.out.below HBW)
      obtain ⟨s1, s2⟩ := HS.out
      go_upto_region 4 with fail
      clear s1 s2
      have HO0 : OwI (W.alloc (Obj.cells #[] 5)) W.heap.size 5 .u8 (.slice (some ⟨W.heap.size, 0, none⟩) 0 0) [] := by
        have h := OwI.made (w := W) (base := W.heap.size) (e := 5) (k := .u8) (z := .int .u8 0) (n := 0) (Nat.le_refl _) (by omega)
        have hmz : madeCells #[Value.int IntKind.u8 0] 0 = #[] := by apply Array.ext'; simp [toList_madeCells_one]
        rwa [hmz] at h
      have HB0 := below_alloc (Below.refl W.heap.size W) (Obj.cells #[] 5)
      have hb0 := HB0.size
      generalize hW2 : W.alloc (Obj.cells #[] 5) = W2 at *
      generalize hbw : W.heap.size = bw at *
      clear hW2
      obtain ⟨s1, s2⟩ := HS.out.keepB HB0 hWs
      have hLL0 : Hid ((([] : List Int).length + 1) * 1 ≤ 140737488355328) := by show _ ≤ _; simp
      go_wp2_with (at_builtin; refine app_I bw rfl _ _ 100 5 .u8 1 rfl Tryz.underlying100 info_u8 (by decide) _ [] _ HO0 rfl rfl HB0 hb0 hLL0.out ?_; intro v1 w1 HO1 HB1 hb1; obtain ⟨s1, s2⟩ := HS.out.keepB HB1 hWs)
      
      clear HO0 HB0 hb0 hLL0
      go_loopg [3, 4] (top + 1) (fun g out iv wr => ∃ (k : Nat) (l : List Int), iv = .int .i64 ((k : Int) - 1) ∧ g = k ∧ k ≤ (top + 1) ∧ OwI wr bw 5 .u8 out l ∧ Below bw W wr ∧ bw ≤ wr.heap.size ∧ l.length ≤ 1 + 9 * ((top + 1) - k) ∧ Hid (l = [45] ++ TX a k))
      case atStart => exact ⟨top + 1, _, by go_num, rfl, Nat.le_refl _, HO1, HB1, hb1, by simp, by show _ = _; unfold TX; rw [if_neg (by have := HTOP.out; omega)]; simp⟩
      case round =>
        clear HO1 HB1 hb1
        obtain ⟨k, l, rfl, hgk, hk, HO, HB, hb, hl, HI⟩ := hrel
        obtain ⟨s1, s2⟩ := HS.out.keepB HB hWs
        rcases Nat.eq_zero_or_pos k with rfl | hk0
        · have HF : Hid (mkS l = tS z) := by show _ = _; rw [HI.out]; unfold tS; rw [HX.out]; rfl
          have hlen2 : 0 < l.length := by
            have h := congrArg ByteArray.size HF.out
            rw [mkS_size] at h
            have h2 : 0 < (tx z).length := by unfold tx; have := List.length_pos_iff.2 (txN_ne z.natAbs); rw [List.length_append]; omega
            rw [h]
            unfold tS
            rw [mkS_size]
            exact h2
          obtain ⟨A2, c2, rfl, hs2⟩ := HO.form
          have hcv := conv_str A2 c2 l wr hs2 hlen2
          clear hs2 HO
          go_wp2
          go_ret
          exact ⟨by rw [← HF.out]; rfl, HBW.trans (HB.mono (by omega))⟩
        · obtain ⟨j, rfl⟩ : ∃ m, k = m + 1 := ⟨k - 1, by omega⟩
          obtain ⟨p, hp1, hp2, -⟩ := hi9_step HD.out (i := j)
          obtain ⟨ht1, -, ht3⟩ := TX_step HD.out HN.out (k := j) (by rw [HTOP.out]; omega) hp1
          have HLr := HL.out.belowB HB (by omega)
          obtain ⟨b, off, rfl, hbl, hcell⟩ := HLr.cell (j := j) (by rw [HTOP.out]; omega)
          rw [hp1] at hcell
          have HTX := Lib.hid ht1
          have hpw : IntKind.i64.wrap (p : Int) = (p : Int) := by rw [IntKind.wrap_i64]; omega
          have hj0 : (0 : Int) ≤ (j : Int) := by omega
          have hj1 : (j : Int) < (top : Int) + 1 := by omega
          have HTr := Lib.hid (HT.out.below (w' := wr) (HB.mono (by omega)))
          clear ht1 HLr hbl hp1
          have ed : Hid (codes (tS (p : Int)) = txN p) := by show _ = _; rw [codes_tS]; unfold tx; rw [if_neg (by omega)]; simp
          have hds : (tS (p : Int)).size = (txN p).length := by rw [← codes_length, ed.out]
          have hdp : 0 < (txN p).length := List.length_pos_iff.2 (txN_ne p)
          rw [show (((j + 1 : Nat) : Int) - 1) = (j : Int) by omega]
          go_wp2_with fail
          (with_reducible refine (Itoa_c p _ (by omega) HTr.out).mono ?_)
          rintro e w3 ⟨rfl, hb3⟩
          replace HO := HO.below hb3
          replace HB := HB.trans (hb3.mono hb)
          replace hb := HB.size
          rw [hbw] at hb
          clear hb3 HTr hcell s1 s2
          generalize tS (p : Int) = d at *
          rw [← hds] at ht3 hdp HTX
          clear hds
          obtain ⟨s1, s2⟩ := HS.out.keepB HB hWs
          go_wp2_with fail
          go_loopg [3, 6] (9 - d.size) (fun g out kv wr => ∃ (q : Nat) (l2 : List Int), kv = .int .i64 (q : Int) ∧ g = 9 - q ∧ d.size ≤ q ∧ q ≤ 9 ∧ (j < top ∨ q = d.size) ∧ OwI wr bw 5 .u8 out l2 ∧ Below bw W wr ∧ bw ≤ wr.heap.size ∧ l2.length = l.length + (q - d.size) ∧ Hid (l2 = [45] ++ TX a (j + 1) ++ List.replicate (q - d.size) 48))
          case atStart => exact ⟨d.size, l, rfl, rfl, Nat.le_refl _, ht3, .inr rfl, HO, HB, hb, by omega, by show _ = _; rw [Nat.sub_self, HI.out]; simp⟩
          case round =>
            clear HO HB hb s1 s2
            obtain ⟨q, l2, rfl, hgq, hq1, hq2, hqj, HO, HB, hb, hl2, HI2⟩ := hrel
            obtain ⟨s1, s2⟩ := HS.out.keepB HB hWs
            have hend : q = 9 ∨ (q < 9 ∧ ¬ j < top) ∨ (q < 9 ∧ j < top) := by omega
            rcases hend with hE | hE | hE
            rotate_right
            · have hc1 : (q : Int) < 9 := by omega
              have hc2 : (j : Int) < (top : Int) := by omega
              have hLL : Hid ((l2.length + 1) * 1 ≤ 140737488355328) := by show _ ≤ _; omega
              have HI3 : Hid (l2 ++ [48] = [45] ++ TX a (j + 1) ++ List.replicate (q + 1 - d.size) 48) := by
                show _ = _
                rw [HI2.out, show q + 1 - d.size = (q - d.size) + 1 by omega, List.replicate_succ']
                simp only [List.append_assoc]
              go_wp2_with (at_builtin; refine app_I bw rfl _ _ 100 5 .u8 1 rfl Tryz.underlying100 info_u8 (by decide) _ l2 _ HO rfl rfl HB hb hLL.out ?_; intro v1 w1 HO1 HB1 hb1)
              go_roundg (9 - (q + 1))
              case measure => omega
              case rel => exact ⟨q + 1, _, by go_num, rfl, by omega, by omega, by omega, HO1, HB1, hb1, by rw [List.length_append, List.length_singleton]; omega, HI3⟩
            all_goals
              have hrep : q - d.size = (if j + 1 < a.length then 9 - d.size else 0) := by
                rw [HTOP.out]
                clear hgk hgq
                split <;> omega
              have HI3 : Hid (l2 ++ codes d = [45] ++ TX a j) := by
                show _ = _
                rw [HI2.out, HTX.out, ed.out, hrep]
                simp only [List.append_assoc]
              clear hrep
              have hLL : l2.length + d.size ≤ 140737488355328 := by omega
              have hl3 : l2.length + d.size ≤ 1 + 9 * ((top + 1) - j) := by omega
              have HLL := Lib.hid hLL
              have HL3 := Lib.hid hl3
              clear hLL hl3
            · have hc1 : ¬ (q : Int) < 9 := by omega
              clear hE hqj
              go_wp2_with (at_builtin; refine app_S bw rfl _ _ 100 9 5 rfl Tryz.underlying100 Tryz.underlying9 info_u8 _ l2 d HO rfl rfl HB hb HLL.out ?_; intro v1 w1 HO1 HB1 hb1)
              go_roundg j
              case measure => omega
              case rel => exact ⟨j, _, by go_num, rfl, by omega, HO1, HB1, hb1, by rw [List.length_append, codes_length]; exact HL3.out, HI3⟩
            · have hc1 : (q : Int) < 9 := by omega
              have hc2 : ¬ (j : Int) < (top : Int) := by omega
              clear hE hqj
              go_wp2_with (at_builtin; refine app_S bw rfl _ _ 100 9 5 rfl Tryz.underlying100 Tryz.underlying9 info_u8 _ l2 d HO rfl rfl HB hb HLL.out ?_; intro v1 w1 HO1 HB1 hb1)
              go_roundg j
              case measure => omega
              case rel => exact ⟨j, _, by go_num, rfl, by omega, HO1, HB1, hb1, by rw [List.length_append, codes_length]; exact HL3.out, HI3⟩
    
    
    · go_enter Tryz.func29, Tryz.ntmps29
      go_upto_region 3 with fail
      generalize hW : w.alloc (Obj.cells #[Value.bool false, Value.slice A (top + 1) c] 57) = W
      have HS : Hid (S1 W w.heap.size false (.slice A (top + 1) c)) := by subst hW; constructor <;> simp [go_sem]
      have HBW : Below w.heap.size w W := by subst hW; exact below_alloc (Below.refl _ _) _
      have hWs : w.heap.size < W.heap.size := by subst hW; simp
      clear hW
      replace HL := Lib.hid (HL.out.below HBW)
      replace HT := Lib.hid (HT.out.below HBW)
      obtain ⟨s1, s2⟩ := HS.out
      go_upto_region 4 with fail
      clear s1 s2
      have HO0 : OwI (W.alloc (Obj.cells #[] 5)) W.heap.size 5 .u8 (.slice (some ⟨W.heap.size, 0, none⟩) 0 0) [] := by
        have h := OwI.made (w := W) (base := W.heap.size) (e := 5) (k := .u8) (z := .int .u8 0) (n := 0) (Nat.le_refl _) (by omega)
        have hmz : madeCells #[Value.int IntKind.u8 0] 0 = #[] := by apply Array.ext'; simp [toList_madeCells_one]
        rwa [hmz] at h
      have HB0 := below_alloc (Below.refl W.heap.size W) (Obj.cells #[] 5)
      have hb0 := HB0.size
      generalize hW2 : W.alloc (Obj.cells #[] 5) = W2 at *
      generalize hbw : W.heap.size = bw at *
      clear hW2
      obtain ⟨s1, s2⟩ := HS.out.keepB HB0 hWs
      have hLL0 : Hid ((([] : List Int).length + 1) * 1 ≤ 140737488355328) := by show _ ≤ _; simp
      have HO1 := HO0; have HB1 := HB0; have hb1 := hb0
      go_wp2_with fail
      clear HO0 HB0 hb0 hLL0
      go_loopg [3, 4] (top + 1) (fun g out iv wr => ∃ (k : Nat) (l : List Int), iv = .int .i64 ((k : Int) - 1) ∧ g = k ∧ k ≤ (top + 1) ∧ OwI wr bw 5 .u8 out l ∧ Below bw W wr ∧ bw ≤ wr.heap.size ∧ l.length ≤ 1 + 9 * ((top + 1) - k) ∧ Hid (l = [] ++ TX a k))
      case atStart => exact ⟨top + 1, _, by go_num, rfl, Nat.le_refl _, HO1, HB1, hb1, by simp, by show _ = _; unfold TX; rw [if_neg (by have := HTOP.out; omega)]; simp⟩
      case round =>
        clear HO1 HB1 hb1
        obtain ⟨k, l, rfl, hgk, hk, HO, HB, hb, hl, HI⟩ := hrel
        obtain ⟨s1, s2⟩ := HS.out.keepB HB hWs
        rcases Nat.eq_zero_or_pos k with rfl | hk0
        · have HF : Hid (mkS l = tS z) := by show _ = _; rw [HI.out]; unfold tS; rw [HX.out]; rfl
          have hlen2 : 0 < l.length := by
            have h := congrArg ByteArray.size HF.out
            rw [mkS_size] at h
            have h2 : 0 < (tx z).length := by unfold tx; have := List.length_pos_iff.2 (txN_ne z.natAbs); rw [List.length_append]; omega
            rw [h]
            unfold tS
            rw [mkS_size]
            exact h2
          obtain ⟨A2, c2, rfl, hs2⟩ := HO.form
          have hcv := conv_str A2 c2 l wr hs2 hlen2
          clear hs2 HO
          go_wp2
          go_ret
          exact ⟨by rw [← HF.out]; rfl, HBW.trans (HB.mono (by omega))⟩
        · obtain ⟨j, rfl⟩ : ∃ m, k = m + 1 := ⟨k - 1, by omega⟩
          obtain ⟨p, hp1, hp2, -⟩ := hi9_step HD.out (i := j)
          obtain ⟨ht1, -, ht3⟩ := TX_step HD.out HN.out (k := j) (by rw [HTOP.out]; omega) hp1
          have HLr := HL.out.belowB HB (by omega)
          obtain ⟨b, off, rfl, hbl, hcell⟩ := HLr.cell (j := j) (by rw [HTOP.out]; omega)
          rw [hp1] at hcell
          have HTX := Lib.hid ht1
          have hpw : IntKind.i64.wrap (p : Int) = (p : Int) := by rw [IntKind.wrap_i64]; omega
          have hj0 : (0 : Int) ≤ (j : Int) := by omega
          have hj1 : (j : Int) < (top : Int) + 1 := by omega
          have HTr := Lib.hid (HT.out.below (w' := wr) (HB.mono (by omega)))
          clear ht1 HLr hbl hp1
          have ed : Hid (codes (tS (p : Int)) = txN p) := by show _ = _; rw [codes_tS]; unfold tx; rw [if_neg (by omega)]; simp
          have hds : (tS (p : Int)).size = (txN p).length := by rw [← codes_length, ed.out]
          have hdp : 0 < (txN p).length := List.length_pos_iff.2 (txN_ne p)
          rw [show (((j + 1 : Nat) : Int) - 1) = (j : Int) by omega]
          go_wp2_with fail
          (with_reducible refine (Itoa_c p _ (by omega) HTr.out).mono ?_)
          rintro e w3 ⟨rfl, hb3⟩
          replace HO := HO.below hb3
          replace HB := HB.trans (hb3.mono hb)
          replace hb := HB.size
          rw [hbw] at hb
          clear hb3 HTr hcell s1 s2
          generalize tS (p : Int) = d at *
          rw [← hds] at ht3 hdp HTX
          clear hds
          obtain ⟨s1, s2⟩ := HS.out.keepB HB hWs
          go_wp2_with fail
          go_loopg [3, 6] (9 - d.size) (fun g out kv wr => ∃ (q : Nat) (l2 : List Int), kv = .int .i64 (q : Int) ∧ g = 9 - q ∧ d.size ≤ q ∧ q ≤ 9 ∧ (j < top ∨ q = d.size) ∧ OwI wr bw 5 .u8 out l2 ∧ Below bw W wr ∧ bw ≤ wr.heap.size ∧ l2.length = l.length + (q - d.size) ∧ Hid (l2 = [] ++ TX a (j + 1) ++ List.replicate (q - d.size) 48))
          case atStart => exact ⟨d.size, l, rfl, rfl, Nat.le_refl _, ht3, .inr rfl, HO, HB, hb, by omega, by show _ = _; rw [Nat.sub_self, HI.out]; simp⟩
          case round =>
            clear HO HB hb s1 s2
            obtain ⟨q, l2, rfl, hgq, hq1, hq2, hqj, HO, HB, hb, hl2, HI2⟩ := hrel
            obtain ⟨s1, s2⟩ := HS.out.keepB HB hWs
            have hend : q = 9 ∨ (q < 9 ∧ ¬ j < top) ∨ (q < 9 ∧ j < top) := by omega
            rcases hend with hE | hE | hE
            rotate_right
            · have hc1 : (q : Int) < 9 := by omega
              have hc2 : (j : Int) < (top : Int) := by omega
              have hLL : Hid ((l2.length + 1) * 1 ≤ 140737488355328) := by show _ ≤ _; omega
              have HI3 : Hid (l2 ++ [48] = [] ++ TX a (j + 1) ++ List.replicate (q + 1 - d.size) 48) := by
                show _ = _
                rw [HI2.out, show q + 1 - d.size = (q - d.size) + 1 by omega, List.replicate_succ']
                simp only [List.append_assoc]
              go_wp2_with (at_builtin; refine app_I bw rfl _ _ 100 5 .u8 1 rfl Tryz.underlying100 info_u8 (by decide) _ l2 _ HO rfl rfl HB hb hLL.out ?_; intro v1 w1 HO1 HB1 hb1)
              go_roundg (9 - (q + 1))
              case measure => omega
              case rel => exact ⟨q + 1, _, by go_num, rfl, by omega, by omega, by omega, HO1, HB1, hb1, by rw [List.length_append, List.length_singleton]; omega, HI3⟩
            all_goals
              have hrep : q - d.size = (if j + 1 < a.length then 9 - d.size else 0) := by
                rw [HTOP.out]
                clear hgk hgq
                split <;> omega
              have HI3 : Hid (l2 ++ codes d = [] ++ TX a j) := by
                show _ = _
                rw [HI2.out, HTX.out, ed.out, hrep]
                simp only [List.append_assoc]
              clear hrep
              have hLL : l2.length + d.size ≤ 140737488355328 := by omega
              have hl3 : l2.length + d.size ≤ 1 + 9 * ((top + 1) - j) := by omega
              have HLL := Lib.hid hLL
              have HL3 := Lib.hid hl3
              clear hLL hl3
            · have hc1 : ¬ (q : Int) < 9 := by omega
              clear hE hqj
              go_wp2_with (at_builtin; refine app_S bw rfl _ _ 100 9 5 rfl Tryz.underlying100 Tryz.underlying9 info_u8 _ l2 d HO rfl rfl HB hb HLL.out ?_; intro v1 w1 HO1 HB1 hb1)
              go_roundg j
              case measure => omega
              case rel => exact ⟨j, _, by go_num, rfl, by omega, HO1, HB1, hb1, by rw [List.length_append, codes_length]; exact HL3.out, HI3⟩
            · have hc1 : (q : Int) < 9 := by omega
              have hc2 : ¬ (j : Int) < (top : Int) := by omega
              clear hE hqj
              go_wp2_with (at_builtin; refine app_S bw rfl _ _ 100 9 5 rfl Tryz.underlying100 Tryz.underlying9 info_u8 _ l2 d HO rfl rfl HB hb HLL.out ?_; intro v1 w1 HO1 HB1 hb1)
              go_roundg j
              case measure => omega
              case rel => exact ⟨j, _, by go_num, rfl, by omega, HO1, HB1, hb1, by rw [List.length_append, codes_length]; exact HL3.out, HI3⟩
end Go.Proofs.YtiaeeclmlchpoaaGreatDoor

set_option linter.unusedVariables false
set_option linter.unusedSimpArgs false
namespace Go.Proofs.YtiaeeclmlchpoaaGreatDoor
open Go.RowKit

theorem codes_seg {s t : ByteArray} {a b : Nat} (h : s.extract a b = t) : codes t = seg (codes s) a b := by
  subst h
  unfold codes seg
  rw [ByteArray.data_extract, Array.toList_extract]
  simp only [List.extract_eq_take_drop, List.map_take, List.map_drop]
  rw [List.drop_take]
set_option maxRecDepth 100000 in
set_option maxHeartbeats 2000000 in
theorem hParse_c (z : Int) (w : World) (hz : dlN z.natAbs ≤ 100000000000) :
    Calls Tryz.prog 24 #[.string (tS z)] w fun e w' => ∃ v, e = .returned v ∧ IsH w' v z ∧ Below w.heap.size w w' := by
  have HC := Lib.hid (codes_tS z)
  generalize tS z = s at *
  have hst := strip_tx z
  have hneg := tx_neg (z := z)
  have hne : codes s ≠ [] := by rw [HC.out]; unfold tx; have := txN_ne z.natAbs; split <;> simp [this]
  have hL := codes_length s
  have hlen : (codes s).length ≤ 100000000001 := by rw [HC.out]; unfold tx; unfold dlN at hz; split <;> simp <;> omega
  have h0 : 0 < s.size := by have := List.length_pos_iff.2 hne; omega
  have hx0 : ∀ h : 0 < s.size, ((s[0]'h).toNat : Int) = gd (codes s) 0 := fun h => codes_gd h
  have hg : (codes s).head? = some 45 ↔ gd (codes s) 0 = 45 := by
    cases e : codes s with
    | nil => exact absurd e hne
    | cons c t => simp [gd]
  rw [← HC.out] at hst hneg
  rw [hg] at hneg
  by_cases q : gd (codes s) 0 = 45
  · have qb : (gd (codes s) 0 == 45) = true := by simpa using q
    have hz0 : z < 0 := hneg.1 q
    have hsd := strip_drop (a := 1) hne (by rw [if_pos q])
    rw [hst] at hsd
    obtain ⟨t, ht⟩ : ∃ t, s.extract 1 s.size = t := ⟨_, rfl⟩
    have hct : codes t = (codes s).drop 1 := codes_drop1 ht
    have hts : s.size - 1 = t.size := by rw [← codes_length t, hct, ← codes_length s]; simp
    rw [← hct] at hsd
    have HT : Hid (codes t = txN z.natAbs) := hsd.symm
    have HD : Hid (Dgt (codes t) 0) := by
      intro j h1 h2
      rw [gd_lt h2]
      exact txN_range z.natAbs _ (by rw [hsd]; exact List.getElem_mem _)
    have hal : 0 < (codes t).length := by
      rw [← hsd]
      exact List.length_pos_iff.2 (txN_ne z.natAbs)
    have HV : Hid (dv (codes t) = z.natAbs) := by rw [← hsd]; exact dv_txN _
    have HZ : Hid (sgnd true (z.natAbs : Int) = z) := by show _ = _; unfold sgnd; rw [if_pos rfl]; omega
    have HL := Lib.hid (codes_length t)
    have hs1 : t.size ≤ 100000000001 := by omega
    have hs2 : 0 < t.size := by have := HL.out; omega
    have hs3 : (1 : Int) ≤ (s.size : Int) := by omega
    clear hsd hz0 q hneg hst hne hL hlen hg hz hct
    go_enter Tryz.func24, Tryz.ntmps24
    go_wp2
    generalize hW : w.alloc (Obj.cells #[Value.bool false, Value.slice none 0 0] 57) = W
    obtain ⟨HR2, hWs, HBW⟩ := start1 w _ W hW
    clear hW hx0
    go_loopg [4, 5] (t.size + 9) (fun g out ev wr => ∃ (e : Int) (l : List Int), ev = .int .i64 e ∧ g = (e + 9).toNat ∧ OwI wr W.heap.size 90 .u32 out l ∧ Below W.heap.size W wr ∧ e ≤ t.size ∧ -9 ≤ e ∧ Hid (ParI (codes t) 0 e l))
    case atStart => exact ⟨t.size, [], rfl, by omega, OwI.nil _ _ _ _, Below.refl _ _, by omega, by omega, by have := ParI.first hal; rw [HL.out] at this; exact this⟩
    case round =>
      obtain ⟨e, l, rfl, hgk, HO, HB, he1, he2, HI⟩ := hrel
      have hB := HB.size
      by_cases he : 0 < e
      · obtain ⟨E, rfl⟩ : ∃ E : Nat, e = E := ⟨e.toNat, by omega⟩
        have hLL : Hid ((l.length + 1) * 4 ≤ 140737488355328) := by have := HI.out.len (by omega); have := HL.out; show _ ≤ _; omega
        have hw : IntKind.i64.wrap ((E : Int) - 9) = (E : Int) - 9 := by rw [IntKind.wrap_i64]; omega
        have hE0 : (0 : Int) < (E : Int) := by omega
        obtain ⟨lo, hlo⟩ : ∃ lo, (max 0 ((E : Int) - 9)).toNat = lo := ⟨_, rfl⟩
        have hj : (0 + 9 < E ∧ lo = E - 9) ∨ (E ≤ 0 + 9 ∧ lo = 0) := by omega
        have HST := Lib.hid (ParI.step (j := lo) HD.out HI.out (by omega) hj)
        obtain ⟨p, hp⟩ : ∃ p, t.extract lo E = p := ⟨_, rfl⟩
        have hcp := codes_seg hp
        have hps : p.size = E - lo := by rw [← codes_length, hcp, seg_length _ (by omega) (by rw [HL.out]; omega)]
        have HPC := Lib.hid (fun w => ParseUint_c p w (by omega) (by omega) (by rw [hcp]; exact seg_all HD.out (Nat.zero_le _) (by rw [HL.out]; omega)))
        rw [← hcp] at HST
        have hdr : 0 ≤ dv (codes p) ∧ dv (codes p) < 1000000000 := by
          have hr := dv_range (seg_all (b := lo) (c := E) HD.out (Nat.zero_le _) (by rw [HL.out]; omega))
          rw [← hcp, codes_length, hps] at hr
          have h1 : (10 : Nat) ^ (E - lo) ≤ 10 ^ 9 := Nat.pow_le_pow_right (by omega) (by omega)
          have h2 : ((10 ^ (E - lo) : Nat) : Int) ≤ ((10 ^ 9 : Nat) : Int) := by omega
          rw [Int.natCast_pow] at h2
          have e9 : ((10 ^ 9 : Nat) : Int) = 1000000000 := rfl
          rw [e9] at h2
          exact ⟨hr.1, Int.lt_of_lt_of_le hr.2 h2⟩
        generalize dv (codes p) = d at *
        obtain ⟨hd0, hd1⟩ := hdr
        clear hcp HI
        go_wp2_with fail
        (with_reducible refine (HPC.out _).mono ?_)
        rintro e w2 ⟨rfl, hb2⟩
        clear HPC
        replace HO := HO.below hb2
        replace HB := HB.trans (hb2.mono HB.size)
        replace hB := HB.size
        clear hb2
        have hdw : IntKind.u32.wrap d = d := by rw [IntKind.wrap_u32]; omega

        go_wp2_with (at_builtin; refine app_I W.heap.size rfl _ _ 55 90 .u32 4 rfl Tryz.underlying55 info_u32 (by decide) _ l _ HO rfl rfl HB hB hLL.out ?_; intro v1 w1 HO1 HB1 hB1)
        go_roundg ((E : Int) - 9 + 9).toNat
        case measure => omega
        case rel => exact ⟨(E : Int) - 9, _, rfl, rfl, HO1, HB1, by omega, by omega, HST⟩
      · obtain ⟨hd, hv⟩ := HI.out.last (by omega)
        have HVl : Hid (V B9 l = z.natAbs) := by have := hv; rw [List.drop_zero] at this; exact this.trans HV.out
        have HDl := Lib.hid hd
        clear hd hv HI
        obtain ⟨A1, c1, rfl, hs⟩ := HO.form
        have HSl := Lib.hid hs
        have HR4 := HR2.keep HB
        clear hs
        go_wp2_with (go_at_call 43; (with_reducible refine (htrim_n _ _ _ l _ HSl.out HDl.out).mono ?_); rintro e w2 ⟨v, rfl, hv, hb2⟩; obtain ⟨nv, A4, n4, c4, rfl, HV4⟩ := hv.form; clear hv; have HR5 := Lib.hid (HR4.keep hb2); obtain ⟨⟨u1, r1⟩, ⟨u2, u3, u4, r2⟩, r3, r4, r5⟩ := HR5.out)
        refine bodyPost_ret (v := .agg #[.bool nv, .slice A4 n4 c4]) (by simp [results, Tryz.results24, go_sem, r1, r2, r5]) rfl ⟨_, rfl, ?_, ?_⟩
        · refine IsZ.res2 (z := z) ?_ HR5.out _ _
          rw [← HZ.out, ← HVl.out]
          exact HV4.out
        · exact below_set (below_set (below_step (below_step HBW HB) hb2) (by omega) _) (by omega) _
  
  · have qb : (gd (codes s) 0 == 45) = false := by simpa using q
    have hz0 : ¬ z < 0 := fun h => q (hneg.2 h)
    have hsd := strip_drop (a := 0) hne (by rw [if_neg q])
    rw [hst] at hsd
    
    have hct : codes s = (codes s).drop 0 := by rw [List.drop_zero]
    
    rw [← hct] at hsd
    have HT : Hid (codes s = txN z.natAbs) := hsd.symm
    have HD : Hid (Dgt (codes s) 0) := by
      intro j h1 h2
      rw [gd_lt h2]
      exact txN_range z.natAbs _ (by rw [hsd]; exact List.getElem_mem _)
    have hal : 0 < (codes s).length := by
      rw [← hsd]
      exact List.length_pos_iff.2 (txN_ne z.natAbs)
    have HV : Hid (dv (codes s) = z.natAbs) := by rw [← hsd]; exact dv_txN _
    have HZ : Hid (sgnd false (z.natAbs : Int) = z) := by show _ = _; unfold sgnd; rw [if_neg (by simp)]; omega
    have HL := Lib.hid (codes_length s)
    have hs1 : s.size ≤ 100000000001 := by omega
    have hs2 : 0 < s.size := by have := HL.out; omega
    have hs3 : (1 : Int) ≤ (s.size : Int) := by omega
    clear hsd hz0 q hneg hst hne hL hlen hg hz hct
    go_enter Tryz.func24, Tryz.ntmps24
    go_wp2
    generalize hW : w.alloc (Obj.cells #[Value.bool false, Value.slice none 0 0] 57) = W
    obtain ⟨HR2, hWs, HBW⟩ := start1 w _ W hW
    clear hW hx0
    go_loopg [4, 5] (s.size + 9) (fun g out ev wr => ∃ (e : Int) (l : List Int), ev = .int .i64 e ∧ g = (e + 9).toNat ∧ OwI wr W.heap.size 90 .u32 out l ∧ Below W.heap.size W wr ∧ e ≤ s.size ∧ -9 ≤ e ∧ Hid (ParI (codes s) 0 e l))
    case atStart => exact ⟨s.size, [], rfl, by omega, OwI.nil _ _ _ _, Below.refl _ _, by omega, by omega, by have := ParI.first hal; rw [HL.out] at this; exact this⟩
    case round =>
      obtain ⟨e, l, rfl, hgk, HO, HB, he1, he2, HI⟩ := hrel
      have hB := HB.size
      by_cases he : 0 < e
      · obtain ⟨E, rfl⟩ : ∃ E : Nat, e = E := ⟨e.toNat, by omega⟩
        have hLL : Hid ((l.length + 1) * 4 ≤ 140737488355328) := by have := HI.out.len (by omega); have := HL.out; show _ ≤ _; omega
        have hw : IntKind.i64.wrap ((E : Int) - 9) = (E : Int) - 9 := by rw [IntKind.wrap_i64]; omega
        have hE0 : (0 : Int) < (E : Int) := by omega
        obtain ⟨lo, hlo⟩ : ∃ lo, (max 0 ((E : Int) - 9)).toNat = lo := ⟨_, rfl⟩
        have hj : (0 + 9 < E ∧ lo = E - 9) ∨ (E ≤ 0 + 9 ∧ lo = 0) := by omega
        have HST := Lib.hid (ParI.step (j := lo) HD.out HI.out (by omega) hj)
        obtain ⟨p, hp⟩ : ∃ p, s.extract lo E = p := ⟨_, rfl⟩
        have hcp := codes_seg hp
        have hps : p.size = E - lo := by rw [← codes_length, hcp, seg_length _ (by omega) (by rw [HL.out]; omega)]
        have HPC := Lib.hid (fun w => ParseUint_c p w (by omega) (by omega) (by rw [hcp]; exact seg_all HD.out (Nat.zero_le _) (by rw [HL.out]; omega)))
        rw [← hcp] at HST
        have hdr : 0 ≤ dv (codes p) ∧ dv (codes p) < 1000000000 := by
          have hr := dv_range (seg_all (b := lo) (c := E) HD.out (Nat.zero_le _) (by rw [HL.out]; omega))
          rw [← hcp, codes_length, hps] at hr
          have h1 : (10 : Nat) ^ (E - lo) ≤ 10 ^ 9 := Nat.pow_le_pow_right (by omega) (by omega)
          have h2 : ((10 ^ (E - lo) : Nat) : Int) ≤ ((10 ^ 9 : Nat) : Int) := by omega
          rw [Int.natCast_pow] at h2
          have e9 : ((10 ^ 9 : Nat) : Int) = 1000000000 := rfl
          rw [e9] at h2
          exact ⟨hr.1, Int.lt_of_lt_of_le hr.2 h2⟩
        generalize dv (codes p) = d at *
        obtain ⟨hd0, hd1⟩ := hdr
        clear hcp HI
        go_wp2_with fail
        (with_reducible refine (HPC.out _).mono ?_)
        rintro e w2 ⟨rfl, hb2⟩
        clear HPC
        replace HO := HO.below hb2
        replace HB := HB.trans (hb2.mono HB.size)
        replace hB := HB.size
        clear hb2
        have hdw : IntKind.u32.wrap d = d := by rw [IntKind.wrap_u32]; omega

        go_wp2_with (at_builtin; refine app_I W.heap.size rfl _ _ 55 90 .u32 4 rfl Tryz.underlying55 info_u32 (by decide) _ l _ HO rfl rfl HB hB hLL.out ?_; intro v1 w1 HO1 HB1 hB1)
        go_roundg ((E : Int) - 9 + 9).toNat
        case measure => omega
        case rel => exact ⟨(E : Int) - 9, _, rfl, rfl, HO1, HB1, by omega, by omega, HST⟩
      · obtain ⟨hd, hv⟩ := HI.out.last (by omega)
        have HVl : Hid (V B9 l = z.natAbs) := by have := hv; rw [List.drop_zero] at this; exact this.trans HV.out
        have HDl := Lib.hid hd
        clear hd hv HI
        obtain ⟨A1, c1, rfl, hs⟩ := HO.form
        have HSl := Lib.hid hs
        have HR4 := HR2.keep HB
        clear hs
        go_wp2_with (go_at_call 43; (with_reducible refine (htrim_n _ _ _ l _ HSl.out HDl.out).mono ?_); rintro e w2 ⟨v, rfl, hv, hb2⟩; obtain ⟨nv, A4, n4, c4, rfl, HV4⟩ := hv.form; clear hv; have HR5 := Lib.hid (HR4.keep hb2); obtain ⟨⟨u1, r1⟩, ⟨u2, u3, u4, r2⟩, r3, r4, r5⟩ := HR5.out)
        refine bodyPost_ret (v := .agg #[.bool nv, .slice A4 n4 c4]) (by simp [results, Tryz.results24, go_sem, r1, r2, r5]) rfl ⟨_, rfl, ?_, ?_⟩
        · refine IsZ.res2 (z := z) ?_ HR5.out _ _
          rw [← HZ.out, ← HVl.out]
          exact HV4.out
        · exact below_set (below_set (below_step (below_step HBW HB) hb2) (by omega) _) (by omega) _
end Go.Proofs.YtiaeeclmlchpoaaGreatDoor

set_option linter.unusedVariables false
set_option linter.unusedSimpArgs false
namespace Go.Proofs.YtiaeeclmlchpoaaGreatDoor
open Go.RowKit Go.Shelf Go.Maps

section
variable {A B : World} {row : Option Nat}
theorem ne_of_cell {b o : Nat} {v : Value} (h : A.cell? ⟨b, o, none⟩ = some v) (hr : ∀ r, row = some r → ∃ o : Obj, A.heap[r]? = some o ∧ o.isCells = false) : some b ≠ row := by
  intro e
  obtain ⟨o1, h1, h2⟩ := hr b e.symm
  obtain ⟨o2, h3, h4⟩ := cells_of_cell h
  rw [h1] at h3
  cases h3
  rw [h2] at h4
  cases h4
theorem Kp.own (hg : A.grownBy B row) (hr : ∀ r, row = some r → ∃ o : Obj, A.heap[r]? = some o ∧ o.isCells = false) : Kp A B := by
  intro k Ad c l hs
  refine ⟨⟨hs.1.1, fun hn => ?_⟩, hs.2⟩
  obtain ⟨b, off, e, hl, hc⟩ := hs.1.2 hn
  exact ⟨b, off, e, Nat.lt_of_lt_of_le hl hg.size, fun j u hu => cell_kept (hc j u hu) hg hr⟩
theorem VX.grown {Bs : Nat} {k : IntKind} {b : Nat} {nv : Bool} {Ad : Option Addr} {n c : Nat} {z : Int} (h : VX Bs k A b nv Ad n c z) (hg : A.grownBy B row) (hne : some b ≠ row) (hk : Kp A B) : VX Bs k B b nv Ad n c z :=
  ⟨(World.cell?_of_block (hg.block b h.lt hne)).trans h.c0, (World.cell?_of_block (hg.block b h.lt hne)).trans h.c1, (World.frozen?_of_block (hg.block b h.lt hne)).trans h.f0, (World.frozen?_of_block (hg.block b h.lt hne)).trans h.f1, Nat.lt_of_lt_of_le h.lt hg.size, hk.isZ h.iz.out⟩
theorem VM.grown {b : Nat} {md : Int} {Ad : Option Addr} {n c : Nat} {A' : Option Addr} {n' c' : Nat} {M : Mp} (h : VM A b md Ad n c A' n' c' M) (hg : A.grownBy B row) (hne : some b ≠ row) (hk : Kp A B) : VM B b md Ad n c A' n' c' M :=
  ⟨(World.cell?_of_block (hg.block b h.lt hne)).trans h.c0, (World.cell?_of_block (hg.block b h.lt hne)).trans h.c1, (World.cell?_of_block (hg.block b h.lt hne)).trans h.c2, Nat.lt_of_lt_of_le h.lt hg.size, h.im.out.kp hk⟩
theorem OwZ.grown {Bs : Nat} {k : IntKind} {base : Nat} {e : TypeId} {v : Value} {l : List Int} (h : OwZ Bs k A base e v l) (hg : A.grownBy B row) (hne : v.ownBlock = none ∨ v.ownBlock ≠ row) (hk : Kp A B) : OwZ Bs k B base e v l := by
  obtain ⟨xs, ⟨h1, h2⟩, h3⟩ := h
  refine ⟨xs, ⟨h1.kept hg hne, ?_⟩, h3.kp hk⟩
  intro g cur e' fz hgo hcur
  have hlt := (h1.lt g hgo).2
  have hn : some g ≠ row := by
    rcases hne with h | h
    · rw [h] at hgo; cases hgo
    · rw [hgo] at h; exact h
  rw [hg.block g hlt hn] at hcur
  exact h2 g cur e' fz hgo hcur
theorem OwZ.row_ge {Bs : Nat} {k : IntKind} {base : Nat} {e : TypeId} {v : Value} {l : List Int} (h : OwZ Bs k A base e v l) {r : Nat} (hr : r < base) : v.ownBlock = none ∨ v.ownBlock ≠ some r := by
  obtain ⟨xs, ⟨h1, -⟩, -⟩ := h
  cases ho : v.ownBlock with
  | none => exact .inl rfl
  | some g =>
    have := (h1.lt g ho).1
    exact .inr (by intro he; injection he with he; omega)
theorem OwZ.row_cells {Bs : Nat} {k : IntKind} {base : Nat} {e : TypeId} {v : Value} {l : List Int} (h : OwZ Bs k A base e v l) (hr : ∀ r, row = some r → ∃ o : Obj, A.heap[r]? = some o ∧ o.isCells = false) : v.ownBlock = none ∨ v.ownBlock ≠ row := by
  obtain ⟨xs, ⟨h1, -⟩, -⟩ := h
  cases ho : v.ownBlock with
  | none => exact .inl rfl
  | some g =>
    right
    intro he
    obtain ⟨cur, e1, fz, hc⟩ := own_cells h1 g ho
    obtain ⟨o, h3, h4⟩ := hr g he.symm
    rw [hc] at h3
    cases h3
    cases h4
/-- A store into a box that holds no whole number. -/
theorem Kp.set {b : Nat} {t : TypeId} {u : Value} (h : Boxed A b t u) (hu : NoInt u) (x : Value) : Kp A (A.setCell ⟨b, 0, none⟩ x) := fun k Ad c l hs => hs.set h.cell (fun n => hu k n)
end
theorem boxed_below {A B : World} {b base : Nat} {t : TypeId} {v : Value} (h : Boxed A b t v) (hb : Below base A B) (hl : b < base) : Boxed B b t v := (hb.block b hl).trans h

section
variable {F : Fence} {nF : Nat} {P : Program} {ops : Array Oper} {rest : List Oper} {o : Oper} {a : Act} {Q : Exit → Act → World → Prop}
/-- One number more at the end of a list of the call's own, in a round. -/
theorem appIn_Z {B : Nat} {k : IntKind} {W : World} (base : Nat) (hgd : o.guard = none) (s x : Operand) (t e : TypeId) (bytes : Nat)
    (ho : o.op = .call { callee := .builtin .append, args := #[s, x], argTypes := #[t, t] })
    (ht : P.underlying t = some (.slice e)) (hinfo : (P.info? e).map (fun i => (i.zero, i.size, i.bytes)) = some (some (.agg #[.bool false, .slice none 0 0]), 2, bytes)) (hb0 : 0 < bytes)
    (v : Value) (l : List Int) (nv : Bool) (A : Option Addr) (n c : Nat) (y : Int) (HO : OwZ B k W base e v l) (hy : IsZ B k W (.agg #[.bool nv, .slice A n c]) y) (hs : a.eval s = v) (hx : a.eval x = .slice (some ⟨W.heap.size, 0, none⟩) 1 1) (hbase : base ≤ W.heap.size) (hl : (l.length + 1) * bytes ≤ 140737488355328)
    (h : ∀ v1 w1, OwZ B k w1 base e v1 (l ++ [y]) → Below base W w1 → Kp W w1 → KeepsOthers W w1 → base ≤ w1.heap.size → wpListIn F nF P ops Q rest (a.put o.dst v1) w1) :
    wpListIn F nF P ops Q (o :: rest) a (W.alloc (.cells #[.bool nv, .slice A n c] e)) := by
  obtain ⟨i0, hi, hzz⟩ := Option.map_eq_some_iff.1 hinfo
  simp only [Prod.mk.injEq] at hzz
  obtain ⟨hz0, hz1, hz2⟩ := hzz
  obtain ⟨xs, hP, hR⟩ := HO
  have hlen : l.length + 1 ≤ 140737488355328 := Nat.le_trans (Nat.le_mul_of_pos_right _ hb0) hl
  have hba : Below W.heap.size W (W.alloc (.cells #[.bool nv, .slice A n c] e)) := below_alloc (Below.refl _ _) _
  have hP2 := hP.below hba
  obtain ⟨v1, w1, hr, hown, hg⟩ := run_append_P (P := P) (W.alloc (.cells #[.bool nv, .slice A n c] e)) base t o.type e i0 (.agg #[.bool false, .slice none 0 0]) 2 bytes ht hi hz0 hz1 hz2 rfl (by omega) (by
      intro u hu
      simp [Value.cells] at hu
      rcases hu with rfl | rfl <;> exact fun _ _ h => by cases h) v l.length xs hP2 ⟨W.heap.size, 0, none⟩ 1 1 [.bool nv, .slice A n c] rfl (by
      intro j u hj
      match j, hj with
      | 0, hj => simp at hj; subst hj; simp [Addr.add, go_sem]
      | 1, hj => simp at hj; subst hj; simp [Addr.add, go_sem]) (by simp [Value.oneCell']) (by
      intro u hu
      simp at hu
      rcases hu with rfl | rfl <;> exact fun _ _ h => by cases h) (by omega) (by simp only [maxLen]; omega) hl (by simp; omega)
  have hk : Kp W w1 := (Kp.of hba).trans (Kp.grown hg hP2.2 (own_cells hP2.1))
  have hko : KeepsOthers W w1 := (KeepsOthers.alloc _ _).trans (KeepsOthers.of_grownBy hg (fun j ob e hob => by
    obtain ⟨cur, e1, fz, hc⟩ := own_cells hP2.1 j e
    rw [hc] at hob
    cases hob
    rfl))
  refine wpListIn_plain hgd fun K' hK' => ?_
  unfold Oper.wpIn
  refine ⟨by simp [Oper.about, ho, resolve, Target.leads, Sem.run_pure], ?_⟩
  rw [Oper.semAt_plain F _ _ (by rw [ho]; intro c hc'; cases hc')]
  simp [execOp, ho, resolve, invoke, builtin, hs, hx, hr, Result.andThen]
  exact hK' _ _ (h v1 w1 ⟨xs ++ [.bool nv, .slice A n c], by rw [List.length_append]; exact hown, (hR.kp hk).snoc hP.1.1 (hk.isZ hy)⟩ (((Below.refl base W).alloc hbase _).grown hg (by simp; omega) (ownsRow_base hP2.1)) hk hko (by have := hg.size; simp at this; omega))
end

/-- What a number's string reads as, as a key. -/
def kL (z : Int) : Lit := .string (tS z).data.toList
theorem kL_inj {a b : Int} (h : kL a = kL b) : a = b := by
  unfold kL at h
  injection h with h
  apply tS_inj
  have e : (tS a).data = (tS b).data := by rw [← Array.toList_inj]; exact h
  cases ha : tS a
  cases hb : tS b
  rw [ha, hb] at e
  simp only at e
  rw [e]
theorem kL_key (z : Int) : WideAt.IsKeyLit (kL z) := trivial
theorem snocInd {P : List Int → Prop} (h0 : P []) (h1 : ∀ l z, P l → P (l ++ [z])) (l : List Int) : P l := by
  rw [← List.reverse_reverse l]
  generalize l.reverse = m
  induction m with
  | nil => exact h0
  | cons a t ih => rw [List.reverse_cons]; exact h1 _ _ ih
/-- The table of the numbers met: each with its place. -/
def metF (s : DataW Unit × Nat) (z : Int) : DataW Unit × Nat := (s.1.put (kL z) (.lit (.int .i64 (s.2 : Int))), s.2 + 1)
def metD (l : List Int) : DataW Unit := (l.foldl metF (.map [], 0)).1
theorem met_len (l : List Int) : (l.foldl metF (.map [], 0)).2 = l.length := by
  suffices h : ∀ (l : List Int) (s : DataW Unit × Nat), (l.foldl metF s).2 = s.2 + l.length by
    rw [h]; simp
  intro l
  induction l with
  | nil => intro s; rfl
  | cons a t ih => intro s; rw [List.foldl_cons, ih, List.length_cons]; unfold metF; simp only; omega
theorem metD_snoc (l : List Int) (z : Int) : metD (l ++ [z]) = (metD l).put (kL z) (.lit (.int .i64 (l.length : Int))) := by
  unfold metD
  rw [List.foldl_append]
  show (l.foldl metF (.map [], 0)).1.put (kL z) (.lit (.int .i64 ((l.foldl metF (.map [], 0)).2 : Int))) = _
  rw [met_len]
theorem metD_map (l : List Int) : IsMap (metD l) := by
  refine snocInd (P := fun l => IsMap (metD l)) ⟨[], rfl⟩ (fun l z ih => ?_) l
  rw [metD_snoc]; exact ih.put _ _
theorem met_has (l : List Int) (z : Int) : has (metD l) (kL z) = decide (z ∈ l) := by
  refine snocInd (P := fun l => has (metD l) (kL z) = decide (z ∈ l)) rfl (fun l y ih => ?_) l
  rw [metD_snoc]
  by_cases h : z = y
  · subst h
    rw [has_put_same (metD_map l) (kL_key _)]
    simp
  · rw [has_put_other (fun e => h (kL_inj e)), ih]
    simp [h]
theorem met_at (l : List Int) (hd : l.Nodup) (z : Int) (hz : z ∈ l) (zd : DataW Unit) : (metD l).atKey (kL z) zd = .lit (.int .i64 (l.idxOf z : Int)) := by
  revert hd hz
  refine snocInd (P := fun l => l.Nodup → z ∈ l → (metD l).atKey (kL z) zd = .lit (.int .i64 (l.idxOf z : Int))) (fun _ h => by cases h) (fun l y ih hd hz => ?_) l
  rw [metD_snoc]
  rw [List.nodup_append] at hd
  obtain ⟨hd1, -, hd3⟩ := hd
  by_cases h : z = y
  · subst h
    rw [atKey_put_same (metD_map l) (kL_key _)]
    have hn : z ∉ l := fun h => hd3 z h z (by simp) rfl
    rw [List.idxOf_append, if_neg hn]
    simp
  · have hl : z ∈ l := by simpa [h] using hz
    rw [atKey_put_other (fun e => h (kL_inj e)), ih hd1 hl, List.idxOf_append, if_pos hl]
/-- What follow returns: the error, the steps, the cycle; f rounds are left. -/
def flwA (M : Mp) : Nat → List Int → Int → Int × Nat × List Int
  | 0, _, _ => (4, 0, [])
  | f + 1, pre, z =>
    if 2000 < dl z then (3, 0, [])
    else if z ∈ pre then (0, pre.idxOf z, turnL (pre.drop (pre.idxOf z)))
    else flwA M f (pre ++ [z]) (stepZ M z)
end Go.Proofs.YtiaeeclmlchpoaaGreatDoor

set_option linter.unusedVariables false
set_option linter.unusedSimpArgs false
namespace Go.Proofs.YtiaeeclmlchpoaaGreatDoor
open Go.RowKit

theorem itZ_shift (M : Mp) (z : Int) (i : Nat) : itZ M (stepZ M z) i = itZ M z (i + 1) := by
  induction i with
  | zero => rfl
  | succ i ih => show stepZ M _ = _; rw [ih]; rfl
theorem itZ_add (M : Mp) (z : Int) (i : Nat) : ∀ j, itZ M (itZ M z i) j = itZ M z (i + j) := by
  intro j
  induction j with
  | zero => rfl
  | succ j ih => show stepZ M _ = _; rw [ih]; rfl
theorem orbL_it (M : Mp) (k : Nat) : ∀ z j, j < (orbL M z k).length → gd (orbL M z k) j = itZ M z j := by
  induction k with
  | zero =>
    intro z j hj
    have : j = 0 := by simp [orbL] at hj; omega
    subst this
    simp [orbL, gd, itZ]
  | succ k ih =>
    intro z j hj
    unfold orbL at hj ⊢
    split at hj
    · rename_i hd
      rw [if_pos hd]
      cases j with
      | zero => simp [gd, itZ]
      | succ j =>
        have := ih (stepZ M z) j (by simpa using hj)
        rw [itZ_shift] at this
        simpa [gd] using this
    · rename_i hd
      rw [if_neg hd]
      have : j = 0 := by simp at hj; omega
      subst this
      simp [gd, itZ]
theorem atF_spec {l : List Int} {len : Nat} (f : Nat) : ∀ a, gd l (a + f) = gd l (a + f + len) → a ≤ atF l len f a ∧ atF l len f a ≤ a + f ∧ gd l (atF l len f a) = gd l (atF l len f a + len) ∧ ∀ i, a ≤ i → i < atF l len f a → gd l i ≠ gd l (i + len) := by
  induction f with
  | zero => intro a h; exact ⟨Nat.le_refl _, Nat.le_refl _, h, fun i h1 h2 => by simp only [atF] at h2; omega⟩
  | succ f ih =>
    intro a h
    unfold atF
    split
    · rename_i he; exact ⟨Nat.le_refl _, by omega, he, fun i h1 h2 => by omega⟩
    · rename_i hne
      have := ih (a + 1) (by rw [show a + 1 + f = a + (f + 1) by omega]; exact h)
      refine ⟨by omega, by omega, this.2.2.1, fun i h1 h2 => ?_⟩
      rcases Nat.lt_or_ge a i with h3 | h3
      · exact this.2.2.2 i (by omega) h2
      · obtain rfl : i = a := by omega
        exact hne
theorem leastF_spec {l : List Int} (f : Nat) : ∀ i m, m < i ∨ m = i → (leastF l f i m = m ∨ i ≤ leastF l f i m) ∧ (leastF l f i m = m ∨ leastF l f i m < i + f) ∧ gd l (leastF l f i m) ≤ gd l m ∧ ∀ j, i ≤ j → j < i + f → gd l (leastF l f i m) ≤ gd l j := by
  induction f with
  | zero => intro i m _; exact ⟨.inl rfl, .inl rfl, Int.le_refl _, fun j h1 h2 => by omega⟩
  | succ f ih =>
    intro i m hm
    unfold leastF
    by_cases hc : gd l i < gd l m
    · rw [if_pos hc]
      obtain ⟨h1, h2, h3, h4⟩ := ih (i + 1) i (by omega)
      refine ⟨.inr (by rcases h1 with h | h <;> omega), .inr (by rcases h2 with h | h <;> omega), by omega, fun j g1 g2 => ?_⟩
      rcases Nat.lt_or_ge i j with h | h
      · exact h4 j h (by omega)
      · obtain rfl : j = i := by omega
        exact h3
    · rw [if_neg hc]
      obtain ⟨h1, h2, h3, h4⟩ := ih (i + 1) m (by omega)
      refine ⟨by rcases h1 with h | h <;> omega, by rcases h2 with h | h <;> omega, h3, fun j g1 g2 => ?_⟩
      rcases Nat.lt_or_ge i j with h | h
      · exact h4 j h (by omega)
      · obtain rfl : j = i := by omega
        omega
theorem per_mod {f : Nat → Int} {a len : Nat} (hl : 0 < len) (h : ∀ j, f (a + j + len) = f (a + j)) (n : Nat) : f (a + n % len) = f (a + n) := by
  induction n using Nat.strongRecOn with
  | ind n ih =>
    rcases Nat.lt_or_ge n len with h1 | h1
    · rw [Nat.mod_eq_of_lt h1]
    · have := ih (n - len) (by omega)
      rw [Nat.mod_eq_sub_mod h1, this, ← h (n - len)]
      congr 1; omega
/-- A number that is met again is met again and again. -/
theorem it_per {M : Mp} {z : Int} {t L : Nat} (h : itZ M z (t + L) = itZ M z t) (j : Nat) : itZ M z (t + j + L) = itZ M z (t + j) := by
  rw [show t + j + L = (t + L) + j by omega, ← itZ_add, h, itZ_add]
theorem it_per' {M : Mp} {z : Int} {t L : Nat} (h : itZ M z (t + L) = itZ M z t) {n : Nat} (hn : t ≤ n) : itZ M z (n + L) = itZ M z n := by
  have := it_per h (n - t)
  rwa [show t + (n - t) = n by omega] at this
theorem it_mul {M : Mp} {z : Int} {t L : Nat} (h : itZ M z (t + L) = itZ M z t) {n : Nat} (hn : t ≤ n) (m : Nat) : itZ M z (n + L * m) = itZ M z n := by
  induction m with
  | zero => rfl
  | succ m ih => rw [Nat.mul_succ, ← Nat.add_assoc, it_per' h (by omega), ih]

/-- What is asked of what follow returns. -/
def FS (M : Mp) (z : Int) (most : Nat) (r : Int × Nat × List Int) : Prop :=
  (r = (3, 0, []) ∧ ∃ j, j ≤ most ∧ 2000 < dl (itZ M z j) ∧ ∀ i, i < j → dl (itZ M z i) ≤ 2000) ∨
  (r = (4, 0, []) ∧ (∀ j, j ≤ most → dl (itZ M z j) ≤ 2000) ∧ ∀ i j, i < j → j ≤ most → itZ M z i ≠ itZ M z j) ∨
  (∃ t s L, r = (0, t, (List.range L).map fun i => itZ M z (s + i)) ∧ 0 < L ∧ t + L ≤ most ∧ t ≤ s ∧ s < t + L ∧ (∀ j, dl (itZ M z j) ≤ 2000) ∧ itZ M z (t + L) = itZ M z t ∧ (∀ i j, i < j → j < t + L → itZ M z i ≠ itZ M z j) ∧ ∀ j, t ≤ j → itZ M z s ≤ itZ M z j)
theorem fit_all {M : Mp} {z : Int} {t L : Nat} (hL : 0 < L) (h : itZ M z (t + L) = itZ M z t) (hf : ∀ j, j < t + L → dl (itZ M z j) ≤ 2000) (j : Nat) : dl (itZ M z j) ≤ 2000 := by
  rcases Nat.lt_or_ge j (t + L) with h1 | h1
  · exact hf j h1
  · have := per_mod (f := itZ M z) hL (it_per h) (j - t)
    rw [show t + (j - t) = j by omega] at this
    rw [← this]
    exact hf _ (by have := Nat.mod_lt (j - t) hL; omega)
theorem le_all {M : Mp} {z y : Int} {t L : Nat} (hL : 0 < L) (h : itZ M z (t + L) = itZ M z t) (hf : ∀ j, t ≤ j → j < t + L → y ≤ itZ M z j) {j : Nat} (hj : t ≤ j) : y ≤ itZ M z j := by
  have := per_mod (f := itZ M z) hL (it_per h) (j - t)
  rw [show t + (j - t) = j by omega] at this
  rw [← this]
  exact hf _ (by omega) (by have := Nat.mod_lt (j - t) hL; omega)
theorem list_gd' {a b : List Int} (hl : a.length = b.length) (h : ∀ i, i < a.length → gd a i = gd b i) : a = b := by
  apply List.ext_getElem hl
  intro i h1 h2
  have := h i h1
  rwa [gd_lt h1, gd_lt h2] at this
theorem gd_range (n : Nat) (f : Nat → Int) {j : Nat} (h : j < n) : gd ((List.range n).map f) j = f j := by
  rw [gd_lt (by simpa using h)]; simp
theorem FS.cyc {M : Mp} {z : Int} {most t L : Nat} {l : List Int} (s : Nat) (hL : 0 < L) (hm : t + L ≤ most) (hs1 : t ≤ s) (hs2 : s < t + L) (hf : ∀ j, j < t + L → dl (itZ M z j) ≤ 2000) (h : itZ M z (t + L) = itZ M z t)
    (hi : ∀ i j, i < j → j < t + L → itZ M z i ≠ itZ M z j) (hle : ∀ j, t ≤ j → j < t + L → itZ M z s ≤ itZ M z j) (hl : l.length = L) (hg : ∀ i, i < L → gd l i = itZ M z (s + i)) : FS M z most (0, t, l) := by
  refine .inr (.inr ⟨t, s, L, ?_, hL, hm, hs1, hs2, fit_all hL h hf, h, hi, fun j hj => le_all hL h hle hj⟩)
  rw [list_gd' (a := l) (b := (List.range L).map fun i => itZ M z (s + i)) (by simpa using hl) (fun i hi => by rw [gd_range _ _ (by omega)]; exact hg i (by omega))]
theorem turn_gd {c : List Int} {m i : Nat} (hm : m < c.length) (hi : i < c.length) : gd (c.drop m ++ c.take m) i = gd c (if m + i < c.length then m + i else m + i - c.length) := by
  split
  · rename_i h
    rw [gd_lt (by simp; omega), gd_lt h, List.getElem_append_left (by simp; omega)]
    simp
  · rename_i h
    rw [gd_lt (by simp; omega), gd_lt (by omega), List.getElem_append_right (by simp; omega)]
    simp only [List.length_drop, List.getElem_take]
    congr 1; omega
theorem flwA_spec (M : Mp) (z : Int) (most f : Nat) : ∀ k, k + f = most + 1 → (∀ i, i < k → dl (itZ M z i) ≤ 2000) → (∀ i j, i < j → j < k → itZ M z i ≠ itZ M z j) → FS M z most (flwA M f ((List.range k).map (itZ M z)) (itZ M z k)) := by
  induction f with
  | zero =>
    intro k hk hf hi
    refine .inr (.inl ⟨rfl, fun j hj => hf j (by omega), fun i j h1 h2 => hi i j h1 (by omega)⟩)
  | succ f ih =>
    intro k hk hf hi
    unfold flwA
    split
    · rename_i h
      exact .inl ⟨rfl, k, by omega, h, hf⟩
    · rename_i hfit
      have hf' : ∀ i, i < k + 1 → dl (itZ M z i) ≤ 2000 := fun i h => by
        rcases Nat.lt_or_ge i k with h1 | h1
        · exact hf i h1
        · obtain rfl : i = k := by omega
          omega
      obtain ⟨pre, hpre⟩ : ∃ pre, (List.range k).map (itZ M z) = pre := ⟨_, rfl⟩
      have hpl : pre.length = k := by rw [← hpre]; simp
      have hpg : ∀ i, i < k → gd pre i = itZ M z i := fun i h => by rw [← hpre, gd_range _ _ h]
      split
      · rename_i hin
        rw [hpre] at hin ⊢
        have hx : pre.idxOf (itZ M z k) < pre.length := List.idxOf_lt_length_iff.2 hin
        have he : gd pre (pre.idxOf (itZ M z k)) = itZ M z k := by rw [gd_lt hx]; exact List.getElem_idxOf hx
        generalize pre.idxOf (itZ M z k) = t at *
        rw [hpg t (by omega)] at he
        obtain ⟨c, hc⟩ : ∃ c, pre.drop t = c := ⟨_, rfl⟩
        have hcl : c.length = k - t := by rw [← hc]; simp [hpl]
        have hcg : ∀ i, i < k - t → gd c i = itZ M z (t + i) := fun i h => by
          rw [← hc, ← hpg (t + i) (by omega), gd_lt (by simp; omega), gd_lt (by omega)]; simp
        rw [hc]
        unfold turnL
        obtain ⟨m1, m2, m3, m4⟩ := leastF_spec (l := c) c.length 0 0 (.inr rfl)
        have e1 : mnL c = leastF c c.length 0 0 := rfl
        rw [← e1] at m1 m2 m3 m4
        generalize mnL c = m at *
        have hm : m < c.length := by rcases m2 with h | h <;> omega
        have hper : itZ M z (t + (k - t)) = itZ M z t := by rw [show t + (k - t) = k by omega]; exact he.symm
        refine FS.cyc (t + m) (L := k - t) (by omega) (by omega) (by omega) (by omega) (fun j h => hf' j (by omega)) hper (fun i j h1 h2 => hi i j h1 (by omega)) ?_ (by simp; omega) ?_
        · intro j h1 h2
          have := m4 (j - t) (by omega) (by omega)
          rw [hcg m (by omega), hcg _ (by omega), show t + (j - t) = j by omega] at this
          exact this
        · intro i h
          rw [turn_gd hm (by omega)]
          split
          · rw [hcg _ (by omega)]; congr 1; omega
          · rw [hcg _ (by omega), ← it_per hper]; congr 1; omega
      · rename_i hin
        have e : (List.range k).map (itZ M z) ++ [itZ M z k] = (List.range (k + 1)).map (itZ M z) := by rw [List.range_succ]; simp
        rw [e]
        refine ih (k + 1) (by omega) hf' (fun i j h1 h2 => ?_)
        rcases Nat.lt_or_ge j k with h3 | h3
        · exact hi i j h1 h3
        · obtain rfl : j = k := by omega
          intro he
          exact hin (by rw [← he]; exact List.mem_map.2 ⟨i, by simpa using h1, rfl⟩)
theorem flwA_FS (M : Mp) (z : Int) (most : Nat) : FS M z most (flwA M (most + 1) [] z) :=
  flwA_spec M z most (most + 1) 0 (by omega) (fun i h => absurd h (by omega)) (fun i j _ h => absurd h (by omega))
theorem orbL_fit (M : Mp) (k : Nat) : ∀ z, (∀ j, j + 1 < (orbL M z k).length → dl (gd (orbL M z k) j) ≤ 2000) ∧ ((orbL M z k).length < k + 1 → 2000 < dl (gd (orbL M z k) ((orbL M z k).length - 1))) := by
  induction k with
  | zero => intro z; exact ⟨fun j h => by simp [orbL] at h, fun h => by simp [orbL] at h⟩
  | succ k ih =>
    intro z
    unfold orbL
    split
    · rename_i hd
      obtain ⟨h1, h2⟩ := ih (stepZ M z)
      have hl := (orbL_len M k (stepZ M z)).1
      have hg : ∀ j, gd (z :: orbL M (stepZ M z) k) (j + 1) = gd (orbL M (stepZ M z) k) j := fun j => by simp [gd]
      refine ⟨fun j hj => ?_, fun h => ?_⟩
      · cases j with
        | zero => simpa [gd] using hd
        | succ j => rw [hg]; exact h1 j (by simpa using hj)
      · have := h2 (by simpa using h)
        rw [← hg] at this
        rw [List.length_cons, Nat.add_sub_cancel, show (orbL M (stepZ M z) k).length = (orbL M (stepZ M z) k).length - 1 + 1 by omega]
        exact this
    · rename_i hd
      exact ⟨fun j h => by simp at h, fun _ => by simp [gd]; omega⟩
theorem perF_last {l : List Int} {last : Nat} : ∀ i, i ≤ last → ∀ j, last - perF l last i < j ∨ perF l last i = 0 → j < i → gd l j ≠ gd l last := by
  intro i
  induction i with
  | zero => intro _ j _ h; omega
  | succ i ih =>
    intro h j hj hji
    unfold perF at hj
    by_cases he : gd l i = gd l last
    · rw [if_pos he] at hj
      omega
    · rw [if_neg he] at hj
      rcases Nat.lt_or_ge j i with h1 | h1
      · exact ih (by omega) j hj h1
      · obtain rfl : j = i := by omega
        exact he
theorem fateL_FS (M : Mp) (z : Int) (most : Nat) : FS M z most (fateL (orbL M z most)) := by
  obtain ⟨hl1, hl2⟩ := orbL_len M most z
  obtain ⟨ht1, ht2⟩ := orbL_fit M most z
  have hit := fun j hj => orbL_it M most z j hj
  generalize hl : orbL M z most = l at *
  unfold fateL
  obtain ⟨last, hlast⟩ : ∃ last, l.length = last + 1 := ⟨l.length - 1, by omega⟩
  rw [hlast] at hit hl2 ht1 ht2 ⊢
  simp only [Nat.add_sub_cancel] at ht2 ⊢
  have hfit : ∀ j, j < last → dl (itZ M z j) ≤ 2000 := fun j h => by rw [← hit j (by omega)]; exact ht1 j (by omega)
  by_cases h1 : 2000 < dl (gd l last)
  · rw [if_pos h1]
    rw [hit last (by omega)] at h1
    exact .inl ⟨rfl, last, by omega, h1, hfit⟩
  · rw [if_neg h1]
    have hlm : last = most := by
      rcases Nat.lt_or_ge last most with h | h
      · exact absurd (ht2 (by omega)) h1
      · omega
    rw [hit last (by omega)] at h1
    have hfit' : ∀ j, j ≤ last → dl (itZ M z j) ≤ 2000 := fun j h => by
      rcases Nat.lt_or_ge j last with h' | h'
      · exact hfit j h'
      · obtain rfl : j = last := by omega
        omega
    by_cases h2 : perF l last last = 0
    · rw [if_pos h2]
      refine .inr (.inl ⟨rfl, fun j h => hfit' j (by omega), fun i j h3 h4 he => ?_⟩)
      have := perF_last (l := l) last (Nat.le_refl _) (i + (last - j)) (.inr h2) (by omega)
      rw [hit _ (by omega), hit _ (by omega)] at this
      apply this
      rw [← itZ_add, he, itZ_add]; congr 1; omega
    · rw [if_neg h2]
      have hp1 := perF_le l last last (Nat.le_refl _)
      have hp2 := perF_eq (l := l) last (Nat.le_refl _) (by omega)
      have hp3 := perF_last (l := l) (last := last) last (Nat.le_refl _)
      generalize perF l last last = len at *
      obtain ⟨a1, a2, a3, a4⟩ := atF_spec (l := l) (len := len) (last - len) 0 (by rw [Nat.zero_add, hp2]; congr 1; omega)
      generalize atF l len (last - len) 0 = a at *
      obtain ⟨m1, m2, m3, m4⟩ := leastF_spec (l := l) len a a (.inr rfl)
      show FS M z most (0, a, (List.range len).map fun i => gd l (a + (leastF l len a a - a + i) % len))
      generalize leastF l len a a = m at *
      have hlen : 0 < len := by omega
      have hper : itZ M z (a + len) = itZ M z a := by rw [← hit a (by omega), ← hit (a + len) (by omega), a3]
      have hmin : ∀ i d, 0 < d → i + d ≤ last → itZ M z (i + d) = itZ M z i → len ≤ d := by
        intro i d hd hid he
        rcases Nat.lt_or_ge d len with h | h
        · have h3 := hp3 (last - d) (.inl (by omega)) (by omega)
          rw [hit _ (by omega), hit _ (by omega)] at h3
          exfalso
          apply h3
          have := it_per' he (n := last - d) (by omega)
          rw [show last - d + d = last by omega] at this
          exact this.symm
        · exact h
      refine FS.cyc m hlen (by omega) (by rcases m1 with h | h <;> omega) (by rcases m2 with h | h <;> omega) (fun j h => hfit' j (by omega)) hper ?_ ?_ (by simp) ?_
      · intro i j h3 h4 he
        have he' : itZ M z (i + (j - i)) = itZ M z i := by rw [show i + (j - i) = j by omega]; exact he.symm
        have hd := hmin i (j - i) (by omega) (by omega) he'
        have hia : i < a := by omega
        have h5 := a4 i (by omega) hia
        rw [hit _ (by omega), hit _ (by omega)] at h5
        apply h5
        have e1 := it_mul he' (n := i) (Nat.le_refl _) a
        have e2 := it_mul he' (n := i + len) (by omega) a
        have hge : a ≤ i + (j - i) * a := by
          have : a ≤ (j - i) * a := Nat.le_mul_of_pos_left _ (by omega)
          omega
        have e3 := it_per' hper hge
        rw [← e1, ← e2, ← e3]; congr 1; omega
      · intro j h3 h4
        rw [← hit m (by rcases m2 with h | h <;> omega), ← hit j (by omega)]
        exact m4 j h3 h4
      · intro i hi
        rw [gd_range _ _ hi]
        have hX := Nat.mod_lt (m - a + i) hlen
        rw [hit _ (by omega), per_mod (f := itZ M z) hlen (it_per hper)]
        congr 1; rcases m1 with h | h <;> omega
/-- There is one answer. -/
theorem FS.uniq {M : Mp} {z : Int} {most : Nat} {r r' : Int × Nat × List Int} (h : FS M z most r) (h' : FS M z most r') : r = r' := by
  rcases h with ⟨rfl, j, h1, h2, h3⟩ | ⟨rfl, h1, h2⟩ | ⟨t, s, L, rfl, h1, h2, h3, h4, h5, h6, h7, h8⟩
  · rcases h' with ⟨rfl, -⟩ | ⟨rfl, g1, -⟩ | ⟨t', s', L', rfl, -, -, -, -, g5, -⟩
    · rfl
    · have := g1 j h1; omega
    · have := g5 j; omega
  · rcases h' with ⟨rfl, j, g1, g2, -⟩ | ⟨rfl, -⟩ | ⟨t', s', L', rfl, g1, g2, -, -, -, g6, -⟩
    · have := h1 j g1; omega
    · rfl
    · exact absurd g6.symm (h2 t' (t' + L') (by omega) g2)
  · rcases h' with ⟨rfl, j, g1, g2, -⟩ | ⟨rfl, -, g2⟩ | ⟨t', s', L', rfl, g1, g2, g3, g4, g5, g6, g7, g8⟩
    · have := h5 j; omega
    · exact absurd h6.symm (g2 t (t + L) (by omega) h2)
    · have e1 : t + L = t' + L' := by
        rcases Nat.lt_trichotomy (t + L) (t' + L') with h | h | h
        · exact absurd h6.symm (g7 t (t + L) (by omega) h)
        · exact h
        · exact absurd g6.symm (h7 t' (t' + L') (by omega) h)
      have e2 : itZ M z t = itZ M z t' := by rw [← h6, ← g6, e1]
      have e3 : t = t' := by
        rcases Nat.lt_trichotomy t t' with h | h | h
        · exact absurd e2 (h7 t t' h (by omega))
        · exact h
        · exact absurd e2.symm (h7 t' t h (by omega))
      subst e3
      obtain rfl : L = L' := by omega
      have e4 : itZ M z s = itZ M z s' := Int.le_antisymm (h8 s' g3) (g8 s h3)
      congr 2
      apply List.map_congr_left
      intro i _
      rw [← itZ_add, e4, itZ_add]
theorem flwA_fateL (M : Mp) (z : Int) (most : Nat) : flwA M (most + 1) [] z = fateL (orbL M z most) := (flwA_FS M z most).uniq (fateL_FS M z most)
end Go.Proofs.YtiaeeclmlchpoaaGreatDoor
