/- What the reading of a number does to memory and what it returns. No condition. -/
import Derived.Test.YtiaeeclmlchpoaaZ3
import Derived.Laws.BytesArg
import Derived.Test.YtiaeeclmlchpoaaZ1
import Derived.BigRegion
import Derived.Laws.RangeAny
set_option linter.unusedVariables false
set_option linter.unusedSimpArgs false
namespace Go.Proofs.Ytiaeeclmlchpoaa
open Go.RowKit

theorem dv_range {l : List Int} (h : ∀ c ∈ l, 48 ≤ c ∧ c ≤ 57) : 0 ≤ dv l ∧ dv l < (10 : Int) ^ l.length := by
  have hd : Dg 10 (l.reverse.map (· - 48)) := by
    intro d hd
    simp only [List.mem_map, List.mem_reverse] at hd
    obtain ⟨c, hc, rfl⟩ := hd
    have := h c hc
    omega
  have h1 := V_nonneg hd
  have h2 := V_lt hd
  simp only [List.length_map, List.length_reverse] at h2
  exact ⟨h1, h2⟩
def Dgt (L : List Int) (a : Nat) : Prop := ∀ j, a ≤ j → j < L.length → 48 ≤ gd L j ∧ gd L j ≤ 57
/-- The digits from place a up to place b. -/
def seg (L : List Int) (a b : Nat) : List Int := (L.take b).drop a
theorem seg_length (L : List Int) {a b : Nat} (h : a ≤ b) (hb : b ≤ L.length) : (seg L a b).length = b - a := by unfold seg; simp; omega
theorem seg_self (L : List Int) (a : Nat) : seg L a a = [] := by unfold seg; rw [List.drop_of_length_le]; simp; omega
theorem seg_snoc {L : List Int} {a b : Nat} (h : a ≤ b) (hb : b < L.length) : seg L a (b + 1) = seg L a b ++ [gd L b] := by
  unfold seg
  rw [List.take_succ_eq_append_getElem hb, List.drop_append_of_le_length (by simp; omega), gd_lt hb]
theorem seg_all {L : List Int} {a b c : Nat} (hd : Dgt L a) (h : a ≤ b) (hc : c ≤ L.length) : ∀ x ∈ seg L b c, 48 ≤ x ∧ x ≤ 57 := by
  intro x hx
  unfold seg at hx
  obtain ⟨i, hi, rfl⟩ := List.getElem_of_mem hx
  simp at hi
  rw [List.getElem_drop, List.getElem_take, ← gd_lt (by omega)]
  exact hd _ (by omega) (by omega)
theorem seg_drop {L : List Int} {a b : Nat} (h : a ≤ b) (hb : b ≤ L.length) : L.drop a = seg L a b ++ L.drop b := by
  unfold seg
  conv => lhs; rw [← List.take_append_drop b L]
  rw [List.drop_append_of_le_length (by simp; omega)]
def ParI (L : List Int) (a : Nat) (e : Int) (l : List Int) : Prop :=
  Dg B9 l ∧ ∃ b : Nat, a ≤ b ∧ b ≤ L.length ∧ V B9 l = dv (L.drop b) ∧ ((b = a ∧ e ≤ a) ∨ (e = b ∧ a < b ∧ 9 * l.length = L.length - b))
theorem ten9 (k : Nat) : (10 : Int) ^ (9 * k) = (B9 : Int) ^ k := by rw [Int.pow_mul, B9c]; rfl
theorem ParI.step {L l : List Int} {a E j : Nat} (hd : Dgt L a) (h : ParI L a E l) (hE : a < E) (hj : (a + 9 < E ∧ j = E - 9) ∨ (E ≤ a + 9 ∧ j = a)) :
    ParI L a ((E : Int) - 9) (l ++ [dv (seg L j E)]) := by
  obtain ⟨h1, b, h2, h3, h4, h5⟩ := h
  have hb : b = E ∧ 9 * l.length = L.length - b := by
    rcases h5 with ⟨x, y⟩ | ⟨x, y, z⟩ <;> omega
  obtain ⟨rfl, hl⟩ := hb
  have hjE : a ≤ j ∧ j < b ∧ b - j ≤ 9 := by omega
  have hr := dv_range (seg_all (c := b) hd hjE.1 h3)
  rw [seg_length L (by omega) h3] at hr
  have hp : (10 : Int) ^ (b - j) ≤ 1000000000 := by
    have : (10 : Nat) ^ (b - j) ≤ 10 ^ 9 := Nat.pow_le_pow_right (by omega) hjE.2.2
    have h2 : ((10 ^ (b - j) : Nat) : Int) ≤ ((10 ^ 9 : Nat) : Int) := by omega
    rwa [Int.natCast_pow] at h2
  refine ⟨Dg.append h1 (Dg.cons hr.1 (by rw [B9c]; omega) (Dg.nil _)), j, hjE.1, by omega, ?_, ?_⟩
  · rw [V_snoc, seg_drop (show j ≤ b by omega) h3, dv_append, List.length_drop, ← hl, ten9, h4]; omega
  · rw [List.length_append, List.length_singleton]
    omega
theorem ParI.first {L : List Int} {a : Nat} (h : a < L.length) : ParI L a (L.length : Int) [] :=
  ⟨Dg.nil _, L.length, by omega, Nat.le_refl _, by rw [List.drop_of_length_le (Nat.le_refl _)]; rfl, .inr ⟨rfl, h, by simp⟩⟩
theorem ParI.last {L l : List Int} {a : Nat} {e : Int} (h : ParI L a e l) (he : e ≤ a) : Dg B9 l ∧ V B9 l = dv (L.drop a) := by
  obtain ⟨h1, b, h2, h3, h4, h5⟩ := h
  refine ⟨h1, ?_⟩
  rcases h5 with ⟨x, y⟩ | ⟨x, y, z⟩
  · subst x; exact h4
  · omega
theorem ParI.len {L l : List Int} {a : Nat} {e : Int} (h : ParI L a e l) (he : a < e) : 9 * l.length ≤ L.length := by
  obtain ⟨h1, b, h2, h3, h4, h5⟩ := h
  rcases h5 with ⟨x, y⟩ | ⟨x, y, z⟩ <;> omega
theorem start1 (w : World) (t : TypeId) (W : World) (hW : w.alloc (.cells #[.bool false, .slice none 0 0] t) = W) : Res2 W w.heap.size ∧ W.heap.size = w.heap.size + 1 ∧ Below w.heap.size w W := by
  subst hW
  refine ⟨⟨⟨false, ?_⟩, ⟨none, 0, 0, ?_⟩, ?_, ?_, ?_⟩, ?_, below_alloc (Below.refl _ _) _⟩ <;> simp [go_sem]

set_option maxRecDepth 100000 in
set_option maxHeartbeats 2000000 in
theorem Parse_c (z : Int) (w : World) (hz : dlN z.natAbs ≤ 100000000000) :
    Calls Try.prog 13 #[.string (tS z)] w fun e w' => ∃ v, e = .returned v ∧ IsN w' v z ∧ Below w.heap.size w w' := by
  have HC := Lib.hid (codes_tS z)
  generalize tS z = s at *
  have hst := strip_tx z
  have hneg := tx_neg (z := z)
  have hne : codes s ≠ [] := by rw [HC.out]; unfold tx; have := txN_ne z.natAbs; split <;> simp [this]
  have hL := codes_length s
  have hlen : (codes s).length ≤ 100000000001 := by rw [HC.out]; unfold tx; unfold dlN at hz; split <;> simp <;> omega
  have h0 : 0 < s.size := by have := List.length_pos_iff.2 hne; omega
  have hx0 : ∀ h : 0 < s.size, ((s[0]'h).toNat : Int) = gd (codes s) 0 := fun h => codes_gd h
  have hg : (codes s).head? = some 45 ↔ gd (codes s) 0 = 45 := by
    cases e : codes s with
    | nil => exact absurd e hne
    | cons c t => simp [gd]
  rw [← HC.out] at hst hneg
  rw [hg] at hneg
  by_cases q : gd (codes s) 0 = 45
  · have qb : (gd (codes s) 0 == 45) = true := by simpa using q
    have hz0 : z < 0 := hneg.1 q
    have hsd := strip_drop (a := 1) hne (by rw [if_pos q])
    rw [hst] at hsd
    have HD : Hid (Dgt (codes s) 1) := by
      intro j h1 h2
      have := txN_range z.natAbs (gd (codes s) j) (by
        rw [hsd]
        have e : gd (codes s) j = gd ((codes s).drop 1) (j - 1) := by rw [gd_drop, show 1 + (j - 1) = j by omega]
        rw [e, gd_lt (by rw [List.length_drop]; omega)]
        exact List.getElem_mem _)
      exact this
    have hal : 1 < (codes s).length := by
      have := List.length_pos_iff.2 (txN_ne z.natAbs)
      rw [hsd, List.length_drop] at this
      omega
    have HV : Hid (dv ((codes s).drop 1) = z.natAbs) := by rw [← hsd]; exact dv_txN _
    have HZ : Hid (sgnd true (z.natAbs : Int) = z) := by show _ = _; unfold sgnd; rw [if_pos rfl]; omega
    have HL := Lib.hid hL
    have hs1 : s.size ≤ 100000000001 := by omega
    have hs2 : 1 < s.size := by omega
    clear hsd hz0 q hneg hst hne hL hlen hg hz
    go_enter Try.func13, Try.ntmps13
    go_wp2
    generalize hW : w.alloc (Obj.cells #[Value.bool false, Value.slice none 0 0] 28) = W
    obtain ⟨HR2, hWs, HBW⟩ := start1 w _ W hW
    clear hW hx0
    go_loopw [5, 6] (fun out ev wr => ∃ (e : Int) (l : List Int), ev = .int .i64 e ∧ OwI wr W.heap.size 3 .i64 out l ∧ Below W.heap.size W wr ∧ e ≤ s.size ∧ -9 ≤ e ∧ Hid (ParI (codes s) 1 e l)) (fun _ ev _ => (intOf ev + 9).toNat)
    case atStart => exact ⟨s.size, [], rfl, OwI.nil _ _ _ _, Below.refl _ _, by omega, by omega, by have := ParI.first hal; rw [HL.out] at this; exact this⟩
    case round =>
      obtain ⟨e, l, rfl, HO, HB, he1, he2, HI⟩ := hrel
      have hB := HB.size
      by_cases he : 1 < e
      · obtain ⟨E, rfl⟩ : ∃ E : Nat, e = E := ⟨e.toNat, by omega⟩
        have hLL : Hid ((l.length + 1) * 8 ≤ 140737488355328) := by have := HI.out.len (by omega); have := HL.out; show _ ≤ _; omega
        have hcase : (1 + 9 < E) ∨ (E ≤ 1 + 9) := by omega
        rcases hcase with hq | hq
        · have HST := fun hj => Lib.hid (ParI.step (j := E - 9) HD.out HI.out (by omega) hj)
          replace HST := HST (.inl ⟨hq, rfl⟩)
          clear HI
          go_wp2
          obtain ⟨wo, rfl⟩ : ∃ wo : World, wo = wr := ⟨_, rfl⟩
          go_loop [7, 8] (fun pv iv => ∃ (i : Nat) (p : Int), iv = .int .i64 i ∧ pv = .int .i64 p ∧ E - 9 ≤ i ∧ i ≤ E ∧ 0 ≤ p ∧ p < 1000000000 ∧ Hid (p = dv (seg (codes s) (E - 9) i))) (fun _ iv => E - (intOf iv).toNat)
          case atStart => exact ⟨E - 9, 0, by go_num, rfl, by omega, by omega, by omega, by omega, by show _ = _; rw [seg_self]; rfl⟩
          case round =>
            obtain ⟨i, p, rfl, rfl, hi1, hi2, hp1, hp2, HP⟩ := hrel
            by_cases hi : i < E
            · have hxi : ∀ h : i < s.size, ((s[i]'h).toNat : Int) = gd (codes s) i := fun h => codes_gd h
              have hd := HD.out i (by omega) (by rw [HL.out]; omega)
              obtain ⟨hd1, hd2⟩ := hd
              have hil : i < s.size := by omega
              have HN : Hid (10 * p + (gd (codes s) i - 48) = dv (seg (codes s) (E - 9) (i + 1))) := by
                show _ = _
                rw [seg_snoc (by omega) (by rw [HL.out]; omega), dv_snoc, HP.out]
              have hn9 : 10 * p + (gd (codes s) i - 48) < 1000000000 := by
                have hr := (dv_range (seg_all (c := i + 1) HD.out (show 1 ≤ E - 9 by omega) (by rw [HL.out]; omega))).2
                rw [← HN.out, seg_length _ (by omega) (by rw [HL.out]; omega)] at hr
                have : (10 : Nat) ^ (i + 1 - (E - 9)) ≤ 10 ^ 9 := Nat.pow_le_pow_right (by omega) (by omega)
                have h2 : ((10 ^ (i + 1 - (E - 9)) : Nat) : Int) ≤ ((10 ^ 9 : Nat) : Int) := by omega
                rw [Int.natCast_pow] at h2
                have e9 : ((10 ^ 9 : Nat) : Int) = 1000000000 := rfl
                rw [e9] at h2
                exact Int.lt_of_lt_of_le hr h2
              clear HP
              go_wp2
              go_round
              case rel => exact ⟨i + 1, _, by go_num, rfl, by omega, by omega, by omega, hn9, HN⟩
              case measure => simp [intOf]; omega
            · obtain rfl : i = E := by omega
              have HP2 := HP.out
              subst HP2
              go_wp2_with (at_builtin; refine app_I W.heap.size rfl _ _ 26 3 .i64 8 rfl Try.underlying26 info_i64 (by decide) _ l _ HO rfl rfl HB hB hLL.out ?_; intro v1 w1 HO1 HB1 hB1)
              go_roundw
              case rel => exact ⟨(i : Int) - 9, _, rfl, HO1, HB1, by omega, by omega, HST⟩
              case measure => simp [intOf]; omega
        · have HST := fun hj => Lib.hid (ParI.step (j := 1) HD.out HI.out (by omega) hj)
          replace HST := HST (.inr ⟨hq, rfl⟩)
          clear HI
          go_wp2
          obtain ⟨wo, rfl⟩ : ∃ wo : World, wo = wr := ⟨_, rfl⟩
          go_loop [7, 8] (fun pv iv => ∃ (i : Nat) (p : Int), iv = .int .i64 i ∧ pv = .int .i64 p ∧ 1 ≤ i ∧ i ≤ E ∧ 0 ≤ p ∧ p < 1000000000 ∧ Hid (p = dv (seg (codes s) (1) i))) (fun _ iv => E - (intOf iv).toNat)
          case atStart => exact ⟨1, 0, by go_num, rfl, by omega, by omega, by omega, by omega, by show _ = _; rw [seg_self]; rfl⟩
          case round =>
            obtain ⟨i, p, rfl, rfl, hi1, hi2, hp1, hp2, HP⟩ := hrel
            by_cases hi : i < E
            · have hxi : ∀ h : i < s.size, ((s[i]'h).toNat : Int) = gd (codes s) i := fun h => codes_gd h
              have hd := HD.out i (by omega) (by rw [HL.out]; omega)
              obtain ⟨hd1, hd2⟩ := hd
              have hil : i < s.size := by omega
              have HN : Hid (10 * p + (gd (codes s) i - 48) = dv (seg (codes s) (1) (i + 1))) := by
                show _ = _
                rw [seg_snoc (by omega) (by rw [HL.out]; omega), dv_snoc, HP.out]
              have hn9 : 10 * p + (gd (codes s) i - 48) < 1000000000 := by
                have hr := (dv_range (seg_all (c := i + 1) HD.out (show 1 ≤ 1 by omega) (by rw [HL.out]; omega))).2
                rw [← HN.out, seg_length _ (by omega) (by rw [HL.out]; omega)] at hr
                have : (10 : Nat) ^ (i + 1 - (1)) ≤ 10 ^ 9 := Nat.pow_le_pow_right (by omega) (by omega)
                have h2 : ((10 ^ (i + 1 - (1)) : Nat) : Int) ≤ ((10 ^ 9 : Nat) : Int) := by omega
                rw [Int.natCast_pow] at h2
                have e9 : ((10 ^ 9 : Nat) : Int) = 1000000000 := rfl
                rw [e9] at h2
                exact Int.lt_of_lt_of_le hr h2
              clear HP
              go_wp2
              go_round
              case rel => exact ⟨i + 1, _, by go_num, rfl, by omega, by omega, by omega, hn9, HN⟩
              case measure => simp [intOf]; omega
            · obtain rfl : i = E := by omega
              have HP2 := HP.out
              subst HP2
              go_wp2_with (at_builtin; refine app_I W.heap.size rfl _ _ 26 3 .i64 8 rfl Try.underlying26 info_i64 (by decide) _ l _ HO rfl rfl HB hB hLL.out ?_; intro v1 w1 HO1 HB1 hB1)
              go_roundw
              case rel => exact ⟨(i : Int) - 9, _, rfl, HO1, HB1, by omega, by omega, HST⟩
              case measure => simp [intOf]; omega
      · obtain ⟨hd, hv⟩ := HI.out.last (by omega)
        have HVl : Hid (V B9 l = z.natAbs) := hv.trans HV.out
        have HDl := Lib.hid hd
        clear hd hv HI
        obtain ⟨A1, c1, rfl, hs⟩ := HO.form
        have HSl := Lib.hid hs
        have HR4 := HR2.keep HB
        clear hs
        go_wp2_with (go_at_call 36; (with_reducible refine (trim_n _ _ _ l _ HSl.out HDl.out).mono ?_); rintro e w2 ⟨v, rfl, hv, hb2⟩; obtain ⟨nv, A4, n4, c4, rfl, HV4⟩ := hv.form; clear hv; have HR5 := Lib.hid (HR4.keep hb2); obtain ⟨⟨u1, r1⟩, ⟨u2, u3, u4, r2⟩, r3, r4, r5⟩ := HR5.out)
        refine bodyPost_ret (v := .agg #[.bool nv, .slice A4 n4 c4]) (by simp [results, Try.results13, go_sem, r1, r2, r5]) rfl ⟨_, rfl, ?_, ?_⟩
        · refine IsZ.res2 (z := z) ?_ HR5.out _ _
          rw [← HZ.out, ← HVl.out]
          exact HV4.out
        · exact below_set (below_set (below_step (below_step HBW HB) hb2) (by omega) _) (by omega) _
  
  · have qb : (gd (codes s) 0 == 45) = false := by simpa using q
    have hz0 : ¬ z < 0 := fun h => q (hneg.2 h)
    have hsd := strip_drop (a := 0) hne (by rw [if_neg q])
    rw [hst] at hsd
    have HD : Hid (Dgt (codes s) 0) := by
      intro j h1 h2
      have := txN_range z.natAbs (gd (codes s) j) (by
        rw [hsd]
        have e : gd (codes s) j = gd ((codes s).drop 0) (j - 0) := by rw [gd_drop, show 0 + (j - 0) = j by omega]
        rw [e, gd_lt (by rw [List.length_drop]; omega)]
        exact List.getElem_mem _)
      exact this
    have hal : 0 < (codes s).length := by
      have := List.length_pos_iff.2 (txN_ne z.natAbs)
      rw [hsd, List.length_drop] at this
      omega
    have HV : Hid (dv ((codes s).drop 0) = z.natAbs) := by rw [← hsd]; exact dv_txN _
    have HZ : Hid (sgnd false (z.natAbs : Int) = z) := by show _ = _; unfold sgnd; rw [if_neg (by simp)]; omega
    have HL := Lib.hid hL
    have hs1 : s.size ≤ 100000000001 := by omega
    have hs2 : 0 < s.size := by omega
    clear hsd hz0 q hneg hst hne hL hlen hg hz
    go_enter Try.func13, Try.ntmps13
    go_wp2
    generalize hW : w.alloc (Obj.cells #[Value.bool false, Value.slice none 0 0] 28) = W
    obtain ⟨HR2, hWs, HBW⟩ := start1 w _ W hW
    clear hW hx0
    go_loopw [5, 6] (fun out ev wr => ∃ (e : Int) (l : List Int), ev = .int .i64 e ∧ OwI wr W.heap.size 3 .i64 out l ∧ Below W.heap.size W wr ∧ e ≤ s.size ∧ -9 ≤ e ∧ Hid (ParI (codes s) 0 e l)) (fun _ ev _ => (intOf ev + 9).toNat)
    case atStart => exact ⟨s.size, [], rfl, OwI.nil _ _ _ _, Below.refl _ _, by omega, by omega, by have := ParI.first hal; rw [HL.out] at this; exact this⟩
    case round =>
      obtain ⟨e, l, rfl, HO, HB, he1, he2, HI⟩ := hrel
      have hB := HB.size
      by_cases he : 0 < e
      · obtain ⟨E, rfl⟩ : ∃ E : Nat, e = E := ⟨e.toNat, by omega⟩
        have hLL : Hid ((l.length + 1) * 8 ≤ 140737488355328) := by have := HI.out.len (by omega); have := HL.out; show _ ≤ _; omega
        have hcase : (0 + 9 < E) ∨ (E ≤ 0 + 9) := by omega
        rcases hcase with hq | hq
        · have HST := fun hj => Lib.hid (ParI.step (j := E - 9) HD.out HI.out (by omega) hj)
          replace HST := HST (.inl ⟨hq, rfl⟩)
          clear HI
          go_wp2
          obtain ⟨wo, rfl⟩ : ∃ wo : World, wo = wr := ⟨_, rfl⟩
          go_loop [7, 8] (fun pv iv => ∃ (i : Nat) (p : Int), iv = .int .i64 i ∧ pv = .int .i64 p ∧ E - 9 ≤ i ∧ i ≤ E ∧ 0 ≤ p ∧ p < 1000000000 ∧ Hid (p = dv (seg (codes s) (E - 9) i))) (fun _ iv => E - (intOf iv).toNat)
          case atStart => exact ⟨E - 9, 0, by go_num, rfl, by omega, by omega, by omega, by omega, by show _ = _; rw [seg_self]; rfl⟩
          case round =>
            obtain ⟨i, p, rfl, rfl, hi1, hi2, hp1, hp2, HP⟩ := hrel
            by_cases hi : i < E
            · have hxi : ∀ h : i < s.size, ((s[i]'h).toNat : Int) = gd (codes s) i := fun h => codes_gd h
              have hd := HD.out i (by omega) (by rw [HL.out]; omega)
              obtain ⟨hd1, hd2⟩ := hd
              have hil : i < s.size := by omega
              have HN : Hid (10 * p + (gd (codes s) i - 48) = dv (seg (codes s) (E - 9) (i + 1))) := by
                show _ = _
                rw [seg_snoc (by omega) (by rw [HL.out]; omega), dv_snoc, HP.out]
              have hn9 : 10 * p + (gd (codes s) i - 48) < 1000000000 := by
                have hr := (dv_range (seg_all (c := i + 1) HD.out (show 0 ≤ E - 9 by omega) (by rw [HL.out]; omega))).2
                rw [← HN.out, seg_length _ (by omega) (by rw [HL.out]; omega)] at hr
                have : (10 : Nat) ^ (i + 1 - (E - 9)) ≤ 10 ^ 9 := Nat.pow_le_pow_right (by omega) (by omega)
                have h2 : ((10 ^ (i + 1 - (E - 9)) : Nat) : Int) ≤ ((10 ^ 9 : Nat) : Int) := by omega
                rw [Int.natCast_pow] at h2
                have e9 : ((10 ^ 9 : Nat) : Int) = 1000000000 := rfl
                rw [e9] at h2
                exact Int.lt_of_lt_of_le hr h2
              clear HP
              go_wp2
              go_round
              case rel => exact ⟨i + 1, _, by go_num, rfl, by omega, by omega, by omega, hn9, HN⟩
              case measure => simp [intOf]; omega
            · obtain rfl : i = E := by omega
              have HP2 := HP.out
              subst HP2
              go_wp2_with (at_builtin; refine app_I W.heap.size rfl _ _ 26 3 .i64 8 rfl Try.underlying26 info_i64 (by decide) _ l _ HO rfl rfl HB hB hLL.out ?_; intro v1 w1 HO1 HB1 hB1)
              go_roundw
              case rel => exact ⟨(i : Int) - 9, _, rfl, HO1, HB1, by omega, by omega, HST⟩
              case measure => simp [intOf]; omega
        · have HST := fun hj => Lib.hid (ParI.step (j := 0) HD.out HI.out (by omega) hj)
          replace HST := HST (.inr ⟨hq, rfl⟩)
          clear HI
          go_wp2
          obtain ⟨wo, rfl⟩ : ∃ wo : World, wo = wr := ⟨_, rfl⟩
          go_loop [7, 8] (fun pv iv => ∃ (i : Nat) (p : Int), iv = .int .i64 i ∧ pv = .int .i64 p ∧ 0 ≤ i ∧ i ≤ E ∧ 0 ≤ p ∧ p < 1000000000 ∧ Hid (p = dv (seg (codes s) (0) i))) (fun _ iv => E - (intOf iv).toNat)
          case atStart => exact ⟨0, 0, by go_num, rfl, by omega, by omega, by omega, by omega, by show _ = _; rw [seg_self]; rfl⟩
          case round =>
            obtain ⟨i, p, rfl, rfl, hi1, hi2, hp1, hp2, HP⟩ := hrel
            by_cases hi : i < E
            · have hxi : ∀ h : i < s.size, ((s[i]'h).toNat : Int) = gd (codes s) i := fun h => codes_gd h
              have hd := HD.out i (by omega) (by rw [HL.out]; omega)
              obtain ⟨hd1, hd2⟩ := hd
              have hil : i < s.size := by omega
              have HN : Hid (10 * p + (gd (codes s) i - 48) = dv (seg (codes s) (0) (i + 1))) := by
                show _ = _
                rw [seg_snoc (by omega) (by rw [HL.out]; omega), dv_snoc, HP.out]
              have hn9 : 10 * p + (gd (codes s) i - 48) < 1000000000 := by
                have hr := (dv_range (seg_all (c := i + 1) HD.out (show 0 ≤ 0 by omega) (by rw [HL.out]; omega))).2
                rw [← HN.out, seg_length _ (by omega) (by rw [HL.out]; omega)] at hr
                have : (10 : Nat) ^ (i + 1 - (0)) ≤ 10 ^ 9 := Nat.pow_le_pow_right (by omega) (by omega)
                have h2 : ((10 ^ (i + 1 - (0)) : Nat) : Int) ≤ ((10 ^ 9 : Nat) : Int) := by omega
                rw [Int.natCast_pow] at h2
                have e9 : ((10 ^ 9 : Nat) : Int) = 1000000000 := rfl
                rw [e9] at h2
                exact Int.lt_of_lt_of_le hr h2
              clear HP
              go_wp2
              go_round
              case rel => exact ⟨i + 1, _, by go_num, rfl, by omega, by omega, by omega, hn9, HN⟩
              case measure => simp [intOf]; omega
            · obtain rfl : i = E := by omega
              have HP2 := HP.out
              subst HP2
              go_wp2_with (at_builtin; refine app_I W.heap.size rfl _ _ 26 3 .i64 8 rfl Try.underlying26 info_i64 (by decide) _ l _ HO rfl rfl HB hB hLL.out ?_; intro v1 w1 HO1 HB1 hB1)
              go_roundw
              case rel => exact ⟨(i : Int) - 9, _, rfl, HO1, HB1, by omega, by omega, HST⟩
              case measure => simp [intOf]; omega
      · obtain ⟨hd, hv⟩ := HI.out.last (by omega)
        have HVl : Hid (V B9 l = z.natAbs) := hv.trans HV.out
        have HDl := Lib.hid hd
        clear hd hv HI
        obtain ⟨A1, c1, rfl, hs⟩ := HO.form
        have HSl := Lib.hid hs
        have HR4 := HR2.keep HB
        clear hs
        go_wp2_with (go_at_call 36; (with_reducible refine (trim_n _ _ _ l _ HSl.out HDl.out).mono ?_); rintro e w2 ⟨v, rfl, hv, hb2⟩; obtain ⟨nv, A4, n4, c4, rfl, HV4⟩ := hv.form; clear hv; have HR5 := Lib.hid (HR4.keep hb2); obtain ⟨⟨u1, r1⟩, ⟨u2, u3, u4, r2⟩, r3, r4, r5⟩ := HR5.out)
        refine bodyPost_ret (v := .agg #[.bool nv, .slice A4 n4 c4]) (by simp [results, Try.results13, go_sem, r1, r2, r5]) rfl ⟨_, rfl, ?_, ?_⟩
        · refine IsZ.res2 (z := z) ?_ HR5.out _ _
          rw [← HZ.out, ← HVl.out]
          exact HV4.out
        · exact below_set (below_set (below_step (below_step HBW HB) hb2) (by omega) _) (by omega) _
end Go.Proofs.Ytiaeeclmlchpoaa

set_option linter.unusedVariables false
set_option linter.unusedSimpArgs false
namespace Go.Proofs.Ytiaeeclmlchpoaa
open Go.RowKit

theorem info_u8 : (Try.prog.info? 5).map (fun i => (i.zero, i.size, i.bytes)) = some (some (.int .u8 0), 1, 1) := by kernel_rfl
theorem conv_str (A : Option Addr) (c : Nat) (l : List Int) (w : World) (h : SlI w .u8 A c l) (h0 : 0 < l.length) :
    (convert 80 9 (.slice A l.length c)).run Try.prog w = .ok (.string (mkS l)) w := by
  obtain ⟨b, off, rfl, hl, _⟩ := h.cell (j := 0) h0
  refine run_convert_bytes_arg w 80 5 Try.underlying80 Try.underlying5 b off l.length c l rfl (fun i hi => ?_) 9 Try.underlying9
  obtain ⟨b', off', e, _, hc⟩ := h.cell (j := i) hi
  simp only [Option.some.injEq, Addr.mk.injEq] at e
  obtain ⟨rfl, rfl, _⟩ := e
  exact hc

/-- The digits written so far, k of the part i having come. -/
def TxtI (n : Nat) (l : List Int) (part k m : Nat) : Prop := digs 10 n = l ++ digs 10 (part + 10 ^ (9 - k) * m) ∧ part < 10 ^ (9 - k) ∧ k ≤ 9
theorem TxtI.step {n : Nat} {l : List Int} {part k m : Nat} (h : TxtI n l part k m) (hk : k < 9) (hpos : 0 < part ∨ 0 < m) :
    TxtI n (l ++ [((part % 10 : Nat) : Int)]) (part / 10) (k + 1) m := by
  obtain ⟨h1, h2, h3⟩ := h
  obtain ⟨q, hq⟩ : ∃ q, 9 - k = q + 1 := ⟨9 - k - 1, by omega⟩
  have hq2 : 9 - (k + 1) = q := by omega
  rw [hq] at h1 h2
  refine ⟨?_, ?_, by omega⟩
  · have hx : 0 < part + 10 ^ (q + 1) * m := by
      rcases hpos with h | h
      · omega
      · have : 0 < 10 ^ (q + 1) * m := Nat.mul_pos (Nat.pow_pos (by omega)) h
        omega
    rw [h1, digs_pos (by omega) hx, List.append_assoc, hq2]
    have e1 : (part + 10 ^ (q + 1) * m) % 10 = part % 10 := by
      rw [Nat.pow_succ, Nat.mul_comm (10 ^ q) 10, Nat.mul_assoc, Nat.add_mul_mod_self_left]
    have e2 : (part + 10 ^ (q + 1) * m) / 10 = part / 10 + 10 ^ q * m := by
      rw [Nat.pow_succ, Nat.mul_comm (10 ^ q) 10, Nat.mul_assoc, Nat.add_mul_div_left _ _ (by omega)]
    rw [e1, e2]
    rfl
  · rw [hq2]
    rw [Nat.pow_succ] at h2
    omega
theorem TxtI.done {n : Nat} {l : List Int} {part k m : Nat} (h : TxtI n l part k m) (hk : k = 9 ∨ (part = 0 ∧ m = 0)) : digs 10 n = l ++ digs 10 m ∧ part = 0 := by
  obtain ⟨h1, h2, h3⟩ := h
  rcases hk with rfl | ⟨rfl, rfl⟩
  · simp at h2
    subst h2
    simpa using h1
  · simpa using h1
/-- What is left of a number behind its lowest parts. -/
def hi9 (a : List Int) (i : Nat) : Nat := (V B9 (a.drop i)).toNat
theorem hi9_step {a : List Int} (ha : Dg B9 a) {i : Nat} : ∃ p : Nat, gd a i = p ∧ p < 1000000000 ∧ hi9 a i = p + 10 ^ 9 * hi9 a (i + 1) := by
  have h1 := gd9 ha i
  have h2 := V_nonneg (ha.drop (i + 1))
  refine ⟨(gd a i).toNat, by omega, by omega, ?_⟩
  unfold hi9
  rw [Vdrop a i, B9c]
  omega
theorem hi9_pos {a : List Int} (ha : Dg B9 a) (hn : Nm a) {i : Nat} (hi : i < a.length) : 0 < hi9 a i := by
  have hne : a.drop i ≠ [] := by intro h; have := congrArg List.length h; simp at this; omega
  have h1 := V_pos (by decide) (ha.drop i) (by
    unfold Nm at hn ⊢
    rw [List.getLast?_drop]
    rw [if_neg (by omega)]; exact hn) hne
  have h2 : (0 : Int) < (B9 : Int) ^ ((a.drop i).length - 1) := Int.pow_pos (by rw [B9c]; omega)
  unfold hi9
  omega
theorem hi9_end {a : List Int} {i : Nat} (hi : a.length ≤ i) : hi9 a i = 0 := by unfold hi9; rw [List.drop_of_length_le hi]; rfl

set_option maxRecDepth 100000 in
set_option maxHeartbeats 2000000 in
theorem Text_c (z : Int) (v : Value) (w : World) (h : IsN w v z) (sz : (dg B9 z).length ≤ 1000000000) :
    Calls Try.prog 20 #[v] w fun e w' => e = .returned (.string (tS z)) ∧ Below w.heap.size w w' := by
  obtain ⟨A, c, rfl, hs⟩ := h
  have hB : Below w.heap.size w w := Below.refl _ _
  have hc1 := hs.2.1
  have hc2 := hs.2.2
  by_cases hz : z = 0
  · have e2 : dg B9 z = [] := by rw [hz]; exact digs_zero _
    have e3 : tS z = ({ data := #[48] } : ByteArray) := by rw [hz]; rfl
    rw [e3]
    rw [e2] at hs hc1 ⊢
    clear e2 e3 hz sz
    generalize decide (z < 0) = na
    go_enter Try.func20, Try.ntmps20
    go_wp2
    go_ret
    exact ⟨rfl, below_alloc hB _⟩
  · have hn0 : 0 < z.natAbs := by omega
    have HD := Lib.hid (dg_dg B9two z)
    have HN := Lib.hid (dg_nm B9two z)
    have HT : Hid (hi9 (dg B9 z) 0 = z.natAbs) := by show _ = _; unfold hi9; rw [List.drop_zero, dg_V B9two]; omega
    have hne : 0 < (dg B9 z).length := by
      rcases Nat.eq_zero_or_pos (dg B9 z).length with h0 | h0
      · have := digs_nil B9two (List.eq_nil_of_length_eq_zero h0); omega
      · exact h0
    have hnb : ((dg B9 z).length == 0) = false := beq_eq_false_iff_ne.2 (by omega)
    have hnb2 : (((dg B9 z).length : Int) == 0) = false := beq_eq_false_iff_ne.2 (by omega)
    have HX : Hid (tx z = (if decide (z < 0) then [45] else []) ++ ((digs 10 z.natAbs).map (· + 48)).reverse) := by
      show _ = _; unfold tx txN; rw [if_neg (show ¬ z.natAbs = 0 by omega)]; simp
    have HL := Lib.hid hs
    clear hz hs hn0
    generalize dg B9 z = a at *
    generalize z.natAbs = n at *
    generalize decide (z < 0) = na at *
    go_enter Try.func20, Try.ntmps20
    go_wp2
    generalize hW : w.alloc (Obj.cells #[Value.bool na, Value.slice A a.length c] 28) = W
    have HS : Hid (S1 W w.heap.size na (.slice A a.length c)) := by subst hW; constructor <;> simp [go_sem]
    have HBW : Below w.heap.size w W := by subst hW; exact below_alloc (Below.refl _ _) _
    have hWs : w.heap.size < W.heap.size := by subst hW; simp
    clear hW
    replace HL := Lib.hid (HL.out.below HBW)
    go_loopw [3, 4] (fun out iv wr => ∃ (i : Nat) (l : List Int), iv = .int .i64 i ∧ OwI wr W.heap.size 5 .u8 out (l.map (· + 48)) ∧ Below W.heap.size W wr ∧ i ≤ a.length ∧ l.length ≤ 9 * i ∧ Hid (digs 10 n = l ++ digs 10 (hi9 a i))) (fun _ iv _ => a.length - (intOf iv).toNat)
    case atStart => exact ⟨0, [], rfl, OwI.nil _ _ _ _, Below.refl _ _, by omega, by simp, by show _ = _; rw [HT.out]; rfl⟩
    case round =>
      obtain ⟨i, l, rfl, HO, HB, hi, hl, HI⟩ := hrel
      obtain ⟨s1, s2⟩ := HS.out.keepB HB hWs
      by_cases hi1 : i < a.length
      · obtain ⟨p, hp1, hp2, hp3⟩ := hi9_step HD.out (i := i)
        have HT0 : Hid (TxtI n l p 0 (hi9 a (i + 1))) := ⟨by rw [HI.out, hp3], by omega, by omega⟩
        obtain ⟨b, off, rfl, hbl, hcell⟩ := (HL.out.below HB).cell (j := i) hi1
        rw [hp1] at hcell
        clear hp1 hp3 HI hbl
        go_wp2
        obtain ⟨wo, rfl⟩ : ∃ wo : World, wo = wr := ⟨_, rfl⟩
        go_loopw [3, 5, 6] (fun out pv kv wq => ∃ (q k : Nat) (l : List Int), pv = .int .i64 q ∧ kv = .int .i64 k ∧ OwI wq W.heap.size 5 .u8 out (l.map (· + 48)) ∧ Below W.heap.size W wq ∧ l.length ≤ 9 * i + k ∧ q < 1000000000 ∧ k ≤ 9 ∧ Hid (TxtI n l q k (hi9 a (i + 1)))) (fun _ _ kv _ => 9 - (intOf kv).toNat)
        case atStart => exact ⟨p, 0, l, rfl, rfl, HO, HB, by omega, hp2, by omega, HT0⟩
        case round =>
          clear HO HB s1 s2 hcell HT0 hl
          obtain ⟨q, k, l, rfl, rfl, HO, HB, hl, hq, hk, HT1⟩ := hrel
          obtain ⟨s1, s2⟩ := HS.out.keepB HB hWs
          have hB2 := HB.size
          have hi2 : (i : Int) < (a.length : Int) := by omega
          by_cases hk9 : k < 9
          · by_cases hgo : 0 < q ∨ (i : Int) < (a.length : Int) - 1
            · have hpos : 0 < q ∨ 0 < hi9 a (i + 1) := hgo.imp_right fun h => hi9_pos HD.out HN.out (by omega)
              have HST := Lib.hid (HT1.out.step hk9 hpos)
              have hLL : Hid (((l.map (· + 48)).length + 1) * 1 ≤ 140737488355328) := by show _ ≤ _; rw [List.length_map]; omega
              have hgo' : 0 < q ∨ (¬ 0 < q ∧ (i : Int) < (a.length : Int) - 1) := by omega
              clear HT1 hgo hpos
              have hm1 : (0 : Int) ≤ (q : Int) % 10 := by omega
              have hm2 : (q : Int) % 10 < 10 := by omega
              rcases hgo' with hg | ⟨hg, hg2⟩
              all_goals
                go_wp2_with (at_builtin; refine app_I W.heap.size rfl _ _ 80 5 .u8 1 rfl Try.underlying80 info_u8 (by decide) _ (l.map (· + 48)) _ HO rfl rfl HB hB2 hLL.out ?_; intro v1 w1 HO1 HB1 hB1)
                go_roundw
                case rel => exact ⟨q / 10, k + 1, l ++ [((q % 10 : Nat) : Int)], by simp, by go_num, by rw [List.map_append]; simp only [List.map_cons, List.map_nil]; rw [show ((q % 10 : Nat) : Int) + 48 = 48 + (q : Int) % 10 by omega]; exact HO1, HB1, by rw [List.length_append]; simp; omega, by omega, by omega, HST.out⟩
                case measure => simp [intOf]; omega
            · have hg1 : ¬ 0 < q := fun h => hgo (.inl h)
              have hg2 : ¬ (i : Int) < (a.length : Int) - 1 := fun h => hgo (.inr h)
              have HE := Lib.hid (HT1.out.done (.inr ⟨by omega, hi9_end (by omega)⟩)).1
              clear hgo HT1
              obtain rfl : q = 0 := by omega
              go_wp2
              go_roundw
              case rel => exact ⟨i + 1, l, by go_num, HO, HB, by omega, by omega, HE⟩
              case measure => simp [intOf]; omega
          · obtain rfl : k = 9 := by omega
            obtain ⟨HE, hq0⟩ := HT1.out.done (.inl rfl)
            have HE := Lib.hid HE
            subst hq0
            clear HT1
            go_wp2
            go_roundw
            case rel => exact ⟨i + 1, l, by go_num, HO, HB, by omega, by omega, HE⟩
            case measure => simp [intOf]; omega
      · obtain rfl : i = a.length := by omega
        have HE : Hid (l = digs 10 n) := by have := HI.out; rw [hi9_end (Nat.le_refl _), digs_zero, List.append_nil] at this; exact this.symm
        have hpos : 0 < l.length := by
          have h1 := hi9_pos HD.out HN.out hne
          rw [HT.out] at h1
          have := HE.out
          rw [this, digs_pos (by omega) h1]; simp
        have hB2 := HB.size
        clear HI hi1
        rcases Bool.eq_false_or_eq_true na with rfl | rfl
        · have HX2 : Hid (mkS ((l.map (· + 48) ++ [45]).reverse) = tS z) := by
            show _ = _
            unfold tS
            rw [HX.out, HE.out]
            simp
          have hLL : Hid (((l.map (· + 48)).length + 1) * 1 ≤ 140737488355328) := by show _ ≤ _; rw [List.length_map]; omega
          have hl0 : (l.map (· + 48) ++ [45]).length ≤ 9000000001 := by simp; omega
          have hl1 : 0 < (l.map (· + 48) ++ [45]).length := by simp; 
          obtain ⟨L, hLe⟩ : ∃ L, L = l.map (· + 48) ++ [45] := ⟨_, rfl⟩
          rw [← hLe] at HX2 hl0 hl1
          have HLe := Lib.hid hLe
          clear hLe
          go_wp2_with (at_builtin; refine app_I W.heap.size rfl _ _ 80 5 .u8 1 rfl Try.underlying80 info_u8 (by decide) _ (l.map (· + 48)) _ HO rfl rfl HB hB2 hLL.out ?_; intro v1 w1 HO1 HB1 hB1; rw [← HLe.out] at HO1; obtain ⟨A1, c1, rfl, hs⟩ := HO1.form; have HSL := Lib.hid hs; have hc3 := hs.2.1; have hc4 := hs.2.2; clear hs HO HB)
          clear HO1 hLL
          obtain ⟨wb, rfl⟩ : ∃ wb : World, wb = w1 := ⟨_, rfl⟩
          have HR0 : Hid ((L.drop L.length).reverse = []) := by show _ = _; simp
          go_loopw [7, 8] (fun out iv wq => ∃ (k : Nat) (l2 : List Int), iv = .int .i64 ((k : Int) - 1) ∧ OwI wq wb.heap.size 5 .u8 out l2 ∧ Below wb.heap.size wb wq ∧ k ≤ L.length ∧ Hid (l2 = (L.drop k).reverse)) (fun _ iv _ => (intOf iv + 1).toNat)
          case atStart => exact ⟨L.length, [], rfl, OwI.nil _ _ _ _, Below.refl _ _, Nat.le_refl _, HR0.out.symm⟩
          case round =>
            obtain ⟨k, l2, rfl, HO2, HB2, hk, HI2⟩ := hrel
            have hB3 := HB2.size
            rcases Nat.eq_zero_or_pos k with rfl | hk0
            · have HF : Hid (mkS l2 = tS z) := by show _ = _; rw [HI2.out, List.drop_zero]; exact HX2.out
              have hlen2 : 0 < l2.length := by rw [HI2.out]; simp; omega
              obtain ⟨A2, c2, rfl, hs2⟩ := HO2.form
              have hcv := conv_str A2 c2 l2 wr hs2 hlen2
              clear hs2 HO2
              go_wp2
              go_ret
              exact ⟨by rw [← HF.out]; rfl, below_step (below_step HBW HB1) HB2⟩
            · obtain ⟨m, rfl⟩ : ∃ m, k = m + 1 := ⟨k - 1, by omega⟩
              obtain ⟨b2, o2, rfl, hl2, hc2⟩ := (HSL.out.below HB2).cell (j := m) (by omega)
              have hLL2 : Hid ((l2.length + 1) * 1 ≤ 140737488355328) := by show _ ≤ _; rw [HI2.out]; simp; omega
              have HS2 : Hid (l2 ++ [gd L m] = (L.drop m).reverse) := by
                show _ = _
                rw [HI2.out, List.drop_eq_getElem_cons (show m < L.length by omega), List.reverse_cons, gd_lt (by omega)]
              go_wp2_with (at_builtin; refine app_I wb.heap.size rfl _ _ 80 5 .u8 1 rfl Try.underlying80 info_u8 (by decide) _ l2 _ HO2 rfl rfl HB2 hB3 hLL2.out ?_; intro v3 w3 HO3 HB3 hB4)
              go_roundw
              case rel => exact ⟨m, _, by go_num, HO3, HB3, by omega, HS2⟩
              case measure => simp [intOf]
        
        · have HX2 : Hid (mkS ((l.map (· + 48)).reverse) = tS z) := by
            show _ = _
            unfold tS
            rw [HX.out, HE.out]
            simp
          have hLL : Hid (((l.map (· + 48)).length + 1) * 1 ≤ 140737488355328) := by show _ ≤ _; rw [List.length_map]; omega
          have hl0 : (l.map (· + 48)).length ≤ 9000000001 := by simp; omega
          have hl1 : 0 < (l.map (· + 48)).length := by simp; omega
          obtain ⟨L, hLe⟩ : ∃ L, L = l.map (· + 48) := ⟨_, rfl⟩
          rw [← hLe] at HX2 hl0 hl1
          have HLe := Lib.hid hLe
          clear hLe
          have HO1 := HO; have HB1 := HB; have hB1 := hB2; rw [← HLe.out] at HO1; clear HO HB; obtain ⟨A1, c1, rfl, hs⟩ := HO1.form; have HSL := Lib.hid hs; have hc3 := hs.2.1; have hc4 := hs.2.2; clear hs; go_wp2
          clear HO1 hLL
          obtain ⟨wb, rfl⟩ : ∃ wb : World, wb = wr := ⟨_, rfl⟩
          have HR0 : Hid ((L.drop L.length).reverse = []) := by show _ = _; simp
          go_loopw [7, 8] (fun out iv wq => ∃ (k : Nat) (l2 : List Int), iv = .int .i64 ((k : Int) - 1) ∧ OwI wq wb.heap.size 5 .u8 out l2 ∧ Below wb.heap.size wb wq ∧ k ≤ L.length ∧ Hid (l2 = (L.drop k).reverse)) (fun _ iv _ => (intOf iv + 1).toNat)
          case atStart => exact ⟨L.length, [], rfl, OwI.nil _ _ _ _, Below.refl _ _, Nat.le_refl _, HR0.out.symm⟩
          case round =>
            obtain ⟨k, l2, rfl, HO2, HB2, hk, HI2⟩ := hrel
            have hB3 := HB2.size
            rcases Nat.eq_zero_or_pos k with rfl | hk0
            · have HF : Hid (mkS l2 = tS z) := by show _ = _; rw [HI2.out, List.drop_zero]; exact HX2.out
              have hlen2 : 0 < l2.length := by rw [HI2.out]; simp; omega
              obtain ⟨A2, c2, rfl, hs2⟩ := HO2.form
              have hcv := conv_str A2 c2 l2 wr hs2 hlen2
              clear hs2 HO2
              go_wp2
              go_ret
              exact ⟨by rw [← HF.out]; rfl, below_step (below_step HBW HB1) HB2⟩
            · obtain ⟨m, rfl⟩ : ∃ m, k = m + 1 := ⟨k - 1, by omega⟩
              obtain ⟨b2, o2, rfl, hl2, hc2⟩ := (HSL.out.below HB2).cell (j := m) (by omega)
              have hLL2 : Hid ((l2.length + 1) * 1 ≤ 140737488355328) := by show _ ≤ _; rw [HI2.out]; simp; omega
              have HS2 : Hid (l2 ++ [gd L m] = (L.drop m).reverse) := by
                show _ = _
                rw [HI2.out, List.drop_eq_getElem_cons (show m < L.length by omega), List.reverse_cons, gd_lt (by omega)]
              go_wp2_with (at_builtin; refine app_I wb.heap.size rfl _ _ 80 5 .u8 1 rfl Try.underlying80 info_u8 (by decide) _ l2 _ HO2 rfl rfl HB2 hB3 hLL2.out ?_; intro v3 w3 HO3 HB3 hB4)
              go_roundw
              case rel => exact ⟨m, _, by go_num, HO3, HB3, by omega, HS2⟩
              case measure => simp [intOf]
end Go.Proofs.Ytiaeeclmlchpoaa

set_option linter.unusedVariables false
set_option linter.unusedSimpArgs false
namespace Go.Proofs.Ytiaeeclmlchpoaa
open Go.RowKit

/-- Block b holds a number: these two values, which read as z. -/
structure VX (B : Nat) (k : IntKind) (W : World) (b : Nat) (nv : Bool) (A : Option Addr) (n c : Nat) (z : Int) : Prop where
  c0 : W.cell? ⟨b, 0, none⟩ = some (.bool nv)
  c1 : W.cell? ⟨b, 1, none⟩ = some (.slice A n c)
  f0 : W.frozen? ⟨b, 0, none⟩ = false
  f1 : W.frozen? ⟨b, 1, none⟩ = false
  lt : b < W.heap.size
  iz : Hid (IsZ B k W (.agg #[.bool nv, .slice A n c]) z)
section
variable {B : Nat} {k : IntKind} {W w1 : World} {b : Nat} {nv : Bool} {A : Option Addr} {n c : Nat} {z : Int}
theorem VX.keep (h : VX B k W b nv A n c z) (hb : Below W.heap.size W w1) : VX B k w1 b nv A n c z :=
  ⟨kcell hb h.lt h.c0, kcell hb h.lt h.c1, kfroz hb h.lt h.f0, kfroz hb h.lt h.f1, Nat.lt_of_lt_of_le h.lt hb.size, h.iz.out.below hb⟩
theorem VX.drew (h : VX B k W b nv A n c z) : VX B k W.drew b nv A n c z := h.keep (below_drew (Below.refl _ _))
theorem VX.res (h : VX B k W b nv A n c z) : Res2 W b := ⟨⟨nv, h.c0⟩, ⟨A, n, c, h.c1⟩, h.f0, h.f1, h.lt⟩
theorem VX.new (W : World) (t : TypeId) (h : IsZ B k W (.agg #[.bool nv, .slice A n c]) z) : VX B k (W.alloc (.cells #[.bool nv, .slice A n c] t)) W.heap.size nv A n c z :=
  ⟨by simp [go_sem], by simp [go_sem], by simp [go_sem], by simp [go_sem], by simp, h.below (below_alloc (Below.refl _ _) _)⟩
/-- A store into another number's cells. -/
theorem VX.far {b' : Nat} {x y : Value} (h : VX B k W b nv A n c z) (hr : Res2 W b') (hne : b' ≠ b) : VX B k ((W.setCell ⟨b', 0, none⟩ x).setCell ⟨b', 1, none⟩ y) b nv A n c z := by
  have e : ∀ (o : Nat) (w : World) (u : Value) (o' : Nat), (w.setCell ⟨b', o', none⟩ u).cell? ⟨b, o, none⟩ = w.cell? ⟨b, o, none⟩ := fun o w u o' => World.cell?_setCell_other _ _ _ _ (by simp [hne])
  refine ⟨by rw [e, e]; exact h.c0, by rw [e, e]; exact h.c1, by rw [World.frozen?_setCell, World.frozen?_setCell]; exact h.f0, by rw [World.frozen?_setCell, World.frozen?_setCell]; exact h.f1, by simpa [World.setCell] using h.lt, h.iz.out.res2 hr x y⟩
/-- The store of a number. -/
theorem VX.store {nv' : Bool} {A' : Option Addr} {n' c' : Nat} {z' : Int} (h : Res2 W b) (hz : IsZ B k W (.agg #[.bool nv', .slice A' n' c']) z') :
    VX B k ((W.setCell ⟨b, 0, none⟩ (.bool nv')).setCell ⟨b, 1, none⟩ (.slice A' n' c')) b nv' A' n' c' z' := by
  have hz' := hz.res2 h (.bool nv') (.slice A' n' c')
  obtain ⟨⟨u, h1⟩, ⟨A1, n1, c1, h2⟩, h3, h4, h5⟩ := h
  refine ⟨?_, ?_, by rw [World.frozen?_setCell, World.frozen?_setCell]; exact h3, by rw [World.frozen?_setCell, World.frozen?_setCell]; exact h4, by simpa [World.setCell] using h5, hz'⟩
  · rw [World.cell?_setCell_other _ _ _ _ (by simp)]
    exact World.cell?_setCell_same' _ _ _ (by rw [h1]; rfl)
  · exact World.cell?_setCell_same' _ _ _ (by rw [World.cell?_setCell_other _ _ _ _ (by simp), h2]; rfl)
end
theorem Res2.far {W : World} {b b' : Nat} {x y : Value} (h : Res2 W b) (hne : b' ≠ b) : Res2 ((W.setCell ⟨b', 0, none⟩ x).setCell ⟨b', 1, none⟩ y) b := by
  obtain ⟨⟨u, h1⟩, ⟨A, n, c, h2⟩, h3, h4, h5⟩ := h
  have e : ∀ (o : Nat) (w : World) (u : Value) (o' : Nat), (w.setCell ⟨b', o', none⟩ u).cell? ⟨b, o, none⟩ = w.cell? ⟨b, o, none⟩ := fun o w u o' => World.cell?_setCell_other _ _ _ _ (by simp [hne])
  exact ⟨⟨u, by rw [e, e]; exact h1⟩, ⟨A, n, c, by rw [e, e]; exact h2⟩, by rw [World.frozen?_setCell, World.frozen?_setCell]; exact h3, by rw [World.frozen?_setCell, World.frozen?_setCell]; exact h4, by simpa [World.setCell] using h5⟩
theorem below_set2 {w W : World} (h : Below w.heap.size w W) {b : Nat} (hb : w.heap.size ≤ b) (x y : Value) : Below w.heap.size w ((W.setCell ⟨b, 0, none⟩ x).setCell ⟨b, 1, none⟩ y) := below_set (below_set h hb x) hb y
end Go.Proofs.Ytiaeeclmlchpoaa

set_option linter.unusedVariables false
set_option linter.unusedSimpArgs false
namespace Go.Proofs.Ytiaeeclmlchpoaa
open Go.RowKit

abbrev VN (W : World) (b : Nat) (nv : Bool) (A : Option Addr) (n c : Nat) (z : Int) : Prop := VX B9 .i64 W b nv A n c z
theorem startV (w : World) {na : Bool} {A : Option Addr} {n c : Nat} {z : Int} (t : TypeId) (W : World) (h : IsZ B9 .i64 w (.agg #[.bool na, .slice A n c]) z)
    (hW : (w.alloc (.cells #[.bool na, .slice A n c] t)).alloc (.cells #[.bool false, .slice none 0 0] t) = W) :
    VN W w.heap.size na A n c z ∧ Res2 W (w.heap.size + 1) ∧ W.heap.size = w.heap.size + 2 ∧ Below w.heap.size w W := by
  obtain ⟨hS, hR, hs, hB⟩ := startP w na (.slice A n c) t W hW
  refine ⟨⟨hS.1, hS.2, ?_, ?_, by omega, h.below hB⟩, hR, hs, hB⟩ <;> (subst hW; simp [go_sem])

def kinB (q c : Int) : Bool := decide (3 ≤ q ∧ q ≤ 999 ∧ q % 2 = 1 ∧ 1 ≤ c ∧ c ≤ 999999 ∧ c % 2 = 1)
theorem Kin8_c (q c : Int) (w : World) :
    Calls Try.prog 19 #[.int .i64 q, .int .i64 c] w fun e w' => e = .returned (.bool (kinB q c)) ∧ w = w' := by
  by_cases h1 : 3 ≤ q
  · by_cases h2 : q ≤ 999
    · by_cases h3 : q % 2 = 1
      · have h3b : (q % 2 == 1) = true := by simpa using h3
        by_cases h4 : 1 ≤ c
        · by_cases h5 : c ≤ 999999
          · have hr : kinB q c = (c % 2 == 1) := by unfold kinB; rw [Bool.eq_iff_iff]; simp [h1, h2, h3, h4, h5]
            rw [hr]
            clear hr h3
            go_enter Try.func19, Try.ntmps19
            go_wp2
            go_ret
            exact ⟨rfl, rfl⟩
          · have hr : kinB q c = false := by unfold kinB; simp [h5]
            rw [hr]
            clear hr h3
            go_enter Try.func19, Try.ntmps19
            go_wp2
            go_ret
            exact ⟨rfl, rfl⟩
        · have hr : kinB q c = false := by unfold kinB; simp [h4]
          rw [hr]
          clear hr h3
          go_enter Try.func19, Try.ntmps19
          go_wp2
          go_ret
          exact ⟨rfl, rfl⟩
      · have h3b : (q % 2 == 1) = false := by simpa using h3
        have hr : kinB q c = false := by unfold kinB; simp [h3]
        rw [hr]
        clear hr h3
        go_enter Try.func19, Try.ntmps19
        go_wp2
        go_ret
        exact ⟨rfl, rfl⟩
    · have hr : kinB q c = false := by unfold kinB; simp [h2]
      rw [hr]
      clear hr
      go_enter Try.func19, Try.ntmps19
      go_wp2
      go_ret
      exact ⟨rfl, rfl⟩
  · have hr : kinB q c = false := by unfold kinB; simp [h1]
    rw [hr]
    clear hr
    go_enter Try.func19, Try.ntmps19
    go_wp2
    go_ret
    exact ⟨rfl, rfl⟩

theorem len_le {B : Nat} (hB : 2 ≤ B) {z : Int} {k : Nat} (h : z.natAbs < B ^ k) : (dg B z).length ≤ k := digs_len_le hB h
theorem len_lt {B : Nat} (hB : 2 ≤ B) (z : Int) : z.natAbs < B ^ (dg B z).length := digs_len_lt hB _
theorem len_mul {B : Nat} (hB : 2 ≤ B) (x y : Int) : (dg B (x * y)).length ≤ (dg B x).length + (dg B y).length := by
  apply len_le hB
  rw [Int.natAbs_mul, Nat.pow_add]
  exact Nat.mul_lt_mul'' (len_lt hB x) (len_lt hB y)
theorem len_add {B : Nat} (hB : 2 ≤ B) (x y : Int) : (dg B (x + y)).length ≤ max (dg B x).length (dg B y).length + 1 := by
  apply len_le hB
  have h1 := len_lt hB x
  have h2 := len_lt hB y
  have h3 : B ^ (dg B x).length ≤ B ^ max (dg B x).length (dg B y).length := Nat.pow_le_pow_right (by omega) (by omega)
  have h4 : B ^ (dg B y).length ≤ B ^ max (dg B x).length (dg B y).length := Nat.pow_le_pow_right (by omega) (by omega)
  have h5 : B ^ max (dg B x).length (dg B y).length * 2 ≤ B ^ max (dg B x).length (dg B y).length * B := Nat.mul_le_mul_left _ hB
  rw [Nat.pow_succ]
  omega
theorem len_pow {B : Nat} (hB : 2 ≤ B) (x : Int) (k : Nat) : (dg B (x ^ k)).length ≤ (dg B x).length * k + 1 := by
  induction k with
  | zero => apply len_le hB; simp; omega
  | succ k ih =>
    rw [Int.pow_succ]
    have h1 := len_mul hB (x ^ k) x
    rw [Nat.mul_succ]
    omega
theorem len_int {z : Int} (h0 : -1000000000000000000 < z) (h1 : z < 1000000000000000000) : (dg B9 z).length ≤ 2 := by
  apply len_le B9two
  show _ < (1000000000000000000 : Nat)
  omega

set_option maxRecDepth 100000 in
set_option maxHeartbeats 1000000 in
theorem Sum_c (q c x : Int) (v : Value) (w : World) (h : IsN w v x) (hq : -1000000 < q ∧ q < 1000000) (hc : -1000000 < c ∧ c < 1000000) (sx : (dg B9 x).length ≤ 900000000) :
    Calls Try.prog 35 #[.int .i64 q, .int .i64 c, v] w fun e w' => ∃ v, e = .returned v ∧ IsN w' v (q * x + c) ∧ Below w.heap.size w w' := by
  obtain ⟨na, A, n, k, rfl, H⟩ := h.form
  clear h
  obtain ⟨hq0, hq1⟩ := hq
  obtain ⟨hc0, hc1⟩ := hc
  have lq : Hid ((dg B9 q).length ≤ 2) := len_int (by omega) (by omega)
  have lc : Hid ((dg B9 c).length ≤ 2) := len_int (by omega) (by omega)
  have lm : Hid ((dg B9 (q * x)).length ≤ 1000000000) := by have := len_mul B9two q x; have := lq.out; show _ ≤ _; omega
  go_enter Try.func35, Try.ntmps35
  go_wp2_with fail
  generalize hW : (w.alloc (Obj.cells #[Value.bool na, Value.slice A n k] 28)).alloc _ = W
  obtain ⟨VP, HR, hWs, HB⟩ := startV w _ W H.out hW
  clear hW
  go_region_held3 (fun w' => w'.cell? ⟨w.heap.size, 0, none⟩ = some (.bool na) ∧ w'.cell? ⟨w.heap.size, 1, none⟩ = some (.slice A n k))
    (first | exact ⟨VP.c0, VP.c1⟩ | exact ⟨V1.c0, V1.c1⟩ | exact ⟨V2.c0, V2.c1⟩ | exact ⟨V3.c0, V3.c1⟩ | exact ⟨V4.c0, V4.c1⟩ | exact ⟨(V4.far R4h.out (by omega)).c0, (V4.far R4h.out (by omega)).c1⟩)
    (first
      | (go_at_call 28; (with_reducible refine (Of_c q _ (by omega) (by omega)).mono ?_); rintro e w1 ⟨v, rfl, hv, hb1⟩; obtain ⟨n1, A1, m1, k1, rfl, H1⟩ := hv.form; clear hv; have V1 := VP.drew.keep hb1; have R1 := HR.drew.keep hb1)
      | (go_at_call 38; (with_reducible refine (Mul_c q x _ _ _ H1.out V1.iz.out (by have := lq.out; unfold Hid at this; omega) (by omega)).mono ?_); rintro e w2 ⟨v, rfl, hv, hb2⟩; obtain ⟨n2, A2, m2, k2, rfl, H2⟩ := hv.form; clear hv; have V2 := V1.keep hb2; have R2 := R1.keep hb2)
      | (go_at_call 28; (with_reducible refine (Of_c c _ (by omega) (by omega)).mono ?_); rintro e w3 ⟨v, rfl, hv, hb3⟩; obtain ⟨n3, A3, m3, k3, rfl, H3⟩ := hv.form; clear hv; have V3 := V2.keep hb3; have R3 := R2.keep hb3)
      | (go_at_call 27; (with_reducible refine (Add_c (q * x) c _ _ _ (by exact H2.out.below (by repeat (with_reducible first | assumption | exact Below.refl _ _ | apply below_drew | apply below_drewN | apply below_alloc | refine below_step ?_ (by assumption)))) H3.out (by have := lm.out; omega) (by have := lc.out; omega)).mono ?_); rintro e w4 ⟨v, rfl, hv, hb4⟩; obtain ⟨n4, A4, m4, k4, rfl, H4⟩ := hv.form; clear hv; have V4 := V3.keep hb4; have R4 := R3.keep hb4; have R4h := Lib.hid R4; obtain ⟨⟨u1, r1⟩, ⟨u2, u3, u4, r2⟩, r3, r4, r5⟩ := R4))
  go_wp2
  refine bodyPost_ret (v := .agg #[.bool n4, .slice A4 m4 k4]) (by simp [results, Try.results35, go_sem, r1, r2, r5]) rfl ⟨_, rfl, H4.out.res2 R4h.out _ _, below_set2 (below_step (below_step (below_step (below_step (below_drew HB) hb1) hb2) hb3) hb4) (by omega) _ _⟩
end Go.Proofs.Ytiaeeclmlchpoaa

set_option linter.unusedVariables false
set_option linter.unusedSimpArgs false
namespace Go.Proofs.Ytiaeeclmlchpoaa
open Go.RowKit

theorem pow_odd {x : Int} {p q m n : Nat} (h : q + p * m = n) (hm : m % 2 = 1) : x ^ q * x ^ p = x ^ (q + p) ∧ (q + p) + (p + p) * (m / 2) = n := by
  refine ⟨(Int.pow_add x q p).symm, ?_⟩
  obtain ⟨t, rfl⟩ : ∃ t, m = 2 * t + 1 := ⟨m / 2, by omega⟩
  rw [show (2 * t + 1) / 2 = t by omega, ← h]; grind
theorem pow_even {p q m n : Nat} (h : q + p * m = n) (hm : ¬ m % 2 = 1) : q + (p + p) * (m / 2) = n := by
  obtain ⟨t, rfl⟩ : ∃ t, m = 2 * t := ⟨m / 2, by omega⟩
  rw [show 2 * t / 2 = t by omega, ← h]; grind
theorem pow_le {p q m n : Nat} (h : q + p * m = n) (hm : 0 < m) : p ≤ n ∧ q ≤ n := by
  have : p * 1 ≤ p * m := Nat.mul_le_mul_left _ hm
  omega
theorem len_pow_le {L n p lim : Nat} {x : Int} (hL : (dg B9 x).length = L) (h : L * (2 * n + 1) + 1 ≤ lim) (hp : p ≤ 2 * n + 1) : (dg B9 (x ^ p)).length ≤ lim := by
  have h1 := len_pow B9two x p
  rw [hL] at h1
  have := Nat.mul_le_mul_left L hp
  omega

set_option maxRecDepth 100000 in
set_option maxHeartbeats 2000000 in
theorem Power_c (x : Int) (n : Nat) (v : Value) (w : World) (h : IsN w v x) (hn : n ≤ 1000000000) (sx : (dg B9 x).length * (2 * n + 1) + 1 ≤ 1000000000) :
    Calls Try.prog 37 #[v, .int .i64 n] w fun e w' => ∃ v, e = .returned v ∧ IsN w' v (x ^ n) ∧ Below w.heap.size w w' := by
  obtain ⟨na, A, nn, k, rfl, H⟩ := h.form
  clear h
  have HS : Hid (∀ p, p ≤ 2 * n + 1 → (dg B9 (x ^ p)).length ≤ 1000000000) := fun p hp => len_pow_le rfl sx hp
  clear sx
  go_enter Try.func37, Try.ntmps37
  go_wp2_with fail
  generalize hW : (w.alloc (Obj.cells #[Value.bool na, Value.slice A nn k] 28)).alloc _ = W
  obtain ⟨VA, HR, hWs, HB⟩ := startV w _ W H.out hW
  clear hW H
  go_wp2_with (go_at_call 28; (with_reducible refine (Of_c 1 _ (by omega) (by omega)).mono ?_); rintro e w1 ⟨v, rfl, hv, hb1⟩; obtain ⟨n1, A1, m1, k1, rfl, H1⟩ := hv.form; clear hv; replace VA := VA.keep hb1; replace HR := HR.keep hb1; replace HB := below_step HB hb1)
  generalize hW2 : w1.alloc (Obj.cells #[Value.bool n1, Value.slice A1 m1 k1] 28) = W2
  have VB : VN W2 w1.heap.size n1 A1 m1 k1 1 := by subst hW2; exact VX.new w1 _ H1.out
  have hk2 : Below w1.heap.size w1 W2 := by subst hW2; exact below_alloc (Below.refl _ _) _
  replace VA := VA.keep hk2; replace HR := HR.keep hk2
  replace HB := below_step HB hk2
  have hn0 : w.heap.size + 1 < w1.heap.size := by have := hb1.size; omega
  clear hW2 hk2 H1 hWs
  generalize w1.heap.size = bo at *
  go_loopw [1] (fun mv wr => ∃ (m p q : Nat) (na : Bool) (A : Option Addr) (a b : Nat) (nb : Bool) (A' : Option Addr) (a' b' : Nat), mv = .int .i64 m ∧ VN wr w.heap.size na A a b (x ^ p) ∧ VN wr bo nb A' a' b' (x ^ q) ∧ Res2 wr (w.heap.size + 1) ∧ Below w.heap.size w wr ∧ m ≤ n ∧ p ≤ 2 * n + 1 ∧ Hid (q + p * m = n)) (fun mv _ => (intOf mv).toNat)
  case atStart => exact ⟨n, 1, 0, na, A, nn, k, n1, A1, m1, k1, rfl, by rw [Int.pow_succ, Int.pow_zero, Int.one_mul]; exact VA, by rw [Int.pow_zero]; exact VB, HR, HB, Nat.le_refl _, by omega, by show _ = _; omega⟩
  case round =>
    clear VA VB HR HB
    obtain ⟨m, p, q, na, A, a, b, nb, A', a', b', rfl, VA, VB, HR, HB, hm, hp, HI⟩ := hrel
    have va0 := VA.c0; have va1 := VA.c1; have vaf := VA.f0; have vag := VA.f1; have val := VA.lt
    have vb0 := VB.c0; have vb1 := VB.c1; have vbf := VB.f0; have vbg := VB.f1; have vbl := VB.lt
    have hne1 : bo ≠ w.heap.size := by omega
    have hne2 : w.heap.size ≠ bo := by omega
    have hne3 : bo ≠ w.heap.size + 1 := by omega
    rcases Nat.eq_zero_or_pos m with rfl | hm0
    · have HE : Hid (x ^ q = x ^ n) := by have := HI.out; rw [Nat.mul_zero, Nat.add_zero] at this; show _ = _; rw [this]
      have HRh := Lib.hid HR; obtain ⟨⟨u1, r1⟩, ⟨u2, u3, u4, r2⟩, r3, r4, r5⟩ := HR
      go_wp2
      refine bodyPost_ret (v := .agg #[.bool nb, .slice A' a' b']) (by simp [results, Try.results37, go_sem, r1, r2, r5]) rfl ⟨_, rfl, ?_, below_set2 HB (by omega) _ _⟩
      rw [← HE.out]
      exact VB.iz.out.res2 HRh.out _ _
    · obtain ⟨hpn, hqn⟩ := pow_le HI.out hm0
      have LP := Lib.hid (HS.out p hp)
      have LQ := Lib.hid (HS.out q (by omega))
      by_cases hodd : m % 2 = 1
      · have hob : ((m : Int) % 2 == 1) = true := by simp; omega
        obtain ⟨o1, o2⟩ := pow_odd (x := x) HI.out hodd
        have O1 := Lib.hid o1
        have O2 := Lib.hid o2
        have E2 : Hid (x ^ p * x ^ p = x ^ (p + p)) := (Int.pow_add x p p).symm
        clear o1 o2 hodd HI
        go_wp2_with (first
          | (go_at_call 38; (with_reducible refine (Mul_c (x ^ q) (x ^ p) _ _ _ VB.iz.out VA.iz.out LQ.out LP.out).mono ?_); rintro e w3 ⟨v, rfl, hv, hb3⟩; obtain ⟨n3, A3, m3, k3, rfl, H3⟩ := hv.form; clear hv; replace VA := VA.keep hb3; replace VB := VB.keep hb3; replace HR := HR.keep hb3; replace HB := below_step HB hb3; clear va0 va1 vaf vag val vb0 vb1 vbf vbg vbl; have va0 := VA.c0; have va1 := VA.c1; have vaf := VA.f0; have vag := VA.f1; have val := VA.lt; have vb0 := VB.c0; have vb1 := VB.c1; have vbf := VB.f0; have vbg := VB.f1; have vbl := VB.lt; have RB := VB.res; have VA2 := VA.far (x := .bool n3) (y := .slice A3 m3 k3) RB hne1; have VB2 := VX.store RB H3.out; have HR2 := HR.far (x := .bool n3) (y := .slice A3 m3 k3) hne3)
          | (go_at_call 38; (with_reducible refine (Mul_c (x ^ p) (x ^ p) _ _ _ VA2.iz.out VA2.iz.out LP.out LP.out).mono ?_); rintro e w4 ⟨v, rfl, hv, hb4⟩; obtain ⟨n4, A4, m4, k4, rfl, H4⟩ := hv.form; clear hv; replace VA2 := VA2.keep hb4; replace VB2 := VB2.keep hb4; replace HR2 := HR2.keep hb4; clear va0 va1 vaf vag val vb0 vb1 vbf vbg vbl; have va0 := VA2.c0; have va1 := VA2.c1; have vaf := VA2.f0; have vag := VA2.f1; have val := VA2.lt; have vb0 := VB2.c0; have vb1 := VB2.c1; have vbf := VB2.f0; have vbg := VB2.f1; have vbl := VB2.lt; have RA := VA2.res))
        go_roundw
        case rel => exact ⟨m / 2, p + p, q + p, _, _, _, _, _, _, _, _, by simp, by rw [← E2.out]; exact VX.store RA H4.out, by rw [← O1.out]; exact VB2.far RA hne2, HR2.far (by omega), below_set2 (below_step (below_set2 HB (by omega) _ _) hb4) (by omega) _ _, by omega, by omega, O2.out⟩
        case measure => simp [intOf]; omega
      · have hob : ((m : Int) % 2 == 1) = false := by simp; omega
        have O2 := Lib.hid (pow_even HI.out hodd)
        have E2 : Hid (x ^ p * x ^ p = x ^ (p + p)) := (Int.pow_add x p p).symm
        clear hodd HI
        go_wp2_with (go_at_call 38; (with_reducible refine (Mul_c (x ^ p) (x ^ p) _ _ _ VA.iz.out VA.iz.out LP.out LP.out).mono ?_); rintro e w4 ⟨v, rfl, hv, hb4⟩; obtain ⟨n4, A4, m4, k4, rfl, H4⟩ := hv.form; clear hv; replace VA := VA.keep hb4; replace VB := VB.keep hb4; replace HR := HR.keep hb4; clear va0 va1 vaf vag val vb0 vb1 vbf vbg vbl; have va0 := VA.c0; have va1 := VA.c1; have vaf := VA.f0; have vag := VA.f1; have val := VA.lt; have vb0 := VB.c0; have vb1 := VB.c1; have vbf := VB.f0; have vbg := VB.f1; have vbl := VB.lt; have RA := VA.res)
        go_roundw
        case rel => exact ⟨m / 2, p + p, q, _, _, _, _, _, _, _, _, by simp, by rw [← E2.out]; exact VX.store RA H4.out, VB.far RA hne2, HR.far (by omega), below_set2 (below_step HB hb4) (by omega) _ _, by omega, by omega, O2.out⟩
        case measure => simp [intOf]; omega
end Go.Proofs.Ytiaeeclmlchpoaa

set_option linter.unusedVariables false
set_option linter.unusedSimpArgs false
namespace Go.Proofs.Ytiaeeclmlchpoaa
open Go.RowKit

/-- The quotient, from the top down to k. -/
def WoI (a l : List Int) (d : Int) (k : Nat) (r : Int) : Prop :=
  l.length = a.length ∧ Dg B64 l ∧ 0 ≤ r ∧ r < d ∧ V B64 (a.drop k) = d * V B64 (l.drop k) + r ∧ k ≤ a.length
theorem quo_lt {r x d : Int} (h0 : 0 ≤ r) (h1 : r < d) (h2 : W64 x) : W64 ((r * 18446744073709551616 + x) / d) := by
  obtain ⟨h3, h4⟩ := h2
  refine ⟨Int.ediv_nonneg (by omega) (by omega), Int.ediv_lt_of_lt_mul (by omega) ?_⟩
  have : r + 1 ≤ d := by omega
  have := Int.mul_le_mul_of_nonneg_left this (show (0 : Int) ≤ 18446744073709551616 by omega)
  omega
theorem WoI.step {a l : List Int} {d : Int} {k : Nat} {r : Int} (ha : Dg B64 a) (h : WoI a l d (k + 1) r) :
    WoI a (l.set k ((r * 18446744073709551616 + gd a k) / d)) d k ((r * 18446744073709551616 + gd a k) % d) := by
  obtain ⟨h1, h2, h3, h4, h5, h6⟩ := h
  have hq := quo_lt h3 h4 (gdW ha k)
  refine ⟨by simp [h1], h2.set _ hq.1 hq.2, Int.emod_nonneg _ (by omega), Int.emod_lt_of_pos _ (by omega), ?_, by omega⟩
  rw [Vdrop a k, Vset_drop _ (by omega), B64c]
  exact part_ring h5 (Int.mul_ediv_add_emod _ _)
theorem WoI.first (a : List Int) (d : Int) (hd : 1 ≤ d) : WoI a (List.replicate a.length 0) d a.length 0 :=
  ⟨by simp, Dg.zeros (by decide) _, by omega, by omega, by rw [List.drop_of_length_le (Nat.le_refl _), List.drop_of_length_le (by simp)]; simp [V], Nat.le_refl _⟩
theorem WoI.last {a l : List Int} {d : Int} {r : Int} (h : WoI a l d 0 r) : V B64 l = V B64 a / d ∧ r = V B64 a % d := by
  obtain ⟨h1, h2, h3, h4, h5, h6⟩ := h
  simp only [List.drop_zero] at h5
  have := (Int.ediv_emod_unique (a := V B64 a) (b := d) (r := r) (q := V B64 l) (by omega)).2 ⟨by rw [h5]; omega, h3, h4⟩
  exact ⟨this.1.symm, this.2.symm⟩

set_option maxRecDepth 100000 in
set_option maxHeartbeats 2000000 in
theorem Over_c (x d : Nat) (v : Value) (w : World) (h1 : IsW w v x) (d1 : 1 ≤ d) (d2 : d < 2147483648) (sx : (digs B64 x).length ≤ 1000000000) :
    Calls Try.prog 52 #[v, .int .u64 d] w fun e w' => ∃ g m c, e = .returned (.tuple #[.slice (some ⟨g, 0, none⟩) m c, .int .u64 ((x % d : Nat) : Int)]) ∧ IsW w' (.slice (some ⟨g, 0, none⟩) m c) (x / d) ∧ Below w.heap.size w w' ∧ w.heap.size ≤ g := by
  obtain ⟨A1, c1, rfl, hs1⟩ := h1
  have D1 := Lib.hid (digs_dg B64two x)
  have HV := Lib.hid (digs_V B64two x)
  generalize digs B64 x = a at *
  have L1 := Lib.hid hs1
  clear hs1
  have hmk := fun W => run_make_row' (P := Try.prog) 72 85 (.int .u64 0) 8 Try.underlying72 info_u64 rfl .i64 .i64 a.length (by omega) (by omega) W
  go_enter Try.func52, Try.ntmps52
  go_wp2
  clear hmk
  have HG0 := Lib.hid (BlkI.new w 85 .u64 a.length)
  have HB0 := Lib.hid (below_alloc (Below.refl w.heap.size w) (Obj.cells (madeCells #[Value.int IntKind.u64 0] a.length) 85))
  go_loopw [7, 8] (fun cv iv wr => ∃ (i : Nat) (r : Int) (l : List Int), iv = .int .i64 ((i : Int) - 1) ∧ cv = .int .u64 r ∧ Hid (BlkI wr w.heap.size 85 .u64 l) ∧ Below w.heap.size w wr ∧ Hid (WoI a l d i r)) (fun _ iv _ => (intOf iv + 1).toNat)
  case atStart => exact ⟨a.length, 0, _, rfl, rfl, HG0, HB0.out, WoI.first a d (by omega)⟩
  case round =>
    obtain ⟨i, r, l, rfl, rfl, HG, HB, HI⟩ := hrel
    clear HG0 HB0
    rcases Nat.eq_zero_or_pos i with rfl | hi0
    · obtain ⟨i1, i2, i3, i4, i5, i6⟩ := HI.out
      have I2 := Lib.hid i2
      have HE := Lib.hid HI.out.last
      have HL := Lib.hid (HG.out.slI (by omega))
      have hT := wtrim_f _ _ l _ HL.out I2.out
      rw [i1] at hT
      have HT := Lib.hid hT
      clear hT HI i1 i2 i5
      go_wp2_with fail
      (with_reducible refine HT.out.mono ?_)
      rintro e w' ⟨n, rfl, hv, rfl⟩
      obtain ⟨e1, e2⟩ := HE.out
      rw [e1, HV.out, ← Int.natCast_ediv] at hv
      rw [HV.out, ← Int.natCast_emod] at e2
      subst e2
      go_wp2
      go_ret2
      exact ⟨_, _, _, rfl, hv, HB, Nat.le_refl _⟩
    · obtain ⟨i, rfl⟩ : ∃ j, i = j + 1 := ⟨i - 1, by omega⟩
      rw [show ((i + 1 : Nat) : Int) - 1 = (i : Int) by omega]
      obtain ⟨i1, i2, i3, i4, i5, i6⟩ := HI.out
      have HST := Lib.hid (HI.out.step D1.out)
      obtain ⟨ba, oa, rfl, hla, hca⟩ := (L1.out.below HB).cell (j := i) (by omega)
      have hx := gdW D1.out i
      have I1 := Lib.hid i1
      clear i5 i2 HI i1
      generalize gd a i = y at *
      have hD := fun W => Div64_c r y d i3 i4 (by omega) hx W
      obtain ⟨q, hq⟩ : ∃ q, (r * 18446744073709551616 + y) / d = q := ⟨_, rfl⟩
      obtain ⟨s, hs⟩ : ∃ q, (r * 18446744073709551616 + y) % d = q := ⟨_, rfl⟩
      rw [hq, hs] at hD HST
      clear hq hs hx
      go_wp2_with (go_at_call 75; (with_reducible refine (hD _).mono ?_); rintro e w' ⟨rfl, hb⟩; have HG1 := Lib.hid (HG.out.below hb); have HB1 := HB.trans (hb.mono HB.size); have q1 := HG1.out.cell (j := i) (by have := I1.out; omega); have q2 := HG1.out.frozen i; clear hb)
      go_roundw
      case rel => exact ⟨i, s, _, by go_num, rfl, HG1.out.set _ _, HB1.setCell (p := ⟨_, _, none⟩) (Nat.le_refl _) _, HST.out⟩
      case measure => simp [intOf]

theorem bl_parts {n : Nat} (hn : 0 < n) : ∃ t : Nat, gd (digs B64 n) ((digs B64 n).length - 1) = t ∧ 0 < t ∧ t < 18446744073709551616 ∧ bl n = 64 * ((digs B64 n).length - 1) + bl t ∧ 0 < (digs B64 n).length := by
  have hne : digs B64 n ≠ [] := fun e => by have := digs_nil B64two e; omega
  have hl0 := List.length_pos_iff.2 hne
  obtain ⟨m, d, hmd⟩ : ∃ m d, digs B64 n = m ++ [d] := ⟨(digs B64 n).dropLast, (digs B64 n).getLast hne, (List.dropLast_concat_getLast hne).symm⟩
  have hd := digs_dg B64two n
  have hnm := digs_nm B64two n
  have hv := digs_V B64two n
  rw [hmd] at hd hnm hv hl0 ⊢
  have h1 : 0 ≤ d ∧ d < (B64 : Int) := hd d (by simp)
  rw [B64c] at h1
  have h2 : d ≠ 0 := by intro e; subst e; simp [Nm] at hnm
  obtain ⟨t, rfl⟩ : ∃ t : Nat, d = t := ⟨d.toNat, by omega⟩
  refine ⟨t, by simp [gd], by omega, by omega, ?_, hl0⟩
  rw [V_snoc] at hv
  have h3 := V_nonneg hd.left
  have h4 := V_lt hd.left
  have hlen : (m ++ [(t : Int)]).length - 1 = m.length := by simp
  rw [hlen]
  have ht := bl_ge (show 0 < t by omega)
  have ht2 := bl_lt t
  have e1 : (B64 : Nat) ^ m.length = 2 ^ (64 * m.length) := by rw [Nat.pow_mul]; rfl
  obtain ⟨k, hk⟩ : ∃ k, bl t = k + 1 := ⟨bl t - 1, by rw [bl_pos (by omega)]; omega⟩
  rw [hk] at ht ht2 ⊢
  obtain ⟨q, hq⟩ : ∃ q : Nat, V B64 m = q := ⟨(V B64 m).toNat, by omega⟩
  rw [hq] at hv h4
  rw [← Int.natCast_pow] at hv h4
  have hv' : q + B64 ^ m.length * t = n := by
    have : ((q + B64 ^ m.length * t : Nat) : Int) = n := by rw [Int.natCast_add, Int.natCast_mul]; exact hv
    omega
  have h4' : q < B64 ^ m.length := by omega
  rw [e1] at hv' h4'
  unfold bl
  refine (digs_len_eq (B := 2) (k := 64 * m.length + k) (by omega) ?_ ?_).trans (by omega)
  · rw [Nat.pow_add, ← hv']
    have := Nat.mul_le_mul_left (2 ^ (64 * m.length)) ht
    simp only [Nat.add_sub_cancel] at this
    omega
  · rw [← hv', show 64 * m.length + k + 1 = 64 * m.length + (k + 1) by omega, Nat.pow_add 2 (64 * m.length) (k + 1)]
    have := Nat.mul_le_mul_left (2 ^ (64 * m.length)) (show t + 1 ≤ 2 ^ (k + 1) by omega)
    rw [Nat.mul_add] at this
    omega
set_option maxRecDepth 100000 in
set_option maxHeartbeats 1000000 in
theorem Bits_c (x : Nat) (v : Value) (w : World) (h1 : IsW w v x) (sx : (digs B64 x).length ≤ 1000000000) :
    Calls Try.prog 72 #[v] w fun e w' => e = .returned (.int .i64 (bl x)) ∧ w' = w := by
  obtain ⟨A1, c1, rfl, hs1⟩ := h1
  rcases Nat.eq_zero_or_pos x with rfl | hx
  · rw [digs_zero] at hs1 ⊢
    go_enter Try.func72, Try.ntmps72
    go_wp2
    go_ret
    exact ⟨by rw [bl_zero]; rfl, rfl⟩
  · obtain ⟨t, ht1, ht2, ht3, ht4, hl0⟩ := bl_parts hx
    obtain ⟨ba, oa, rfl, hla, hca⟩ := hs1.cell (j := (digs B64 x).length - 1) (by omega)
    rw [ht1] at hca
    have hbt : bl t ≤ 64 := bl_le (by omega)
    have HBL := Lib.hid ht4
    clear ht4 ht1
    generalize digs B64 x = a at *
    obtain ⟨k, hk⟩ : ∃ k, a.length = k + 1 := ⟨a.length - 1, by omega⟩
    rw [hk] at hca sx HBL ⊢
    clear hs1
    clear hk hl0
    simp only [Nat.add_sub_cancel] at hca HBL
    have hL := fun W => Len64_n t W (And.intro (by omega) (by omega))
    rw [Int.toNat_natCast] at hL
    generalize bl t = b at *
    go_enter Try.func72, Try.ntmps72
    go_wp2_with (go_at_call 83; (with_reducible refine (hL _).mono ?_); rintro e w' ⟨rfl, hw⟩; rw [hw]; clear hw w')
    go_ret
    refine ⟨?_, rfl⟩
    rw [HBL.out]
    congr 2
end Go.Proofs.Ytiaeeclmlchpoaa

set_option linter.unusedVariables false
set_option linter.unusedSimpArgs false
namespace Go.Proofs.Ytiaeeclmlchpoaa
open Go.RowKit

theorem or_low (a b : Int) (s : Nat) (hs : s ≤ 64) (ha : 0 ≤ a) (h1 : a * 2 ^ s < 18446744073709551616) (hb : 0 ≤ b) (hb1 : b < 2 ^ s) : bits .or .u64 b (a * 2 ^ s) = b + a * 2 ^ s := by
  obtain ⟨a, rfl⟩ := Int.eq_ofNat_of_zero_le ha
  obtain ⟨b, rfl⟩ := Int.eq_ofNat_of_zero_le hb
  have e2 : ((2 ^ s : Nat) : Int) = 2 ^ s := by rw [Int.natCast_pow]; rfl
  have hb2 : b < 2 ^ s := by rw [← e2] at hb1; omega
  have e1 : (a : Int) * 2 ^ s = ((a * 2 ^ s : Nat) : Int) := by rw [Int.natCast_mul, e2]
  rw [e1] at h1 ⊢
  have h2 : a * 2 ^ s < 18446744073709551616 := by omega
  have hb3 : b < 18446744073709551616 := by
    have : (2 : Nat) ^ s ≤ 2 ^ 64 := Nat.pow_le_pow_right (by omega) hs
    omega
  rw [bits_or_u64_nat _ _ hb3 h2]
  have : b ||| a * 2 ^ s = b + a * 2 ^ s := by
    rw [Nat.or_comm, Nat.mul_comm, ← Nat.two_pow_add_eq_or_of_lt hb2]; omega
  rw [this]; rfl
/-- A word shifted: what stays and what goes over. -/
theorem shl_parts {x o : Int} {r : Nat} (hr : r < 64) (hx : W64 x) (ho : 0 ≤ o) (ho1 : o < 2 ^ r) :
    ∃ m c, IntKind.u64.wrap (x * 2 ^ r) = m ∧ bits .or .u64 o m = o + m ∧ W64 (o + m) ∧ x / 2 ^ (63 - r) / 2 = c ∧ 0 ≤ c ∧ c < 2 ^ r ∧ x * 2 ^ r = c * 18446744073709551616 + m ∧ W64 c := by
  obtain ⟨l0, l1⟩ := hx
  obtain ⟨p, hp⟩ : ∃ p : Int, 2 ^ r = p := ⟨_, rfl⟩
  have hp0 : 0 < p := by rw [← hp]; exact Int.pow_pos (by omega)
  obtain ⟨t, ht⟩ : ∃ t : Int, 2 ^ (63 - r) * 2 = t := ⟨_, rfl⟩
  have ht0 : 0 < t := by rw [← ht]; exact Int.mul_pos (Int.pow_pos (by omega)) (by omega)
  have etp : t * p = 18446744073709551616 := by
    rw [← ht, ← hp, ← Int.pow_succ, ← Int.pow_add, show 63 - r + 1 + r = 64 by omega]; rfl
  have hd : x / 2 ^ (63 - r) / 2 = x / t := by rw [Int.ediv_ediv_of_nonneg (Int.pow_nonneg (by omega)), ht]
  have hlo : x / t < p := (Int.ediv_lt_iff_lt_mul ht0).2 (by rw [Int.mul_comm, etp]; exact l1)
  have hlo0 : 0 ≤ x / t := Int.ediv_nonneg l0 (by omega)
  have hlv : x * p = (x / t) * 18446744073709551616 + (x % t) * p := by
    have := Int.mul_ediv_add_emod x t
    rw [← etp]; grind
  have hmt := Int.emod_lt_of_pos x ht0
  have hmt0 := Int.emod_nonneg x (show t ≠ 0 by omega)
  have h5 : (x % t + 1) * p ≤ t * p := Int.mul_le_mul_of_nonneg_right (by omega) (by omega)
  rw [Int.add_mul, etp] at h5
  have h6 : 0 ≤ (x % t) * p := Int.mul_nonneg hmt0 (by omega)
  have hv : x * p % 18446744073709551616 = (x % t) * p := by omega
  have hpl : p ≤ 18446744073709551616 := by
    have : p * 1 ≤ p * t := Int.mul_le_mul_of_nonneg_left (by omega) (by omega)
    rw [Int.mul_comm p t, etp] at this; omega
  refine ⟨(x % t) * p, x / t, by rw [hp, IntKind.wrap_u64]; exact hv, ?_, ⟨by omega, by omega⟩, hd, hlo0, by rw [hp]; exact hlo, by rw [hp]; exact hlv, ⟨hlo0, by omega⟩⟩
  rw [← hp]
  exact or_low _ _ r (by omega) hmt0 (by rw [hp]; omega) ho ho1
/-- The shift, place by place. -/
def WuI (a l : List Int) (q r i : Nat) : Prop :=
  l.length = a.length + q + 1 ∧ Dg B64 l ∧ V B64 l = (B64 : Int) ^ q * 2 ^ r * V B64 (a.take i) ∧ i ≤ a.length ∧ (∀ j, i + q + 1 ≤ j → gd l j = 0) ∧ gd l (i + q) < 2 ^ r
theorem up_ring {p o m c B x P2 v : Int} (h : x * P2 = c * B + m) : v + p * (o + m - o) + p * B * c = v + p * (x * P2) := by grind
theorem WuI.step {a l : List Int} {q r i : Nat} {m c : Int} (h : WuI a l q r i) (hi : i < a.length) (hs : gd a i * 2 ^ r = c * 18446744073709551616 + m) (hm : W64 (gd l (i + q) + m)) (hc : W64 c) (hc1 : c < 2 ^ r) :
    WuI a ((l.set (i + q) (gd l (i + q) + m)).set (i + q + 1) c) q r (i + 1) := by
  obtain ⟨h1, h2, h3, h4, h5, h6⟩ := h
  refine ⟨by simp [h1], (h2.set _ hm.1 hm.2).set _ hc.1 hc.2, ?_, by omega, fun j hj => ?_, ?_⟩
  · rw [Vset _ _ _ (by simp; omega), Vset _ _ _ (by omega), gd_set_ne _ (by omega), h5 (i + q + 1) (by omega), Int.sub_zero, Vtake, h3, Int.pow_succ, B64c]
    rw [up_ring hs, Int.pow_add]
    grind
  · rw [gd_set_ne _ (by omega), gd_set_ne _ (by omega)]; exact h5 j (by omega)
  · have : gd ((l.set (i + q) (gd l (i + q) + m)).set (i + q + 1) c) (i + 1 + q) = c := by
      rw [show i + 1 + q = i + q + 1 by omega]; unfold gd; rw [List.getD_eq_getElem?_getD, List.getElem?_set_self (by simp; omega)]; rfl
    rw [this]; exact hc1
theorem WuI.first (a : List Int) (q r : Nat) : WuI a (List.replicate (a.length + q + 1) 0) q r 0 := ⟨by simp, Dg.zeros (by decide) _, by simp [V_zeros, V], by omega, fun j _ => by simp [gd, List.getElem?_replicate]; split <;> rfl, by
  have : gd (List.replicate (a.length + q + 1) 0) (0 + q) = 0 := by simp [gd, List.getElem?_replicate]; split <;> rfl
  rw [this]; exact Int.pow_pos (by omega)⟩

set_option maxRecDepth 100000 in
set_option maxHeartbeats 2000000 in
theorem Up_c (x k : Nat) (v : Value) (w : World) (h1 : IsW w v x) (sk : k ≤ 1000000000) (sx : (digs B64 x).length ≤ 1000000000) :
    Calls Try.prog 51 #[v, .int .i64 k] w fun e w' => ∃ v', e = .returned v' ∧ IsW w' v' (x * 2 ^ k) ∧ Below w.heap.size w w' := by
  obtain ⟨A1, c1, rfl, hs1⟩ := h1
  have D1 := Lib.hid (digs_dg B64two x)
  have HV := Lib.hid (digs_V B64two x)
  generalize digs B64 x = a at *
  have L1 := Lib.hid hs1
  clear hs1
  obtain ⟨q, hq⟩ : ∃ q : Nat, (k : Int) / 64 = q := ⟨k / 64, by omega⟩
  obtain ⟨r, hr⟩ : ∃ r : Nat, (k : Int) % 64 = r := ⟨k % 64, by omega⟩
  have hr64 : r < 64 := by omega
  have hq9 : q ≤ 1000000000 := by omega
  have HK : Hid (k = 64 * q + r) := by show _ = _; omega
  have hmk := fun W => run_make_row' (P := Try.prog) 72 85 (.int .u64 0) 8 Try.underlying72 info_u64 rfl .i64 .i64 (a.length + q + 1) (by omega) (by omega) W
  rw [show ((a.length + q + 1 : Nat) : Int) = (a.length : Int) + (q : Int) + 1 by omega] at hmk
  go_enter Try.func51, Try.ntmps51
  go_wp2
  clear hmk
  have HG0 := Lib.hid (BlkI.new w 85 .u64 (a.length + q + 1))
  have HB0 := Lib.hid (below_alloc (Below.refl w.heap.size w) (Obj.cells (madeCells #[Value.int IntKind.u64 0] (a.length + q + 1)) 85))
  go_loopw [17] (fun iv wr => ∃ (i : Nat) (l : List Int), iv = .int .i64 i ∧ Hid (BlkI wr w.heap.size 85 .u64 l) ∧ Below w.heap.size w wr ∧ Hid (WuI a l q r i)) (fun iv _ => a.length - (intOf iv).toNat)
  case atStart => exact ⟨0, _, rfl, HG0, HB0.out, WuI.first a q r⟩
  case round =>
    obtain ⟨i, l, rfl, HG, HB, HI⟩ := hrel
    clear HG0 HB0
    obtain ⟨i1, i2, i3, i4, i5, i6⟩ := HI.out
    have I2 := Lib.hid i2
    have I1 := Lib.hid i1
    clear i3 i5
    by_cases hi : i < a.length
    · obtain ⟨ba, oa, rfl, hla, hca⟩ := (L1.out.below HB).cell (j := i) hi
      have ho := (gdW i2 (i + q)).1
      have q1 := HG.out.cell (j := i + q) (by omega)
      have q2 := HG.out.frozen (i + q)
      obtain ⟨m, c, z1, z2, z3, z4, z5, z6, z7, z8⟩ := shl_parts hr64 (gdW D1.out i) ho i6
      have HST := Lib.hid (HI.out.step hi z7 z3 z8 z6)
      have e0 : min r 64 = r := by omega
      have e1 : (63 - (r : Int)).toNat = 63 - r := by omega
      have e2 : min (63 - r) 64 = 63 - r := by omega
      clear z7 z3 z8 z6 i2 i6 HI i1
      generalize gd a i = y at *
      generalize gd l (i + q) = o at *
      have hi0 : (0 : Int) ≤ (i : Int) + (q : Int) := by omega
      have hi1 : (i : Int) + (q : Int) < (a.length : Int) + (q : Int) + 1 := by omega
      have hi2 : i + q < a.length + q + 1 := by omega
      go_wp2
      have f0 : ((i : Int) + (q : Int)).toNat = i + q := by omega
      have f1 := IntWalk.i64_in ((i : Int) + (q : Int)) (by omega)
      have f2 : ((k : Int).tdiv 64) = q := by rw [Int.tdiv_eq_ediv_of_nonneg (by omega)]; exact hq
      have f3 : ((k : Int).tmod 64) = r := by rw [Int.tmod_eq_emod_of_nonneg (by omega)]; exact hr
      have f4 := IntWalk.i64_in (q : Int) (by omega)
      have f5 := IntWalk.i64_in (r : Int) (by omega)
      go_still_tail 13, (by kernel_rfl)
      change wpList _ _ _ _ _ wr.drew
      clear f0 f1 f2 f3 f4 f5
      have HG1 := Lib.hid (HG.out.drew)
      have HB1 := below_drew HB
      have q1' : wr.drew.cell? ⟨w.heap.size, i + q, none⟩ = some (.int .u64 o) := q1
      have q2' : wr.drew.frozen? ⟨w.heap.size, i + q, none⟩ = false := q2
      generalize wr.drew = w2 at HG1 HB1 q1' q2' ⊢
      clear HG HB q1 q2 hca hla
      have HG2 := Lib.hid (HG1.out.set (i + q) (o + m))
      have HB2 := HB1.setCell (p := ⟨w.heap.size, i + q, none⟩) (Nat.le_refl _) (.int .u64 (o + m))
      have q3 := HG2.out.cell (j := i + q + 1) (by have := I1.out; simp; omega)
      have q4 := HG2.out.frozen (i + q + 1)
      go_wp2
      go_roundw
      case rel => exact ⟨i + 1, _, by go_num, HG2.out.set _ _, HB2.setCell (p := ⟨_, _, none⟩) (Nat.le_refl _) _, HST.out⟩
      case measure => simp [intOf]; omega
    · obtain rfl : i = a.length := by omega
      have HE : Hid ((V B64 l).toNat = x * 2 ^ k) := by
        have e3 : (B64 : Int) ^ q = 2 ^ (64 * q) := by rw [Int.pow_mul]; rfl
        have := HI.out.2.2.1
        rw [Vtake_len (Nat.le_refl _), HV.out, e3, ← Int.pow_add, ← HK.out] at this
        show _ = _
        rw [this]
        have e4 : ((2 ^ k : Nat) : Int) = 2 ^ k := by rw [Int.natCast_pow]; rfl
        rw [← e4, ← Int.natCast_mul, Int.toNat_natCast, Nat.mul_comm]
      have HL := Lib.hid (HG.out.slI (by omega))
      have hT := wtrim_n _ _ l _ HL.out I2.out
      rw [i1] at hT
      have HT := Lib.hid hT
      clear hT HI i1
      go_wp2_with fail
      (with_reducible refine HT.out.mono ?_)
      rintro e w' ⟨v, rfl, hv, rfl⟩
      rw [HE.out] at hv
      go_wp2
      go_ret
      exact ⟨_, rfl, hv, HB⟩

theorem npow_odd {x p q m n : Nat} (h : q + p * m = n) (hm : m % 2 = 1) : x ^ q * x ^ p = x ^ (q + p) ∧ (q + p) + (p + p) * (m / 2) = n := by
  refine ⟨(Nat.pow_add x q p).symm, ?_⟩
  obtain ⟨t, rfl⟩ : ∃ t, m = 2 * t + 1 := ⟨m / 2, by omega⟩
  rw [show (2 * t + 1) / 2 = t by omega, ← h]; grind
theorem nlen_mul {B : Nat} (hB : 2 ≤ B) (x y : Nat) : (digs B (x * y)).length ≤ (digs B x).length + (digs B y).length := by
  apply digs_len_le hB
  rw [Nat.pow_add]
  exact Nat.mul_lt_mul'' (digs_len_lt hB x) (digs_len_lt hB y)
theorem nlen_pow {B : Nat} (hB : 2 ≤ B) (x : Nat) (k : Nat) : (digs B (x ^ k)).length ≤ (digs B x).length * k + 1 := by
  induction k with
  | zero => apply digs_len_le hB; simp; omega
  | succ k ih =>
    rw [Nat.pow_succ]
    have h1 := nlen_mul hB (x ^ k) x
    rw [Nat.mul_succ]
    omega
theorem w64_1 : W64 1 := ⟨by omega, by omega⟩
set_option maxRecDepth 100000 in
set_option maxHeartbeats 2000000 in
theorem wPower_c (x n : Nat) (v : Value) (w : World) (h : IsW w v x) (hn : n ≤ 1000000000) (sx : (digs B64 x).length * n + 1 ≤ 1000000000) :
    Calls Try.prog 71 #[v, .int .i64 n] w fun e w' => ∃ v', e = .returned v' ∧ IsW w' v' (x ^ n) ∧ Below w.heap.size w w' := by
  obtain ⟨A, m0, c0, rfl, H⟩ := h.form
  clear h
  have HS : Hid (∀ p, p ≤ n → (digs B64 (x ^ p)).length ≤ 1000000000) := fun p hp => by
    have h1 := nlen_pow B64two x p
    have := Nat.mul_le_mul_left (digs B64 x).length hp
    omega
  clear sx
  go_enter Try.func71, Try.ntmps71
  go_wp2_with fail
  (with_reducible refine (wOf_c 1 w64_1 _).mono ?_)
  rintro e w1 ⟨v1, rfl, hv1, HB1⟩
  obtain ⟨A1, m1, k1, rfl, H1⟩ := hv1.form
  clear hv1
  replace H := Lib.hid (H.out.below HB1)
  go_wp2
  go_loopw [0, 1, 5] (fun av mv ov wr => ∃ (m p q : Nat) (A A' : Option Addr) (a c a' c' : Nat), mv = .int .i64 m ∧ av = .slice A a c ∧ ov = .slice A' a' c' ∧ Hid (IsW wr (.slice A a c) (x ^ p)) ∧ Hid (IsW wr (.slice A' a' c') (x ^ q)) ∧ Below w.heap.size w wr ∧ m ≤ n ∧ Hid (q + p * m = n) ∧ Hid (0 < m → p ≤ n)) (fun _ mv _ _ => (intOf mv).toNat)
  case atStart => exact ⟨n, 1, 0, A, A1, m0, c0, m1, k1, rfl, rfl, rfl, by rw [Nat.pow_one]; exact H, by rw [Nat.pow_zero]; exact H1, HB1, Nat.le_refl _, by show _ = _; omega, by show _ → _; omega⟩
  case round =>
    clear H H1 HB1
    obtain ⟨m, p, q, A, A', a, c, a', c', rfl, rfl, rfl, H, H1, HB, hm, HI, HP⟩ := hrel
    rcases Nat.eq_zero_or_pos m with rfl | hm0
    · have HE : Hid (x ^ q = x ^ n) := by have := HI.out; rw [Nat.mul_zero, Nat.add_zero] at this; show _ = _; rw [this]
      go_wp2
      go_ret
      exact ⟨_, rfl, by rw [← HE.out]; exact H1.out, HB⟩
    · have LP := Lib.hid (HS.out p (HP.out hm0))
      have LQ := Lib.hid (HS.out q (by have := HI.out; omega))
      by_cases hodd : m % 2 = 1
      · have hob : ((m : Int) % 2 == 1) = true := by simp; omega
        obtain ⟨o1, o2⟩ := npow_odd (x := x) HI.out hodd
        have O1 := Lib.hid o1
        have O2 := Lib.hid o2
        by_cases hm1 : m = 1
        · subst hm1
          have O3 : Hid (q + p + p * (1 / 2) = n) := by have := HI.out; show _ = _; omega
          clear o1 o2 hodd HI O2
          go_wp2_with (go_at_call 66; (with_reducible refine (Times_c (x ^ q) (x ^ p) _ _ _ H1.out H.out LQ.out LP.out).mono ?_); rintro e w3 ⟨v, rfl, hv, hb3⟩; obtain ⟨B3, b3, d3, rfl, T3⟩ := hv.form; clear hv)
          go_roundw
          case rel => exact ⟨0, p, q + p, _, _, _, _, _, _, rfl, rfl, rfl, H.out.below hb3, by rw [← O1.out]; exact T3, below_step HB hb3, by omega, O3.out, by show _ → _; omega⟩
          case measure => simp [intOf]
        · have hm2 : ((m : Int) > 1) = True := by simp; omega
          have h2 : 1 < m := by omega
          have E2 : Hid (x ^ p * x ^ p = x ^ (p + p)) := (Nat.pow_add x p p).symm
          have O3 : Hid (p + p ≤ n) := by
            have := HI.out
            have := Nat.mul_le_mul_left p (show 2 ≤ m by omega)
            show _ ≤ _; omega
          clear o1 o2 hodd HI hm2
          go_wp2_with (first
            | (go_at_call 66; (with_reducible refine (Times_c (x ^ q) (x ^ p) _ _ _ H1.out H.out LQ.out LP.out).mono ?_); rintro e w3 ⟨v, rfl, hv, hb3⟩; obtain ⟨B3, b3, d3, rfl, T3⟩ := hv.form; clear hv; replace H := Lib.hid (H.out.below hb3); replace HB := below_step HB hb3; clear H1 hb3)
            | (go_at_call 66; (with_reducible refine (Times_c (x ^ p) (x ^ p) _ _ _ H.out H.out LP.out LP.out).mono ?_); rintro e w4 ⟨v, rfl, hv, hb4⟩; obtain ⟨B4, b4, d4, rfl, T4⟩ := hv.form; clear hv; replace T3 := Lib.hid (T3.out.below hb4); replace HB := below_step HB hb4; clear hb4))
          go_roundw
          case rel => exact ⟨m / 2, p + p, q + p, _, _, _, _, _, _, by simp, rfl, rfl, by rw [← E2.out]; exact T4, by rw [← O1.out]; exact T3, HB, by omega, O2.out, fun _ => O3.out⟩
          case measure => simp [intOf]; omega
      · have hob : ((m : Int) % 2 == 1) = false := by simp; omega
        have h2 : 1 < m := by omega
        have O2 := Lib.hid (pow_even HI.out hodd)
        have E2 : Hid (x ^ p * x ^ p = x ^ (p + p)) := (Nat.pow_add x p p).symm
        have O3 : Hid (p + p ≤ n) := by
          have := HI.out
          have := Nat.mul_le_mul_left p (show 2 ≤ m by omega)
          show _ ≤ _; omega
        clear hodd HI
        go_wp2_with (go_at_call 66; (with_reducible refine (Times_c (x ^ p) (x ^ p) _ _ _ H.out H.out LP.out LP.out).mono ?_); rintro e w4 ⟨v, rfl, hv, hb4⟩; obtain ⟨B4, b4, d4, rfl, T4⟩ := hv.form; clear hv; replace H1 := Lib.hid (H1.out.below hb4); replace HB := below_step HB hb4; clear hb4)
        go_roundw
        case rel => exact ⟨m / 2, p + p, q, _, _, _, _, _, _, by simp, rfl, rfl, by rw [← E2.out]; exact T4, H1, HB, by omega, O2.out, fun _ => O3.out⟩
        case measure => simp [intOf]; omega
end Go.Proofs.Ytiaeeclmlchpoaa

set_option linter.unusedVariables false
set_option linter.unusedSimpArgs false
namespace Go.Proofs.Ytiaeeclmlchpoaa
open Go.RowKit

theorem OwI.drew {w : World} {base : Nat} {e : TypeId} {k : IntKind} {v : Value} {l : List Int} (h : OwI w base e k v l) : OwI w.drew base e k v l := World.ownsRow.drew h
theorem OwI.cellAt {w : World} {base : Nat} {e : TypeId} {k : IntKind} {g n c : Nat} {l : List Int} (h : OwI w base e k (.slice (some ⟨g, 0, none⟩) n c) l) {j : Nat} (hj : j < l.length) : w.cell? ⟨g, j, none⟩ = some (.int k (gd l j)) := by
  unfold OwI at h
  have hn : n = l.length := by
    rcases h.2 with ⟨h', _⟩ | ⟨g', cap', cur, h', _⟩
    · simp at h'
    · simp at h'; exact h'.2.1
  subst hn
  rw [World.ownsRow.cellAt h j (by omega), gd_lt hj]
  simp [ints, hj]
theorem OwI.frozenAt {w : World} {base : Nat} {e : TypeId} {k : IntKind} {g n c : Nat} {l : List Int} (h : OwI w base e k (.slice (some ⟨g, 0, none⟩) n c) l) (j : Nat) : w.frozen? ⟨g, j, none⟩ = false := by
  unfold OwI at h
  have hn : n = l.length := by
    rcases h.2 with ⟨h', _⟩ | ⟨g', cap', cur, h', _⟩
    · simp at h'
    · simp at h'; exact h'.2.1
  subst hn
  exact World.ownsRow.frozenAt h j
theorem OwI.setAt {w : World} {base : Nat} {e : TypeId} {k : IntKind} {g n c : Nat} {l : List Int} (h : OwI w base e k (.slice (some ⟨g, 0, none⟩) n c) l) (j : Nat) (x : Int) : OwI (w.setCell ⟨g, j, none⟩ (.int k x)) base e k (.slice (some ⟨g, 0, none⟩) n c) (l.set j x) := by
  unfold OwI at h ⊢
  have hn : n = l.length := by
    rcases h.2 with ⟨h', _⟩ | ⟨g', cap', cur, h', _⟩
    · simp at h'
    · simp at h'; exact h'.2.1
  subst hn
  rw [List.length_set, show ints k (l.set j x) = (ints k l).set j (.int k x) by simp [ints, List.map_set]]
  exact (World.ownsRow.stored h j _).1
/-- The places outside i .. j-1 have come. -/
def RvI (l m : List Int) (i j : Nat) : Prop := m.length = l.length ∧ i + j = l.length ∧ ∀ k, k < l.length → gd m k = if i ≤ k ∧ k < j then gd l k else gd l (l.length - 1 - k)
theorem RvI.first (l : List Int) : RvI l l 0 l.length := ⟨rfl, by omega, fun k hk => by rw [if_pos ⟨by omega, hk⟩]⟩
theorem gd_set {l : List Int} {i j : Nat} (d : Int) (h : i < l.length) : gd (l.set i d) j = if i = j then d else gd l j := by
  unfold gd; rw [List.getD_eq_getElem?_getD, List.getD_eq_getElem?_getD, List.getElem?_set]
  split
  · rename_i e; subst e; simp [h]
  · rfl
theorem RvI.step {l m : List Int} {i j : Nat} (h : RvI l m i (j + 1)) (hij : i < j) : RvI l ((m.set i (gd m j)).set j (gd m i)) (i + 1) j := by
  obtain ⟨h1, h2, h3⟩ := h
  refine ⟨by simp [h1], by omega, fun k hk => ?_⟩
  rw [gd_set _ (by simp; omega), gd_set _ (by omega)]
  have a1 := h3 i (by omega)
  have a2 := h3 j (by omega)
  have a3 := h3 k hk
  rw [if_pos ⟨by omega, by omega⟩] at a1 a2
  by_cases e1 : j = k
  · subst e1
    rw [if_pos rfl, if_neg (by omega), a1]
    congr 1; omega
  · rw [if_neg e1]
    by_cases e2 : i = k
    · subst e2
      rw [if_pos rfl, if_neg (by omega), a2]
      congr 1; omega
    · rw [if_neg e2, a3]
      by_cases e3 : i ≤ k ∧ k < j + 1
      · rw [if_pos e3, if_pos ⟨by omega, by omega⟩]
      · rw [if_neg e3, if_neg (by omega)]
theorem RvI.last {l m : List Int} {i j : Nat} (h : RvI l m i j) (hij : j ≤ i + 1) : m = l.reverse := by
  obtain ⟨h1, h2, h3⟩ := h
  apply List.ext_getElem (by simp [h1])
  intro k hk hk2
  have a := h3 k (by omega)
  rw [gd_lt hk] at a
  rw [a, List.getElem_reverse, ← gd_lt (by omega)]
  split
  · congr 1; omega
  · rfl
set_option maxRecDepth 100000 in
set_option maxHeartbeats 2000000 in
theorem Rev_c (v : Value) (l : List Int) (base : Nat) (w0 w : World) (h : OwI w base 5 .u8 v l) (hl0 : 0 < l.length) (HB : Below base w0 w) :
    Calls Try.prog 76 #[v] w fun e w' => e = .returned (.tuple #[]) ∧ OwI w' base 5 .u8 v l.reverse ∧ Below base w0 w' := by
  obtain ⟨A, c, rfl, hs⟩ := h.form
  obtain ⟨g, off, rfl, hlt, _⟩ := hs.cell (j := 0) hl0
  have hc1 := hs.2.1
  have hc2 := hs.2.2
  have h' := h
  obtain ⟨rfl, hbg⟩ : off = 0 ∧ base ≤ g := by
    rcases h.2 with ⟨e, _⟩ | ⟨g', cap, cur, e, hb, _⟩
    · cases e
    · injection e with e; injection e with e; injection e with e1 e2; exact ⟨e2, by omega⟩
  clear hs h'
  go_enter Try.func76, Try.ntmps76
  go_wp2
  have HO0 := Lib.hid h
  have HB0 := Lib.hid HB
  clear h HB
  go_loopw [2, 3] (fun a b wr => ∃ (i j : Nat) (m : List Int), a = .int .i64 i ∧ b = .int .i64 ((j : Int) - 1) ∧ Hid (OwI wr base 5 .u8 (.slice (some ⟨g, 0, none⟩) l.length c) m) ∧ Hid (Below base w0 wr) ∧ Hid (RvI l m i j)) (fun a b _ => (intOf b + 1 - intOf a).toNat)
  case atStart => exact ⟨0, l.length, l, rfl, rfl, HO0, HB0, RvI.first l⟩
  case round =>
    obtain ⟨i, j, m, rfl, rfl, HO, HB, HI⟩ := hrel
    obtain ⟨i1, i2, i3⟩ := HI.out
    clear HO0 HB0 i3
    by_cases hij : i + 1 < j
    · obtain ⟨j, rfl⟩ : ∃ k, j = k + 1 := ⟨j - 1, by omega⟩
      rw [show ((j + 1 : Nat) : Int) - 1 = (j : Int) by omega]
      have ci := HO.out.cellAt (j := i) (by omega)
      have cj := HO.out.cellAt (j := j) (by omega)
      have fi := HO.out.frozenAt i
      have fj := HO.out.frozenAt j
      have HST := Lib.hid (HI.out.step (by omega))
      have hlt2 : (i : Int) < (j : Int) := by omega
      have hne : i ≠ j := by omega
      have hne2 : j ≠ i := by omega
      have hjl : j < l.length := by omega
      have hil : i < l.length := by omega
      generalize gd m i = x at *
      generalize gd m j = y at *
      clear i1 i2 HI
      go_wp2_with fail
      go_region
      go_wp2
      go_roundw
      case rel => exact ⟨i + 1, j, _, by go_num, by go_num, (HO.out.drew.setAt i y).setAt j x, ((below_drew HB.out).setCell (p := ⟨_, _, none⟩) hbg _).setCell (p := ⟨_, _, none⟩) hbg _, HST.out⟩
      case measure => simp [intOf]; omega
    · have HE := Lib.hid (HI.out.last (by omega))
      go_wp2
      refine bodyPost_end (v := .tuple #[]) (by simp [results, Try.results76, go_sem]) rfl ⟨rfl, by rw [← HE.out]; exact HO.out, HB.out⟩
end Go.Proofs.Ytiaeeclmlchpoaa

set_option linter.unusedVariables false
set_option linter.unusedSimpArgs false
namespace Go.Proofs.Ytiaeeclmlchpoaa
open Go.RowKit

theorem Rd.kept {w w' : World} {sz n : Nat} {A : Option Addr} {xs : List Value} (h : Rd w sz A n xs) (hsz : w.heap.size ≤ w'.heap.size) (hk : ∀ b off, A = some ⟨b, off, none⟩ → b < w.heap.size → w'.heap[b]? = w.heap[b]?) : Rd w' sz A n xs :=
  ⟨h.1, fun hn => by
    obtain ⟨b, off, e, hl, hc⟩ := h.2 hn
    refine ⟨b, off, e, Nat.lt_of_lt_of_le hl hsz, fun j u hu => ?_⟩
    have := hc j u hu
    unfold World.cell? at this ⊢
    rw [hk b off e hl]
    exact this⟩
theorem IsU.kept {B : Nat} {k : IntKind} {w w' : World} {A : Option Addr} {m c n : Nat} (h : IsU B k w (.slice A m c) n) (hsz : w.heap.size ≤ w'.heap.size) (hk : ∀ b off, A = some ⟨b, off, none⟩ → b < w.heap.size → w'.heap[b]? = w.heap[b]?) : IsU B k w' (.slice A m c) n := by
  obtain ⟨A', c', e, hs⟩ := h
  injection e with e1 e2 e3
  subst e1
  exact ⟨A, c', by rw [e2, e3], hs.1.kept hsz hk, hs.2⟩
theorem OwI.blk_lt {w : World} {base : Nat} {e : TypeId} {k : IntKind} {v : Value} {l : List Int} (h : OwI w base e k v l) {g : Nat} (hg : v.ownBlock = some g) : g < w.heap.size := by
  unfold OwI at h
  rcases h.2 with ⟨rfl, _⟩ | ⟨g', cap, cur, rfl, hb, hh, _⟩
  · simp [Value.ownBlock] at hg
  · have : g' = g := by simpa [Value.ownBlock] using hg
    subst this
    rcases Nat.lt_or_ge g' w.heap.size with h | h
    · exact h
    · rw [Array.getElem?_eq_none h] at hh; cases hh
section
variable {P : Program} {ops : Array Oper} {rest : List Oper} {o : Oper} {a : Act} {Q : Exit → Act → World → Prop}
/-- One number more at the end of a row of the call's own; all other blocks are as they were. -/
theorem app_IG {w0 W : World} (base : Nat) (hgd : o.guard = none) (s x : Operand) (t e : TypeId) (k : IntKind) (bytes : Nat)
    (ho : o.op = .call { callee := .builtin .append, args := #[s, x], argTypes := #[t, t] })
    (ht : P.underlying t = some (.slice e)) (hinfo : (P.info? e).map (fun i => (i.zero, i.size, i.bytes)) = some (some (.int k 0), 1, bytes)) (hb0 : 0 < bytes)
    (v : Value) (l : List Int) (y : Int) (HO : OwI W base e k v l) (hs : a.eval s = v) (hx : a.eval x = .slice (some ⟨W.heap.size, 0, none⟩) 1 1) (HB : Below base w0 W) (hbase : base ≤ W.heap.size) (hl : (l.length + 1) * bytes ≤ 140737488355328)
    (h : ∀ v1 w1, OwI w1 base e k v1 (l ++ [y]) → Below base w0 w1 → base ≤ w1.heap.size → W.heap.size ≤ w1.heap.size → (∀ k, k < W.heap.size → v.ownBlock ≠ some k → w1.heap[k]? = W.heap[k]?) → wpList P ops Q rest (a.put o.dst v1) w1) :
    wpList P ops Q (o :: rest) a (W.alloc (.cells #[.int k y] e)) := by
  obtain ⟨i0, hi, hzz⟩ := Option.map_eq_some_iff.1 hinfo
  simp only [Prod.mk.injEq] at hzz
  obtain ⟨hz0, hz1, hz2⟩ := hzz
  have hlen : l.length + 1 ≤ 140737488355328 := Nat.le_trans (Nat.le_mul_of_pos_right _ hb0) hl
  refine wpList_append_own (w := W.alloc (.cells #[.int k y] e)) hgd s x t ho base e i0 (.int k 0) 1 bytes ht hi hz0 hz1 hz2 rfl (by omega) v l.length (ints k l) hs (HO.alloc _) ⟨W.heap.size, 0, none⟩ 1 1 [.int k y] hx rfl
    (cell_one_new _ _ _) (by simp [Value.oneCell']) (by simp only [maxLen]; omega) hl (by simp; omega) ?_
  intro v1 w1 hown hg _
  have hsz := hg.size
  simp at hsz
  refine h v1 w1 ?_ ((HB.alloc hbase _).grown hg (by simp; omega) (ownsRow_base HO)) (by omega) (by omega) (fun j hj hne => ?_)
  · unfold OwI
    rw [ints_append, List.length_append]
    exact hown
  · rw [hg.block j (by simp; omega) (Ne.symm hne)]
    exact (below_alloc (Below.refl W.heap.size W) _).block j hj
end
theorem ten_le (k : Nat) : (10 : Nat) ^ k ≤ B64 ^ k := Nat.pow_le_pow_left (by decide) k
theorem wlen_dl (n : Nat) : (digs B64 n).length ≤ (digs 10 n).length := digs_len_le B64two (Nat.lt_of_lt_of_le (digs_len_lt (by omega) n) (ten_le _))
theorem tS_nat (n : Nat) : tS (n : Int) = mkS (txN n) := by
  unfold tS tx
  rw [if_neg (by omega)]; simp
set_option maxRecDepth 100000 in
set_option maxHeartbeats 2000000 in
theorem wDigits_c (x : Nat) (v : Value) (w : World) (h : IsW w v x) (sx : (digs 10 x).length ≤ 1000000000) :
    Calls Try.prog 54 #[v] w fun e w' => e = .returned (.string (tS (x : Int))) ∧ Below w.heap.size w w' := by
  obtain ⟨A, m0, c0, rfl, H⟩ := h.form
  clear h
  go_enter Try.func54, Try.ntmps54
  go_wp2
  go_loopw [0, 3] (fun av ov wr => ∃ (y : Nat) (l : List Int) (A : Option Addr) (m c : Nat), av = .slice A m c ∧ Hid (IsW wr (.slice A m c) y) ∧ OwI wr w.heap.size 5 .u8 ov (l.map (· + 48)) ∧ Below w.heap.size w wr ∧ l.length ≤ 1000000000 ∧ Hid (digs 10 x = l ++ digs 10 y)) (fun _ ov _ => (digs 10 x).length + 1 - slen ov)
  case atStart => exact ⟨x, [], A, m0, c0, rfl, H, OwI.nil _ _ _ _, Below.refl _ _, by simp, rfl⟩
  case round =>
    clear H
    obtain ⟨y, l, A, m, c, rfl, H, HO, HB, hl, HI⟩ := hrel
    have hB := HB.size
    rcases Nat.eq_zero_or_pos y with rfl | hy
    · have hm : m = 0 := by
        obtain ⟨A', c', e, _⟩ := H.out
        injection e with _ e _; rw [e, digs_zero]; rfl
      subst hm
      have HE : Hid (digs 10 x = l) := by show _ = _; rw [HI.out, digs_zero, List.append_nil]
      clear HI
      obtain ⟨A1, c1, rfl, hs⟩ := HO.form
      rcases Nat.eq_zero_or_pos l.length with h0 | h0
      · have hln : l = [] := List.eq_nil_of_length_eq_zero h0
        subst hln
        have hx0 : x = 0 := digs_nil (B := 10) (by omega) HE.out
        subst hx0
        clear hs HE
        go_wp2
        go_ret
        exact ⟨rfl, HB⟩
      · have HSL := Lib.hid hs
        have hLe : Hid (mkS (l.map (· + 48)).reverse = tS (x : Int)) := by
          show _ = _
          rw [tS_nat]; unfold txN
          rw [if_neg (by intro e; rw [e, digs_zero] at HE; have := HE.out; rw [← this] at h0; simp at h0), HE.out]
        have hc3 := hs.2.1
        have hc4 := hs.2.2
        obtain ⟨L, hL⟩ : ∃ L, l.map (· + 48) = L := ⟨_, rfl⟩
        have hl0 : l.length = L.length := by rw [← hL]; simp
        rw [hL] at HO HSL hLe hc3 ⊢
        have HO := Lib.hid HO
        clear hs hL
        rw [hl0] at h0 hl
        clear hl0
        have hq : ((L.length : Int) == 0) = false := beq_eq_false_iff_ne.2 (by omega)
        have hR := Rev_c _ L w.heap.size w wr HO.out h0 HB
        have HR := Lib.hid hR
        clear hR
        go_wp2_with fail
        (with_reducible refine HR.out.mono ?_)
        rintro e w' ⟨rfl, HO2, HB2⟩
        obtain ⟨A2, c2, he, hs2⟩ := HO2.form
        rw [List.length_reverse] at he
        have hcv := conv_str A2 c2 L.reverse w' hs2 (by simpa using h0)
        rw [List.length_reverse] at hcv
        injection he with he1 he2 he3
        subst he1 he3
        clear hs2 HO2 he2
        go_wp2
        go_ret
        exact ⟨by rw [← hLe.out]; rfl, HB2⟩
    · have hm0 : 0 < m := by
        obtain ⟨A', c', e, _⟩ := H.out
        injection e with _ e _; rw [e]
        rcases Nat.eq_zero_or_pos (digs B64 y).length with h0 | h0
        · have := digs_nil B64two (List.eq_nil_of_length_eq_zero h0); omega
        · exact h0
      have HX : Hid (digs 10 x = (l ++ [((y % 10 : Nat) : Int)]) ++ digs 10 (y / 10)) := by
        show _ = _; rw [HI.out, digs_pos (by omega) hy]; simp
      have hlx : l.length + 1 ≤ (digs 10 x).length := by rw [HX.out]; simp
      have hly : (digs B64 y).length ≤ 1000000000 := by
        have h1 := wlen_dl y
        have h2 := congrArg List.length HI.out
        rw [List.length_append] at h2; omega
      have hLL : Hid (((l.map (· + 48)).length + 1) * 1 ≤ 140737488355328) := by show _ ≤ _; rw [List.length_map]; omega
      clear HI
      obtain ⟨r, hr⟩ : ∃ r, y % 10 = r := ⟨_, rfl⟩
      have hr1 : r < 10 := by omega
      have HOv := Over_c y 10 _ wr H.out (by omega) (by omega) hly
      rw [hr] at HX HOv
      rw [show ((10 : Nat) : Int) = 10 from rfl] at HOv
      clear hr
      go_wp2_with fail
      (with_reducible refine HOv.mono ?_)
      rintro e w' ⟨g3, m3, c3, rfl, hv, hb, hg3⟩
      have T3 := Lib.hid hv
      have HK : Hid (u3.ownBlock ≠ some g3) := fun h => by have := HO.blk_lt h; omega
      clear hv HOv hg3
      replace HO := HO.below hb
      replace HB := below_step HB hb
      have hB := HB.size
      clear H hb
      go_wp2_with (at_builtin; refine app_IG w.heap.size rfl _ _ 80 5 .u8 1 rfl Try.underlying80 info_u8 (by decide) _ (l.map (· + 48)) _ HO rfl rfl HB hB hLL.out ?_; intro v1 w1 HO1 HB1 hB1 hsz1 hk1; replace T3 := Lib.hid (T3.out.kept hsz1 (fun b off he hb => hk1 b hb (by injection he with he; injection he with he; subst he; exact HK.out))); clear hk1 hsz1)
      go_roundw
      case rel => exact ⟨y / 10, l ++ [(r : Int)], _, m3, c3, rfl, T3, by rw [List.map_append]; simp only [List.map_cons, List.map_nil]; rw [show (r : Int) + 48 = 48 + (r : Int) by omega]; exact HO1, HB1, by rw [List.length_append]; simp; omega, HX.out⟩
      case measure => obtain ⟨A1, c1, e1, _⟩ := HO1.form; obtain ⟨A2, c2, e2, _⟩ := HO.form; subst e1 e2; simp [slen]; omega
end Go.Proofs.Ytiaeeclmlchpoaa

set_option linter.unusedVariables false
set_option linter.unusedSimpArgs false
namespace Go.Proofs.Ytiaeeclmlchpoaa
open Go.RowKit

/-- The number of the first digits. -/
def pv (T : List Int) (k : Nat) : Nat := (dv (T.take k)).toNat
theorem pv_zero (T : List Int) : pv T 0 = 0 := rfl
theorem dv_nonneg {T : List Int} (h : ∀ c ∈ T, 48 ≤ c ∧ c ≤ 57) : 0 ≤ dv T := (dv_range h).1
theorem pv_step {T : List Int} (h : ∀ c ∈ T, 48 ≤ c ∧ c ≤ 57) {k : Nat} (hk : k < T.length) : pv T (k + 1) = pv T k * 10 + (gd T k - 48).toNat := by
  unfold pv
  have h1 := dv_nonneg (T := T.take k) (fun c hc => h c (List.mem_of_mem_take hc))
  have h2 := h _ (List.getElem_mem hk)
  rw [List.take_succ_eq_append_getElem hk, dv_snoc, gd_lt hk]
  omega
theorem pv_len {T : List Int} (h : ∀ c ∈ T, 48 ≤ c ∧ c ≤ 57) {k : Nat} (hk : k ≤ T.length) : (digs B64 (pv T k)).length ≤ k := by
  have h1 := dv_range (l := T.take k) (fun c hc => h c (List.mem_of_mem_take hc))
  rw [List.length_take, Nat.min_eq_left hk] at h1
  apply digs_len_le B64two
  have h2 : pv T k < 10 ^ k := by
    unfold pv
    have : ((10 ^ k : Nat) : Int) = 10 ^ k := by rw [Int.natCast_pow]; rfl
    omega
  exact Nat.lt_of_lt_of_le h2 (ten_le k)
theorem w64_10 : W64 10 := ⟨by omega, by omega⟩
theorem ten_len : (digs B64 10).length ≤ 1 := digs_len_le (k := 1) B64two (by decide)
theorem small_len {n : Nat} (h : n < 18446744073709551616) : (digs B64 n).length ≤ 1 := digs_len_le (k := 1) B64two (by rw [Nat.pow_one]; exact h)
theorem w10_c (w : World) : Calls Try.prog 50 #[.int .u64 10] w fun e w' => ∃ v, e = .returned v ∧ IsW w' v 10 ∧ Below w.heap.size w w' := wOf_c 10 w64_10 w
theorem w1_c (w : World) : Calls Try.prog 50 #[.int .u64 1] w fun e w' => ∃ v, e = .returned v ∧ IsW w' v 1 ∧ Below w.heap.size w w' := wOf_c 1 w64_1 w
set_option maxRecDepth 100000 in
set_option maxHeartbeats 2000000 in
theorem Read_c (s : ByteArray) (w : World) (hd : ∀ c ∈ codes s, 48 ≤ c ∧ c ≤ 57) (hs : s.size ≤ 900000000) :
    Calls Try.prog 70 #[.string s] w fun e w' => ∃ v, e = .returned v ∧ IsW w' v (dv (codes s)).toNat ∧ Below w.heap.size w w' := by
  have HL := Lib.hid (codes_length s)
  have HD := Lib.hid hd
  clear hd
  go_enter Try.func70, Try.ntmps70
  go_wp2
  go_loopw [3, 7] (fun ov iv wr => ∃ (k : Nat) (A : Option Addr) (m c : Nat), iv = .int .i64 k ∧ ov = .slice A m c ∧ k ≤ s.size ∧ Hid (IsW wr (.slice A m c) (pv (codes s) k)) ∧ Below w.heap.size w wr) (fun _ iv _ => s.size - (intOf iv).toNat)
  case atStart => exact ⟨0, none, 0, 0, rfl, rfl, by omega, ⟨none, 0, by rw [pv_zero, digs_zero]; rfl, by rw [pv_zero, digs_zero]; exact ⟨Rd.nil, by simp, by omega⟩⟩, Below.refl _ _⟩
  case round =>
    obtain ⟨k, A, m, c, rfl, rfl, hk, H, HB⟩ := hrel
    by_cases hk1 : k < s.size
    · have hxk : ∀ h : k < s.size, ((s[k]'h).toNat : Int) = gd (codes s) k := fun h => codes_gd h
      have HST := Lib.hid (pv_step HD.out (k := k) (by rw [HL.out]; exact hk1))
      have HLen := Lib.hid (pv_len HD.out (k := k) (by rw [HL.out]; exact hk))
      have hg := HD.out _ (List.getElem_mem (show k < (codes s).length by rw [HL.out]; exact hk1))
      rw [← gd_lt] at hg
      obtain ⟨hg1, hg2⟩ := hg
      have hW : W64 (gd (codes s) k - 48) := ⟨by omega, by omega⟩
      generalize gd (codes s) k = d at *
      obtain ⟨n, hn⟩ : ∃ n, pv (codes s) k = n := ⟨_, rfl⟩
      rw [hn] at H HST HLen
      have hS1 : (digs B64 (n * 10)).length ≤ 1000000000 := by have := nlen_mul B64two n 10; have := ten_len; have := HLen.out; omega
      have hS2 : (digs B64 (d - 48).toNat).length ≤ 1000000000 := Nat.le_trans (small_len (by omega)) (by omega)
      clear hn
      go_wp2
      have e1 : IntKind.u8.wrap (d - 48) = d - 48 := by rw [IntKind.wrap_u8]; omega
      have e2 : IntKind.u64.wrap (d - 48) = d - 48 := wrap64 (by omega) (by omega)
      go_region_held3 (fun _ => True) (trivial) (first
        | (go_at_call 50; (first | ((with_reducible refine (w10_c _).mono ?_); rintro e w1 ⟨v1, rfl, hv, hb1⟩; obtain ⟨A1, m1, c1, rfl, T1⟩ := hv.form; clear hv) | ((with_reducible refine (wOf_c (d - 48) hW _).mono ?_); rintro e w3 ⟨v1, rfl, hv, hb3⟩; obtain ⟨A3, m3, c3, rfl, T3⟩ := hv.form; clear hv)))
        | (go_at_call 66; (with_reducible refine (Times_c n 10 _ _ _ (by exact H.out.below (by repeat (with_reducible first | assumption | exact Below.refl _ _ | apply below_drew | apply below_drewN | apply below_alloc | refine below_step ?_ (by assumption)))) (by exact T1.out.below (by repeat (with_reducible first | assumption | exact Below.refl _ _ | apply below_drew | apply below_drewN | apply below_alloc | refine below_step ?_ (by assumption)))) (by have := HLen.out; omega) (by have := ten_len; omega)).mono ?_); rintro e w2 ⟨v1, rfl, hv, hb2⟩; obtain ⟨A2, m2, c2, rfl, T2⟩ := hv.form; clear hv)
        | (go_at_call 67; (with_reducible refine (Plus_c (n * 10) (d - 48).toNat _ _ _ (by exact T2.out.below (by repeat (with_reducible first | assumption | exact Below.refl _ _ | apply below_drew | apply below_drewN | apply below_alloc | refine below_step ?_ (by assumption)))) (by exact T3.out.below (by repeat (with_reducible first | assumption | exact Below.refl _ _ | apply below_drew | apply below_drewN | apply below_alloc | refine below_step ?_ (by assumption)))) hS1 hS2).mono ?_); rintro e w4 ⟨v1, rfl, hv, hb4⟩; obtain ⟨A4, m4, c4, rfl, T4⟩ := hv.form; clear hv))
      all_goals
        go_wp2
        go_roundw
        case rel => exact ⟨k + 1, A4, m4, c4, by go_num, rfl, by omega, by rw [HST.out]; exact T4, by exact HB.trans (Below.mono (B := wr.heap.size) (by exact (show Below wr.heap.size wr w4 by exact (by repeat (with_reducible first | assumption | exact Below.refl _ _ | apply below_drew | refine below_step ?_ (by assumption))))) HB.size)⟩
        case measure => simp [intOf]; omega
    · obtain rfl : k = s.size := by omega
      have HE : Hid (pv (codes s) s.size = (dv (codes s)).toNat) := by show _ = _; unfold pv; rw [← HL.out, List.take_of_length_le (Nat.le_refl _)]
      go_wp2
      go_ret
      exact ⟨_, rfl, by rw [← HE.out]; exact H.out, HB⟩
end Go.Proofs.Ytiaeeclmlchpoaa

set_option linter.unusedVariables false
set_option linter.unusedSimpArgs false
namespace Go.Proofs.Ytiaeeclmlchpoaa
open Go.RowKit

theorem ext01 (s : ByteArray) (h0 : 0 < s.size) : (s.extract 0 1).toList = [s[0]'h0] := by
  rw [ByteArray.toList_eq, ByteArray.data_extract, Array.toList_extract, List.extract_eq_take_drop]
  have : 0 < s.data.toList.length := by rw [Array.length_toList]; exact h0
  obtain ⟨a, l, h⟩ := List.exists_cons_of_length_pos this
  simp only [Nat.sub_zero, List.drop_zero, h, List.take_succ_cons, List.take_zero]
  congr 1
  have h2 : s.data.toList[0]'this = a := by simp only [h]; rfl
  rw [← h2]; rfl
theorem pre_neg {s : ByteArray} (h0 : 0 < s.size) : ((s.extract 0 1).toList == [45]) = decide (gd (codes s) 0 = 45) := by
  rw [ext01 s h0, ← codes_gd h0]
  have e : (([s[0]'h0] == [(45 : UInt8)])) = (s[0]'h0 == 45) := by simp
  rw [e]
  by_cases h : s[0]'h0 = 45
  · rw [h]; rfl
  · have h1 : ¬ (((s[0]'h0).toNat : Int) = 45) := fun h' => h (UInt8.toNat_inj.1 (by show (s[0]'h0).toNat = 45; omega))
    rw [decide_eq_false h1]
    simpa using h
set_option maxRecDepth 100000 in
set_option maxHeartbeats 1000000 in
theorem Cut_c (s : ByteArray) (w : World) (h0 : 0 < s.size) :
    Calls Try.prog 68 #[.string s, .string { data := #[45] }] w fun e w' => e = .returned (.tuple #[.string (if gd (codes s) 0 = 45 then s.extract 1 s.size else s), .bool (decide (gd (codes s) 0 = 45))]) ∧ w' = w := by
  have hp := pre_neg h0
  have hB : (1 : Int) ≤ s.size := by omega
  by_cases q : gd (codes s) 0 = 45
  · rw [if_pos q]
    rw [decide_eq_true q] at hp ⊢
    clear q
    go_enter Try.func68, Try.ntmps68
    go_wp2
    go_ret2
    exact ⟨rfl, rfl⟩
  · rw [if_neg q]
    rw [decide_eq_false q] at hp ⊢
    clear q
    go_enter Try.func68, Try.ntmps68
    go_wp2
    go_ret2
    exact ⟨rfl, rfl⟩
end Go.Proofs.Ytiaeeclmlchpoaa

set_option linter.unusedVariables false
set_option linter.unusedSimpArgs false
namespace Go.Proofs.Ytiaeeclmlchpoaa
open Go.RowKit

theorem codes_nonneg (s : ByteArray) (k : Nat) : 0 ≤ gd (codes s) k := by
  rcases Nat.lt_or_ge k (codes s).length with h | h
  · rw [gd_lt h]; exact (codes_range s _ (List.getElem_mem h)).1
  · rw [gd_ge h]; exact Int.le_refl _
theorem dec_digit (s : ByteArray) (pos : Nat) (h : pos < s.size) (h1 : gd (codes s) pos < 128) : Utf8.decode s pos = ((gd (codes s) pos).toNat, 1) := by
  have e := codes_gd h
  rw [decode_ascii s pos h (by omega)]
  congr 1
  omega
theorem dec_other (s : ByteArray) (pos : Nat) (h : pos < s.size) (h1 : ¬ gd (codes s) pos < 128) : 128 ≤ (Utf8.decode s pos).1 := by
  have e := codes_gd h
  exact (decode_high s pos h (by omega)).1


theorem codes_drop1 {s t : ByteArray} (h : s.extract 1 s.size = t) : codes t = (codes s).drop 1 := by
  subst h
  unfold codes
  rw [ByteArray.data_extract, Array.toList_extract]
  simp only [List.extract_eq_take_drop, List.map_take, List.map_drop]
  rw [List.take_of_length_le]
  simp
/-- What is asked of the digits. -/
def okD (T : List Int) (neg : Bool) : Prop := (0 < T.length ∧ T.length ≤ 2000) ∧ ¬ (gd T 0 = 48 ∧ (1 < T.length ∨ neg = true)) ∧ ∀ j, j < T.length → 48 ≤ gd T j ∧ gd T j ≤ 57
def okQ (T : List Int) (neg : Bool) : Prop := ¬ (gd T 0 = 48 ∧ (1 < T.length ∨ neg = true))
theorem okD0 {l : List Int} (h : l ≠ []) (q : gd l 0 ≠ 45) : vldL l = true ↔ okD l false := by
  rw [vld_char (a := 0) h (by rw [if_neg q])]
  unfold okD
  simp
theorem okD1 {l : List Int} (h : l ≠ []) (q : gd l 0 = 45) : vldL l = true ↔ okD (l.drop 1) true := by
  rw [vld_char (a := 1) h (by rw [if_pos q])]
  unfold okD
  have hl : (l.drop 1).length = l.length - 1 := by simp
  rw [hl]
  constructor
  · rintro ⟨⟨h1, h2⟩, h3, h4⟩
    refine ⟨⟨by omega, h2⟩, fun h5 => h3 ⟨by rw [gd_drop] at h5; exact h5.1, by omega⟩, fun j hj => by rw [gd_drop, Nat.add_comm]; exact h4 _ (by omega) (by omega)⟩
  · rintro ⟨⟨h1, h2⟩, h3, h4⟩
    refine ⟨⟨by omega, h2⟩, fun h5 => h3 ⟨by rw [gd_drop]; exact h5.1, .inr rfl⟩, fun j hj hj2 => ?_⟩
    have := h4 (j - 1) (by omega)
    rw [gd_drop, show 1 + (j - 1) = j by omega] at this
    exact this
theorem not_ok {b : Bool} {P : Prop} (h : b = true ↔ P) (hn : ¬ P) : b = false := by cases b with | false => rfl | true => exact absurd (h.1 rfl) hn

set_option maxRecDepth 100000 in
set_option maxHeartbeats 4000000 in
theorem nValid_c (s : ByteArray) (w : World) (hs : s.size ≤ 9223372036854775807) :
    Calls Try.prog 55 #[.string s] w fun e w' => e = .returned (.bool (vldL (codes s))) ∧ Below w.heap.size w w' := by
  have hB : Below w.heap.size w w := Below.refl _ _
  rcases Nat.eq_zero_or_pos s.size with h0 | h0
  · have e0 := toList_nil h0
    have hr : vldL (codes s) = false := by rw [codes_nil h0]; rfl
    rw [hr]
    have hz : (s.size : Int) ≤ 0 := by omega
    clear hr h0
    go_enter Try.func55, Try.ntmps55
    go_wp2
    go_ret
    exact ⟨rfl, hB⟩
  · obtain ⟨e1, e2, e3⟩ := toList_cons h0
    have HNE : Hid (codes s ≠ []) := fun h => by have := codes_length s; rw [h] at this; simp at this; omega
    have HL := Lib.hid (codes_length s)
    have hx0 : ∀ h : 0 < s.size, ((s[0]'h).toNat : Int) = gd (codes s) 0 := fun h => codes_gd h
    by_cases hsz : (s.size : Int) ≤ 2001
    · by_cases q : gd (codes s) 0 = 45
      · have qb : (gd (codes s) 0 == 45) = true := by simpa using q
        obtain ⟨t, ht⟩ : ∃ t, s.extract 1 s.size = t := ⟨_, rfl⟩
        have hct := codes_drop1 ht
        have hts : s.size - 1 = t.size := by rw [← codes_length t, hct, ← codes_length s]; simp
        have HC := Lib.hid (okD1 HNE.out q)
        rw [← hct] at HC
        have hx1 : ∀ h : 1 < s.size, ((s[1]'h).toNat : Int) = gd (codes t) 0 := fun h => by rw [hct, gd_drop]; exact codes_gd h
        clear q hct
        have HT := Lib.hid (codes_length t)
        by_cases q1 : 0 < t.size
        · have e4 := toList_cons q1
          obtain ⟨e4, e5, e6⟩ := e4
          have hxa : ∀ h : 0 < t.size, ((t[0]'h).toNat : Int) = gd (codes t) 0 := fun h => codes_gd h
          by_cases q2 : (t.size : Int) ≤ 2000
          · by_cases q3 : gd (codes t) 0 = 48 ∧ (1 < t.size ∨ true = true)
            · have hr := not_ok HC.out (fun h => h.2.1 ⟨q3.1, by rw [HT.out]; exact q3.2⟩)
              rw [hr]
              have qc : (gd (codes t) 0 == 48) = true := by simpa using q3.1
              
              clear q3 hr
              go_enter Try.func55, Try.ntmps55
              go_wp2
              all_goals (go_ret; exact ⟨rfl, hB⟩)
            · have HQ : Hid (okQ (codes t) true) := by show ¬ _; rw [HT.out]; exact q3
              have q3' : (gd (codes t) 0 == 48) = false ∨ ((gd (codes t) 0 == 48) = true ∧ ¬ (1 : Int) < (t.size : Int)) := by
                by_cases h48 : gd (codes t) 0 = 48
                · exact .inr ⟨by simpa using h48, fun h => q3 ⟨h48, .inl (by omega)⟩⟩
                · exact .inl (by simpa using h48)
              have q4 : (gd (codes t) 0 == 48) = false := by by_cases h48 : gd (codes t) 0 = 48; exact absurd ⟨h48, .inr rfl⟩ q3; simpa using h48
              clear q3
              clear q3'
              all_goals
                go_enter Try.func55, Try.ntmps55
                go_wp2
                go_loopw [5] (fun _ wr => ∃ k : Nat, k ≤ t.size ∧ wr = w.iter t k ∧ Hid (Digs (codes t) 0 k)) (fun _ wr => t.size - wr.iterPos w.heap.size)
                case atStart => exact ⟨0, by omega, rfl, fun j h1 h2 => by omega⟩
                case round =>
                  obtain ⟨k, hk2, rfl, HI⟩ := hrel
                  by_cases hk : k < t.size
                  · have hnx := fun ty => run_next_any (P := Try.prog) w t k ty hk
                    have HD := Lib.hid (dec_digit t k hk)
                    have HO := Lib.hid (dec_other t k hk)
                    have r0 := codes_nonneg t k
                    by_cases d0 : gd (codes t) k < 128
                    · have e0 := HD.out d0
                      rw [e0] at hnx
                      simp only [Int.toNat_of_nonneg r0] at hnx
                      clear e0
                      by_cases d1 : gd (codes t) k < 48
                      · have HR : Hid (vldL (codes s) = false) := not_ok HC.out (fun h => by have := h.2.2 k (by rw [HT.out]; exact hk); omega)
                        go_wp2
                        go_ret
                        exact ⟨by rw [HR.out]; rfl, below_alloc hB _⟩
                      · by_cases d2 : 57 < gd (codes t) k
                        · have HR : Hid (vldL (codes s) = false) := not_ok HC.out (fun h => by have := h.2.2 k (by rw [HT.out]; exact hk); omega)
                          go_wp2
                          go_ret
                          exact ⟨by rw [HR.out]; rfl, below_alloc hB _⟩
                        · have HS : Hid (Digs (codes t) 0 (k + 1)) := HI.out.snoc (by omega) (by omega)
                          go_wp2
                          go_roundw
                          case rel => exact ⟨k + 1, by omega, rfl, HS⟩
                          case measure => simp; omega
                    · have h128 := HO.out d0
                      have HR : Hid (vldL (codes s) = false) := not_ok HC.out (fun h => by have := h.2.2 k (by rw [HT.out]; exact hk); omega)
                      clear d0
                      generalize (Utf8.decode t k).1 = rn at *
                      have d1 : ¬ (rn : Int) < 48 := by omega
                      have d2 : (57 : Int) < (rn : Int) := by omega
                      go_wp2
                      go_ret
                      exact ⟨by rw [HR.out]; rfl, below_alloc hB _⟩
                  · have hnx := fun ty => run_next_end (P := Try.prog) w t k ty hk
                    have HR : Hid (vldL (codes s) = true) := HC.out.2 ⟨⟨by rw [HT.out]; exact q1, by rw [HT.out]; omega⟩, HQ.out, fun j h2 => HI.out j (by omega) (by rw [HT.out] at h2; omega)⟩
                    go_wp2
                    go_ret
                    exact ⟨by rw [HR.out]; rfl, below_alloc hB _⟩
          · exact absurd (by omega) q2
        · have hr := not_ok HC.out (fun h => by have := h.1.1; rw [HT.out] at this; omega)
          have e4 := toList_nil (s := t) (by omega)
          have hz : (t.size : Int) ≤ 0 := by omega
          rw [hr]
          clear hr
          go_enter Try.func55, Try.ntmps55
          go_wp2
          all_goals (go_ret; exact ⟨rfl, hB⟩)

    
      · have qb : (gd (codes s) 0 == 45) = false := by simpa using q
        have HC := Lib.hid (okD0 HNE.out q)
        clear q 
        have HT := Lib.hid (codes_length s)
        by_cases q1 : 0 < s.size
        · 
          
          have hxa : ∀ h : 0 < s.size, ((s[0]'h).toNat : Int) = gd (codes s) 0 := fun h => codes_gd h
          by_cases q2 : (s.size : Int) ≤ 2000
          · by_cases q3 : gd (codes s) 0 = 48 ∧ (1 < s.size ∨ false = true)
            · have hr := not_ok HC.out (fun h => h.2.1 ⟨q3.1, by rw [HT.out]; exact q3.2⟩)
              rw [hr]
              have qc : (gd (codes s) 0 == 48) = true := by simpa using q3.1
              have qd : (1 : Int) < (s.size : Int) := by have := q3.2; simp at this; omega
              clear q3 hr
              go_enter Try.func55, Try.ntmps55
              go_wp2
              all_goals (go_ret; exact ⟨rfl, hB⟩)
            · have HQ : Hid (okQ (codes s) false) := by show ¬ _; rw [HT.out]; exact q3
              have q3' : (gd (codes s) 0 == 48) = false ∨ ((gd (codes s) 0 == 48) = true ∧ ¬ (1 : Int) < (s.size : Int)) := by
                by_cases h48 : gd (codes s) 0 = 48
                · exact .inr ⟨by simpa using h48, fun h => q3 ⟨h48, .inl (by omega)⟩⟩
                · exact .inl (by simpa using h48)
              
              clear q3
              rcases q3' with q3 | ⟨q3, q4⟩
              all_goals
                go_enter Try.func55, Try.ntmps55
                go_wp2
                go_loopw [5] (fun _ wr => ∃ k : Nat, k ≤ s.size ∧ wr = w.iter s k ∧ Hid (Digs (codes s) 0 k)) (fun _ wr => s.size - wr.iterPos w.heap.size)
                case atStart => exact ⟨0, by omega, rfl, fun j h1 h2 => by omega⟩
                case round =>
                  obtain ⟨k, hk2, rfl, HI⟩ := hrel
                  by_cases hk : k < s.size
                  · have hnx := fun ty => run_next_any (P := Try.prog) w s k ty hk
                    have HD := Lib.hid (dec_digit s k hk)
                    have HO := Lib.hid (dec_other s k hk)
                    have r0 := codes_nonneg s k
                    by_cases d0 : gd (codes s) k < 128
                    · have e0 := HD.out d0
                      rw [e0] at hnx
                      simp only [Int.toNat_of_nonneg r0] at hnx
                      clear e0
                      by_cases d1 : gd (codes s) k < 48
                      · have HR : Hid (vldL (codes s) = false) := not_ok HC.out (fun h => by have := h.2.2 k (by rw [HT.out]; exact hk); omega)
                        go_wp2
                        go_ret
                        exact ⟨by rw [HR.out]; rfl, below_alloc hB _⟩
                      · by_cases d2 : 57 < gd (codes s) k
                        · have HR : Hid (vldL (codes s) = false) := not_ok HC.out (fun h => by have := h.2.2 k (by rw [HT.out]; exact hk); omega)
                          go_wp2
                          go_ret
                          exact ⟨by rw [HR.out]; rfl, below_alloc hB _⟩
                        · have HS : Hid (Digs (codes s) 0 (k + 1)) := HI.out.snoc (by omega) (by omega)
                          go_wp2
                          go_roundw
                          case rel => exact ⟨k + 1, by omega, rfl, HS⟩
                          case measure => simp; omega
                    · have h128 := HO.out d0
                      have HR : Hid (vldL (codes s) = false) := not_ok HC.out (fun h => by have := h.2.2 k (by rw [HT.out]; exact hk); omega)
                      clear d0
                      generalize (Utf8.decode s k).1 = rn at *
                      have d1 : ¬ (rn : Int) < 48 := by omega
                      have d2 : (57 : Int) < (rn : Int) := by omega
                      go_wp2
                      go_ret
                      exact ⟨by rw [HR.out]; rfl, below_alloc hB _⟩
                  · have hnx := fun ty => run_next_end (P := Try.prog) w s k ty hk
                    have HR : Hid (vldL (codes s) = true) := HC.out.2 ⟨⟨by rw [HT.out]; exact q1, by rw [HT.out]; omega⟩, HQ.out, fun j h2 => HI.out j (by omega) (by rw [HT.out] at h2; omega)⟩
                    go_wp2
                    go_ret
                    exact ⟨by rw [HR.out]; rfl, below_alloc hB _⟩
          · have hr := not_ok HC.out (fun h => by have := h.1.2; rw [HT.out] at this; omega)
            rw [hr]
            clear hr
            go_enter Try.func55, Try.ntmps55
            go_wp2
            all_goals (go_ret; exact ⟨rfl, hB⟩)

        · exact absurd h0 q1
    · have hr : vldL (codes s) = false := by
        by_cases q : gd (codes s) 0 = 45
        · exact not_ok (okD1 HNE.out q) (fun h => by have := h.1.2; simp only [List.length_drop, HL.out] at this; omega)
        · exact not_ok (okD0 HNE.out q) (fun h => by have := h.1.2; rw [HL.out] at this; omega)
      rw [hr]
      clear hr
      go_enter Try.func55, Try.ntmps55
      go_wp2
      go_ret
      exact ⟨rfl, hB⟩
end Go.Proofs.Ytiaeeclmlchpoaa

set_option linter.unusedVariables false
set_option linter.unusedSimpArgs false
namespace Go.Proofs.Ytiaeeclmlchpoaa
open Go.RowKit

abbrev IsI (w : World) (v : Value) (z : Int) : Prop := IsZ B64 .u64 w v z
theorem isI_of {w : World} {A : Option Addr} {m c n : Nat} (neg : Bool) (h : IsW w (.slice A m c) n) : IsI w (.agg #[.bool (neg && decide (0 < m)), .slice A m c]) (sgnd neg n) := by
  obtain ⟨A', c', e, hs⟩ := h
  injection e with e1 e2 e3
  subst e1 e2 e3
  have hd : dg B64 (sgnd neg n) = digs B64 n := by unfold dg; rw [sgnd_abs]; rfl
  refine ⟨A, c, ?_, by rw [hd]; exact hs⟩
  rw [sgnd_lt _ _ (by omega), hd]
  have : decide (0 < (digs B64 n).length) = decide ((0 : Int) < n) := by
    apply decide_eq_decide.2
    constructor
    · intro h
      rcases Nat.eq_zero_or_pos n with h0 | h0
      · subst h0; rw [digs_zero] at h; simp at h
      · omega
    · intro h; rw [digs_pos B64two (by omega)]; simp
  rw [this]
theorem isI_size {w : World} {neg : Bool} {A : Option Addr} {m c : Nat} {z : Int} (h : IsI w (.agg #[.bool neg, .slice A m c]) z) : IsW w (.slice A m c) z.natAbs ∧ neg = decide (z < 0) ∧ (m = 0 ↔ z = 0) := by
  obtain ⟨A', c', e, hs⟩ := h
  have e' : neg = decide (z < 0) ∧ A = A' ∧ m = (dg B64 z).length ∧ c = c' := by simpa using e
  obtain ⟨e1, e2, e3, e4⟩ := e'
  subst e2 e4
  refine ⟨⟨A, c, by rw [e3]; rfl, hs⟩, e1, ?_⟩
  rw [e3]
  constructor
  · intro h
    have := digs_nil B64two (List.eq_nil_of_length_eq_zero h); omega
  · intro h; subst h; show (digs B64 0).length = 0; rw [digs_zero]; rfl

set_option maxHeartbeats 1000000 in
theorem made_c (neg : Bool) (A : Option Addr) (m c n : Nat) (w : World) (h : IsW w (.slice A m c) n) :
    Calls Try.prog 69 #[.bool neg, .slice A m c] w fun e w' => ∃ v, e = .returned v ∧ IsI w' v (sgnd neg n) ∧ Below w.heap.size w w' := by
  have HI := Lib.hid (isI_of neg h)
  have hB : Below w.heap.size w w := Below.refl _ _
  have hb : (decide ((0 : Int) < (m : Int))) = decide (0 < m) := decide_eq_decide.2 (by omega)
  cases neg
  · go_enter Try.func69, Try.ntmps69
    go_wp2
    refine bodyPost_ret (v := .agg #[.bool (false && decide (0 < m)), .slice A m c]) (by simp [results, Try.results69, go_sem]) rfl ⟨_, rfl, HI.out.below (below_alloc hB _), below_alloc hB _⟩
  · go_enter Try.func69, Try.ntmps69
    go_wp2
    refine bodyPost_ret (v := .agg #[.bool (true && decide (0 < m)), .slice A m c]) (by simp [results, Try.results69, go_sem]) rfl ⟨_, rfl, HI.out.below (below_alloc hB _), below_alloc hB _⟩

set_option maxHeartbeats 1000000 in
theorem Small_c (n : Int) (w : World) (h0 : -9223372036854775807 ≤ n) (h1 : n ≤ 9223372036854775807) :
    Calls Try.prog 65 #[.int .i64 n] w fun e w' => ∃ v, e = .returned v ∧ IsI w' v n ∧ Below w.heap.size w w' := by
  by_cases hn : n < 0
  · have hE : Hid (sgnd true ((-n).toNat : Int) = n) := by show _ = _; unfold sgnd; simp; omega
    have e1 : IntKind.i64.wrap (-n) = -n := IntWalk.i64_in (-n) (by omega)
    have e2 : IntKind.u64.wrap (-n) = (-n) := wrap64 (by omega) (by omega)
    have hW0 : W64 (-n) := And.intro (by omega) (by omega)
    go_enter Try.func65, Try.ntmps65
    go_wp2_with fail
    generalize hW : w.alloc (Obj.cells #[Value.bool false, Value.slice none 0 0] 74) = W at *
    obtain ⟨HR, hWs, HB⟩ := start1 w _ W hW
    have hlt : w.heap.size < W.heap.size := by omega
    clear hW hWs
    (with_reducible refine (wOf_c (-n) hW0 _).mono ?_)
    rintro e w1 ⟨v, rfl, hv, hb1⟩
    obtain ⟨A1, m1, k1, rfl, T1⟩ := hv.form; clear hv
    replace HR := HR.keep hb1; replace HB := below_step HB hb1
    go_wp2_with fail
    (with_reducible refine (made_c true A1 m1 k1 _ _ T1.out).mono ?_)
    rintro e w2 ⟨v, rfl, hv, hb2⟩
    obtain ⟨n2, A2, m2, k2, rfl, H2⟩ := hv.form; clear hv
    replace HR := HR.keep hb2; replace HB := below_step HB hb2
    have HRh := Lib.hid HR; obtain ⟨⟨u1, r1⟩, ⟨u2, u3, u4, r2⟩, r3, r4, r5⟩ := HR
    go_wp2
    refine bodyPost_ret (v := .agg #[.bool n2, .slice A2 m2 k2]) (by simp [results, Try.results65, go_sem, r1, r2, r5]) rfl ⟨_, rfl, ?_, below_set2 HB (by omega) _ _⟩
    rw [← hE.out]; exact H2.out.res2 HRh.out _ _
  · have hE : Hid (sgnd false (n.toNat : Int) = n) := by show _ = _; unfold sgnd; simp; omega
    
    have e2 : IntKind.u64.wrap n = n := wrap64 (by omega) (by omega)
    have hW0 : W64 n := And.intro (by omega) (by omega)
    go_enter Try.func65, Try.ntmps65
    go_wp2_with fail
    generalize hW : w.alloc (Obj.cells #[Value.bool false, Value.slice none 0 0] 74) = W at *
    obtain ⟨HR, hWs, HB⟩ := start1 w _ W hW
    have hlt : w.heap.size < W.heap.size := by omega
    clear hW hWs
    (with_reducible refine (wOf_c n hW0 _).mono ?_)
    rintro e w1 ⟨v, rfl, hv, hb1⟩
    obtain ⟨A1, m1, k1, rfl, T1⟩ := hv.form; clear hv
    replace HR := HR.keep hb1; replace HB := below_step HB hb1
    go_wp2_with fail
    (with_reducible refine (made_c false A1 m1 k1 _ _ T1.out).mono ?_)
    rintro e w2 ⟨v, rfl, hv, hb2⟩
    obtain ⟨n2, A2, m2, k2, rfl, H2⟩ := hv.form; clear hv
    replace HR := HR.keep hb2; replace HB := below_step HB hb2
    have HRh := Lib.hid HR; obtain ⟨⟨u1, r1⟩, ⟨u2, u3, u4, r2⟩, r3, r4, r5⟩ := HR
    go_wp2
    refine bodyPost_ret (v := .agg #[.bool n2, .slice A2 m2 k2]) (by simp [results, Try.results65, go_sem, r1, r2, r5]) rfl ⟨_, rfl, ?_, below_set2 HB (by omega) _ _⟩
    rw [← hE.out]; exact H2.out.res2 HRh.out _ _
end Go.Proofs.Ytiaeeclmlchpoaa

set_option linter.unusedVariables false
set_option linter.unusedSimpArgs false
namespace Go.Proofs.Ytiaeeclmlchpoaa
open Go.RowKit

set_option maxHeartbeats 1000000 in
theorem wNat_c (z : Int) (v : Value) (w : World) (h : IsI w v z) :
    Calls Try.prog 42 #[v] w fun e w' => ∃ v', e = .returned v' ∧ IsW w' v' z.natAbs ∧ Below w.heap.size w w' := by
  obtain ⟨na, A, n, c, rfl, H⟩ := h.form
  clear h
  have hB : Below w.heap.size w w := Below.refl _ _
  have HS := Lib.hid (isI_size H.out).1
  go_enter Try.func42, Try.ntmps42
  go_wp2
  go_ret
  exact ⟨_, rfl, HS.out.below (below_alloc hB _), below_alloc hB _⟩
set_option maxRecDepth 100000 in
set_option maxHeartbeats 2000000 in
theorem wPlus_c (x y : Int) (v1 v2 : Value) (w : World) (h1 : IsI w v1 x) (h2 : IsI w v2 y) (sx : (dg B64 x).length ≤ 1000000000) (sy : (dg B64 y).length ≤ 1000000000) :
    Calls Try.prog 86 #[v1, v2] w fun e w' => ∃ v, e = .returned v ∧ IsI w' v (x + y) ∧ Below w.heap.size w w' := by
  obtain ⟨na, A1, n1, c1, rfl, H1⟩ := h1.form
  obtain ⟨nb, A2, n2, c2, rfl, H2⟩ := h2.form
  clear h1 h2
  obtain ⟨p1, p2, _⟩ := isI_size H1.out
  obtain ⟨q1, q2, _⟩ := isI_size H2.out
  have S1 := Lib.hid p1
  have S2 := Lib.hid q1
  clear p1 q1 H1 H2
  unfold dg at sx sy
  obtain ⟨z1, hz1⟩ : ∃ z1, x.natAbs = z1 := ⟨_, rfl⟩
  obtain ⟨z2, hz2⟩ : ∃ z2, y.natAbs = z2 := ⟨_, rfl⟩
  rw [hz1] at sx S1
  rw [hz2] at sy S2
  have HX : Hid (x = sgnd na z1) := by show _ = _; unfold sgnd; rw [p2]; split <;> rename_i h <;> simp at h <;> omega
  have HY : Hid (y = sgnd nb z2) := by show _ = _; unfold sgnd; rw [q2]; split <;> rename_i h <;> simp at h <;> omega
  clear p2 q2 hz1 hz2
  cases na <;> cases nb
  · have HE : Hid (sgnd false ((z1 + z2 : Nat) : Int) = x + y) := by show _ = _; rw [HX.out, HY.out]; unfold sgnd; (try simp) <;> (try omega)
    go_enter Try.func86, Try.ntmps86
    go_wp2_with fail
    generalize hW : ((w.alloc (Obj.cells #[Value.bool _, Value.slice A1 n1 c1] 74)).alloc _).alloc _ = W
    obtain ⟨hS, HR2, HBW⟩ := start2 w _ _ _ _ _ W hW
    clear hW
    have K1 := Lib.hid (S1.out.below HBW)
    have K2 := Lib.hid (S2.out.below HBW)
    go_region_held3 (fun w' => w'.cell? ⟨w.heap.size, 0, none⟩ = some (.bool false) ∧ w'.cell? ⟨w.heap.size, 1, none⟩ = some (.slice A1 n1 c1) ∧ w'.cell? ⟨w.heap.size + 1, 0, none⟩ = some (.bool false) ∧ w'.cell? ⟨w.heap.size + 1, 1, none⟩ = some (.slice A2 n2 c2) ∧ w.heap.size + 1 + 1 < w'.heap.size)
      (first | exact hS | exact keep2 hb1 hS | exact keep2 hb2 (keep2 hb1 hS) | exact keep2s (keep2s (keep2 hb2 (keep2 hb1 hS))))
      (first
        | (go_at_call 67; (with_reducible refine (Plus_c z1 z2 _ _ _ (by exact K1.out.below (by repeat (with_reducible first | assumption | exact Below.refl _ _ | apply below_drew | apply below_drewN | apply below_alloc | refine below_step ?_ (by assumption)))) (by exact K2.out.below (by repeat (with_reducible first | assumption | exact Below.refl _ _ | apply below_drew | apply below_drewN | apply below_alloc | refine below_step ?_ (by assumption)))) sx sy).mono ?_); rintro e w1 ⟨v, rfl, hv, hb1⟩; obtain ⟨A3, m3, k3, rfl, T3⟩ := hv.form; clear hv)
        | (go_at_call 69; (with_reducible refine (made_c false A3 m3 k3 _ _ (by exact T3.out.below (by repeat (with_reducible first | assumption | exact Below.refl _ _ | apply below_drew | apply below_drewN | apply below_alloc | refine below_step ?_ (by assumption))))).mono ?_); rintro e w2 ⟨v, rfl, hv, hb2⟩; obtain ⟨n4, A4, m4, k4, rfl, H4⟩ := hv.form; clear hv; have HR4 := Lib.hid ((HR2.drew.keep hb1).keep hb2); obtain ⟨⟨u1, r1⟩, ⟨u2, u3, u4, r2⟩, r3, r4, r5⟩ := HR4.out))
    go_wp2
    refine bodyPost_ret (v := .agg #[.bool n4, .slice A4 m4 k4]) (by simp [results, Try.results86, go_sem, r1, r2, r5]) rfl ⟨_, rfl, ?_, ?_⟩
    · have := H4.out
      rw [HE.out] at this
      exact this.res2 HR4.out _ _
    · exact below_set (below_set (below_step (below_step (below_drew HBW) hb1) hb2) (by omega) _) (by omega) _
  · by_cases hlt : z1 < z2
    · have hq : icmp (z1 : Int) (z2 : Int) < 0 := by unfold icmp; rw [if_pos (by omega)]; omega
      have HLT := Lib.hid hlt
      clear hlt
      have HE : Hid (sgnd true ((z2 - z1 : Nat) : Int) = x + y) := by show _ = _; have := HLT.out; rw [HX.out, HY.out]; unfold sgnd; (try simp) <;> (try omega)
      go_enter Try.func86, Try.ntmps86
      go_wp2_with fail
      generalize hW : ((w.alloc (Obj.cells #[Value.bool _, Value.slice A1 n1 c1] 74)).alloc _).alloc _ = W
      obtain ⟨hS, HR2, HBW⟩ := start2 w _ _ _ _ _ W hW
      clear hW
      have K1 := Lib.hid (S1.out.below HBW)
      have K2 := Lib.hid (S2.out.below HBW)
      (with_reducible refine (Compare_c z1 z2 _ _ _ K1.out K2.out).mono ?_)
      rintro e w0 ⟨rfl, hw0⟩
      subst hw0
      go_wp2
      go_region_held3 (fun w' => w'.cell? ⟨w.heap.size, 0, none⟩ = some (.bool false) ∧ w'.cell? ⟨w.heap.size, 1, none⟩ = some (.slice A1 n1 c1) ∧ w'.cell? ⟨w.heap.size + 1, 0, none⟩ = some (.bool true) ∧ w'.cell? ⟨w.heap.size + 1, 1, none⟩ = some (.slice A2 n2 c2) ∧ w.heap.size + 1 + 1 < w'.heap.size)
        (first | exact hS | exact keep2 hb1 hS | exact keep2 hb2 (keep2 hb1 hS) | exact keep2s (keep2s (keep2 hb2 (keep2 hb1 hS))))
        (first
          | (go_at_call 88; (with_reducible refine (wMinus_c z2 z1 _ _ _ (by exact K2.out.below (by repeat (with_reducible first | assumption | exact Below.refl _ _ | apply below_drew | apply below_drewN | apply below_alloc | refine below_step ?_ (by assumption)))) (by exact K1.out.below (by repeat (with_reducible first | assumption | exact Below.refl _ _ | apply below_drew | apply below_drewN | apply below_alloc | refine below_step ?_ (by assumption)))) sy (by have := HLT.out; omega)).mono ?_); rintro e w1 ⟨v, rfl, hv, hb1⟩; obtain ⟨A3, m3, k3, rfl, T3⟩ := hv.form; clear hv)
          | (go_at_call 69; (with_reducible refine (made_c true A3 m3 k3 _ _ (by exact T3.out.below (by repeat (with_reducible first | assumption | exact Below.refl _ _ | apply below_drew | apply below_drewN | apply below_alloc | refine below_step ?_ (by assumption))))).mono ?_); rintro e w2 ⟨v, rfl, hv, hb2⟩; obtain ⟨n4, A4, m4, k4, rfl, H4⟩ := hv.form; clear hv; have HR4 := Lib.hid ((HR2.drew.keep hb1).keep hb2); obtain ⟨⟨u1, r1⟩, ⟨u2, u3, u4, r2⟩, r3, r4, r5⟩ := HR4.out))
      go_wp2
      refine bodyPost_ret (v := .agg #[.bool n4, .slice A4 m4 k4]) (by simp [results, Try.results86, go_sem, r1, r2, r5]) rfl ⟨_, rfl, ?_, ?_⟩
      · have := H4.out
        rw [HE.out] at this
        exact this.res2 HR4.out _ _
      · exact below_set (below_set (below_step (below_step (below_drew HBW) hb1) hb2) (by omega) _) (by omega) _
    · have hq : 0 ≤ icmp (z1 : Int) (z2 : Int) := by unfold icmp; rw [if_neg (by omega)]; split <;> omega
      have HLT := Lib.hid hlt
      clear hlt
      have HE : Hid (sgnd false ((z1 - z2 : Nat) : Int) = x + y) := by show _ = _; have := HLT.out; rw [HX.out, HY.out]; unfold sgnd; (try simp) <;> (try omega)
      go_enter Try.func86, Try.ntmps86
      go_wp2_with fail
      generalize hW : ((w.alloc (Obj.cells #[Value.bool _, Value.slice A1 n1 c1] 74)).alloc _).alloc _ = W
      obtain ⟨hS, HR2, HBW⟩ := start2 w _ _ _ _ _ W hW
      clear hW
      have K1 := Lib.hid (S1.out.below HBW)
      have K2 := Lib.hid (S2.out.below HBW)
      (with_reducible refine (Compare_c z1 z2 _ _ _ K1.out K2.out).mono ?_)
      rintro e w0 ⟨rfl, hw0⟩
      subst hw0
      go_wp2
      go_region_held3 (fun w' => w'.cell? ⟨w.heap.size, 0, none⟩ = some (.bool false) ∧ w'.cell? ⟨w.heap.size, 1, none⟩ = some (.slice A1 n1 c1) ∧ w'.cell? ⟨w.heap.size + 1, 0, none⟩ = some (.bool true) ∧ w'.cell? ⟨w.heap.size + 1, 1, none⟩ = some (.slice A2 n2 c2) ∧ w.heap.size + 1 + 1 < w'.heap.size)
        (first | exact hS | exact keep2 hb1 hS | exact keep2 hb2 (keep2 hb1 hS) | exact keep2s (keep2s (keep2 hb2 (keep2 hb1 hS))))
        (first
          | (go_at_call 88; (with_reducible refine (wMinus_c z1 z2 _ _ _ (by exact K1.out.below (by repeat (with_reducible first | assumption | exact Below.refl _ _ | apply below_drew | apply below_drewN | apply below_alloc | refine below_step ?_ (by assumption)))) (by exact K2.out.below (by repeat (with_reducible first | assumption | exact Below.refl _ _ | apply below_drew | apply below_drewN | apply below_alloc | refine below_step ?_ (by assumption)))) sx (by have := HLT.out; omega)).mono ?_); rintro e w1 ⟨v, rfl, hv, hb1⟩; obtain ⟨A3, m3, k3, rfl, T3⟩ := hv.form; clear hv)
          | (go_at_call 69; (with_reducible refine (made_c false A3 m3 k3 _ _ (by exact T3.out.below (by repeat (with_reducible first | assumption | exact Below.refl _ _ | apply below_drew | apply below_drewN | apply below_alloc | refine below_step ?_ (by assumption))))).mono ?_); rintro e w2 ⟨v, rfl, hv, hb2⟩; obtain ⟨n4, A4, m4, k4, rfl, H4⟩ := hv.form; clear hv; have HR4 := Lib.hid ((HR2.drew.keep hb1).keep hb2); obtain ⟨⟨u1, r1⟩, ⟨u2, u3, u4, r2⟩, r3, r4, r5⟩ := HR4.out))
      go_wp2
      refine bodyPost_ret (v := .agg #[.bool n4, .slice A4 m4 k4]) (by simp [results, Try.results86, go_sem, r1, r2, r5]) rfl ⟨_, rfl, ?_, ?_⟩
      · have := H4.out
        rw [HE.out] at this
        exact this.res2 HR4.out _ _
      · exact below_set (below_set (below_step (below_step (below_drew HBW) hb1) hb2) (by omega) _) (by omega) _
  · by_cases hlt : z1 < z2
    · have hq : icmp (z1 : Int) (z2 : Int) < 0 := by unfold icmp; rw [if_pos (by omega)]; omega
      have HLT := Lib.hid hlt
      clear hlt
      have HE : Hid (sgnd false ((z2 - z1 : Nat) : Int) = x + y) := by show _ = _; have := HLT.out; rw [HX.out, HY.out]; unfold sgnd; (try simp) <;> (try omega)
      go_enter Try.func86, Try.ntmps86
      go_wp2_with fail
      generalize hW : ((w.alloc (Obj.cells #[Value.bool _, Value.slice A1 n1 c1] 74)).alloc _).alloc _ = W
      obtain ⟨hS, HR2, HBW⟩ := start2 w _ _ _ _ _ W hW
      clear hW
      have K1 := Lib.hid (S1.out.below HBW)
      have K2 := Lib.hid (S2.out.below HBW)
      (with_reducible refine (Compare_c z1 z2 _ _ _ K1.out K2.out).mono ?_)
      rintro e w0 ⟨rfl, hw0⟩
      subst hw0
      go_wp2
      go_region_held3 (fun w' => w'.cell? ⟨w.heap.size, 0, none⟩ = some (.bool true) ∧ w'.cell? ⟨w.heap.size, 1, none⟩ = some (.slice A1 n1 c1) ∧ w'.cell? ⟨w.heap.size + 1, 0, none⟩ = some (.bool false) ∧ w'.cell? ⟨w.heap.size + 1, 1, none⟩ = some (.slice A2 n2 c2) ∧ w.heap.size + 1 + 1 < w'.heap.size)
        (first | exact hS | exact keep2 hb1 hS | exact keep2 hb2 (keep2 hb1 hS) | exact keep2s (keep2s (keep2 hb2 (keep2 hb1 hS))))
        (first
          | (go_at_call 88; (with_reducible refine (wMinus_c z2 z1 _ _ _ (by exact K2.out.below (by repeat (with_reducible first | assumption | exact Below.refl _ _ | apply below_drew | apply below_drewN | apply below_alloc | refine below_step ?_ (by assumption)))) (by exact K1.out.below (by repeat (with_reducible first | assumption | exact Below.refl _ _ | apply below_drew | apply below_drewN | apply below_alloc | refine below_step ?_ (by assumption)))) sy (by have := HLT.out; omega)).mono ?_); rintro e w1 ⟨v, rfl, hv, hb1⟩; obtain ⟨A3, m3, k3, rfl, T3⟩ := hv.form; clear hv)
          | (go_at_call 69; (with_reducible refine (made_c false A3 m3 k3 _ _ (by exact T3.out.below (by repeat (with_reducible first | assumption | exact Below.refl _ _ | apply below_drew | apply below_drewN | apply below_alloc | refine below_step ?_ (by assumption))))).mono ?_); rintro e w2 ⟨v, rfl, hv, hb2⟩; obtain ⟨n4, A4, m4, k4, rfl, H4⟩ := hv.form; clear hv; have HR4 := Lib.hid ((HR2.drew.keep hb1).keep hb2); obtain ⟨⟨u1, r1⟩, ⟨u2, u3, u4, r2⟩, r3, r4, r5⟩ := HR4.out))
      go_wp2
      refine bodyPost_ret (v := .agg #[.bool n4, .slice A4 m4 k4]) (by simp [results, Try.results86, go_sem, r1, r2, r5]) rfl ⟨_, rfl, ?_, ?_⟩
      · have := H4.out
        rw [HE.out] at this
        exact this.res2 HR4.out _ _
      · exact below_set (below_set (below_step (below_step (below_drew HBW) hb1) hb2) (by omega) _) (by omega) _
    · have hq : 0 ≤ icmp (z1 : Int) (z2 : Int) := by unfold icmp; rw [if_neg (by omega)]; split <;> omega
      have HLT := Lib.hid hlt
      clear hlt
      have HE : Hid (sgnd true ((z1 - z2 : Nat) : Int) = x + y) := by show _ = _; have := HLT.out; rw [HX.out, HY.out]; unfold sgnd; (try simp) <;> (try omega)
      go_enter Try.func86, Try.ntmps86
      go_wp2_with fail
      generalize hW : ((w.alloc (Obj.cells #[Value.bool _, Value.slice A1 n1 c1] 74)).alloc _).alloc _ = W
      obtain ⟨hS, HR2, HBW⟩ := start2 w _ _ _ _ _ W hW
      clear hW
      have K1 := Lib.hid (S1.out.below HBW)
      have K2 := Lib.hid (S2.out.below HBW)
      (with_reducible refine (Compare_c z1 z2 _ _ _ K1.out K2.out).mono ?_)
      rintro e w0 ⟨rfl, hw0⟩
      subst hw0
      go_wp2
      go_region_held3 (fun w' => w'.cell? ⟨w.heap.size, 0, none⟩ = some (.bool true) ∧ w'.cell? ⟨w.heap.size, 1, none⟩ = some (.slice A1 n1 c1) ∧ w'.cell? ⟨w.heap.size + 1, 0, none⟩ = some (.bool false) ∧ w'.cell? ⟨w.heap.size + 1, 1, none⟩ = some (.slice A2 n2 c2) ∧ w.heap.size + 1 + 1 < w'.heap.size)
        (first | exact hS | exact keep2 hb1 hS | exact keep2 hb2 (keep2 hb1 hS) | exact keep2s (keep2s (keep2 hb2 (keep2 hb1 hS))))
        (first
          | (go_at_call 88; (with_reducible refine (wMinus_c z1 z2 _ _ _ (by exact K1.out.below (by repeat (with_reducible first | assumption | exact Below.refl _ _ | apply below_drew | apply below_drewN | apply below_alloc | refine below_step ?_ (by assumption)))) (by exact K2.out.below (by repeat (with_reducible first | assumption | exact Below.refl _ _ | apply below_drew | apply below_drewN | apply below_alloc | refine below_step ?_ (by assumption)))) sx (by have := HLT.out; omega)).mono ?_); rintro e w1 ⟨v, rfl, hv, hb1⟩; obtain ⟨A3, m3, k3, rfl, T3⟩ := hv.form; clear hv)
          | (go_at_call 69; (with_reducible refine (made_c true A3 m3 k3 _ _ (by exact T3.out.below (by repeat (with_reducible first | assumption | exact Below.refl _ _ | apply below_drew | apply below_drewN | apply below_alloc | refine below_step ?_ (by assumption))))).mono ?_); rintro e w2 ⟨v, rfl, hv, hb2⟩; obtain ⟨n4, A4, m4, k4, rfl, H4⟩ := hv.form; clear hv; have HR4 := Lib.hid ((HR2.drew.keep hb1).keep hb2); obtain ⟨⟨u1, r1⟩, ⟨u2, u3, u4, r2⟩, r3, r4, r5⟩ := HR4.out))
      go_wp2
      refine bodyPost_ret (v := .agg #[.bool n4, .slice A4 m4 k4]) (by simp [results, Try.results86, go_sem, r1, r2, r5]) rfl ⟨_, rfl, ?_, ?_⟩
      · have := H4.out
        rw [HE.out] at this
        exact this.res2 HR4.out _ _
      · exact below_set (below_set (below_step (below_step (below_drew HBW) hb1) hb2) (by omega) _) (by omega) _
  · have HE : Hid (sgnd true ((z1 + z2 : Nat) : Int) = x + y) := by show _ = _; rw [HX.out, HY.out]; unfold sgnd; (try simp) <;> (try omega)
    go_enter Try.func86, Try.ntmps86
    go_wp2_with fail
    generalize hW : ((w.alloc (Obj.cells #[Value.bool _, Value.slice A1 n1 c1] 74)).alloc _).alloc _ = W
    obtain ⟨hS, HR2, HBW⟩ := start2 w _ _ _ _ _ W hW
    clear hW
    have K1 := Lib.hid (S1.out.below HBW)
    have K2 := Lib.hid (S2.out.below HBW)
    go_region_held3 (fun w' => w'.cell? ⟨w.heap.size, 0, none⟩ = some (.bool true) ∧ w'.cell? ⟨w.heap.size, 1, none⟩ = some (.slice A1 n1 c1) ∧ w'.cell? ⟨w.heap.size + 1, 0, none⟩ = some (.bool true) ∧ w'.cell? ⟨w.heap.size + 1, 1, none⟩ = some (.slice A2 n2 c2) ∧ w.heap.size + 1 + 1 < w'.heap.size)
      (first | exact hS | exact keep2 hb1 hS | exact keep2 hb2 (keep2 hb1 hS) | exact keep2s (keep2s (keep2 hb2 (keep2 hb1 hS))))
      (first
        | (go_at_call 67; (with_reducible refine (Plus_c z1 z2 _ _ _ (by exact K1.out.below (by repeat (with_reducible first | assumption | exact Below.refl _ _ | apply below_drew | apply below_drewN | apply below_alloc | refine below_step ?_ (by assumption)))) (by exact K2.out.below (by repeat (with_reducible first | assumption | exact Below.refl _ _ | apply below_drew | apply below_drewN | apply below_alloc | refine below_step ?_ (by assumption)))) sx sy).mono ?_); rintro e w1 ⟨v, rfl, hv, hb1⟩; obtain ⟨A3, m3, k3, rfl, T3⟩ := hv.form; clear hv)
        | (go_at_call 69; (with_reducible refine (made_c true A3 m3 k3 _ _ (by exact T3.out.below (by repeat (with_reducible first | assumption | exact Below.refl _ _ | apply below_drew | apply below_drewN | apply below_alloc | refine below_step ?_ (by assumption))))).mono ?_); rintro e w2 ⟨v, rfl, hv, hb2⟩; obtain ⟨n4, A4, m4, k4, rfl, H4⟩ := hv.form; clear hv; have HR4 := Lib.hid ((HR2.drew.keep hb1).keep hb2); obtain ⟨⟨u1, r1⟩, ⟨u2, u3, u4, r2⟩, r3, r4, r5⟩ := HR4.out))
    go_wp2
    refine bodyPost_ret (v := .agg #[.bool n4, .slice A4 m4 k4]) (by simp [results, Try.results86, go_sem, r1, r2, r5]) rfl ⟨_, rfl, ?_, ?_⟩
    · have := H4.out
      rw [HE.out] at this
      exact this.res2 HR4.out _ _
    · exact below_set (below_set (below_step (below_step (below_drew HBW) hb1) hb2) (by omega) _) (by omega) _
end Go.Proofs.Ytiaeeclmlchpoaa

set_option linter.unusedVariables false
set_option linter.unusedSimpArgs false
namespace Go.Proofs.Ytiaeeclmlchpoaa
open Go.RowKit

set_option maxRecDepth 100000 in
set_option maxHeartbeats 2000000 in
theorem wLess_c (x y : Int) (v1 v2 : Value) (w : World) (h1 : IsI w v1 x) (h2 : IsI w v2 y) (sx : (dg B64 x).length ≤ 1000000000) (sy : (dg B64 y).length ≤ 1000000000) :
    Calls Try.prog 78 #[v1, v2] w fun e w' => ∃ v, e = .returned v ∧ IsI w' v (x - y) ∧ Below w.heap.size w w' := by
  obtain ⟨na, A1, n1, c1, rfl, H1⟩ := h1.form
  obtain ⟨nb, A2, n2, c2, rfl, H2⟩ := h2.form
  clear h1 h2
  obtain ⟨q1, q2, _⟩ := isI_size H2.out
  have S2 := Lib.hid q1
  clear q1 H2
  have hsy : (dg B64 (sgnd (!nb) (y.natAbs : Int))).length ≤ 1000000000 := by unfold dg; rw [sgnd_abs]; exact sy
  obtain ⟨z2, hz2⟩ : ∃ z2, y.natAbs = z2 := ⟨_, rfl⟩
  rw [hz2] at S2 hsy
  have HY : Hid (x + sgnd (!nb) z2 = x - y) := by show _ = _; unfold sgnd; rw [q2]; split <;> rename_i h <;> simp at h <;> omega
  clear q2 hz2 sy
  cases nb
  · rw [show (!false) = true from rfl] at HY hsy
    go_enter Try.func78, Try.ntmps78
    go_wp2_with fail
    generalize hW : ((w.alloc (Obj.cells #[Value.bool _, Value.slice A1 n1 c1] 74)).alloc _).alloc _ = W
    obtain ⟨hS, HR2, HBW⟩ := start2 w _ _ _ _ _ W hW
    clear hW
    have K1 := Lib.hid (H1.out.below HBW)
    have K2 := Lib.hid (S2.out.below HBW)
    go_region_held3 (fun w' => w'.cell? ⟨w.heap.size, 0, none⟩ = some (.bool na) ∧ w'.cell? ⟨w.heap.size, 1, none⟩ = some (.slice A1 n1 c1) ∧ w'.cell? ⟨w.heap.size + 1, 0, none⟩ = some (.bool false) ∧ w'.cell? ⟨w.heap.size + 1, 1, none⟩ = some (.slice A2 n2 c2) ∧ w.heap.size + 1 + 1 < w'.heap.size)
      (first | exact hS | exact keep2 hb1 hS | exact keep2 hb2 (keep2 hb1 hS) | exact keep2s (keep2s (keep2 hb2 (keep2 hb1 hS))))
      (first
        | (go_at_call 69; (with_reducible refine (made_c true A2 n2 c2 z2 _ (by exact K2.out.below (by repeat (with_reducible first | assumption | exact Below.refl _ _ | apply below_drew | apply below_drewN | apply below_alloc | refine below_step ?_ (by assumption))))).mono ?_); rintro e w1 ⟨v, rfl, hv, hb1⟩; obtain ⟨n3, A3, m3, k3, rfl, H3⟩ := hv.form; clear hv)
        | (go_at_call 86; (with_reducible refine (wPlus_c x (sgnd true z2) _ _ _ (by exact K1.out.below (by repeat (with_reducible first | assumption | exact Below.refl _ _ | apply below_drew | apply below_drewN | apply below_alloc | refine below_step ?_ (by assumption)))) (by exact H3.out.below (by repeat (with_reducible first | assumption | exact Below.refl _ _ | apply below_drew | apply below_drewN | apply below_alloc | refine below_step ?_ (by assumption)))) sx hsy).mono ?_); rintro e w2 ⟨v, rfl, hv, hb2⟩; obtain ⟨n4, A4, m4, k4, rfl, H4⟩ := hv.form; clear hv; have HR4 := Lib.hid ((HR2.drew.keep hb1).keep hb2); obtain ⟨⟨u1, r1⟩, ⟨u2, u3, u4, r2⟩, r3, r4, r5⟩ := HR4.out))
    go_wp2
    refine bodyPost_ret (v := .agg #[.bool n4, .slice A4 m4 k4]) (by simp [results, Try.results78, go_sem, r1, r2, r5]) rfl ⟨_, rfl, ?_, ?_⟩
    · have := H4.out
      rw [HY.out] at this
      exact this.res2 HR4.out _ _
    · exact below_set (below_set (below_step (below_step (below_drew HBW) hb1) hb2) (by omega) _) (by omega) _
  · rw [show (!true) = false from rfl] at HY hsy
    go_enter Try.func78, Try.ntmps78
    go_wp2_with fail
    generalize hW : ((w.alloc (Obj.cells #[Value.bool _, Value.slice A1 n1 c1] 74)).alloc _).alloc _ = W
    obtain ⟨hS, HR2, HBW⟩ := start2 w _ _ _ _ _ W hW
    clear hW
    have K1 := Lib.hid (H1.out.below HBW)
    have K2 := Lib.hid (S2.out.below HBW)
    go_region_held3 (fun w' => w'.cell? ⟨w.heap.size, 0, none⟩ = some (.bool na) ∧ w'.cell? ⟨w.heap.size, 1, none⟩ = some (.slice A1 n1 c1) ∧ w'.cell? ⟨w.heap.size + 1, 0, none⟩ = some (.bool true) ∧ w'.cell? ⟨w.heap.size + 1, 1, none⟩ = some (.slice A2 n2 c2) ∧ w.heap.size + 1 + 1 < w'.heap.size)
      (first | exact hS | exact keep2 hb1 hS | exact keep2 hb2 (keep2 hb1 hS) | exact keep2s (keep2s (keep2 hb2 (keep2 hb1 hS))))
      (first
        | (go_at_call 69; (with_reducible refine (made_c false A2 n2 c2 z2 _ (by exact K2.out.below (by repeat (with_reducible first | assumption | exact Below.refl _ _ | apply below_drew | apply below_drewN | apply below_alloc | refine below_step ?_ (by assumption))))).mono ?_); rintro e w1 ⟨v, rfl, hv, hb1⟩; obtain ⟨n3, A3, m3, k3, rfl, H3⟩ := hv.form; clear hv)
        | (go_at_call 86; (with_reducible refine (wPlus_c x (sgnd false z2) _ _ _ (by exact K1.out.below (by repeat (with_reducible first | assumption | exact Below.refl _ _ | apply below_drew | apply below_drewN | apply below_alloc | refine below_step ?_ (by assumption)))) (by exact H3.out.below (by repeat (with_reducible first | assumption | exact Below.refl _ _ | apply below_drew | apply below_drewN | apply below_alloc | refine below_step ?_ (by assumption)))) sx hsy).mono ?_); rintro e w2 ⟨v, rfl, hv, hb2⟩; obtain ⟨n4, A4, m4, k4, rfl, H4⟩ := hv.form; clear hv; have HR4 := Lib.hid ((HR2.drew.keep hb1).keep hb2); obtain ⟨⟨u1, r1⟩, ⟨u2, u3, u4, r2⟩, r3, r4, r5⟩ := HR4.out))
    go_wp2
    refine bodyPost_ret (v := .agg #[.bool n4, .slice A4 m4 k4]) (by simp [results, Try.results78, go_sem, r1, r2, r5]) rfl ⟨_, rfl, ?_, ?_⟩
    · have := H4.out
      rw [HY.out] at this
      exact this.res2 HR4.out _ _
    · exact below_set (below_set (below_step (below_step (below_drew HBW) hb1) hb2) (by omega) _) (by omega) _
theorem lenI {w : World} {neg : Bool} {A : Option Addr} {m c : Nat} {z : Int} (h : IsI w (.agg #[.bool neg, .slice A m c]) z) : (neg = true ↔ z < 0) ∧ (0 < m ↔ z ≠ 0) := by
  obtain ⟨_, h2, h3⟩ := isI_size h
  exact ⟨by rw [h2]; simp, by omega⟩
set_option maxRecDepth 100000 in
set_option maxHeartbeats 2000000 in
theorem iCompare_c (x y : Int) (v1 v2 : Value) (w : World) (h1 : IsI w v1 x) (h2 : IsI w v2 y) (sx : (dg B64 x).length ≤ 1000000000) (sy : (dg B64 y).length ≤ 1000000000) :
    Calls Try.prog 64 #[v1, v2] w fun e w' => e = .returned (.int .i64 (icmp x y)) ∧ Below w.heap.size w w' := by
  obtain ⟨na, A1, n1, c1, rfl, H1⟩ := h1.form
  obtain ⟨nb, A2, n2, c2, rfl, H2⟩ := h2.form
  clear h1 h2
  go_enter Try.func64, Try.ntmps64
  go_wp2_with fail
  generalize hW : (w.alloc (Obj.cells #[Value.bool na, Value.slice A1 n1 c1] 74)).alloc _ = W
  have HBW : Below w.heap.size w W := by subst hW; exact below_alloc (below_alloc (Below.refl _ _) _) _
  clear hW
  (with_reducible refine (wLess_c x y _ _ _ (H1.out.below HBW) (H2.out.below HBW) sx sy).mono ?_)
  rintro e w1 ⟨v, rfl, hv, hb1⟩
  obtain ⟨n3, A3, m3, k3, rfl, H3⟩ := hv.form
  obtain ⟨e1, e2⟩ := lenI H3.out
  have HB := below_step HBW hb1
  clear hv HBW hb1
  have E1 := Lib.hid e1
  have E2 := Lib.hid e2
  clear e1 e2
  cases n3
  · have h1 : ¬ x - y < 0 := fun h => by have := E1.out.2 h; cases this
    by_cases hm : 0 < m3
    · have HR : Hid (icmp x y = 1) := by have := E2.out.1 hm; show _ = _; unfold icmp; rw [if_neg (by omega), if_pos (by omega)]
      go_wp2
      go_ret
      exact ⟨by rw [HR.out]; rfl, below_alloc HB _⟩
    · have h0 : x - y = 0 := Decidable.byContradiction fun h => hm (E2.out.2 h)
      have HR : Hid (icmp x y = 0) := by show _ = _; unfold icmp; rw [if_neg (by omega), if_neg (by omega)]
      clear h0
      go_wp2
      go_ret
      exact ⟨by rw [HR.out]; rfl, below_alloc HB _⟩
  · have h1 : x - y < 0 := E1.out.1 rfl
    have HR : Hid (icmp x y = -1) := by show _ = _; unfold icmp; rw [if_pos (by omega)]
    go_wp2
    go_ret
    exact ⟨by rw [HR.out]; rfl, below_alloc HB _⟩
end Go.Proofs.Ytiaeeclmlchpoaa

set_option linter.unusedVariables false
set_option linter.unusedSimpArgs false
namespace Go.Proofs.Ytiaeeclmlchpoaa
open Go.RowKit

theorem cut_tS (z : Int) : ∃ r : ByteArray, (if gd (codes (tS z)) 0 = 45 then (tS z).extract 1 (tS z).size else tS z) = r ∧ codes r = txN z.natAbs ∧ decide (gd (codes (tS z)) 0 = 45) = decide (z < 0) ∧ 0 < (tS z).size := by
  have h0 : 0 < (tS z).size := by
    rw [← codes_length, codes_tS]; unfold tx; rw [List.length_append]; have := dlN_pos z.natAbs; unfold dlN at this; omega
  have hh : (gd (codes (tS z)) 0 = 45) ↔ z < 0 := by
    rw [codes_tS, ← tx_neg]
    have hne : tx z ≠ [] := by intro h; have := codes_length (tS z); rw [codes_tS, h] at this; simp at this; omega
    cases e : tx z with
    | nil => exact absurd e hne
    | cons a l => simp [gd]
  refine ⟨_, rfl, ?_, decide_eq_decide.2 hh, h0⟩
  by_cases hz : z < 0
  · rw [if_pos (hh.2 hz), codes_drop1 rfl, codes_tS]; unfold tx; rw [if_pos hz]; simp
  · rw [if_neg (fun h => hz (hh.1 h)), codes_tS]; unfold tx; rw [if_neg hz]; simp
set_option maxRecDepth 100000 in
set_option maxHeartbeats 1000000 in
theorem wParse_c (z : Int) (w : World) (hz : dlN z.natAbs ≤ 900000000) :
    Calls Try.prog 41 #[.string (tS z)] w fun e w' => ∃ v, e = .returned v ∧ IsI w' v z ∧ Below w.heap.size w w' := by
  obtain ⟨r, hr1, hr2, hr3, hr4⟩ := cut_tS z
  have HC := Lib.hid (Cut_c (tS z) · hr4)
  simp only [hr1, hr3] at HC
  have HE : Hid ((dv (codes r)).toNat = z.natAbs) := by show _ = _; rw [hr2, dv_txN]; rfl
  have HD : Hid (∀ c ∈ codes r, 48 ≤ c ∧ c ≤ 57) := by rw [hr2]; exact txN_range _
  have hrs : r.size ≤ 900000000 := by rw [← codes_length, hr2]; exact hz
  have HZ : Hid (sgnd (decide (z < 0)) (z.natAbs : Int) = z) := by show _ = _; unfold sgnd; split <;> rename_i h <;> simp at h <;> omega
  clear hr1 hr2 hr3 hr4 hz
  generalize tS z = s at *
  generalize decide (z < 0) = ng at *
  generalize z.natAbs = n at *
  go_enter Try.func41, Try.ntmps41
  go_wp2_with fail
  generalize hW : w.alloc (Obj.cells #[Value.bool false, Value.slice none 0 0] 74) = W at *
  obtain ⟨HR, hWs, HB⟩ := start1 w _ W hW
  have hlt : w.heap.size < W.heap.size := by omega
  clear hW hWs
  (with_reducible refine (HC.out W).mono ?_)
  rintro e w0 ⟨rfl, hw0⟩
  subst hw0
  go_wp2_with fail
  (with_reducible refine (Read_c r _ HD.out hrs).mono ?_)
  rintro e w1 ⟨v, rfl, hv, hb1⟩
  rw [HE.out] at hv
  obtain ⟨A1, m1, k1, rfl, T1⟩ := hv.form; clear hv
  replace HR := HR.keep hb1; replace HB := below_step HB hb1
  go_wp2_with fail
  (with_reducible refine (made_c ng A1 m1 k1 _ _ T1.out).mono ?_)
  rintro e w2 ⟨v, rfl, hv, hb2⟩
  obtain ⟨n2, A2, m2, k2, rfl, H2⟩ := hv.form; clear hv
  replace HR := HR.keep hb2; replace HB := below_step HB hb2
  have HRh := Lib.hid HR; obtain ⟨⟨u1, r1⟩, ⟨u2, u3, u4, r2⟩, r3, r4, r5⟩ := HR
  go_wp2
  refine bodyPost_ret (v := .agg #[.bool n2, .slice A2 m2 k2]) (by simp [results, Try.results41, go_sem, r1, r2, r5]) rfl ⟨_, rfl, ?_, below_set2 HB (by omega) _ _⟩
  rw [← HZ.out]
  exact H2.out.res2 HRh.out _ _
end Go.Proofs.Ytiaeeclmlchpoaa

set_option linter.unusedVariables false
namespace Go.Proofs.Ytiaeeclmlchpoaa
open Go

section
variable {P : Program} {ops : Array Oper} {Q : Exit → Act → World → Prop} {md : Region.Mode} {S : World → Prop} {st : List Nat}

/-- As long as none of st has come up, the world meets S. -/
def heldF (S : World → Prop) (st : List Nat) (done : Array Bool) (w : World) : Prop := (∀ k ∈ st, done.getD k true = false) → S w
/-- Whatever order is picked; behind every operation: heldF. -/
def wpAnyF (P : Program) (md : Region.Mode) (ops : Array Oper) (Q : Exit → Act → World → Prop) (S : World → Prop) (st : List Nat) : Nat → Array Bool → Act → World → Prop
  | 0, done, a, w => Region.ready md ops done = [] ∧ Q .normal a w
  | n + 1, done, a, w => (Region.ready md ops done = [] → Q .normal a w) ∧
    ∀ i ∈ Region.ready md ops done, wpOp P ops Q i (fun a' w' => heldF S st (done.setIfInBounds i true) w' ∧ wpAnyF P md ops Q S st n (done.setIfInBounds i true) a' w') a w

theorem wpAny_of_F : ∀ (n : Nat) (done : Array Bool) (a : Act) (w : World), wpAnyF P md ops Q S st n done a w → wpAny P md ops Q n done a w
  | 0, _, _, _, h => h
  | n + 1, _, _, _, h => ⟨h.1, fun i hi => wpOp_mono (fun a' w' h' => wpAny_of_F n _ a' w' h'.2) (h.2 i hi)⟩

/-- Every operation of st waits for number i. -/
def stWait (md : Region.Mode) (ops : Array Oper) (st : List Nat) (i : Nat) : Bool :=
  st.all fun j => match ops[j]? with
    | some o => o.after.any fun e => Region.binds md e && e.on == i
    | none => true
theorem set_ne {done : Array Bool} {i k : Nat} (h : k ≠ i) : (done.setIfInBounds i true).getD k true = done.getD k true := getD_set_ne true (Ne.symm h)

theorem wpAnyF_first {i : Nat} {oi : Oper} {v : Value} (hi : ops[i]? = some oi) (hsel : ∀ (j : Nat) (o : Oper) cs b, ops[j]? = some o → o.op ≠ .select cs b)
    (hQ : ∀ c a w, Q (.panic c) (a.put oi.dst v) w → Q (.panic c) a w) (hst : stWait md ops st i = true) (hin : i ∉ st) :
    ∀ (n : Nat) (done : Array Bool) (a : Act) (w : World),
      (∀ j oj, ops[j]? = some oj → j ≠ i → done.getD j true = false → (∀ e ∈ oj.after, Region.binds md e = true → e.on ≠ i) → oi.apart ops oj = true) →
      i ∈ Region.ready md ops done → YieldsIf P ops S oi v a → S w → (∀ k ∈ st, done.getD k true = false) →
      wpAnyF P md ops Q S st n (done.setIfInBounds i true) (a.put oi.dst v) w → wpAnyF P md ops Q S st (n + 1) done a w := by
  intro n
  induction n with
  | zero =>
    intro done a w _ hr hy hS hno H
    refine ⟨fun h => (by rw [h] at hr; cases hr), fun j hj => ?_⟩
    by_cases hji : j = i
    · subst hji; exact hy.wpOp hi hS ⟨fun _ => hS, H⟩
    · have := ready_mono hj hji
      rw [H.1] at this
      cases this
  | succ n ih =>
    intro done a w hfree hr hy hS hno H
    refine ⟨fun h => (by rw [h] at hr; cases hr), fun j hj => ?_⟩
    by_cases hji : j = i
    · subst hji; exact hy.wpOp hi hS ⟨fun _ => hS, H⟩
    · have h1 := H.2 j (ready_mono hj hji)
      obtain ⟨hjun, oj, hoj, hall⟩ := mem_ready.1 hj
      have hnot : ∀ e ∈ oj.after, Region.binds md e = true → e.on ≠ i := fun e he hb heq => by
        have h1 := hall e he hb
        have h0 := (mem_ready.1 hr).1
        rw [heq] at h1
        rcases Nat.lt_or_ge i done.size with h' | h'
        · simp [h'] at h0 h1; rw [h0] at h1; cases h1
        · simp [Array.getElem?_eq_none h'] at h1
      have hjst : j ∉ st := fun hm => by
        have h2 := List.all_eq_true.1 hst j hm
        simp only [hoj] at h2
        obtain ⟨e, he, h3⟩ := Array.any_eq_true'.1 h2
        simp only [Bool.and_eq_true, beq_iff_eq] at h3
        exact hnot e he h3.1 h3.2
      have hno' : ∀ k ∈ st, (done.setIfInBounds j true).getD k true = false := fun k hk => by
        rw [set_ne (i := j) (show k ≠ j from fun e => hjst (by rw [← e]; exact hk))]; exact hno k hk
      have hno2 : ∀ k ∈ st, ((done.setIfInBounds i true).setIfInBounds j true).getD k true = false := fun k hk => by
        rw [set_ne (i := j) (show k ≠ j from fun e => hjst (by rw [← e]; exact hk)), set_ne (i := i) (show k ≠ i from fun e => hin (by rw [← e]; exact hk))]; exact hno k hk
      have h2 := wpOp_putIf hoj (hfree j oj hoj hji hjun hnot) (fun cs b => hsel i oi cs b hi) (fun cs b => hsel j oj cs b hoj) hQ hy h1
      have hfree' : ∀ k ok, ops[k]? = some ok → k ≠ i → (done.setIfInBounds j true).getD k true = false →
          (∀ e ∈ ok.after, Region.binds md e = true → e.on ≠ i) → oi.apart ops ok = true := fun k ok hk hki hun hno => by
        refine hfree k ok hk hki ?_ hno
        by_cases hjk : j = k
        · subst hjk; exact hjun
        · rw [getD_set_ne true hjk] at hun; exact hun
      refine wpOp_mono (fun a' w' h3 => ⟨fun _ => h3.2.1 hno2, ih (done.setIfInBounds j true) a' w' hfree' (ready_mono hr (Ne.symm hji)) h3.1 (h3.2.1 hno2) hno' ?_⟩) h2
      rw [Array.setIfInBounds_comm _ _ hji]
      exact h3.2.2
theorem wpAnyF_first' {i : Nat} {oi : Oper} {v : Value} (hi : ops[i]? = some oi) (hsel : ∀ (j : Nat) (o : Oper) cs b, ops[j]? = some o → o.op ≠ .select cs b)
    (hQ : ∀ c a w, Q (.panic c) (a.put oi.dst v) w → Q (.panic c) a w) (hin : i ∉ st) :
    ∀ (n : Nat) (done : Array Bool) (a : Act) (w : World),
      (∀ j oj, ops[j]? = some oj → j ≠ i → done.getD j true = false → (∀ e ∈ oj.after, Region.binds md e = true → e.on ≠ i) → oi.apart ops oj = true) →
      i ∈ Region.ready md ops done → YieldsIf P ops (fun _ => True) oi v a → heldF S st done w →
      wpAnyF P md ops Q S st n (done.setIfInBounds i true) (a.put oi.dst v) w → wpAnyF P md ops Q S st (n + 1) done a w := by
  intro n
  induction n with
  | zero =>
    intro done a w _ hr hy hS H
    refine ⟨fun h => (by rw [h] at hr; cases hr), fun j hj => ?_⟩
    by_cases hji : j = i
    · subst hji; exact hy.wpOp hi trivial ⟨fun hk => hS fun k hm => by rw [← set_ne (i := j) (show k ≠ j from fun e => hin (by rw [← e]; exact hm))]; exact hk k hm, H⟩
    · have := ready_mono hj hji
      rw [H.1] at this
      cases this
  | succ n ih =>
    intro done a w hfree hr hy hS H
    refine ⟨fun h => (by rw [h] at hr; cases hr), fun j hj => ?_⟩
    by_cases hji : j = i
    · subst hji; exact hy.wpOp hi trivial ⟨fun hk => hS fun k hm => by rw [← set_ne (i := j) (show k ≠ j from fun e => hin (by rw [← e]; exact hm))]; exact hk k hm, H⟩
    · have h1 := H.2 j (ready_mono hj hji)
      obtain ⟨hjun, oj, hoj, hall⟩ := mem_ready.1 hj
      have hnot : ∀ e ∈ oj.after, Region.binds md e = true → e.on ≠ i := fun e he hb heq => by
        have h1 := hall e he hb
        have h0 := (mem_ready.1 hr).1
        rw [heq] at h1
        rcases Nat.lt_or_ge i done.size with h' | h'
        · simp [h'] at h0 h1; rw [h0] at h1; cases h1
        · simp [Array.getElem?_eq_none h'] at h1
      have h2 := wpOp_putIf hoj (hfree j oj hoj hji hjun hnot) (fun cs b => hsel i oi cs b hi) (fun cs b => hsel j oj cs b hoj) hQ hy h1
      have hfree' : ∀ k ok, ops[k]? = some ok → k ≠ i → (done.setIfInBounds j true).getD k true = false →
          (∀ e ∈ ok.after, Region.binds md e = true → e.on ≠ i) → oi.apart ops ok = true := fun k ok hk hki hun hno => by
        refine hfree k ok hk hki ?_ hno
        by_cases hjk : j = k
        · subst hjk; exact hjun
        · rw [getD_set_ne true hjk] at hun; exact hun
      have hD : ∀ w', heldF S st ((done.setIfInBounds i true).setIfInBounds j true) w' → heldF S st (done.setIfInBounds j true) w' := fun w' h hk => h fun k hm => by
        rw [Array.setIfInBounds_comm _ _ (Ne.symm hji), set_ne (i := i) (show k ≠ i from fun e => hin (by rw [← e]; exact hm))]; exact hk k hm
      refine wpOp_mono (fun a' w' h3 => ⟨hD w' h3.2.1, ih (done.setIfInBounds j true) a' w' hfree' (ready_mono hr (Ne.symm hji)) h3.1 (hD w' h3.2.1) ?_⟩) h2
      rw [Array.setIfInBounds_comm _ _ hji]
      exact h3.2.2

/-- None of st has come up. -/
def noneSt (st : List Nat) (done : Array Bool) : Bool := st.all fun k => !done.getD k true
theorem noneSt_spec {done : Array Bool} (h : noneSt st done = true) : ∀ k ∈ st, done.getD k true = false := fun k hk => by
  have := List.all_eq_true.1 h k hk
  simpa using this
theorem wpAnyF_take {i : Nat} {oi : Oper} {v : Value} {n : Nat} {done : Array Bool} {a : Act} {w : World} (hi : ops[i]? = some oi)
    (hs : Region.noSelect ops = true) (hf : Region.free md ops done i = true) (hr : (Region.ready md ops done).contains i = true) (hst : (stWait md ops st i && !st.contains i && noneSt st done) = true)
    (hQ : ∀ c a w, Q (.panic c) (a.put oi.dst v) w → Q (.panic c) a w) (hy : YieldsIf P ops S oi v a) (hS : S w)
    (h : wpAnyF P md ops Q S st n (done.setIfInBounds i true) (a.put oi.dst v) w) : wpAnyF P md ops Q S st (n + 1) done a w := by
  simp only [Bool.and_eq_true] at hst
  exact wpAnyF_first hi (Region.noSelect_spec hs) hQ hst.1.1 (by simpa using hst.1.2) n done a w (Region.free_spec hi hf) (by simpa using hr) hy hS (noneSt_spec hst.2) h
/-- An operation that does not look at the world. -/
theorem wpAnyF_pure {i : Nat} {oi : Oper} {v : Value} {n : Nat} {done : Array Bool} {a : Act} {w : World} (hi : ops[i]? = some oi)
    (hs : Region.noSelect ops = true) (hf : Region.free md ops done i = true) (hr : (Region.ready md ops done).contains i = true) (hst : (!st.contains i) = true)
    (hQ : ∀ c a w, Q (.panic c) (a.put oi.dst v) w → Q (.panic c) a w) (hy : YieldsIf P ops (fun _ => True) oi v a) (hS : S w)
    (h : wpAnyF P md ops Q S st n (done.setIfInBounds i true) (a.put oi.dst v) w) : wpAnyF P md ops Q S st (n + 1) done a w :=
  wpAnyF_first' hi (Region.noSelect_spec hs) hQ (by simpa using hst) n done a w (Region.free_spec hi hf) (by simpa using hr) hy (fun _ => hS) h
/-- Only number i may come up; S is to be shown behind it. -/
theorem wpAnyF_one {i : Nat} {o : Oper} {n : Nat} {done : Array Bool} {a : Act} {w : World} (hr : Region.ready md ops done = [i]) (ho : ops[i]? = some o)
    (h : ∀ K' : Act → World → Prop, Shut (∀ a w, S w → (S w → wpAnyF P md ops Q S st n (done.setIfInBounds i true) a w) → K' a w) → if Region.wanted o (yielded ops a.tmps) = true then Oper.wp P o a w K' Q else K' (a.put o.dst undef) w) :
    wpAnyF P md ops Q S st (n + 1) done a w := by
  refine ⟨fun h0 => (by rw [hr] at h0; cases h0), fun j hj => ?_⟩
  rw [hr] at hj
  obtain rfl : j = i := by simpa using hj
  exact wpOp_step ho (fun K' hK => h K' (fun a w hS hW => hK a w ⟨fun _ => hS, hW hS⟩))
/-- Only number i may come up, and one of st has come up, it or one before it. -/
theorem wpAnyF_st {i : Nat} {o : Oper} {n : Nat} {done : Array Bool} {a : Act} {w : World} (hr : Region.ready md ops done = [i]) (hi : noneSt st (done.setIfInBounds i true) = false) (ho : ops[i]? = some o)
    (h : ∀ K' : Act → World → Prop, Shut (∀ a w, wpAnyF P md ops Q S st n (done.setIfInBounds i true) a w → K' a w) → if Region.wanted o (yielded ops a.tmps) = true then Oper.wp P o a w K' Q else K' (a.put o.dst undef) w) :
    wpAnyF P md ops Q S st (n + 1) done a w := by
  refine ⟨fun h0 => (by rw [hr] at h0; cases h0), fun j hj => ?_⟩
  rw [hr] at hj
  obtain rfl : j = i := by simpa using hj
  refine wpOp_step ho (fun K' hK => h K' (fun a w hW => hK a w ⟨fun hn => ?_, hW⟩))
  have : noneSt st (done.setIfInBounds j true) = true := List.all_eq_true.2 fun k hk => by rw [hn k hk]; rfl
  rw [hi] at this; cases this
theorem wpAnyF_done {done : Array Bool} {a : Act} {w : World} (hr : Region.ready md ops done = []) (h : Q .normal a w) : ∀ n, wpAnyF P md ops Q S st n done a w
  | 0 => ⟨hr, h⟩
  | _ + 1 => ⟨fun _ => h, by rw [hr]; simp⟩
theorem wp_region_F (S : World → Prop) (st : List Nat) {id : Nat} {a : Act} {w : World} (hm : P.follows .mixedOrders = true) (hS : S w.drew)
    (h : S w.drew → wpAnyF P .any ops Q S st ops.size (Array.replicate ops.size false) a w.drew) : (Code.region id ops true).wp P Q a w :=
  wp_region_any hm (wpAny_of_F _ _ _ _ (h hS))
end
end Go.Proofs.Ytiaeeclmlchpoaa

set_option linter.unusedVariables false
set_option linter.unusedSimpArgs false
namespace Go.Proofs.Ytiaeeclmlchpoaa
open Go.RowKit

theorem bkin_c (q c : Int) (w : World) :
    Calls Try.prog 48 #[.int .i64 q, .int .i64 c] w fun e w' => e = .returned (.bool (kinB q c)) ∧ w = w' := by
  by_cases h1 : 3 ≤ q
  · by_cases h2 : q ≤ 999
    · by_cases h3 : q % 2 = 1
      · have h3b : (q % 2 == 1) = true := by simpa using h3
        by_cases h4 : 1 ≤ c
        · by_cases h5 : c ≤ 999999
          · have hr : kinB q c = (c % 2 == 1) := by unfold kinB; rw [Bool.eq_iff_iff]; simp [h1, h2, h3, h4, h5]
            rw [hr]
            clear hr h3
            go_enter Try.func48, Try.ntmps48
            go_wp2
            go_ret
            exact ⟨rfl, rfl⟩
          · have hr : kinB q c = false := by unfold kinB; simp [h5]
            rw [hr]
            clear hr h3
            go_enter Try.func48, Try.ntmps48
            go_wp2
            go_ret
            exact ⟨rfl, rfl⟩
        · have hr : kinB q c = false := by unfold kinB; simp [h4]
          rw [hr]
          clear hr h3
          go_enter Try.func48, Try.ntmps48
          go_wp2
          go_ret
          exact ⟨rfl, rfl⟩
      · have h3b : (q % 2 == 1) = false := by simpa using h3
        have hr : kinB q c = false := by unfold kinB; simp [h3]
        rw [hr]
        clear hr h3
        go_enter Try.func48, Try.ntmps48
        go_wp2
        go_ret
        exact ⟨rfl, rfl⟩
    · have hr : kinB q c = false := by unfold kinB; simp [h2]
      rw [hr]
      clear hr
      go_enter Try.func48, Try.ntmps48
      go_wp2
      go_ret
      exact ⟨rfl, rfl⟩
  · have hr : kinB q c = false := by unfold kinB; simp [h1]
    rw [hr]
    clear hr
    go_enter Try.func48, Try.ntmps48
    go_wp2
    go_ret
    exact ⟨rfl, rfl⟩


/-- Cell o of block b holds a natural number: this slice, which reads as n. -/
structure WX (W : World) (b o : Nat) (A : Option Addr) (m c : Nat) (n : Nat) : Prop where
  ce : W.cell? ⟨b, o, none⟩ = some (.slice A m c)
  fr : W.frozen? ⟨b, o, none⟩ = false
  lt : b < W.heap.size
  iw : Hid (IsW W (.slice A m c) n)
section
variable {W w1 : World} {b o : Nat} {A : Option Addr} {m c n : Nat}
theorem WX.keep (h : WX W b o A m c n) (hb : Below W.heap.size W w1) : WX w1 b o A m c n :=
  ⟨kcell hb h.lt h.ce, kfroz hb h.lt h.fr, Nat.lt_of_lt_of_le h.lt hb.size, h.iw.out.below hb⟩
theorem WX.keepB {B : Nat} (h : WX W b o A m c n) (hb : Below B W w1) (hlt : b < B) (hw : IsW w1 (.slice A m c) n) : WX w1 b o A m c n :=
  ⟨kcellB hb hlt h.ce, kfrozB hb hlt h.fr, Nat.lt_of_lt_of_le h.lt hb.size, hw⟩
theorem WX.drew (h : WX W b o A m c n) : WX W.drew b o A m c n := h.keep (below_drew (Below.refl _ _))
theorem IsU.set {B : Nat} {k : IntKind} {w : World} {v : Value} {n : Nat} (h : IsU B k w v n) {b o : Nat} {u x : Value} (hp : w.cell? ⟨b, o, none⟩ = some u) (hu : ∀ n, u ≠ .int k n) : IsU B k (w.setCell ⟨b, o, none⟩ x) v n := by
  obtain ⟨A, c, e, hs⟩ := h
  exact ⟨A, c, e, hs.set hp hu⟩
theorem WX.far {b' o' : Nat} {A' : Option Addr} {m' c' n' : Nat} {x : Value} (h : WX W b o A m c n) (h' : WX W b' o' A' m' c' n') (hne : b' ≠ b ∨ o' ≠ o) : WX (W.setCell ⟨b', o', none⟩ x) b o A m c n :=
  ⟨by rw [World.cell?_setCell_other _ _ _ _ (by intro e; injection e with e1 e2; rcases hne with hne | hne <;> exact hne (by first | exact e1 | exact e2 | exact e1.symm | exact e2.symm))]; exact h.ce, by rw [World.frozen?_setCell]; exact h.fr, by simpa [World.setCell] using h.lt, h.iw.out.set h'.ce (by simp)⟩
theorem WX.store {A' : Option Addr} {m' c' n' : Nat} (h : WX W b o A m c n) (hw : IsW W (.slice A' m' c') n') : WX (W.setCell ⟨b, o, none⟩ (.slice A' m' c')) b o A' m' c' n' :=
  ⟨World.cell?_setCell_same' _ _ _ (by rw [h.ce]; rfl), by rw [World.frozen?_setCell]; exact h.fr, by simpa [World.setCell] using h.lt, hw.set h.ce (by simp)⟩
end
def CW (W : World) (b o n : Nat) : Prop := ∃ A m c, WX W b o A m c n
/-- The sides at block g. -/
def SD (W : World) (g q n t pq pn pt : Nat) : Prop := CW W g 0 q ∧ CW W g 1 n ∧ CW W g 2 t ∧ CW W g 3 pq ∧ CW W g 4 pn ∧ CW W g 5 pt
theorem IsW.zero (w : World) : IsW w (.slice none 0 0) 0 := ⟨none, 0, by rw [digs_zero]; rfl, by rw [digs_zero]; exact ⟨Rd.nil, by simp, by omega⟩⟩
theorem CW.keep {W w1 : World} {b o n : Nat} (h : CW W b o n) (hb : Below W.heap.size W w1) : CW w1 b o n := by
  obtain ⟨A, m, c, h⟩ := h
  exact ⟨A, m, c, h.keep hb⟩
theorem SD.keep {W w1 : World} {g q n t pq pn pt : Nat} (h : SD W g q n t pq pn pt) (hb : Below W.heap.size W w1) : SD w1 g q n t pq pn pt :=
  ⟨h.1.keep hb, h.2.1.keep hb, h.2.2.1.keep hb, h.2.2.2.1.keep hb, h.2.2.2.2.1.keep hb, h.2.2.2.2.2.keep hb⟩

set_option maxRecDepth 100000 in
set_option maxHeartbeats 2000000 in
theorem begin_c (q c : Int) (n : Nat) (v : Value) (w : World) (h : IsW w v n) (hq : W64 q) (hq1 : q < 9223372036854775808) (hc : W64 c) (hc1 : c < 9223372036854775808) (sx : (digs B64 n).length ≤ 900000000) :
    Calls Try.prog 40 #[.int .i64 q, .int .i64 c, v] w fun e w' => ∃ g, e = .returned (.pointer (some ⟨g, 0, none⟩)) ∧ SD w' g q.toNat n (q.toNat * n + c.toNat) 1 1 1 ∧ Below w.heap.size w w' ∧ w.heap.size ≤ g := by
  obtain ⟨A, m, k, rfl, H⟩ := h.form
  clear h
  have e1 : IntKind.u64.wrap q = q := wrap64 hq.1 hq.2
  have e2 : IntKind.u64.wrap c = c := wrap64 hc.1 hc.2
  have HQ := Lib.hid hq
  have HC := Lib.hid hc
  go_enter Try.func40, Try.ntmps40
  go_wp2_with fail
  (with_reducible refine (wOf_c q HQ.out _).mono ?_)
  rintro e w1 ⟨v, rfl, hv, hb1⟩
  obtain ⟨A1, m1, k1, rfl, T1⟩ := hv.form
  clear hv
  go_wp2_with fail
  generalize hW : w1.alloc (Obj.cells #[Value.slice A1 m1 k1, Value.slice A m k, Value.slice none 0 0, Value.slice none 0 0, Value.slice none 0 0, Value.slice none 0 0] 101) = W0
  have hbW : Below w1.heap.size w1 W0 := by subst hW; exact below_alloc (Below.refl _ _) _
  have X0 : WX W0 w1.heap.size 0 A1 m1 k1 (q.toNat) := ⟨by subst hW; simp [go_sem], by subst hW; simp [go_sem], by subst hW; simp, T1.out.below hbW⟩
  have X1 : WX W0 w1.heap.size 1 A m k n := ⟨by subst hW; simp [go_sem], by subst hW; simp [go_sem], by subst hW; simp, (H.out.below hb1).below hbW⟩
  have X2 : WX W0 w1.heap.size 2 none 0 0 0 := ⟨by subst hW; simp [go_sem], by subst hW; simp [go_sem], by subst hW; simp, IsW.zero _⟩
  have X3 : WX W0 w1.heap.size 3 none 0 0 0 := ⟨by subst hW; simp [go_sem], by subst hW; simp [go_sem], by subst hW; simp, IsW.zero _⟩
  have X4 : WX W0 w1.heap.size 4 none 0 0 0 := ⟨by subst hW; simp [go_sem], by subst hW; simp [go_sem], by subst hW; simp, IsW.zero _⟩
  have X5 : WX W0 w1.heap.size 5 none 0 0 0 := ⟨by subst hW; simp [go_sem], by subst hW; simp [go_sem], by subst hW; simp, IsW.zero _⟩
  have HB := below_step hb1 hbW
  have hg : w.heap.size ≤ w1.heap.size := hb1.size
  clear hW hbW hb1 T1 H
  generalize w1.heap.size = g at *
  have L1 : (digs B64 q.toNat).length ≤ 1 := small_len (by omega)
  have L2 : (digs B64 (q.toNat * n)).length ≤ 1000000000 := by have := nlen_mul B64two q.toNat n; omega
  have L3 : (digs B64 c.toNat).length ≤ 1 := small_len (by omega)
  (with_reducible refine (Times_c q.toNat n _ _ _ X0.iw.out X1.iw.out (by omega) (by omega)).mono ?_)
  rintro e w2 ⟨v, rfl, hv, hb2⟩
  obtain ⟨A2, m2, k2, rfl, T2⟩ := hv.form; clear hv
  replace X0 := X0.keep hb2; replace X1 := X1.keep hb2; replace X2 := X2.keep hb2; replace X3 := X3.keep hb2; replace X4 := X4.keep hb2; replace X5 := X5.keep hb2; replace HB := below_step HB hb2
  clear hb2
  go_wp2_with fail
  (with_reducible refine (wOf_c c HC.out _).mono ?_)
  rintro e w3 ⟨v, rfl, hv, hb3⟩
  obtain ⟨A3, m3, k3, rfl, T3⟩ := hv.form; clear hv
  replace X0 := X0.keep hb3; replace X1 := X1.keep hb3; replace X2 := X2.keep hb3; replace X3 := X3.keep hb3; replace X4 := X4.keep hb3; replace X5 := X5.keep hb3; replace HB := below_step HB hb3
  replace T2 := Lib.hid (T2.out.below hb3)
  clear hb3
  go_wp2_with fail
  (with_reducible refine (Plus_c (q.toNat * n) c.toNat _ _ _ T2.out T3.out L2 (by omega)).mono ?_)
  rintro e w4 ⟨v, rfl, hv, hb4⟩
  obtain ⟨A4, m4, k4, rfl, T4⟩ := hv.form; clear hv
  replace X0 := X0.keep hb4; replace X1 := X1.keep hb4; replace X2 := X2.keep hb4; replace X3 := X3.keep hb4; replace X4 := X4.keep hb4; replace X5 := X5.keep hb4; replace HB := below_step HB hb4
  clear hb4 T2 T3
  have c2 := X2.ce; have f2 := X2.fr; have l2 := X2.lt
  go_wp2_with fail
  have Y0 := X0.far (x := .slice A4 m4 k4) X2 (.inr (by omega)); have Y1 := X1.far (x := .slice A4 m4 k4) X2 (.inr (by omega)); have Y3 := X3.far (x := .slice A4 m4 k4) X2 (.inr (by omega)); have Y4 := X4.far (x := .slice A4 m4 k4) X2 (.inr (by omega)); have Y5 := X5.far (x := .slice A4 m4 k4) X2 (.inr (by omega)); have Y2 := X2.store (A' := A4) (m' := m4) (c' := k4) T4.out
  replace HB := below_set HB hg (b := g) (off := 2) (.slice A4 m4 k4)
  clear X0 X1 X2 X3 X4 X5 T4 c2 f2 l2
  generalize hW5 : w4.setCell ⟨g, 2, none⟩ (.slice A4 m4 k4) = w5 at *
  clear hW5
  (with_reducible refine (w1_c _).mono ?_)
  rintro e w6 ⟨v, rfl, hv, hb6⟩
  obtain ⟨A6, m6, k6, rfl, T6⟩ := hv.form; clear hv
  replace Y0 := Y0.keep hb6; replace Y1 := Y1.keep hb6; replace Y2 := Y2.keep hb6; replace Y3 := Y3.keep hb6; replace Y4 := Y4.keep hb6; replace Y5 := Y5.keep hb6; replace HB := below_step HB hb6
  clear hb6
  go_wp2_with fail
  (with_reducible refine (w1_c _).mono ?_)
  rintro e w7 ⟨v, rfl, hv, hb7⟩
  obtain ⟨A7, m7, k7, rfl, T7⟩ := hv.form; clear hv
  replace Y0 := Y0.keep hb7; replace Y1 := Y1.keep hb7; replace Y2 := Y2.keep hb7; replace Y3 := Y3.keep hb7; replace Y4 := Y4.keep hb7; replace Y5 := Y5.keep hb7; replace HB := below_step HB hb7
  replace T6 := Lib.hid (T6.out.below hb7)
  clear hb7
  go_wp2_with fail
  (with_reducible refine (w1_c _).mono ?_)
  rintro e w8 ⟨v, rfl, hv, hb8⟩
  obtain ⟨A8, m8, k8, rfl, T8⟩ := hv.form; clear hv
  replace Y0 := Y0.keep hb8; replace Y1 := Y1.keep hb8; replace Y2 := Y2.keep hb8; replace Y3 := Y3.keep hb8; replace Y4 := Y4.keep hb8; replace Y5 := Y5.keep hb8; replace HB := below_step HB hb8
  replace T6 := Lib.hid (T6.out.below hb8)
  replace T7 := Lib.hid (T7.out.below hb8)
  clear hb8
  have c3 := Y3.ce; have f3 := Y3.fr; have l3 := Y3.lt; have c4 := Y4.ce; have f4 := Y4.fr; have c5 := Y5.ce; have f5 := Y5.fr
  go_wp2
  go_ret
  have Z0 := Y0.far (x := .slice A6 m6 k6) Y3 (.inr (by omega)); have Z1 := Y1.far (x := .slice A6 m6 k6) Y3 (.inr (by omega)); have Z2 := Y2.far (x := .slice A6 m6 k6) Y3 (.inr (by omega)); have Z4 := Y4.far (x := .slice A6 m6 k6) Y3 (.inr (by omega)); have Z5 := Y5.far (x := .slice A6 m6 k6) Y3 (.inr (by omega)); have Z3 := Y3.store (A' := A6) (m' := m6) (c' := k6) T6.out
  have U7 := T7.out.set (x := .slice A6 m6 k6) Y3.ce (by simp)
  have U8 := T8.out.set (x := .slice A6 m6 k6) Y3.ce (by simp)
  have V0 := Z0.far (x := .slice A7 m7 k7) Z4 (.inr (by omega)); have V1 := Z1.far (x := .slice A7 m7 k7) Z4 (.inr (by omega)); have V2 := Z2.far (x := .slice A7 m7 k7) Z4 (.inr (by omega)); have V3 := Z3.far (x := .slice A7 m7 k7) Z4 (.inr (by omega)); have V5 := Z5.far (x := .slice A7 m7 k7) Z4 (.inr (by omega)); have V4 := Z4.store (A' := A7) (m' := m7) (c' := k7) U7
  have U9 := U8.set (x := .slice A7 m7 k7) Z4.ce (by simp)
  have U0 := V0.far (x := .slice A8 m8 k8) V5 (.inr (by omega)); have U1 := V1.far (x := .slice A8 m8 k8) V5 (.inr (by omega)); have U2 := V2.far (x := .slice A8 m8 k8) V5 (.inr (by omega)); have U3 := V3.far (x := .slice A8 m8 k8) V5 (.inr (by omega)); have U4 := V4.far (x := .slice A8 m8 k8) V5 (.inr (by omega)); have U5 := V5.store (A' := A8) (m' := m8) (c' := k8) U9
  exact ⟨g, rfl, ⟨⟨_, _, _, U0⟩, ⟨_, _, _, U1⟩, ⟨_, _, _, U2⟩, ⟨_, _, _, U3⟩, ⟨_, _, _, U4⟩, ⟨_, _, _, U5⟩⟩, below_set (below_set (below_set HB hg _) hg _) hg _, hg⟩
end Go.Proofs.Ytiaeeclmlchpoaa

set_option linter.unusedVariables false
set_option linter.unusedSimpArgs false
namespace Go.Proofs.Ytiaeeclmlchpoaa
open Go.RowKit

theorem below_step2 {B : Nat} {w W W' : World} (h : Below B w W) (h' : Below W.heap.size W W') (hb : B ≤ W.heap.size := by omega) : Below B w W' := h.trans (h'.mono hb)
theorem below_setB {B : Nat} {w W : World} (h : Below B w W) {b off : Nat} (hb : B ≤ b) (u : Value) : Below B w (W.setCell ⟨b, off, none⟩ u) := h.setCell (p := ⟨b, off, none⟩) hb u
set_option maxRecDepth 100000 in
set_option maxHeartbeats 4000000 in
theorem raise_c (g q n t pq pn pt a B : Nat) (w0 w : World) (h : SD w g q n t pq pn pt) (HB : Below B w0 w) (hg : B ≤ g) (ha : a ≤ 1000000000) (sq : (digs B64 q).length * a + 1 ≤ 1000000000) (sn : (digs B64 n).length * a + 1 ≤ 1000000000) (st : (digs B64 t).length * a + 1 ≤ 1000000000) :
    Calls Try.prog 43 #[.pointer (some ⟨g, 0, none⟩), .int .i64 a] w fun e w' => e = .returned (.pointer (some ⟨g, 0, none⟩)) ∧ SD w' g q n t (q ^ a) (n ^ a) (t ^ a) ∧ Below B w0 w' := by
  obtain ⟨⟨B0, b0, d0, X0⟩, ⟨B1, b1, d1, X1⟩, ⟨B2, b2, d2, X2⟩, ⟨B3, b3, d3, X3⟩, ⟨B4, b4, d4, X4⟩, ⟨B5, b5, d5, X5⟩⟩ := h
  have hlt := X0.lt
  go_enter Try.func43, Try.ntmps43
  go_wp2_with fail
  replace HB := below_drew HB
  replace X0 := X0.drew; replace X1 := X1.drew; replace X2 := X2.drew; replace X3 := X3.drew; replace X4 := X4.drew; replace X5 := X5.drew
  have hlt := X0.lt
  generalize hWd : w.drew = wd at *
  refine wp_region_F (fun w' => w'.cell? ⟨g, 0, none⟩ = some (.slice B0 b0 d0) ∧ w'.cell? ⟨g, 1, none⟩ = some (.slice B1 b1 d1) ∧ w'.cell? ⟨g, 2, none⟩ = some (.slice B2 b2 d2)) [23, 26, 29] (by kernel_rfl) (by rw [hWd]; exact ⟨X0.ce, X1.ce, X2.ce⟩) (fun hHeld => ?_)
  rw [hWd] at hHeld ⊢
  refine wpAnyF_take (i := 0) (oi := { dst := some 5, op := Go.Op.move (Go.Operand.tmp 0), type := 69, pos := "bound.go:36", after := #[], guard := none }) (v := ?_) rfl (by kernel_rfl) (by kernel_rfl) (by kernel_rfl) (by kernel_rfl) (fun _ _ _ h => h) (Or.inl ⟨by rfl, ?_⟩) hHeld ?_
  rotate_left
  · intro w_ hSw_; (try dsimp only at hSw_); go_simp; (try with_reducible rfl)
  (try simp only [Act.put, List.setIfInBounds_toArray, List.set_cons_zero, List.set_cons_succ])
  refine wpAnyF_pure (i := 1) (oi := { dst := some 6, op := Go.Op.move (Go.Operand.tmp 0), type := 69, pos := "bound.go:36", after := #[{ on := 23, ground := Go.Ground.gcOnly Go.Departure.lateStores }], guard := none }) (v := ?_) rfl (by kernel_rfl) (by kernel_rfl) (by kernel_rfl) (by kernel_rfl) (fun _ _ _ h => h) (Or.inl ⟨by rfl, ?_⟩) hHeld ?_
  rotate_left
  · intro w_ hSw_; (try dsimp only at hSw_); go_simp; (try with_reducible rfl)
  (try simp only [Act.put, List.setIfInBounds_toArray, List.set_cons_zero, List.set_cons_succ])
  refine wpAnyF_pure (i := 2) (oi := { dst := some 7, op := Go.Op.move (Go.Operand.tmp 0), type := 69, pos := "bound.go:36", after := #[{ on := 26, ground := Go.Ground.gcOnly Go.Departure.lateStores }], guard := none }) (v := ?_) rfl (by kernel_rfl) (by kernel_rfl) (by kernel_rfl) (by kernel_rfl) (fun _ _ _ h => h) (Or.inl ⟨by rfl, ?_⟩) hHeld ?_
  rotate_left
  · intro w_ hSw_; (try dsimp only at hSw_); go_simp; (try with_reducible rfl)
  (try simp only [Act.put, List.setIfInBounds_toArray, List.set_cons_zero, List.set_cons_succ])
  refine wpAnyF_take (i := 3) (oi := { dst := some 8, op := Go.Op.move (Go.Operand.tmp 0), type := 69, pos := "bound.go:36", after := #[], guard := none }) (v := ?_) rfl (by kernel_rfl) (by kernel_rfl) (by kernel_rfl) (by kernel_rfl) (fun _ _ _ h => h) (Or.inl ⟨by rfl, ?_⟩) hHeld ?_
  rotate_left
  · intro w_ hSw_; (try dsimp only at hSw_); go_simp; (try with_reducible rfl)
  (try simp only [Act.put, List.setIfInBounds_toArray, List.set_cons_zero, List.set_cons_succ])
  refine wpAnyF_take (i := 4) (oi := { dst := some 9, op := Go.Op.nilCheck (Go.Operand.tmp 8), type := 0, pos := "bound.go:36", after := #[{ on := 3, ground := Go.Ground.data }], guard := none }) (v := ?_) rfl (by kernel_rfl) (by kernel_rfl) (by kernel_rfl) (by kernel_rfl) (fun _ _ _ h => h) (Or.inl ⟨by rfl, ?_⟩) hHeld ?_
  rotate_left
  · intro w_ hSw_; (try dsimp only at hSw_); go_simp; (try with_reducible rfl)
  (try simp only [Act.put, List.setIfInBounds_toArray, List.set_cons_zero, List.set_cons_succ])
  refine wpAnyF_take (i := 5) (oi := { dst := some 10, op := Go.Op.fieldAddr 101 (Go.Operand.tmp 9) 0, type := 0, pos := "bound.go:36", after := #[{ on := 4, ground := Go.Ground.data }], guard := none }) (v := ?_) rfl (by kernel_rfl) (by kernel_rfl) (by kernel_rfl) (by kernel_rfl) (fun _ _ _ h => h) (Or.inl ⟨by rfl, ?_⟩) hHeld ?_
  rotate_left
  · intro w_ hSw_; (try dsimp only at hSw_); go_simp; (try with_reducible rfl)
  (try simp only [Act.put, List.setIfInBounds_toArray, List.set_cons_zero, List.set_cons_succ])
  refine wpAnyF_take (i := 6) (oi := { dst := some 11, op := Go.Op.load 72 (Go.Operand.tmp 10), type := 72, pos := "bound.go:36", after := #[{ on := 5, ground := Go.Ground.data }], guard := none }) (v := ?_) rfl (by kernel_rfl) (by kernel_rfl) (by kernel_rfl) (by kernel_rfl) (fun _ _ _ h => h) (Or.inl ⟨by rfl, ?_⟩) hHeld ?_
  rotate_left
  · intro w_ hSw_; (try dsimp only at hSw_); go_simp; (try with_reducible rfl)
  (try simp only [Act.put, List.setIfInBounds_toArray, List.set_cons_zero, List.set_cons_succ])
  refine wpAnyF_take (i := 7) (oi := { dst := some 12, op := Go.Op.move (Go.Operand.tmp 1), type := 3, pos := "bound.go:36", after := #[], guard := none }) (v := ?_) rfl (by kernel_rfl) (by kernel_rfl) (by kernel_rfl) (by kernel_rfl) (fun _ _ _ h => h) (Or.inl ⟨by rfl, ?_⟩) hHeld ?_
  rotate_left
  · intro w_ hSw_; (try dsimp only at hSw_); go_simp; (try with_reducible rfl)
  (try simp only [Act.put, List.setIfInBounds_toArray, List.set_cons_zero, List.set_cons_succ])
  refine wpAnyF_pure (i := 9) (oi := { dst := some 14, op := Go.Op.move (Go.Operand.tmp 0), type := 69, pos := "bound.go:36", after := #[], guard := none }) (v := ?_) rfl (by kernel_rfl) (by kernel_rfl) (by kernel_rfl) (by kernel_rfl) (fun _ _ _ h => h) (Or.inl ⟨by rfl, ?_⟩) hHeld ?_
  rotate_left
  · intro w_ hSw_; (try dsimp only at hSw_); go_simp; (try with_reducible rfl)
  (try simp only [Act.put, List.setIfInBounds_toArray, List.set_cons_zero, List.set_cons_succ])
  refine wpAnyF_pure (i := 10) (oi := { dst := some 15, op := Go.Op.nilCheck (Go.Operand.tmp 14), type := 0, pos := "bound.go:36", after := #[{ on := 9, ground := Go.Ground.data }], guard := none }) (v := ?_) rfl (by kernel_rfl) (by kernel_rfl) (by kernel_rfl) (by kernel_rfl) (fun _ _ _ h => h) (Or.inl ⟨by rfl, ?_⟩) hHeld ?_
  rotate_left
  · intro w_ hSw_; (try dsimp only at hSw_); go_simp; (try with_reducible rfl)
  (try simp only [Act.put, List.setIfInBounds_toArray, List.set_cons_zero, List.set_cons_succ])
  refine wpAnyF_pure (i := 11) (oi := { dst := some 16, op := Go.Op.fieldAddr 101 (Go.Operand.tmp 15) 1, type := 0, pos := "bound.go:36", after := #[{ on := 10, ground := Go.Ground.data }], guard := none }) (v := ?_) rfl (by kernel_rfl) (by kernel_rfl) (by kernel_rfl) (by kernel_rfl) (fun _ _ _ h => h) (Or.inl ⟨by rfl, ?_⟩) hHeld ?_
  rotate_left
  · intro w_ hSw_; (try dsimp only at hSw_); go_simp; (try with_reducible rfl)
  (try simp only [Act.put, List.setIfInBounds_toArray, List.set_cons_zero, List.set_cons_succ])
  refine wpAnyF_take (i := 12) (oi := { dst := some 17, op := Go.Op.load 72 (Go.Operand.tmp 16), type := 72, pos := "bound.go:36", after := #[{ on := 11, ground := Go.Ground.data }], guard := none }) (v := ?_) rfl (by kernel_rfl) (by kernel_rfl) (by kernel_rfl) (by kernel_rfl) (fun _ _ _ h => h) (Or.inl ⟨by rfl, ?_⟩) hHeld ?_
  rotate_left
  · intro w_ hSw_; (try dsimp only at hSw_); go_simp; (try with_reducible rfl)
  (try simp only [Act.put, List.setIfInBounds_toArray, List.set_cons_zero, List.set_cons_succ])
  refine wpAnyF_pure (i := 13) (oi := { dst := some 18, op := Go.Op.move (Go.Operand.tmp 1), type := 3, pos := "bound.go:36", after := #[], guard := none }) (v := ?_) rfl (by kernel_rfl) (by kernel_rfl) (by kernel_rfl) (by kernel_rfl) (fun _ _ _ h => h) (Or.inl ⟨by rfl, ?_⟩) hHeld ?_
  rotate_left
  · intro w_ hSw_; (try dsimp only at hSw_); go_simp; (try with_reducible rfl)
  (try simp only [Act.put, List.setIfInBounds_toArray, List.set_cons_zero, List.set_cons_succ])
  refine wpAnyF_pure (i := 15) (oi := { dst := some 20, op := Go.Op.move (Go.Operand.tmp 0), type := 69, pos := "bound.go:36", after := #[], guard := none }) (v := ?_) rfl (by kernel_rfl) (by kernel_rfl) (by kernel_rfl) (by kernel_rfl) (fun _ _ _ h => h) (Or.inl ⟨by rfl, ?_⟩) hHeld ?_
  rotate_left
  · intro w_ hSw_; (try dsimp only at hSw_); go_simp; (try with_reducible rfl)
  (try simp only [Act.put, List.setIfInBounds_toArray, List.set_cons_zero, List.set_cons_succ])
  refine wpAnyF_pure (i := 16) (oi := { dst := some 21, op := Go.Op.nilCheck (Go.Operand.tmp 20), type := 0, pos := "bound.go:36", after := #[{ on := 15, ground := Go.Ground.data }], guard := none }) (v := ?_) rfl (by kernel_rfl) (by kernel_rfl) (by kernel_rfl) (by kernel_rfl) (fun _ _ _ h => h) (Or.inl ⟨by rfl, ?_⟩) hHeld ?_
  rotate_left
  · intro w_ hSw_; (try dsimp only at hSw_); go_simp; (try with_reducible rfl)
  (try simp only [Act.put, List.setIfInBounds_toArray, List.set_cons_zero, List.set_cons_succ])
  refine wpAnyF_pure (i := 17) (oi := { dst := some 22, op := Go.Op.fieldAddr 101 (Go.Operand.tmp 21) 2, type := 0, pos := "bound.go:36", after := #[{ on := 16, ground := Go.Ground.data }], guard := none }) (v := ?_) rfl (by kernel_rfl) (by kernel_rfl) (by kernel_rfl) (by kernel_rfl) (fun _ _ _ h => h) (Or.inl ⟨by rfl, ?_⟩) hHeld ?_
  rotate_left
  · intro w_ hSw_; (try dsimp only at hSw_); go_simp; (try with_reducible rfl)
  (try simp only [Act.put, List.setIfInBounds_toArray, List.set_cons_zero, List.set_cons_succ])
  refine wpAnyF_take (i := 18) (oi := { dst := some 23, op := Go.Op.load 72 (Go.Operand.tmp 22), type := 72, pos := "bound.go:36", after := #[{ on := 17, ground := Go.Ground.data }], guard := none }) (v := ?_) rfl (by kernel_rfl) (by kernel_rfl) (by kernel_rfl) (by kernel_rfl) (fun _ _ _ h => h) (Or.inl ⟨by rfl, ?_⟩) hHeld ?_
  rotate_left
  · intro w_ hSw_; (try dsimp only at hSw_); go_simp; (try with_reducible rfl)
  (try simp only [Act.put, List.setIfInBounds_toArray, List.set_cons_zero, List.set_cons_succ])
  refine wpAnyF_pure (i := 19) (oi := { dst := some 24, op := Go.Op.move (Go.Operand.tmp 1), type := 3, pos := "bound.go:36", after := #[], guard := none }) (v := ?_) rfl (by kernel_rfl) (by kernel_rfl) (by kernel_rfl) (by kernel_rfl) (fun _ _ _ h => h) (Or.inl ⟨by rfl, ?_⟩) hHeld ?_
  rotate_left
  · intro w_ hSw_; (try dsimp only at hSw_); go_simp; (try with_reducible rfl)
  (try simp only [Act.put, List.setIfInBounds_toArray, List.set_cons_zero, List.set_cons_succ])
  refine wpAnyF_one (i := 8) (by kernel_rfl) rfl (fun K hK => ?_)
  go_simp
  (go_at_call 71; (with_reducible refine (wPower_c q a _ _ X0.iw.out ha sq).mono ?_); rintro e w1 ⟨v, rfl, hv, hb1⟩; obtain ⟨A6, m6, k6, rfl, T6⟩ := hv.form; clear hv; replace HB := below_step2 HB hb1 (by have := X0.lt; omega); replace X0 := X0.keep hb1; replace X1 := X1.keep hb1; replace X2 := X2.keep hb1; replace X3 := X3.keep hb1; replace X4 := X4.keep hb1; replace X5 := X5.keep hb1; clear hb1)
  refine hK.out _ _ (by exact ⟨X0.ce, X1.ce, X2.ce⟩) (fun hHeld => ?_)
  clear hK K
  (try simp only [Act.put, List.setIfInBounds_toArray, List.set_cons_zero, List.set_cons_succ])
  refine wpAnyF_one (i := 14) (by kernel_rfl) rfl (fun K hK => ?_)
  go_simp
  (go_at_call 71; (with_reducible refine (wPower_c n a _ _ X1.iw.out ha sn).mono ?_); rintro e w2 ⟨v, rfl, hv, hb2⟩; obtain ⟨A7, m7, k7, rfl, T7⟩ := hv.form; clear hv; replace HB := below_step2 HB hb2 (by have := X0.lt; omega); replace X0 := X0.keep hb2; replace X1 := X1.keep hb2; replace X2 := X2.keep hb2; replace X3 := X3.keep hb2; replace X4 := X4.keep hb2; replace X5 := X5.keep hb2; replace T6 := Lib.hid (T6.out.below hb2); clear hb2)
  refine hK.out _ _ (by exact ⟨X0.ce, X1.ce, X2.ce⟩) (fun hHeld => ?_)
  clear hK K
  (try simp only [Act.put, List.setIfInBounds_toArray, List.set_cons_zero, List.set_cons_succ])
  refine wpAnyF_one (i := 20) (by kernel_rfl) rfl (fun K hK => ?_)
  go_simp
  (go_at_call 71; (with_reducible refine (wPower_c t a _ _ X2.iw.out ha st).mono ?_); rintro e w3 ⟨v, rfl, hv, hb3⟩; obtain ⟨A8, m8, k8, rfl, T8⟩ := hv.form; clear hv; replace HB := below_step2 HB hb3 (by have := X0.lt; omega); replace X0 := X0.keep hb3; replace X1 := X1.keep hb3; replace X2 := X2.keep hb3; replace X3 := X3.keep hb3; replace X4 := X4.keep hb3; replace X5 := X5.keep hb3; replace T6 := Lib.hid (T6.out.below hb3); replace T7 := Lib.hid (T7.out.below hb3); clear hb3; have c3 := X3.ce; have f3 := X3.fr; have l3 := X3.lt; have c4 := X4.ce; have f4 := X4.fr; have c5 := X5.ce; have f5 := X5.fr)
  refine hK.out _ _ (by exact ⟨X0.ce, X1.ce, X2.ce⟩) (fun hHeld => ?_)
  clear hK K
  (try simp only [Act.put, List.setIfInBounds_toArray, List.set_cons_zero, List.set_cons_succ])
  refine wpAnyF_pure (i := 21) (oi := { dst := some 26, op := Go.Op.nilCheck (Go.Operand.tmp 5), type := 0, pos := "bound.go:36", after := #[{ on := 0, ground := Go.Ground.data }, { on := 0, ground := Go.Ground.phase }, { on := 1, ground := Go.Ground.textOnly Go.Departure.lateStores }, { on := 2, ground := Go.Ground.textOnly Go.Departure.lateStores }, { on := 3, ground := Go.Ground.phase }, { on := 4, ground := Go.Ground.phase }, { on := 5, ground := Go.Ground.phase }, { on := 6, ground := Go.Ground.phase }, { on := 7, ground := Go.Ground.phase }, { on := 8, ground := Go.Ground.phase }, { on := 9, ground := Go.Ground.textOnly Go.Departure.lateStores }, { on := 10, ground := Go.Ground.textOnly Go.Departure.lateStoresUnsure }, { on := 11, ground := Go.Ground.textOnly Go.Departure.lateStoresUnsure }, { on := 12, ground := Go.Ground.phase }, { on := 13, ground := Go.Ground.textOnly Go.Departure.lateStores }, { on := 14, ground := Go.Ground.phase }, { on := 15, ground := Go.Ground.textOnly Go.Departure.lateStores }, { on := 16, ground := Go.Ground.textOnly Go.Departure.lateStoresUnsure }, { on := 17, ground := Go.Ground.textOnly Go.Departure.lateStoresUnsure }, { on := 18, ground := Go.Ground.phase }, { on := 19, ground := Go.Ground.textOnly Go.Departure.lateStores }, { on := 20, ground := Go.Ground.phase }], guard := none }) (v := ?_) rfl (by kernel_rfl) (by kernel_rfl) (by kernel_rfl) (by kernel_rfl) (fun _ _ _ h => h) (Or.inl ⟨by rfl, ?_⟩) hHeld ?_
  rotate_left
  · intro w_ hSw_; (try dsimp only at hSw_); go_simp; (try with_reducible rfl)
  (try simp only [Act.put, List.setIfInBounds_toArray, List.set_cons_zero, List.set_cons_succ])
  refine wpAnyF_take (i := 22) (oi := { dst := some 27, op := Go.Op.fieldAddr 101 (Go.Operand.tmp 26) 3, type := 0, pos := "bound.go:36", after := #[{ on := 21, ground := Go.Ground.data }, { on := 0, ground := Go.Ground.phase }, { on := 1, ground := Go.Ground.textOnly Go.Departure.lateStores }, { on := 2, ground := Go.Ground.textOnly Go.Departure.lateStores }, { on := 3, ground := Go.Ground.phase }, { on := 4, ground := Go.Ground.phase }, { on := 5, ground := Go.Ground.phase }, { on := 6, ground := Go.Ground.phase }, { on := 7, ground := Go.Ground.phase }, { on := 8, ground := Go.Ground.phase }, { on := 9, ground := Go.Ground.textOnly Go.Departure.lateStores }, { on := 10, ground := Go.Ground.textOnly Go.Departure.lateStoresUnsure }, { on := 11, ground := Go.Ground.textOnly Go.Departure.lateStoresUnsure }, { on := 12, ground := Go.Ground.phase }, { on := 13, ground := Go.Ground.textOnly Go.Departure.lateStores }, { on := 14, ground := Go.Ground.phase }, { on := 15, ground := Go.Ground.textOnly Go.Departure.lateStores }, { on := 16, ground := Go.Ground.textOnly Go.Departure.lateStoresUnsure }, { on := 17, ground := Go.Ground.textOnly Go.Departure.lateStoresUnsure }, { on := 18, ground := Go.Ground.phase }, { on := 19, ground := Go.Ground.textOnly Go.Departure.lateStores }, { on := 20, ground := Go.Ground.phase }], guard := none }) (v := ?_) rfl (by kernel_rfl) (by kernel_rfl) (by kernel_rfl) (by kernel_rfl) (fun _ _ _ h => h) (Or.inl ⟨by rfl, ?_⟩) hHeld ?_
  rotate_left
  · intro w_ hSw_; (try dsimp only at hSw_); go_simp; (try with_reducible rfl)
  (try simp only [Act.put, List.setIfInBounds_toArray, List.set_cons_zero, List.set_cons_succ])
  refine wpAnyF_st (i := 23) (by kernel_rfl) (by kernel_rfl) rfl (fun K hK => ?_)
  go_simp
  refine hK.out _ _ ?_
  clear hK K
  (try simp only [Act.put, List.setIfInBounds_toArray, List.set_cons_zero, List.set_cons_succ])
  refine wpAnyF_st (i := 24) (by kernel_rfl) (by kernel_rfl) rfl (fun K hK => ?_)
  go_simp
  refine hK.out _ _ ?_
  clear hK K
  (try simp only [Act.put, List.setIfInBounds_toArray, List.set_cons_zero, List.set_cons_succ])
  refine wpAnyF_st (i := 25) (by kernel_rfl) (by kernel_rfl) rfl (fun K hK => ?_)
  go_simp
  refine hK.out _ _ ?_
  clear hK K
  (try simp only [Act.put, List.setIfInBounds_toArray, List.set_cons_zero, List.set_cons_succ])
  refine wpAnyF_st (i := 26) (by kernel_rfl) (by kernel_rfl) rfl (fun K hK => ?_)
  go_simp
  refine hK.out _ _ ?_
  clear hK K
  (try simp only [Act.put, List.setIfInBounds_toArray, List.set_cons_zero, List.set_cons_succ])
  refine wpAnyF_st (i := 27) (by kernel_rfl) (by kernel_rfl) rfl (fun K hK => ?_)
  go_simp
  refine hK.out _ _ ?_
  clear hK K
  (try simp only [Act.put, List.setIfInBounds_toArray, List.set_cons_zero, List.set_cons_succ])
  refine wpAnyF_st (i := 28) (by kernel_rfl) (by kernel_rfl) rfl (fun K hK => ?_)
  go_simp
  refine hK.out _ _ ?_
  clear hK K
  (try simp only [Act.put, List.setIfInBounds_toArray, List.set_cons_zero, List.set_cons_succ])
  refine wpAnyF_st (i := 29) (by kernel_rfl) (by kernel_rfl) rfl (fun K hK => ?_)
  go_simp
  refine hK.out _ _ ?_
  clear hK K
  (try simp only [Act.put, List.setIfInBounds_toArray, List.set_cons_zero, List.set_cons_succ])
  refine wpAnyF_done (by kernel_rfl) ?_ _
  clear hHeld c3 f3 l3 c4 f4 c5 f5
  go_wp2
  go_ret
  have Y0 := X0.far (x := .slice A6 m6 k6) X3 (.inr (by omega)); have Y1 := X1.far (x := .slice A6 m6 k6) X3 (.inr (by omega)); have Y2 := X2.far (x := .slice A6 m6 k6) X3 (.inr (by omega)); have Y4 := X4.far (x := .slice A6 m6 k6) X3 (.inr (by omega)); have Y5 := X5.far (x := .slice A6 m6 k6) X3 (.inr (by omega)); have Y3 := X3.store (A' := A6) (m' := m6) (c' := k6) T6.out
  have I01 := T7.out.set (x := .slice A6 m6 k6) X3.ce (by simp)
  have I02 := T8.out.set (x := .slice A6 m6 k6) X3.ce (by simp)
  have V0 := Y0.far (x := .slice A7 m7 k7) Y4 (.inr (by omega)); have V1 := Y1.far (x := .slice A7 m7 k7) Y4 (.inr (by omega)); have V2 := Y2.far (x := .slice A7 m7 k7) Y4 (.inr (by omega)); have V3 := Y3.far (x := .slice A7 m7 k7) Y4 (.inr (by omega)); have V5 := Y5.far (x := .slice A7 m7 k7) Y4 (.inr (by omega)); have V4 := Y4.store (A' := A7) (m' := m7) (c' := k7) I01
  have I12 := I02.set (x := .slice A7 m7 k7) Y4.ce (by simp)
  have U0 := V0.far (x := .slice A8 m8 k8) V5 (.inr (by omega)); have U1 := V1.far (x := .slice A8 m8 k8) V5 (.inr (by omega)); have U2 := V2.far (x := .slice A8 m8 k8) V5 (.inr (by omega)); have U3 := V3.far (x := .slice A8 m8 k8) V5 (.inr (by omega)); have U4 := V4.far (x := .slice A8 m8 k8) V5 (.inr (by omega)); have U5 := V5.store (A' := A8) (m' := m8) (c' := k8) I12
  exact ⟨rfl, ⟨⟨_, _, _, U0⟩, ⟨_, _, _, U1⟩, ⟨_, _, _, U2⟩, ⟨_, _, _, U3⟩, ⟨_, _, _, U4⟩, ⟨_, _, _, U5⟩⟩, below_setB (below_setB (below_setB HB hg _) hg _) hg _⟩
end Go.Proofs.Ytiaeeclmlchpoaa
