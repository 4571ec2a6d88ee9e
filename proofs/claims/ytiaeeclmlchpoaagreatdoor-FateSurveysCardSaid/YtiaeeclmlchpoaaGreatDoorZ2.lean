/- What the reading of a number does to memory and what it returns. No condition. -/
import Derived.Test.YtiaeeclmlchpoaaGreatDoorZ1
import Derived.Laws.BytesArg
import Derived.Deep.LoopGhost
import Derived.Maps.RangeWalk
set_option linter.unusedVariables false
set_option linter.unusedSimpArgs false
namespace Go.Proofs.YtiaeeclmlchpoaaGreatDoor
open Go.RowKit

theorem dv_range {l : List Int} (h : ∀ c ∈ l, 48 ≤ c ∧ c ≤ 57) : 0 ≤ dv l ∧ dv l < (10 : Int) ^ l.length := by
  have hd : Dg 10 (l.reverse.map (· - 48)) := by
    intro d hd
    simp only [List.mem_map, List.mem_reverse] at hd
    obtain ⟨c, hc, rfl⟩ := hd
    have := h c hc
    omega
  have h1 := V_nonneg hd
  have h2 := V_lt hd
  simp only [List.length_map, List.length_reverse] at h2
  exact ⟨h1, h2⟩
def Dgt (L : List Int) (a : Nat) : Prop := ∀ j, a ≤ j → j < L.length → 48 ≤ gd L j ∧ gd L j ≤ 57
/-- The digits from place a up to place b. -/
def seg (L : List Int) (a b : Nat) : List Int := (L.take b).drop a
theorem seg_length (L : List Int) {a b : Nat} (h : a ≤ b) (hb : b ≤ L.length) : (seg L a b).length = b - a := by unfold seg; simp; omega
theorem seg_self (L : List Int) (a : Nat) : seg L a a = [] := by unfold seg; rw [List.drop_of_length_le]; simp; omega
theorem seg_snoc {L : List Int} {a b : Nat} (h : a ≤ b) (hb : b < L.length) : seg L a (b + 1) = seg L a b ++ [gd L b] := by
  unfold seg
  rw [List.take_succ_eq_append_getElem hb, List.drop_append_of_le_length (by simp; omega), gd_lt hb]
theorem seg_all {L : List Int} {a b c : Nat} (hd : Dgt L a) (h : a ≤ b) (hc : c ≤ L.length) : ∀ x ∈ seg L b c, 48 ≤ x ∧ x ≤ 57 := by
  intro x hx
  unfold seg at hx
  obtain ⟨i, hi, rfl⟩ := List.getElem_of_mem hx
  simp at hi
  rw [List.getElem_drop, List.getElem_take, ← gd_lt (by omega)]
  exact hd _ (by omega) (by omega)
theorem seg_drop {L : List Int} {a b : Nat} (h : a ≤ b) (hb : b ≤ L.length) : L.drop a = seg L a b ++ L.drop b := by
  unfold seg
  conv => lhs; rw [← List.take_append_drop b L]
  rw [List.drop_append_of_le_length (by simp; omega)]
def ParI (L : List Int) (a : Nat) (e : Int) (l : List Int) : Prop :=
  Dg B9 l ∧ ∃ b : Nat, a ≤ b ∧ b ≤ L.length ∧ V B9 l = dv (L.drop b) ∧ ((b = a ∧ e ≤ a) ∨ (e = b ∧ a < b ∧ 9 * l.length = L.length - b))
theorem ten9 (k : Nat) : (10 : Int) ^ (9 * k) = (B9 : Int) ^ k := by rw [Int.pow_mul, B9c]; rfl
theorem ParI.step {L l : List Int} {a E j : Nat} (hd : Dgt L a) (h : ParI L a E l) (hE : a < E) (hj : (a + 9 < E ∧ j = E - 9) ∨ (E ≤ a + 9 ∧ j = a)) :
    ParI L a ((E : Int) - 9) (l ++ [dv (seg L j E)]) := by
  obtain ⟨h1, b, h2, h3, h4, h5⟩ := h
  have hb : b = E ∧ 9 * l.length = L.length - b := by
    rcases h5 with ⟨x, y⟩ | ⟨x, y, z⟩ <;> omega
  obtain ⟨rfl, hl⟩ := hb
  have hjE : a ≤ j ∧ j < b ∧ b - j ≤ 9 := by omega
  have hr := dv_range (seg_all (c := b) hd hjE.1 h3)
  rw [seg_length L (by omega) h3] at hr
  have hp : (10 : Int) ^ (b - j) ≤ 1000000000 := by
    have : (10 : Nat) ^ (b - j) ≤ 10 ^ 9 := Nat.pow_le_pow_right (by omega) hjE.2.2
    have h2 : ((10 ^ (b - j) : Nat) : Int) ≤ ((10 ^ 9 : Nat) : Int) := by omega
    rwa [Int.natCast_pow] at h2
  refine ⟨Dg.append h1 (Dg.cons hr.1 (by rw [B9c]; omega) (Dg.nil _)), j, hjE.1, by omega, ?_, ?_⟩
  · rw [V_snoc, seg_drop (show j ≤ b by omega) h3, dv_append, List.length_drop, ← hl, ten9, h4]; omega
  · rw [List.length_append, List.length_singleton]
    omega
theorem ParI.first {L : List Int} {a : Nat} (h : a < L.length) : ParI L a (L.length : Int) [] :=
  ⟨Dg.nil _, L.length, by omega, Nat.le_refl _, by rw [List.drop_of_length_le (Nat.le_refl _)]; rfl, .inr ⟨rfl, h, by simp⟩⟩
theorem ParI.last {L l : List Int} {a : Nat} {e : Int} (h : ParI L a e l) (he : e ≤ a) : Dg B9 l ∧ V B9 l = dv (L.drop a) := by
  obtain ⟨h1, b, h2, h3, h4, h5⟩ := h
  refine ⟨h1, ?_⟩
  rcases h5 with ⟨x, y⟩ | ⟨x, y, z⟩
  · subst x; exact h4
  · omega
theorem ParI.len {L l : List Int} {a : Nat} {e : Int} (h : ParI L a e l) (he : a < e) : 9 * l.length ≤ L.length := by
  obtain ⟨h1, b, h2, h3, h4, h5⟩ := h
  rcases h5 with ⟨x, y⟩ | ⟨x, y, z⟩ <;> omega
theorem start1 (w : World) (t : TypeId) (W : World) (hW : w.alloc (.cells #[.bool false, .slice none 0 0] t) = W) : Res2 W w.heap.size ∧ W.heap.size = w.heap.size + 1 ∧ Below w.heap.size w W := by
  subst hW
  refine ⟨⟨⟨false, ?_⟩, ⟨none, 0, 0, ?_⟩, ?_, ?_, ?_⟩, ?_, below_alloc (Below.refl _ _) _⟩ <;> simp [go_sem]

set_option maxRecDepth 100000 in
set_option maxHeartbeats 2000000 in
theorem Parse_c (z : Int) (w : World) (hz : dlN z.natAbs ≤ 100000000000) :
    Calls Tryz.prog 12 #[.string (tS z)] w fun e w' => ∃ v, e = .returned v ∧ IsN w' v z ∧ Below w.heap.size w w' := by
  have HC := Lib.hid (codes_tS z)
  generalize tS z = s at *
  have hst := strip_tx z
  have hneg := tx_neg (z := z)
  have hne : codes s ≠ [] := by rw [HC.out]; unfold tx; have := txN_ne z.natAbs; split <;> simp [this]
  have hL := codes_length s
  have hlen : (codes s).length ≤ 100000000001 := by rw [HC.out]; unfold tx; unfold dlN at hz; split <;> simp <;> omega
  have h0 : 0 < s.size := by have := List.length_pos_iff.2 hne; omega
  have hx0 : ∀ h : 0 < s.size, ((s[0]'h).toNat : Int) = gd (codes s) 0 := fun h => codes_gd h
  have hg : (codes s).head? = some 45 ↔ gd (codes s) 0 = 45 := by
    cases e : codes s with
    | nil => exact absurd e hne
    | cons c t => simp [gd]
  rw [← HC.out] at hst hneg
  rw [hg] at hneg
  by_cases q : gd (codes s) 0 = 45
  · have qb : (gd (codes s) 0 == 45) = true := by simpa using q
    have hz0 : z < 0 := hneg.1 q
    have hsd := strip_drop (a := 1) hne (by rw [if_pos q])
    rw [hst] at hsd
    have HD : Hid (Dgt (codes s) 1) := by
      intro j h1 h2
      have := txN_range z.natAbs (gd (codes s) j) (by
        rw [hsd]
        have e : gd (codes s) j = gd ((codes s).drop 1) (j - 1) := by rw [gd_drop, show 1 + (j - 1) = j by omega]
        rw [e, gd_lt (by rw [List.length_drop]; omega)]
        exact List.getElem_mem _)
      exact this
    have hal : 1 < (codes s).length := by
      have := List.length_pos_iff.2 (txN_ne z.natAbs)
      rw [hsd, List.length_drop] at this
      omega
    have HV : Hid (dv ((codes s).drop 1) = z.natAbs) := by rw [← hsd]; exact dv_txN _
    have HZ : Hid (sgnd true (z.natAbs : Int) = z) := by show _ = _; unfold sgnd; rw [if_pos rfl]; omega
    have HL := Lib.hid hL
    have hs1 : s.size ≤ 100000000001 := by omega
    have hs2 : 1 < s.size := by omega
    clear hsd hz0 q hneg hst hne hL hlen hg hz
    go_enter Tryz.func12, Tryz.ntmps12
    go_wp2
    generalize hW : w.alloc (Obj.cells #[Value.bool false, Value.slice none 0 0] 37) = W
    obtain ⟨HR2, hWs, HBW⟩ := start1 w _ W hW
    clear hW hx0
    go_loopw [5, 6] (fun out ev wr => ∃ (e : Int) (l : List Int), ev = .int .i64 e ∧ OwI wr W.heap.size 3 .i64 out l ∧ Below W.heap.size W wr ∧ e ≤ s.size ∧ -9 ≤ e ∧ Hid (ParI (codes s) 1 e l)) (fun _ ev _ => (intOf ev + 9).toNat)
    case atStart => exact ⟨s.size, [], rfl, OwI.nil _ _ _ _, Below.refl _ _, by omega, by omega, by have := ParI.first hal; rw [HL.out] at this; exact this⟩
    case round =>
      obtain ⟨e, l, rfl, HO, HB, he1, he2, HI⟩ := hrel
      have hB := HB.size
      by_cases he : 1 < e
      · obtain ⟨E, rfl⟩ : ∃ E : Nat, e = E := ⟨e.toNat, by omega⟩
        have hLL : Hid ((l.length + 1) * 8 ≤ 140737488355328) := by have := HI.out.len (by omega); have := HL.out; show _ ≤ _; omega
        have hcase : (1 + 9 < E) ∨ (E ≤ 1 + 9) := by omega
        rcases hcase with hq | hq
        · have HST := fun hj => Lib.hid (ParI.step (j := E - 9) HD.out HI.out (by omega) hj)
          replace HST := HST (.inl ⟨hq, rfl⟩)
          clear HI
          go_wp2
          obtain ⟨wo, rfl⟩ : ∃ wo : World, wo = wr := ⟨_, rfl⟩
          go_loop [7, 8] (fun pv iv => ∃ (i : Nat) (p : Int), iv = .int .i64 i ∧ pv = .int .i64 p ∧ E - 9 ≤ i ∧ i ≤ E ∧ 0 ≤ p ∧ p < 1000000000 ∧ Hid (p = dv (seg (codes s) (E - 9) i))) (fun _ iv => E - (intOf iv).toNat)
          case atStart => exact ⟨E - 9, 0, by go_num, rfl, by omega, by omega, by omega, by omega, by show _ = _; rw [seg_self]; rfl⟩
          case round =>
            obtain ⟨i, p, rfl, rfl, hi1, hi2, hp1, hp2, HP⟩ := hrel
            by_cases hi : i < E
            · have hxi : ∀ h : i < s.size, ((s[i]'h).toNat : Int) = gd (codes s) i := fun h => codes_gd h
              have hd := HD.out i (by omega) (by rw [HL.out]; omega)
              obtain ⟨hd1, hd2⟩ := hd
              have hil : i < s.size := by omega
              have HN : Hid (10 * p + (gd (codes s) i - 48) = dv (seg (codes s) (E - 9) (i + 1))) := by
                show _ = _
                rw [seg_snoc (by omega) (by rw [HL.out]; omega), dv_snoc, HP.out]
              have hn9 : 10 * p + (gd (codes s) i - 48) < 1000000000 := by
                have hr := (dv_range (seg_all (c := i + 1) HD.out (show 1 ≤ E - 9 by omega) (by rw [HL.out]; omega))).2
                rw [← HN.out, seg_length _ (by omega) (by rw [HL.out]; omega)] at hr
                have : (10 : Nat) ^ (i + 1 - (E - 9)) ≤ 10 ^ 9 := Nat.pow_le_pow_right (by omega) (by omega)
                have h2 : ((10 ^ (i + 1 - (E - 9)) : Nat) : Int) ≤ ((10 ^ 9 : Nat) : Int) := by omega
                rw [Int.natCast_pow] at h2
                have e9 : ((10 ^ 9 : Nat) : Int) = 1000000000 := rfl
                rw [e9] at h2
                exact Int.lt_of_lt_of_le hr h2
              clear HP
              go_wp2
              go_round
              case rel => exact ⟨i + 1, _, by go_num, rfl, by omega, by omega, by omega, hn9, HN⟩
              case measure => simp [intOf]; omega
            · obtain rfl : i = E := by omega
              have HP2 := HP.out
              subst HP2
              go_wp2_with (at_builtin; refine app_I W.heap.size rfl _ _ 22 3 .i64 8 rfl Tryz.underlying22 info_i64 (by decide) _ l _ HO rfl rfl HB hB hLL.out ?_; intro v1 w1 HO1 HB1 hB1)
              go_roundw
              case rel => exact ⟨(i : Int) - 9, _, rfl, HO1, HB1, by omega, by omega, HST⟩
              case measure => simp [intOf]; omega
        · have HST := fun hj => Lib.hid (ParI.step (j := 1) HD.out HI.out (by omega) hj)
          replace HST := HST (.inr ⟨hq, rfl⟩)
          clear HI
          go_wp2
          obtain ⟨wo, rfl⟩ : ∃ wo : World, wo = wr := ⟨_, rfl⟩
          go_loop [7, 8] (fun pv iv => ∃ (i : Nat) (p : Int), iv = .int .i64 i ∧ pv = .int .i64 p ∧ 1 ≤ i ∧ i ≤ E ∧ 0 ≤ p ∧ p < 1000000000 ∧ Hid (p = dv (seg (codes s) (1) i))) (fun _ iv => E - (intOf iv).toNat)
          case atStart => exact ⟨1, 0, by go_num, rfl, by omega, by omega, by omega, by omega, by show _ = _; rw [seg_self]; rfl⟩
          case round =>
            obtain ⟨i, p, rfl, rfl, hi1, hi2, hp1, hp2, HP⟩ := hrel
            by_cases hi : i < E
            · have hxi : ∀ h : i < s.size, ((s[i]'h).toNat : Int) = gd (codes s) i := fun h => codes_gd h
              have hd := HD.out i (by omega) (by rw [HL.out]; omega)
              obtain ⟨hd1, hd2⟩ := hd
              have hil : i < s.size := by omega
              have HN : Hid (10 * p + (gd (codes s) i - 48) = dv (seg (codes s) (1) (i + 1))) := by
                show _ = _
                rw [seg_snoc (by omega) (by rw [HL.out]; omega), dv_snoc, HP.out]
              have hn9 : 10 * p + (gd (codes s) i - 48) < 1000000000 := by
                have hr := (dv_range (seg_all (c := i + 1) HD.out (show 1 ≤ 1 by omega) (by rw [HL.out]; omega))).2
                rw [← HN.out, seg_length _ (by omega) (by rw [HL.out]; omega)] at hr
                have : (10 : Nat) ^ (i + 1 - (1)) ≤ 10 ^ 9 := Nat.pow_le_pow_right (by omega) (by omega)
                have h2 : ((10 ^ (i + 1 - (1)) : Nat) : Int) ≤ ((10 ^ 9 : Nat) : Int) := by omega
                rw [Int.natCast_pow] at h2
                have e9 : ((10 ^ 9 : Nat) : Int) = 1000000000 := rfl
                rw [e9] at h2
                exact Int.lt_of_lt_of_le hr h2
              clear HP
              go_wp2
              go_round
              case rel => exact ⟨i + 1, _, by go_num, rfl, by omega, by omega, by omega, hn9, HN⟩
              case measure => simp [intOf]; omega
            · obtain rfl : i = E := by omega
              have HP2 := HP.out
              subst HP2
              go_wp2_with (at_builtin; refine app_I W.heap.size rfl _ _ 22 3 .i64 8 rfl Tryz.underlying22 info_i64 (by decide) _ l _ HO rfl rfl HB hB hLL.out ?_; intro v1 w1 HO1 HB1 hB1)
              go_roundw
              case rel => exact ⟨(i : Int) - 9, _, rfl, HO1, HB1, by omega, by omega, HST⟩
              case measure => simp [intOf]; omega
      · obtain ⟨hd, hv⟩ := HI.out.last (by omega)
        have HVl : Hid (V B9 l = z.natAbs) := hv.trans HV.out
        have HDl := Lib.hid hd
        clear hd hv HI
        obtain ⟨A1, c1, rfl, hs⟩ := HO.form
        have HSl := Lib.hid hs
        have HR4 := HR2.keep HB
        clear hs
        go_wp2_with (go_at_call 34; (with_reducible refine (trim_n _ _ _ l _ HSl.out HDl.out).mono ?_); rintro e w2 ⟨v, rfl, hv, hb2⟩; obtain ⟨nv, A4, n4, c4, rfl, HV4⟩ := hv.form; clear hv; have HR5 := Lib.hid (HR4.keep hb2); obtain ⟨⟨u1, r1⟩, ⟨u2, u3, u4, r2⟩, r3, r4, r5⟩ := HR5.out)
        refine bodyPost_ret (v := .agg #[.bool nv, .slice A4 n4 c4]) (by simp [results, Tryz.results12, go_sem, r1, r2, r5]) rfl ⟨_, rfl, ?_, ?_⟩
        · refine IsZ.res2 (z := z) ?_ HR5.out _ _
          rw [← HZ.out, ← HVl.out]
          exact HV4.out
        · exact below_set (below_set (below_step (below_step HBW HB) hb2) (by omega) _) (by omega) _
  
  · have qb : (gd (codes s) 0 == 45) = false := by simpa using q
    have hz0 : ¬ z < 0 := fun h => q (hneg.2 h)
    have hsd := strip_drop (a := 0) hne (by rw [if_neg q])
    rw [hst] at hsd
    have HD : Hid (Dgt (codes s) 0) := by
      intro j h1 h2
      have := txN_range z.natAbs (gd (codes s) j) (by
        rw [hsd]
        have e : gd (codes s) j = gd ((codes s).drop 0) (j - 0) := by rw [gd_drop, show 0 + (j - 0) = j by omega]
        rw [e, gd_lt (by rw [List.length_drop]; omega)]
        exact List.getElem_mem _)
      exact this
    have hal : 0 < (codes s).length := by
      have := List.length_pos_iff.2 (txN_ne z.natAbs)
      rw [hsd, List.length_drop] at this
      omega
    have HV : Hid (dv ((codes s).drop 0) = z.natAbs) := by rw [← hsd]; exact dv_txN _
    have HZ : Hid (sgnd false (z.natAbs : Int) = z) := by show _ = _; unfold sgnd; rw [if_neg (by simp)]; omega
    have HL := Lib.hid hL
    have hs1 : s.size ≤ 100000000001 := by omega
    have hs2 : 0 < s.size := by omega
    clear hsd hz0 q hneg hst hne hL hlen hg hz
    go_enter Tryz.func12, Tryz.ntmps12
    go_wp2
    generalize hW : w.alloc (Obj.cells #[Value.bool false, Value.slice none 0 0] 37) = W
    obtain ⟨HR2, hWs, HBW⟩ := start1 w _ W hW
    clear hW hx0
    go_loopw [5, 6] (fun out ev wr => ∃ (e : Int) (l : List Int), ev = .int .i64 e ∧ OwI wr W.heap.size 3 .i64 out l ∧ Below W.heap.size W wr ∧ e ≤ s.size ∧ -9 ≤ e ∧ Hid (ParI (codes s) 0 e l)) (fun _ ev _ => (intOf ev + 9).toNat)
    case atStart => exact ⟨s.size, [], rfl, OwI.nil _ _ _ _, Below.refl _ _, by omega, by omega, by have := ParI.first hal; rw [HL.out] at this; exact this⟩
    case round =>
      obtain ⟨e, l, rfl, HO, HB, he1, he2, HI⟩ := hrel
      have hB := HB.size
      by_cases he : 0 < e
      · obtain ⟨E, rfl⟩ : ∃ E : Nat, e = E := ⟨e.toNat, by omega⟩
        have hLL : Hid ((l.length + 1) * 8 ≤ 140737488355328) := by have := HI.out.len (by omega); have := HL.out; show _ ≤ _; omega
        have hcase : (0 + 9 < E) ∨ (E ≤ 0 + 9) := by omega
        rcases hcase with hq | hq
        · have HST := fun hj => Lib.hid (ParI.step (j := E - 9) HD.out HI.out (by omega) hj)
          replace HST := HST (.inl ⟨hq, rfl⟩)
          clear HI
          go_wp2
          obtain ⟨wo, rfl⟩ : ∃ wo : World, wo = wr := ⟨_, rfl⟩
          go_loop [7, 8] (fun pv iv => ∃ (i : Nat) (p : Int), iv = .int .i64 i ∧ pv = .int .i64 p ∧ E - 9 ≤ i ∧ i ≤ E ∧ 0 ≤ p ∧ p < 1000000000 ∧ Hid (p = dv (seg (codes s) (E - 9) i))) (fun _ iv => E - (intOf iv).toNat)
          case atStart => exact ⟨E - 9, 0, by go_num, rfl, by omega, by omega, by omega, by omega, by show _ = _; rw [seg_self]; rfl⟩
          case round =>
            obtain ⟨i, p, rfl, rfl, hi1, hi2, hp1, hp2, HP⟩ := hrel
            by_cases hi : i < E
            · have hxi : ∀ h : i < s.size, ((s[i]'h).toNat : Int) = gd (codes s) i := fun h => codes_gd h
              have hd := HD.out i (by omega) (by rw [HL.out]; omega)
              obtain ⟨hd1, hd2⟩ := hd
              have hil : i < s.size := by omega
              have HN : Hid (10 * p + (gd (codes s) i - 48) = dv (seg (codes s) (E - 9) (i + 1))) := by
                show _ = _
                rw [seg_snoc (by omega) (by rw [HL.out]; omega), dv_snoc, HP.out]
              have hn9 : 10 * p + (gd (codes s) i - 48) < 1000000000 := by
                have hr := (dv_range (seg_all (c := i + 1) HD.out (show 0 ≤ E - 9 by omega) (by rw [HL.out]; omega))).2
                rw [← HN.out, seg_length _ (by omega) (by rw [HL.out]; omega)] at hr
                have : (10 : Nat) ^ (i + 1 - (E - 9)) ≤ 10 ^ 9 := Nat.pow_le_pow_right (by omega) (by omega)
                have h2 : ((10 ^ (i + 1 - (E - 9)) : Nat) : Int) ≤ ((10 ^ 9 : Nat) : Int) := by omega
                rw [Int.natCast_pow] at h2
                have e9 : ((10 ^ 9 : Nat) : Int) = 1000000000 := rfl
                rw [e9] at h2
                exact Int.lt_of_lt_of_le hr h2
              clear HP
              go_wp2
              go_round
              case rel => exact ⟨i + 1, _, by go_num, rfl, by omega, by omega, by omega, hn9, HN⟩
              case measure => simp [intOf]; omega
            · obtain rfl : i = E := by omega
              have HP2 := HP.out
              subst HP2
              go_wp2_with (at_builtin; refine app_I W.heap.size rfl _ _ 22 3 .i64 8 rfl Tryz.underlying22 info_i64 (by decide) _ l _ HO rfl rfl HB hB hLL.out ?_; intro v1 w1 HO1 HB1 hB1)
              go_roundw
              case rel => exact ⟨(i : Int) - 9, _, rfl, HO1, HB1, by omega, by omega, HST⟩
              case measure => simp [intOf]; omega
        · have HST := fun hj => Lib.hid (ParI.step (j := 0) HD.out HI.out (by omega) hj)
          replace HST := HST (.inr ⟨hq, rfl⟩)
          clear HI
          go_wp2
          obtain ⟨wo, rfl⟩ : ∃ wo : World, wo = wr := ⟨_, rfl⟩
          go_loop [7, 8] (fun pv iv => ∃ (i : Nat) (p : Int), iv = .int .i64 i ∧ pv = .int .i64 p ∧ 0 ≤ i ∧ i ≤ E ∧ 0 ≤ p ∧ p < 1000000000 ∧ Hid (p = dv (seg (codes s) (0) i))) (fun _ iv => E - (intOf iv).toNat)
          case atStart => exact ⟨0, 0, by go_num, rfl, by omega, by omega, by omega, by omega, by show _ = _; rw [seg_self]; rfl⟩
          case round =>
            obtain ⟨i, p, rfl, rfl, hi1, hi2, hp1, hp2, HP⟩ := hrel
            by_cases hi : i < E
            · have hxi : ∀ h : i < s.size, ((s[i]'h).toNat : Int) = gd (codes s) i := fun h => codes_gd h
              have hd := HD.out i (by omega) (by rw [HL.out]; omega)
              obtain ⟨hd1, hd2⟩ := hd
              have hil : i < s.size := by omega
              have HN : Hid (10 * p + (gd (codes s) i - 48) = dv (seg (codes s) (0) (i + 1))) := by
                show _ = _
                rw [seg_snoc (by omega) (by rw [HL.out]; omega), dv_snoc, HP.out]
              have hn9 : 10 * p + (gd (codes s) i - 48) < 1000000000 := by
                have hr := (dv_range (seg_all (c := i + 1) HD.out (show 0 ≤ 0 by omega) (by rw [HL.out]; omega))).2
                rw [← HN.out, seg_length _ (by omega) (by rw [HL.out]; omega)] at hr
                have : (10 : Nat) ^ (i + 1 - (0)) ≤ 10 ^ 9 := Nat.pow_le_pow_right (by omega) (by omega)
                have h2 : ((10 ^ (i + 1 - (0)) : Nat) : Int) ≤ ((10 ^ 9 : Nat) : Int) := by omega
                rw [Int.natCast_pow] at h2
                have e9 : ((10 ^ 9 : Nat) : Int) = 1000000000 := rfl
                rw [e9] at h2
                exact Int.lt_of_lt_of_le hr h2
              clear HP
              go_wp2
              go_round
              case rel => exact ⟨i + 1, _, by go_num, rfl, by omega, by omega, by omega, hn9, HN⟩
              case measure => simp [intOf]; omega
            · obtain rfl : i = E := by omega
              have HP2 := HP.out
              subst HP2
              go_wp2_with (at_builtin; refine app_I W.heap.size rfl _ _ 22 3 .i64 8 rfl Tryz.underlying22 info_i64 (by decide) _ l _ HO rfl rfl HB hB hLL.out ?_; intro v1 w1 HO1 HB1 hB1)
              go_roundw
              case rel => exact ⟨(i : Int) - 9, _, rfl, HO1, HB1, by omega, by omega, HST⟩
              case measure => simp [intOf]; omega
      · obtain ⟨hd, hv⟩ := HI.out.last (by omega)
        have HVl : Hid (V B9 l = z.natAbs) := hv.trans HV.out
        have HDl := Lib.hid hd
        clear hd hv HI
        obtain ⟨A1, c1, rfl, hs⟩ := HO.form
        have HSl := Lib.hid hs
        have HR4 := HR2.keep HB
        clear hs
        go_wp2_with (go_at_call 34; (with_reducible refine (trim_n _ _ _ l _ HSl.out HDl.out).mono ?_); rintro e w2 ⟨v, rfl, hv, hb2⟩; obtain ⟨nv, A4, n4, c4, rfl, HV4⟩ := hv.form; clear hv; have HR5 := Lib.hid (HR4.keep hb2); obtain ⟨⟨u1, r1⟩, ⟨u2, u3, u4, r2⟩, r3, r4, r5⟩ := HR5.out)
        refine bodyPost_ret (v := .agg #[.bool nv, .slice A4 n4 c4]) (by simp [results, Tryz.results12, go_sem, r1, r2, r5]) rfl ⟨_, rfl, ?_, ?_⟩
        · refine IsZ.res2 (z := z) ?_ HR5.out _ _
          rw [← HZ.out, ← HVl.out]
          exact HV4.out
        · exact below_set (below_set (below_step (below_step HBW HB) hb2) (by omega) _) (by omega) _
end Go.Proofs.YtiaeeclmlchpoaaGreatDoor

set_option linter.unusedVariables false
set_option linter.unusedSimpArgs false
namespace Go.Proofs.YtiaeeclmlchpoaaGreatDoor
open Go.RowKit

theorem info_u8 : (Tryz.prog.info? 5).map (fun i => (i.zero, i.size, i.bytes)) = some (some (.int .u8 0), 1, 1) := by kernel_rfl
theorem conv_str (A : Option Addr) (c : Nat) (l : List Int) (w : World) (h : SlI w .u8 A c l) (h0 : 0 < l.length) :
    (convert 100 9 (.slice A l.length c)).run Tryz.prog w = .ok (.string (mkS l)) w := by
  obtain ⟨b, off, rfl, hl, _⟩ := h.cell (j := 0) h0
  refine run_convert_bytes_arg w 100 5 Tryz.underlying100 Tryz.underlying5 b off l.length c l rfl (fun i hi => ?_) 9 Tryz.underlying9
  obtain ⟨b', off', e, _, hc⟩ := h.cell (j := i) hi
  simp only [Option.some.injEq, Addr.mk.injEq] at e
  obtain ⟨rfl, rfl, _⟩ := e
  exact hc

/-- The digits written so far, k of the part i having come. -/
def TxtI (n : Nat) (l : List Int) (part k m : Nat) : Prop := digs 10 n = l ++ digs 10 (part + 10 ^ (9 - k) * m) ∧ part < 10 ^ (9 - k) ∧ k ≤ 9
theorem TxtI.step {n : Nat} {l : List Int} {part k m : Nat} (h : TxtI n l part k m) (hk : k < 9) (hpos : 0 < part ∨ 0 < m) :
    TxtI n (l ++ [((part % 10 : Nat) : Int)]) (part / 10) (k + 1) m := by
  obtain ⟨h1, h2, h3⟩ := h
  obtain ⟨q, hq⟩ : ∃ q, 9 - k = q + 1 := ⟨9 - k - 1, by omega⟩
  have hq2 : 9 - (k + 1) = q := by omega
  rw [hq] at h1 h2
  refine ⟨?_, ?_, by omega⟩
  · have hx : 0 < part + 10 ^ (q + 1) * m := by
      rcases hpos with h | h
      · omega
      · have : 0 < 10 ^ (q + 1) * m := Nat.mul_pos (Nat.pow_pos (by omega)) h
        omega
    rw [h1, digs_pos (by omega) hx, List.append_assoc, hq2]
    have e1 : (part + 10 ^ (q + 1) * m) % 10 = part % 10 := by
      rw [Nat.pow_succ, Nat.mul_comm (10 ^ q) 10, Nat.mul_assoc, Nat.add_mul_mod_self_left]
    have e2 : (part + 10 ^ (q + 1) * m) / 10 = part / 10 + 10 ^ q * m := by
      rw [Nat.pow_succ, Nat.mul_comm (10 ^ q) 10, Nat.mul_assoc, Nat.add_mul_div_left _ _ (by omega)]
    rw [e1, e2]
    rfl
  · rw [hq2]
    rw [Nat.pow_succ] at h2
    omega
theorem TxtI.done {n : Nat} {l : List Int} {part k m : Nat} (h : TxtI n l part k m) (hk : k = 9 ∨ (part = 0 ∧ m = 0)) : digs 10 n = l ++ digs 10 m ∧ part = 0 := by
  obtain ⟨h1, h2, h3⟩ := h
  rcases hk with rfl | ⟨rfl, rfl⟩
  · simp at h2
    subst h2
    simpa using h1
  · simpa using h1
/-- What is left of a number behind its lowest parts. -/
def hi9 (a : List Int) (i : Nat) : Nat := (V B9 (a.drop i)).toNat
theorem hi9_step {a : List Int} (ha : Dg B9 a) {i : Nat} : ∃ p : Nat, gd a i = p ∧ p < 1000000000 ∧ hi9 a i = p + 10 ^ 9 * hi9 a (i + 1) := by
  have h1 := gd9 ha i
  have h2 := V_nonneg (ha.drop (i + 1))
  refine ⟨(gd a i).toNat, by omega, by omega, ?_⟩
  unfold hi9
  rw [Vdrop a i, B9c]
  omega
theorem hi9_pos {a : List Int} (ha : Dg B9 a) (hn : Nm a) {i : Nat} (hi : i < a.length) : 0 < hi9 a i := by
  have hne : a.drop i ≠ [] := by intro h; have := congrArg List.length h; simp at this; omega
  have h1 := V_pos (by decide) (ha.drop i) (by
    unfold Nm at hn ⊢
    rw [List.getLast?_drop]
    rw [if_neg (by omega)]; exact hn) hne
  have h2 : (0 : Int) < (B9 : Int) ^ ((a.drop i).length - 1) := Int.pow_pos (by rw [B9c]; omega)
  unfold hi9
  omega
theorem hi9_end {a : List Int} {i : Nat} (hi : a.length ≤ i) : hi9 a i = 0 := by unfold hi9; rw [List.drop_of_length_le hi]; rfl

set_option maxRecDepth 100000 in
set_option maxHeartbeats 2000000 in
theorem Text_c (z : Int) (v : Value) (w : World) (h : IsN w v z) (sz : (dg B9 z).length ≤ 1000000000) :
    Calls Tryz.prog 41 #[v] w fun e w' => e = .returned (.string (tS z)) ∧ Below w.heap.size w w' := by
  obtain ⟨A, c, rfl, hs⟩ := h
  have hB : Below w.heap.size w w := Below.refl _ _
  have hc1 := hs.2.1
  have hc2 := hs.2.2
  by_cases hz : z = 0
  · have e2 : dg B9 z = [] := by rw [hz]; exact digs_zero _
    have e3 : tS z = ({ data := #[48] } : ByteArray) := by rw [hz]; rfl
    rw [e3]
    rw [e2] at hs hc1 ⊢
    clear e2 e3 hz sz
    generalize decide (z < 0) = na
    go_enter Tryz.func41, Tryz.ntmps41
    go_wp2
    go_ret
    exact ⟨rfl, below_alloc hB _⟩
  · have hn0 : 0 < z.natAbs := by omega
    have HD := Lib.hid (dg_dg B9two z)
    have HN := Lib.hid (dg_nm B9two z)
    have HT : Hid (hi9 (dg B9 z) 0 = z.natAbs) := by show _ = _; unfold hi9; rw [List.drop_zero, dg_V B9two]; omega
    have hne : 0 < (dg B9 z).length := by
      rcases Nat.eq_zero_or_pos (dg B9 z).length with h0 | h0
      · have := digs_nil B9two (List.eq_nil_of_length_eq_zero h0); omega
      · exact h0
    have hnb : ((dg B9 z).length == 0) = false := beq_eq_false_iff_ne.2 (by omega)
    have hnb2 : (((dg B9 z).length : Int) == 0) = false := beq_eq_false_iff_ne.2 (by omega)
    have HX : Hid (tx z = (if decide (z < 0) then [45] else []) ++ ((digs 10 z.natAbs).map (· + 48)).reverse) := by
      show _ = _; unfold tx txN; rw [if_neg (show ¬ z.natAbs = 0 by omega)]; simp
    have HL := Lib.hid hs
    clear hz hs hn0
    generalize dg B9 z = a at *
    generalize z.natAbs = n at *
    generalize decide (z < 0) = na at *
    go_enter Tryz.func41, Tryz.ntmps41
    go_wp2
    generalize hW : w.alloc (Obj.cells #[Value.bool na, Value.slice A a.length c] 37) = W
    have HS : Hid (S1 W w.heap.size na (.slice A a.length c)) := by subst hW; constructor <;> simp [go_sem]
    have HBW : Below w.heap.size w W := by subst hW; exact below_alloc (Below.refl _ _) _
    have hWs : w.heap.size < W.heap.size := by subst hW; simp
    clear hW
    replace HL := Lib.hid (HL.out.below HBW)
    go_loopw [3, 4] (fun out iv wr => ∃ (i : Nat) (l : List Int), iv = .int .i64 i ∧ OwI wr W.heap.size 5 .u8 out (l.map (· + 48)) ∧ Below W.heap.size W wr ∧ i ≤ a.length ∧ l.length ≤ 9 * i ∧ Hid (digs 10 n = l ++ digs 10 (hi9 a i))) (fun _ iv _ => a.length - (intOf iv).toNat)
    case atStart => exact ⟨0, [], rfl, OwI.nil _ _ _ _, Below.refl _ _, by omega, by simp, by show _ = _; rw [HT.out]; rfl⟩
    case round =>
      obtain ⟨i, l, rfl, HO, HB, hi, hl, HI⟩ := hrel
      obtain ⟨s1, s2⟩ := HS.out.keepB HB hWs
      by_cases hi1 : i < a.length
      · obtain ⟨p, hp1, hp2, hp3⟩ := hi9_step HD.out (i := i)
        have HT0 : Hid (TxtI n l p 0 (hi9 a (i + 1))) := ⟨by rw [HI.out, hp3], by omega, by omega⟩
        obtain ⟨b, off, rfl, hbl, hcell⟩ := (HL.out.below HB).cell (j := i) hi1
        rw [hp1] at hcell
        clear hp1 hp3 HI hbl
        go_wp2
        obtain ⟨wo, rfl⟩ : ∃ wo : World, wo = wr := ⟨_, rfl⟩
        go_loopw [3, 5, 6] (fun out pv kv wq => ∃ (q k : Nat) (l : List Int), pv = .int .i64 q ∧ kv = .int .i64 k ∧ OwI wq W.heap.size 5 .u8 out (l.map (· + 48)) ∧ Below W.heap.size W wq ∧ l.length ≤ 9 * i + k ∧ q < 1000000000 ∧ k ≤ 9 ∧ Hid (TxtI n l q k (hi9 a (i + 1)))) (fun _ _ kv _ => 9 - (intOf kv).toNat)
        case atStart => exact ⟨p, 0, l, rfl, rfl, HO, HB, by omega, hp2, by omega, HT0⟩
        case round =>
          clear HO HB s1 s2 hcell HT0 hl
          obtain ⟨q, k, l, rfl, rfl, HO, HB, hl, hq, hk, HT1⟩ := hrel
          obtain ⟨s1, s2⟩ := HS.out.keepB HB hWs
          have hB2 := HB.size
          have hi2 : (i : Int) < (a.length : Int) := by omega
          by_cases hk9 : k < 9
          · by_cases hgo : 0 < q ∨ (i : Int) < (a.length : Int) - 1
            · have hpos : 0 < q ∨ 0 < hi9 a (i + 1) := hgo.imp_right fun h => hi9_pos HD.out HN.out (by omega)
              have HST := Lib.hid (HT1.out.step hk9 hpos)
              have hLL : Hid (((l.map (· + 48)).length + 1) * 1 ≤ 140737488355328) := by show _ ≤ _; rw [List.length_map]; omega
              have hgo' : 0 < q ∨ (¬ 0 < q ∧ (i : Int) < (a.length : Int) - 1) := by omega
              clear HT1 hgo hpos
              have hm1 : (0 : Int) ≤ (q : Int) % 10 := by omega
              have hm2 : (q : Int) % 10 < 10 := by omega
              rcases hgo' with hg | ⟨hg, hg2⟩
              all_goals
                go_wp2_with (at_builtin; refine app_I W.heap.size rfl _ _ 100 5 .u8 1 rfl Tryz.underlying100 info_u8 (by decide) _ (l.map (· + 48)) _ HO rfl rfl HB hB2 hLL.out ?_; intro v1 w1 HO1 HB1 hB1)
                go_roundw
                case rel => exact ⟨q / 10, k + 1, l ++ [((q % 10 : Nat) : Int)], by simp, by go_num, by rw [List.map_append]; simp only [List.map_cons, List.map_nil]; rw [show ((q % 10 : Nat) : Int) + 48 = 48 + (q : Int) % 10 by omega]; exact HO1, HB1, by rw [List.length_append]; simp; omega, by omega, by omega, HST.out⟩
                case measure => simp [intOf]; omega
            · have hg1 : ¬ 0 < q := fun h => hgo (.inl h)
              have hg2 : ¬ (i : Int) < (a.length : Int) - 1 := fun h => hgo (.inr h)
              have HE := Lib.hid (HT1.out.done (.inr ⟨by omega, hi9_end (by omega)⟩)).1
              clear hgo HT1
              obtain rfl : q = 0 := by omega
              go_wp2
              go_roundw
              case rel => exact ⟨i + 1, l, by go_num, HO, HB, by omega, by omega, HE⟩
              case measure => simp [intOf]; omega
          · obtain rfl : k = 9 := by omega
            obtain ⟨HE, hq0⟩ := HT1.out.done (.inl rfl)
            have HE := Lib.hid HE
            subst hq0
            clear HT1
            go_wp2
            go_roundw
            case rel => exact ⟨i + 1, l, by go_num, HO, HB, by omega, by omega, HE⟩
            case measure => simp [intOf]; omega
      · obtain rfl : i = a.length := by omega
        have HE : Hid (l = digs 10 n) := by have := HI.out; rw [hi9_end (Nat.le_refl _), digs_zero, List.append_nil] at this; exact this.symm
        have hpos : 0 < l.length := by
          have h1 := hi9_pos HD.out HN.out hne
          rw [HT.out] at h1
          have := HE.out
          rw [this, digs_pos (by omega) h1]; simp
        have hB2 := HB.size
        clear HI hi1
        rcases Bool.eq_false_or_eq_true na with rfl | rfl
        · have HX2 : Hid (mkS ((l.map (· + 48) ++ [45]).reverse) = tS z) := by
            show _ = _
            unfold tS
            rw [HX.out, HE.out]
            simp
          have hLL : Hid (((l.map (· + 48)).length + 1) * 1 ≤ 140737488355328) := by show _ ≤ _; rw [List.length_map]; omega
          have hl0 : (l.map (· + 48) ++ [45]).length ≤ 9000000001 := by simp; omega
          have hl1 : 0 < (l.map (· + 48) ++ [45]).length := by simp; 
          obtain ⟨L, hLe⟩ : ∃ L, L = l.map (· + 48) ++ [45] := ⟨_, rfl⟩
          rw [← hLe] at HX2 hl0 hl1
          have HLe := Lib.hid hLe
          clear hLe
          go_wp2_with (at_builtin; refine app_I W.heap.size rfl _ _ 100 5 .u8 1 rfl Tryz.underlying100 info_u8 (by decide) _ (l.map (· + 48)) _ HO rfl rfl HB hB2 hLL.out ?_; intro v1 w1 HO1 HB1 hB1; rw [← HLe.out] at HO1; obtain ⟨A1, c1, rfl, hs⟩ := HO1.form; have HSL := Lib.hid hs; have hc3 := hs.2.1; have hc4 := hs.2.2; clear hs HO HB)
          clear HO1 hLL
          obtain ⟨wb, rfl⟩ : ∃ wb : World, wb = w1 := ⟨_, rfl⟩
          have HR0 : Hid ((L.drop L.length).reverse = []) := by show _ = _; simp
          go_loopw [7, 8] (fun out iv wq => ∃ (k : Nat) (l2 : List Int), iv = .int .i64 ((k : Int) - 1) ∧ OwI wq wb.heap.size 5 .u8 out l2 ∧ Below wb.heap.size wb wq ∧ k ≤ L.length ∧ Hid (l2 = (L.drop k).reverse)) (fun _ iv _ => (intOf iv + 1).toNat)
          case atStart => exact ⟨L.length, [], rfl, OwI.nil _ _ _ _, Below.refl _ _, Nat.le_refl _, HR0.out.symm⟩
          case round =>
            obtain ⟨k, l2, rfl, HO2, HB2, hk, HI2⟩ := hrel
            have hB3 := HB2.size
            rcases Nat.eq_zero_or_pos k with rfl | hk0
            · have HF : Hid (mkS l2 = tS z) := by show _ = _; rw [HI2.out, List.drop_zero]; exact HX2.out
              have hlen2 : 0 < l2.length := by rw [HI2.out]; simp; omega
              obtain ⟨A2, c2, rfl, hs2⟩ := HO2.form
              have hcv := conv_str A2 c2 l2 wr hs2 hlen2
              clear hs2 HO2
              go_wp2
              go_ret
              exact ⟨by rw [← HF.out]; rfl, below_step (below_step HBW HB1) HB2⟩
            · obtain ⟨m, rfl⟩ : ∃ m, k = m + 1 := ⟨k - 1, by omega⟩
              obtain ⟨b2, o2, rfl, hl2, hc2⟩ := (HSL.out.below HB2).cell (j := m) (by omega)
              have hLL2 : Hid ((l2.length + 1) * 1 ≤ 140737488355328) := by show _ ≤ _; rw [HI2.out]; simp; omega
              have HS2 : Hid (l2 ++ [gd L m] = (L.drop m).reverse) := by
                show _ = _
                rw [HI2.out, List.drop_eq_getElem_cons (show m < L.length by omega), List.reverse_cons, gd_lt (by omega)]
              go_wp2_with (at_builtin; refine app_I wb.heap.size rfl _ _ 100 5 .u8 1 rfl Tryz.underlying100 info_u8 (by decide) _ l2 _ HO2 rfl rfl HB2 hB3 hLL2.out ?_; intro v3 w3 HO3 HB3 hB4)
              go_roundw
              case rel => exact ⟨m, _, by go_num, HO3, HB3, by omega, HS2⟩
              case measure => simp [intOf]
        
        · have HX2 : Hid (mkS ((l.map (· + 48)).reverse) = tS z) := by
            show _ = _
            unfold tS
            rw [HX.out, HE.out]
            simp
          have hLL : Hid (((l.map (· + 48)).length + 1) * 1 ≤ 140737488355328) := by show _ ≤ _; rw [List.length_map]; omega
          have hl0 : (l.map (· + 48)).length ≤ 9000000001 := by simp; omega
          have hl1 : 0 < (l.map (· + 48)).length := by simp; omega
          obtain ⟨L, hLe⟩ : ∃ L, L = l.map (· + 48) := ⟨_, rfl⟩
          rw [← hLe] at HX2 hl0 hl1
          have HLe := Lib.hid hLe
          clear hLe
          have HO1 := HO; have HB1 := HB; have hB1 := hB2; rw [← HLe.out] at HO1; clear HO HB; obtain ⟨A1, c1, rfl, hs⟩ := HO1.form; have HSL := Lib.hid hs; have hc3 := hs.2.1; have hc4 := hs.2.2; clear hs; go_wp2
          clear HO1 hLL
          obtain ⟨wb, rfl⟩ : ∃ wb : World, wb = wr := ⟨_, rfl⟩
          have HR0 : Hid ((L.drop L.length).reverse = []) := by show _ = _; simp
          go_loopw [7, 8] (fun out iv wq => ∃ (k : Nat) (l2 : List Int), iv = .int .i64 ((k : Int) - 1) ∧ OwI wq wb.heap.size 5 .u8 out l2 ∧ Below wb.heap.size wb wq ∧ k ≤ L.length ∧ Hid (l2 = (L.drop k).reverse)) (fun _ iv _ => (intOf iv + 1).toNat)
          case atStart => exact ⟨L.length, [], rfl, OwI.nil _ _ _ _, Below.refl _ _, Nat.le_refl _, HR0.out.symm⟩
          case round =>
            obtain ⟨k, l2, rfl, HO2, HB2, hk, HI2⟩ := hrel
            have hB3 := HB2.size
            rcases Nat.eq_zero_or_pos k with rfl | hk0
            · have HF : Hid (mkS l2 = tS z) := by show _ = _; rw [HI2.out, List.drop_zero]; exact HX2.out
              have hlen2 : 0 < l2.length := by rw [HI2.out]; simp; omega
              obtain ⟨A2, c2, rfl, hs2⟩ := HO2.form
              have hcv := conv_str A2 c2 l2 wr hs2 hlen2
              clear hs2 HO2
              go_wp2
              go_ret
              exact ⟨by rw [← HF.out]; rfl, below_step (below_step HBW HB1) HB2⟩
            · obtain ⟨m, rfl⟩ : ∃ m, k = m + 1 := ⟨k - 1, by omega⟩
              obtain ⟨b2, o2, rfl, hl2, hc2⟩ := (HSL.out.below HB2).cell (j := m) (by omega)
              have hLL2 : Hid ((l2.length + 1) * 1 ≤ 140737488355328) := by show _ ≤ _; rw [HI2.out]; simp; omega
              have HS2 : Hid (l2 ++ [gd L m] = (L.drop m).reverse) := by
                show _ = _
                rw [HI2.out, List.drop_eq_getElem_cons (show m < L.length by omega), List.reverse_cons, gd_lt (by omega)]
              go_wp2_with (at_builtin; refine app_I wb.heap.size rfl _ _ 100 5 .u8 1 rfl Tryz.underlying100 info_u8 (by decide) _ l2 _ HO2 rfl rfl HB2 hB3 hLL2.out ?_; intro v3 w3 HO3 HB3 hB4)
              go_roundw
              case rel => exact ⟨m, _, by go_num, HO3, HB3, by omega, HS2⟩
              case measure => simp [intOf]
end Go.Proofs.YtiaeeclmlchpoaaGreatDoor

set_option linter.unusedVariables false
set_option linter.unusedSimpArgs false
namespace Go.Proofs.YtiaeeclmlchpoaaGreatDoor
open Go.RowKit

/-- Block b holds a number: these two values, which read as z. -/
structure VX (B : Nat) (k : IntKind) (W : World) (b : Nat) (nv : Bool) (A : Option Addr) (n c : Nat) (z : Int) : Prop where
  c0 : W.cell? ⟨b, 0, none⟩ = some (.bool nv)
  c1 : W.cell? ⟨b, 1, none⟩ = some (.slice A n c)
  f0 : W.frozen? ⟨b, 0, none⟩ = false
  f1 : W.frozen? ⟨b, 1, none⟩ = false
  lt : b < W.heap.size
  iz : Hid (IsZ B k W (.agg #[.bool nv, .slice A n c]) z)
section
variable {B : Nat} {k : IntKind} {W w1 : World} {b : Nat} {nv : Bool} {A : Option Addr} {n c : Nat} {z : Int}
theorem VX.keep (h : VX B k W b nv A n c z) (hb : Below W.heap.size W w1) : VX B k w1 b nv A n c z :=
  ⟨kcell hb h.lt h.c0, kcell hb h.lt h.c1, kfroz hb h.lt h.f0, kfroz hb h.lt h.f1, Nat.lt_of_lt_of_le h.lt hb.size, h.iz.out.below hb⟩
theorem VX.drew (h : VX B k W b nv A n c z) : VX B k W.drew b nv A n c z := h.keep (below_drew (Below.refl _ _))
theorem VX.res (h : VX B k W b nv A n c z) : Res2 W b := ⟨⟨nv, h.c0⟩, ⟨A, n, c, h.c1⟩, h.f0, h.f1, h.lt⟩
theorem VX.new (W : World) (t : TypeId) (h : IsZ B k W (.agg #[.bool nv, .slice A n c]) z) : VX B k (W.alloc (.cells #[.bool nv, .slice A n c] t)) W.heap.size nv A n c z :=
  ⟨by simp [go_sem], by simp [go_sem], by simp [go_sem], by simp [go_sem], by simp, h.below (below_alloc (Below.refl _ _) _)⟩
/-- A store into another number's cells. -/
theorem VX.far {b' : Nat} {x y : Value} (h : VX B k W b nv A n c z) (hr : Res2 W b') (hne : b' ≠ b) : VX B k ((W.setCell ⟨b', 0, none⟩ x).setCell ⟨b', 1, none⟩ y) b nv A n c z := by
  have e : ∀ (o : Nat) (w : World) (u : Value) (o' : Nat), (w.setCell ⟨b', o', none⟩ u).cell? ⟨b, o, none⟩ = w.cell? ⟨b, o, none⟩ := fun o w u o' => World.cell?_setCell_other _ _ _ _ (by simp [hne])
  refine ⟨by rw [e, e]; exact h.c0, by rw [e, e]; exact h.c1, by rw [World.frozen?_setCell, World.frozen?_setCell]; exact h.f0, by rw [World.frozen?_setCell, World.frozen?_setCell]; exact h.f1, by simpa [World.setCell] using h.lt, h.iz.out.res2 hr x y⟩
/-- The store of a number. -/
theorem VX.store {nv' : Bool} {A' : Option Addr} {n' c' : Nat} {z' : Int} (h : Res2 W b) (hz : IsZ B k W (.agg #[.bool nv', .slice A' n' c']) z') :
    VX B k ((W.setCell ⟨b, 0, none⟩ (.bool nv')).setCell ⟨b, 1, none⟩ (.slice A' n' c')) b nv' A' n' c' z' := by
  have hz' := hz.res2 h (.bool nv') (.slice A' n' c')
  obtain ⟨⟨u, h1⟩, ⟨A1, n1, c1, h2⟩, h3, h4, h5⟩ := h
  refine ⟨?_, ?_, by rw [World.frozen?_setCell, World.frozen?_setCell]; exact h3, by rw [World.frozen?_setCell, World.frozen?_setCell]; exact h4, by simpa [World.setCell] using h5, hz'⟩
  · rw [World.cell?_setCell_other _ _ _ _ (by simp)]
    exact World.cell?_setCell_same' _ _ _ (by rw [h1]; rfl)
  · exact World.cell?_setCell_same' _ _ _ (by rw [World.cell?_setCell_other _ _ _ _ (by simp), h2]; rfl)
end
theorem Res2.far {W : World} {b b' : Nat} {x y : Value} (h : Res2 W b) (hne : b' ≠ b) : Res2 ((W.setCell ⟨b', 0, none⟩ x).setCell ⟨b', 1, none⟩ y) b := by
  obtain ⟨⟨u, h1⟩, ⟨A, n, c, h2⟩, h3, h4, h5⟩ := h
  have e : ∀ (o : Nat) (w : World) (u : Value) (o' : Nat), (w.setCell ⟨b', o', none⟩ u).cell? ⟨b, o, none⟩ = w.cell? ⟨b, o, none⟩ := fun o w u o' => World.cell?_setCell_other _ _ _ _ (by simp [hne])
  exact ⟨⟨u, by rw [e, e]; exact h1⟩, ⟨A, n, c, by rw [e, e]; exact h2⟩, by rw [World.frozen?_setCell, World.frozen?_setCell]; exact h3, by rw [World.frozen?_setCell, World.frozen?_setCell]; exact h4, by simpa [World.setCell] using h5⟩
theorem below_set2 {w W : World} (h : Below w.heap.size w W) {b : Nat} (hb : w.heap.size ≤ b) (x y : Value) : Below w.heap.size w ((W.setCell ⟨b, 0, none⟩ x).setCell ⟨b, 1, none⟩ y) := below_set (below_set h hb x) hb y
end Go.Proofs.YtiaeeclmlchpoaaGreatDoor

set_option linter.unusedVariables false
set_option linter.unusedSimpArgs false
namespace Go.Proofs.YtiaeeclmlchpoaaGreatDoor
open Go.RowKit

abbrev VN (W : World) (b : Nat) (nv : Bool) (A : Option Addr) (n c : Nat) (z : Int) : Prop := VX B9 .i64 W b nv A n c z
theorem startV (w : World) {na : Bool} {A : Option Addr} {n c : Nat} {z : Int} (t : TypeId) (W : World) (h : IsZ B9 .i64 w (.agg #[.bool na, .slice A n c]) z)
    (hW : (w.alloc (.cells #[.bool na, .slice A n c] t)).alloc (.cells #[.bool false, .slice none 0 0] t) = W) :
    VN W w.heap.size na A n c z ∧ Res2 W (w.heap.size + 1) ∧ W.heap.size = w.heap.size + 2 ∧ Below w.heap.size w W := by
  obtain ⟨hS, hR, hs, hB⟩ := startP w na (.slice A n c) t W hW
  refine ⟨⟨hS.1, hS.2, ?_, ?_, by omega, h.below hB⟩, hR, hs, hB⟩ <;> (subst hW; simp [go_sem])

theorem len_le {B : Nat} (hB : 2 ≤ B) {z : Int} {k : Nat} (h : z.natAbs < B ^ k) : (dg B z).length ≤ k := digs_len_le hB h
theorem len_lt {B : Nat} (hB : 2 ≤ B) (z : Int) : z.natAbs < B ^ (dg B z).length := digs_len_lt hB _
theorem len_mul {B : Nat} (hB : 2 ≤ B) (x y : Int) : (dg B (x * y)).length ≤ (dg B x).length + (dg B y).length := by
  apply len_le hB
  rw [Int.natAbs_mul, Nat.pow_add]
  exact Nat.mul_lt_mul'' (len_lt hB x) (len_lt hB y)
theorem len_add {B : Nat} (hB : 2 ≤ B) (x y : Int) : (dg B (x + y)).length ≤ max (dg B x).length (dg B y).length + 1 := by
  apply len_le hB
  have h1 := len_lt hB x
  have h2 := len_lt hB y
  have h3 : B ^ (dg B x).length ≤ B ^ max (dg B x).length (dg B y).length := Nat.pow_le_pow_right (by omega) (by omega)
  have h4 : B ^ (dg B y).length ≤ B ^ max (dg B x).length (dg B y).length := Nat.pow_le_pow_right (by omega) (by omega)
  have h5 : B ^ max (dg B x).length (dg B y).length * 2 ≤ B ^ max (dg B x).length (dg B y).length * B := Nat.mul_le_mul_left _ hB
  rw [Nat.pow_succ]
  omega
theorem len_pow {B : Nat} (hB : 2 ≤ B) (x : Int) (k : Nat) : (dg B (x ^ k)).length ≤ (dg B x).length * k + 1 := by
  induction k with
  | zero => apply len_le hB; simp; omega
  | succ k ih =>
    rw [Int.pow_succ]
    have h1 := len_mul hB (x ^ k) x
    rw [Nat.mul_succ]
    omega
theorem len_int {z : Int} (h0 : -1000000000000000000 < z) (h1 : z < 1000000000000000000) : (dg B9 z).length ≤ 2 := by
  apply len_le B9two
  show _ < (1000000000000000000 : Nat)
  omega
end Go.Proofs.YtiaeeclmlchpoaaGreatDoor

set_option linter.unusedVariables false
set_option linter.unusedSimpArgs false
namespace Go.Proofs.YtiaeeclmlchpoaaGreatDoor
open Go.RowKit

/-- Whatever whole numbers lie in a row lie there still. -/
def Kp (w w' : World) : Prop := ∀ k A c l, SlI w k A c l → SlI w' k A c l
theorem Kp.refl (w : World) : Kp w w := fun _ _ _ _ h => h
theorem Kp.of {w w' : World} (h : Below w.heap.size w w') : Kp w w' := fun _ _ _ _ hs => hs.below h
theorem Kp.trans {a b c : World} (h : Kp a b) (k : Kp b c) : Kp a c := fun _ _ _ _ hs => k _ _ _ _ (h _ _ _ _ hs)
theorem Kp.isZ {w w' : World} (h : Kp w w') {B : Nat} {k : IntKind} {v : Value} {z : Int} (hz : IsZ B k w v z) : IsZ B k w' v z := by
  obtain ⟨A, c, e, hs⟩ := hz
  exact ⟨A, c, e, h _ _ _ _ hs⟩
theorem Kp.res2 {w : World} {b : Nat} (hr : Res2 w b) (x y : Value) : Kp w ((w.setCell ⟨b, 0, none⟩ x).setCell ⟨b, 1, none⟩ y) := fun _ _ _ _ hs => hs.res2 hr x y
theorem VX.keepB {B : Nat} {k : IntKind} {W w1 : World} {b base : Nat} {nv : Bool} {A : Option Addr} {n c : Nat} {z : Int} (h : VX B k W b nv A n c z) (hb : Below base W w1) (hlt : b < base) (hk : Kp W w1) : VX B k w1 b nv A n c z :=
  ⟨kcellB hb hlt h.c0, kcellB hb hlt h.c1, kfrozB hb hlt h.f0, kfrozB hb hlt h.f1, Nat.lt_of_lt_of_le h.lt hb.size, hk.isZ h.iz.out⟩

/-- A cell that holds no whole number. -/
def NoInt (u : Value) : Prop := ∀ k x, u ≠ .int k x
theorem zeroCells_mem {z : Array Value} (hz : 0 < z.size) {n : Nat} {u : Value} (h : u ∈ (Builtin.zeroCells z n).toList) : u ∈ z.toList := by
  unfold Builtin.zeroCells at h
  simp only [Array.toList_map, List.mem_map] at h
  obtain ⟨i, _, rfl⟩ := h
  have hm := Nat.mod_lt i hz
  rw [getElem!_pos z (i % z.size) hm]
  exact Array.getElem_mem_toList hm
def noI (w : World) (v : Value) : Prop := ∀ g cur e fz, v.ownBlock = some g → w.heap[g]? = some (.cells cur e fz) → ∀ u ∈ cur.toList, NoInt u
/-- A row of the call's own that holds no whole number. -/
def OwP (w : World) (base : Nat) (e : TypeId) (size : Nat) (v : Value) (n : Nat) (xs : List Value) : Prop := w.ownsRow base e size v n xs ∧ noI w v
theorem noI_alloc {W : World} {b : Nat} {cells : Array Value} {e : TypeId} {n c : Nat} (hb : b = W.heap.size) (h : ∀ u ∈ cells.toList, NoInt u) : noI (W.alloc (.cells cells e)) (.slice (some ⟨b, 0, none⟩) n c) := by
  intro g cur e' fz hg hcur u hu
  subst hb
  simp only [Value.ownBlock, Option.some.injEq] at hg
  subst hg
  rw [heap_alloc_new] at hcur
  injection hcur with hcur
  injection hcur with hcur
  subst hcur
  exact h u hu
section
variable {P : Program} (w : World)
theorem run_append_P (base : Nat) (t ty e : TypeId) (i : TypeInfo) (z : Value) (size bytes : Nat) (ht : P.underlying t = some (.slice e)) (hi : P.info? e = some i) (hz : i.zero = some z)
    (hsize : i.size = size) (hby : i.bytes = bytes) (hzs : z.cells.size = size) (hsz : 0 < size) (hzn : ∀ u ∈ z.cells.toList, NoInt u)
    (v : Value) (n : Nat) (xs : List Value) (hown : OwP w base e size v n xs)
    (a : Addr) (m c : Nat) (news : List Value) (hl : news.length = m * size) (hnews : ∀ j u, news[j]? = some u → w.cell? (a.add j) = some u) (h1 : ∀ u ∈ news, u.oneCell' = true) (hnn : ∀ u ∈ news, NoInt u) (hm : 0 < m)
    (h63 : n + m ≤ maxLen) (hbytes : (n + m) * bytes ≤ 140737488355328) (hbase : base ≤ w.heap.size) :
    ∃ v' w', (Builtin.append_ #[t, t] ty #[v, .slice (some a) m c]).run P w = .ok v' w' ∧ OwP w' base e size v' (n + m) (xs ++ news) ∧ w.grownBy w' v.ownBlock := by
  obtain ⟨v', w', hr, h2, h3, _⟩ := run_append_own (P := P) w base t ty e i z size bytes ht hi hz hsize hby hzs hsz v n xs hown.1 a m c news hl hnews h1 h63 hbytes hbase
  refine ⟨v', w', hr, ⟨h2, ?_⟩, h3⟩
  subst hsize
  subst hby
  have hsmall : n + m ≤ 9223372036854775807 := by simp only [maxLen] at h63; omega
  have hzc : ∀ k, ∀ u ∈ (Builtin.zeroCells z.cells k).toList, NoInt u := fun k u hu => hzn u (zeroCells_mem (by omega) hu)
  rcases hown.1.2 with ⟨rfl, rfl⟩ | ⟨g, cap, cur, rfl, hbg, hg, hnc, hcm, hcs, htake⟩
  · have hr2 := run_append_nil (P := P) w t ty e i z ht hi hz a m c news hl hnews hm (by omega) (by have hb := hbytes; simp only [Nat.zero_add] at hb; omega)
    rw [hr] at hr2
    injection hr2 with e1 e2
    subst e1 e2
    refine noI_alloc rfl fun u hu => ?_
    rw [Array.toList_append, List.mem_append] at hu
    rcases hu with hu | hu
    · exact hnn u hu
    · exact hzc _ u hu
  · have hcur := hown.2 g cur e (0, 0) rfl hg
    by_cases hroom : n + m ≤ cap
    · have hfit : n * i.size + news.length ≤ cur.size := by rw [hl, hcs, ← Nat.add_mul]; exact Nat.mul_le_mul_right _ hroom
      have hr2 := run_append_room (P := P) w t ty e i ht hi g n cap cur hg a m c news hl hnews h1 hroom hfit
      rw [hr] at hr2
      injection hr2 with e1 e2
      subst e1 e2
      intro g' cur' e' fz hg' hcur' u hu
      simp only [Value.ownBlock, Option.some.injEq] at hg'
      subst hg'
      rw [setRow_heap w g cur _ e _ hg] at hcur'
      injection hcur' with hcur'
      injection hcur' with hcur'
      subst hcur'
      simp only [List.mem_append] at hu
      rcases hu with (hu | hu) | hu
      · exact hcur u (List.mem_of_mem_take hu)
      · exact hnn u hu
      · exact hcur u (List.mem_of_mem_drop hu)
    · have holds : ∀ j u, xs[j]? = some u → w.cell? ((⟨g, 0, none⟩ : Addr).add j) = some u := hown.1.cells (g := g) rfl
      have hr2 := run_append_grow (P := P) w t ty e i z ht hi hz ⟨g, 0, none⟩ n cap xs hown.1.1 holds a m c news hl hnews (by omega) (by omega) (growslice_fits (by omega) hbytes)
      rw [hr] at hr2
      injection hr2 with e1 e2
      subst e1 e2
      refine noI_alloc rfl fun u hu => ?_
      rw [Array.toList_append, Array.toList_append, List.mem_append, List.mem_append] at hu
      rcases hu with (hu | hu) | hu
      · have hx : xs = cur.toList.take (n * i.size) := htake.symm
        rw [show xs.toArray.toList = xs from rfl, hx] at hu
        exact hcur u (List.mem_of_mem_take hu)
      · exact hnn u hu
      · exact hzc _ u hu
theorem wp_append_P {ops : Array Oper} {rest : List Oper} {o : Oper} {a : Act} {Q : Exit → Act → World → Prop} (hgd : o.guard = none) (s x : Operand) (t : TypeId)
    (ho : o.op = .call { callee := .builtin .append, args := #[s, x], argTypes := #[t, t] })
    (base : Nat) (e : TypeId) (i : TypeInfo) (z : Value) (size bytes : Nat) (ht : P.underlying t = some (.slice e)) (hi : P.info? e = some i) (hz : i.zero = some z)
    (hsize : i.size = size) (hby : i.bytes = bytes) (hzs : z.cells.size = size) (hsz : 0 < size) (hzn : ∀ u ∈ z.cells.toList, NoInt u)
    (v : Value) (n : Nat) (xs : List Value) (hs : a.eval s = v) (hown : OwP w base e size v n xs)
    (ad : Addr) (m c : Nat) (news : List Value) (hx : a.eval x = .slice (some ad) m c) (hl : news.length = m * size) (hnews : ∀ j u, news[j]? = some u → w.cell? (ad.add j) = some u) (h1 : ∀ u ∈ news, u.oneCell' = true) (hnn : ∀ u ∈ news, NoInt u) (hm : 0 < m)
    (h63 : n + m ≤ maxLen) (hbytes : (n + m) * bytes ≤ 140737488355328) (hbase : base ≤ w.heap.size)
    (h : ∀ v' w', OwP w' base e size v' (n + m) (xs ++ news) → w.grownBy w' v.ownBlock → wpList P ops Q rest (a.put o.dst v') w') : wpList P ops Q (o :: rest) a w :=
  wpList_plain hgd fun _ hK => by
    obtain ⟨v', w', hr, h2, h3⟩ := run_append_P (P := P) w base t o.type e i z size bytes ht hi hz hsize hby hzs hsz hzn v n xs hown ad m c news hl hnews h1 hnn hm h63 hbytes hbase
    unfold Oper.wp execOp
    simp only [ho, resolve, invoke, builtin, Sem.run_bind, Sem.run_pure, Result.andThen_ok, List.map_toArray, List.map_cons, List.map_nil, hs, hx, hr]
    exact hK _ _ (h v' w' h2 h3)
end

/-- What a row without whole numbers takes leaves whole numbers as they are. -/
theorem Kp.grown {w w' : World} {v : Value} (h : w.grownBy w' v.ownBlock) (hn : noI w v) (hv : ∀ g, v.ownBlock = some g → ∃ cur e fz, w.heap[g]? = some (.cells cur e fz)) : Kp w w' := by
  intro k A c l hs
  refine ⟨⟨hs.1.1, fun hl => ?_⟩, hs.2⟩
  obtain ⟨b, off, hA, hlt, hc⟩ := hs.1.2 hl
  refine ⟨b, off, hA, Nat.lt_of_lt_of_le hlt h.size, fun j u hu => ?_⟩
  have hne : some b ≠ v.ownBlock := by
    intro he
    obtain ⟨cur, e, fz, hcur⟩ := hv b he.symm
    have h0 := hc j u hu
    have hun : u ∈ cur.toList := by
      simp only [World.cell?, hcur] at h0
      exact Array.mem_toList_iff.2 (Array.mem_of_getElem? h0)
    have := hn b cur e fz he.symm hcur u hun
    have hu2 : u ∈ ints k l := List.mem_of_getElem? hu
    unfold ints at hu2
    simp only [List.mem_map] at hu2
    obtain ⟨x, _, rfl⟩ := hu2
    exact this _ _ rfl
  rw [← hc j u hu]
  exact World.cell?_of_block (h.block b hlt hne)
theorem own_cells {w : World} {base : Nat} {e : TypeId} {size n : Nat} {v : Value} {xs : List Value} (h : w.ownsRow base e size v n xs) : ∀ g, v.ownBlock = some g → ∃ cur e fz, w.heap[g]? = some (.cells cur e fz) := by
  intro g hg
  rcases h.2 with ⟨rfl, _⟩ | ⟨g', cap, cur, rfl, _, hgg, _⟩
  · simp [Value.ownBlock] at hg
  · have : g' = g := by simpa [Value.ownBlock] using hg
    subst this
    exact ⟨cur, e, _, hgg⟩
theorem OwP.below {w w' : World} {base : Nat} {e : TypeId} {size n : Nat} {v : Value} {xs : List Value} (h : OwP w base e size v n xs) (hb : Below w.heap.size w w') : OwP w' base e size v n xs := by
  refine ⟨World.ownsRow.kept (row := none) h.1 ⟨hb.os, hb.tape, hb.output, hb.size, fun i hi _ => hb.block i hi⟩ (by cases v.ownBlock <;> simp), ?_⟩
  intro g cur e' fz hg hcur
  have hlt := (h.1.lt g hg).2
  rw [hb.block g hlt] at hcur
  exact h.2 g cur e' fz hg hcur

/-- A list of numbers, two cells each, reads as l. -/
def Rl (B : Nat) (k : IntKind) (w : World) (xs : List Value) (l : List Int) : Prop :=
  ∀ j z, l[j]? = some z → ∃ nv A n c, xs[2 * j]? = some (.bool nv) ∧ xs[2 * j + 1]? = some (.slice A n c) ∧ IsZ B k w (.agg #[.bool nv, .slice A n c]) z
theorem Rl.kp {B : Nat} {k : IntKind} {w w' : World} {xs : List Value} {l : List Int} (h : Rl B k w xs l) (hk : Kp w w') : Rl B k w' xs l := fun j z hj => by
  obtain ⟨nv, A, n, c, h1, h2, h3⟩ := h j z hj
  exact ⟨nv, A, n, c, h1, h2, hk.isZ h3⟩
theorem Rl.snoc {B : Nat} {k : IntKind} {w : World} {xs : List Value} {l : List Int} (h : Rl B k w xs l) (hl : xs.length = l.length * 2) {nv : Bool} {A : Option Addr} {n c : Nat} {y : Int} (hy : IsZ B k w (.agg #[.bool nv, .slice A n c]) y) : Rl B k w (xs ++ [.bool nv, .slice A n c]) (l ++ [y]) := by
  intro j z hj
  rcases Nat.lt_or_ge j l.length with h1 | h1
  · rw [List.getElem?_append_left h1] at hj
    obtain ⟨nv', A', n', c', h2, h3, h4⟩ := h j z hj
    exact ⟨nv', A', n', c', by rw [List.getElem?_append_left (by omega)]; exact h2, by rw [List.getElem?_append_left (by omega)]; exact h3, h4⟩
  · rw [List.getElem?_append_right h1] at hj
    have hj0 : j - l.length = 0 := by
      rcases Nat.eq_zero_or_pos (j - l.length) with h2 | h2
      · exact h2
      · rw [List.getElem?_eq_none (by simp; omega)] at hj; cases hj
    rw [hj0] at hj
    have hz : y = z := by simpa using hj
    subst hz
    refine ⟨nv, A, n, c, ?_, ?_, hy⟩
    · rw [List.getElem?_append_right (by omega), show 2 * j - xs.length = 0 by omega]; rfl
    · rw [List.getElem?_append_right (by omega), show 2 * j + 1 - xs.length = 1 by omega]; rfl
/-- A slice of numbers. -/
def LsZ (B : Nat) (k : IntKind) (w : World) (A : Option Addr) (c : Nat) (l : List Int) : Prop := ∃ xs, Rd w 2 A l.length xs ∧ l.length ≤ c ∧ c ≤ 9223372036854775807 ∧ Rl B k w xs l
/-- A list of numbers of the call's own. -/
def OwZ (B : Nat) (k : IntKind) (w : World) (base : Nat) (e : TypeId) (v : Value) (l : List Int) : Prop := ∃ xs, OwP w base e 2 v l.length xs ∧ Rl B k w xs l
section
variable {B : Nat} {k : IntKind} {w w' : World} {base : Nat} {e : TypeId} {v : Value} {l : List Int} {A : Option Addr} {c : Nat}
theorem LsZ.below (h : LsZ B k w A c l) (hb : Below w.heap.size w w') : LsZ B k w' A c l := by
  obtain ⟨xs, h1, h2, h3, h4⟩ := h
  exact ⟨xs, h1.below hb, h2, h3, h4.kp (Kp.of hb)⟩
theorem LsZ.at (h : LsZ B k w A c l) {j : Nat} (hj : j < l.length) : ∃ b off nv A' n' c', A = some ⟨b, off, none⟩ ∧ b < w.heap.size ∧ w.cell? ⟨b, off + j * 2, none⟩ = some (.bool nv) ∧ w.cell? ⟨b, off + j * 2 + 1, none⟩ = some (.slice A' n' c') ∧ Hid (IsZ B k w (.agg #[.bool nv, .slice A' n' c']) (gd l j)) := by
  obtain ⟨xs, h1, h2, h3, h4⟩ := h
  obtain ⟨b, off, hA, hlt, hc⟩ := h1.2 (by omega)
  obtain ⟨nv, A', n', c', h5, h6, h7⟩ := h4 j (gd l j) (by rw [gd_lt hj]; exact List.getElem?_eq_getElem hj)
  refine ⟨b, off, nv, A', n', c', hA, hlt, ?_, ?_, h7⟩
  · rw [Nat.mul_comm]; exact hc _ _ h5
  · rw [Nat.add_assoc, Nat.mul_comm]; exact hc _ _ h6
theorem OwZ.nil (w : World) (base : Nat) (e : TypeId) : OwZ B k w base e (.slice none 0 0) [] :=
  ⟨[], ⟨World.ownsRow_nil _ _ _ _, fun g _ _ _ hg => by simp [Value.ownBlock] at hg⟩, fun j z h => by simp at h⟩
theorem OwZ.below (h : OwZ B k w base e v l) (hb : Below w.heap.size w w') : OwZ B k w' base e v l := by
  obtain ⟨xs, h1, h2⟩ := h
  exact ⟨xs, h1.below hb, h2.kp (Kp.of hb)⟩
theorem OwZ.form (h : OwZ B k w base e v l) : ∃ A c, v = .slice A l.length c ∧ LsZ B k w A c l := by
  obtain ⟨xs, h1, h2⟩ := h
  have hh := h1.1
  rcases h1.1.2 with ⟨rfl, h0⟩ | ⟨g, cap, cur, rfl, hb, hg, hnc, hm, _⟩
  · have : l = [] := List.eq_nil_of_length_eq_zero h0
    subst this
    exact ⟨none, 0, rfl, xs, ⟨hh.1, fun h => absurd h (by simp)⟩, Nat.le_refl _, by omega, h2⟩
  · refine ⟨some ⟨g, 0, none⟩, cap, rfl, xs, Rd.of_own hh, hnc, ?_, h2⟩
    simp only [maxLen] at hm
    omega
/-- A list of one number, just made. -/
theorem OwZ.one {nv : Bool} {A : Option Addr} {n c : Nat} {y : Int} (hbase : base ≤ w.heap.size) (hy : IsZ B k w (.agg #[.bool nv, .slice A n c]) y) : OwZ B k (w.alloc (.cells #[.bool nv, .slice A n c] e)) base e (.slice (some ⟨w.heap.size, 0, none⟩) 1 1) [y] := by
  refine ⟨[.bool nv, .slice A n c], ⟨⟨rfl, .inr ⟨w.heap.size, 1, #[.bool nv, .slice A n c], rfl, hbase, heap_alloc_new w _, Nat.le_refl _, by simp [maxLen], rfl, rfl⟩⟩, ?_⟩, ?_⟩
  · refine noI_alloc rfl fun u hu => ?_
    simp at hu
    rcases hu with rfl | rfl <;> exact fun _ _ h => by cases h
  · have := (show Rl B k (w.alloc (.cells #[.bool nv, .slice A n c] e)) [] [] from fun j z h => by simp at h).snoc rfl (hy.below (below_alloc (Below.refl _ _) _))
    simpa using this
end
section
variable {P : Program} {ops : Array Oper} {rest : List Oper} {o : Oper} {a : Act} {Q : Exit → Act → World → Prop}
/-- One number more at the end of a list of the call's own. -/
theorem app_Z {B : Nat} {k : IntKind} {W : World} (base : Nat) (hgd : o.guard = none) (s x : Operand) (t e : TypeId) (bytes : Nat)
    (ho : o.op = .call { callee := .builtin .append, args := #[s, x], argTypes := #[t, t] })
    (ht : P.underlying t = some (.slice e)) (hinfo : (P.info? e).map (fun i => (i.zero, i.size, i.bytes)) = some (some (.agg #[.bool false, .slice none 0 0]), 2, bytes)) (hb0 : 0 < bytes)
    (v : Value) (l : List Int) (nv : Bool) (A : Option Addr) (n c : Nat) (y : Int) (HO : OwZ B k W base e v l) (hy : IsZ B k W (.agg #[.bool nv, .slice A n c]) y) (hs : a.eval s = v) (hx : a.eval x = .slice (some ⟨W.heap.size, 0, none⟩) 1 1) (hbase : base ≤ W.heap.size) (hl : (l.length + 1) * bytes ≤ 140737488355328)
    (h : ∀ v1 w1, OwZ B k w1 base e v1 (l ++ [y]) → Below base W w1 → Kp W w1 → base ≤ w1.heap.size → wpList P ops Q rest (a.put o.dst v1) w1) :
    wpList P ops Q (o :: rest) a (W.alloc (.cells #[.bool nv, .slice A n c] e)) := by
  obtain ⟨i0, hi, hzz⟩ := Option.map_eq_some_iff.1 hinfo
  simp only [Prod.mk.injEq] at hzz
  obtain ⟨hz0, hz1, hz2⟩ := hzz
  obtain ⟨xs, hP, hR⟩ := HO
  have hlen : l.length + 1 ≤ 140737488355328 := Nat.le_trans (Nat.le_mul_of_pos_right _ hb0) hl
  have hba : Below W.heap.size W (W.alloc (.cells #[.bool nv, .slice A n c] e)) := below_alloc (Below.refl _ _) _
  have hP2 := hP.below hba
  refine wp_append_P (w := W.alloc (.cells #[.bool nv, .slice A n c] e)) hgd s x t ho base e i0 (.agg #[.bool false, .slice none 0 0]) 2 bytes ht hi hz0 hz1 hz2 rfl (by omega) ?_ v l.length xs hs hP2 ⟨W.heap.size, 0, none⟩ 1 1 [.bool nv, .slice A n c] hx rfl
    ?_ (by simp [Value.oneCell']) ?_ (by omega) (by simp only [maxLen]; omega) hl (by simp; omega) ?_
  · intro u hu
    simp [Value.cells] at hu
    rcases hu with rfl | rfl <;> exact fun _ _ h => by cases h
  · intro j u hj
    match j, hj with
    | 0, hj => simp at hj; subst hj; simp [Addr.add, go_sem]
    | 1, hj => simp at hj; subst hj; simp [Addr.add, go_sem]
  · intro u hu
    simp at hu
    rcases hu with rfl | rfl <;> exact fun _ _ h => by cases h
  · intro v1 w1 hown hg
    have hk : Kp W w1 := (Kp.of hba).trans (Kp.grown hg hP2.2 (own_cells hP2.1))
    refine h v1 w1 ⟨xs ++ [.bool nv, .slice A n c], by rw [List.length_append]; exact hown, (hR.kp hk).snoc hP.1.1 (hk.isZ hy)⟩ ?_ hk (by have := hg.size; simp at this; omega)
    exact ((Below.refl base W).alloc hbase _).grown hg (by simp; omega) (ownsRow_base hP2.1)
end
end Go.Proofs.YtiaeeclmlchpoaaGreatDoor

set_option linter.unusedVariables false
namespace Go.Proofs.YtiaeeclmlchpoaaGreatDoor
open Go

section
variable {P : Program} {ops : Array Oper} {Q : Exit → Act → World → Prop} {md : Region.Mode} {S : World → Prop} {st : List Nat}

/-- As long as none of st has come up, the world meets S. -/
def heldF (S : World → Prop) (st : List Nat) (done : Array Bool) (w : World) : Prop := (∀ k ∈ st, done.getD k true = false) → S w
/-- Whatever order is picked; behind every operation: heldF. -/
def wpAnyF (P : Program) (md : Region.Mode) (ops : Array Oper) (Q : Exit → Act → World → Prop) (S : World → Prop) (st : List Nat) : Nat → Array Bool → Act → World → Prop
  | 0, done, a, w => Region.ready md ops done = [] ∧ Q .normal a w
  | n + 1, done, a, w => (Region.ready md ops done = [] → Q .normal a w) ∧
    ∀ i ∈ Region.ready md ops done, wpOp P ops Q i (fun a' w' => heldF S st (done.setIfInBounds i true) w' ∧ wpAnyF P md ops Q S st n (done.setIfInBounds i true) a' w') a w

theorem wpAny_of_F : ∀ (n : Nat) (done : Array Bool) (a : Act) (w : World), wpAnyF P md ops Q S st n done a w → wpAny P md ops Q n done a w
  | 0, _, _, _, h => h
  | n + 1, _, _, _, h => ⟨h.1, fun i hi => wpOp_mono (fun a' w' h' => wpAny_of_F n _ a' w' h'.2) (h.2 i hi)⟩

/-- Every operation of st waits for number i. -/
def stWait (md : Region.Mode) (ops : Array Oper) (st : List Nat) (i : Nat) : Bool :=
  st.all fun j => match ops[j]? with
    | some o => o.after.any fun e => Region.binds md e && e.on == i
    | none => true
theorem set_ne {done : Array Bool} {i k : Nat} (h : k ≠ i) : (done.setIfInBounds i true).getD k true = done.getD k true := getD_set_ne true (Ne.symm h)

theorem wpAnyF_first {i : Nat} {oi : Oper} {v : Value} (hi : ops[i]? = some oi) (hsel : ∀ (j : Nat) (o : Oper) cs b, ops[j]? = some o → o.op ≠ .select cs b)
    (hQ : ∀ c a w, Q (.panic c) (a.put oi.dst v) w → Q (.panic c) a w) (hst : stWait md ops st i = true) (hin : i ∉ st) :
    ∀ (n : Nat) (done : Array Bool) (a : Act) (w : World),
      (∀ j oj, ops[j]? = some oj → j ≠ i → done.getD j true = false → (∀ e ∈ oj.after, Region.binds md e = true → e.on ≠ i) → oi.apart ops oj = true) →
      i ∈ Region.ready md ops done → YieldsIf P ops S oi v a → S w → (∀ k ∈ st, done.getD k true = false) →
      wpAnyF P md ops Q S st n (done.setIfInBounds i true) (a.put oi.dst v) w → wpAnyF P md ops Q S st (n + 1) done a w := by
  intro n
  induction n with
  | zero =>
    intro done a w _ hr hy hS hno H
    refine ⟨fun h => (by rw [h] at hr; cases hr), fun j hj => ?_⟩
    by_cases hji : j = i
    · subst hji; exact hy.wpOp hi hS ⟨fun _ => hS, H⟩
    · have := ready_mono hj hji
      rw [H.1] at this
      cases this
  | succ n ih =>
    intro done a w hfree hr hy hS hno H
    refine ⟨fun h => (by rw [h] at hr; cases hr), fun j hj => ?_⟩
    by_cases hji : j = i
    · subst hji; exact hy.wpOp hi hS ⟨fun _ => hS, H⟩
    · have h1 := H.2 j (ready_mono hj hji)
      obtain ⟨hjun, oj, hoj, hall⟩ := mem_ready.1 hj
      have hnot : ∀ e ∈ oj.after, Region.binds md e = true → e.on ≠ i := fun e he hb heq => by
        have h1 := hall e he hb
        have h0 := (mem_ready.1 hr).1
        rw [heq] at h1
        rcases Nat.lt_or_ge i done.size with h' | h'
        · simp [h'] at h0 h1; rw [h0] at h1; cases h1
        · simp [Array.getElem?_eq_none h'] at h1
      have hjst : j ∉ st := fun hm => by
        have h2 := List.all_eq_true.1 hst j hm
        simp only [hoj] at h2
        obtain ⟨e, he, h3⟩ := Array.any_eq_true'.1 h2
        simp only [Bool.and_eq_true, beq_iff_eq] at h3
        exact hnot e he h3.1 h3.2
      have hno' : ∀ k ∈ st, (done.setIfInBounds j true).getD k true = false := fun k hk => by
        rw [set_ne (i := j) (show k ≠ j from fun e => hjst (by rw [← e]; exact hk))]; exact hno k hk
      have hno2 : ∀ k ∈ st, ((done.setIfInBounds i true).setIfInBounds j true).getD k true = false := fun k hk => by
        rw [set_ne (i := j) (show k ≠ j from fun e => hjst (by rw [← e]; exact hk)), set_ne (i := i) (show k ≠ i from fun e => hin (by rw [← e]; exact hk))]; exact hno k hk
      have h2 := wpOp_putIf hoj (hfree j oj hoj hji hjun hnot) (fun cs b => hsel i oi cs b hi) (fun cs b => hsel j oj cs b hoj) hQ hy h1
      have hfree' : ∀ k ok, ops[k]? = some ok → k ≠ i → (done.setIfInBounds j true).getD k true = false →
          (∀ e ∈ ok.after, Region.binds md e = true → e.on ≠ i) → oi.apart ops ok = true := fun k ok hk hki hun hno => by
        refine hfree k ok hk hki ?_ hno
        by_cases hjk : j = k
        · subst hjk; exact hjun
        · rw [getD_set_ne true hjk] at hun; exact hun
      refine wpOp_mono (fun a' w' h3 => ⟨fun _ => h3.2.1 hno2, ih (done.setIfInBounds j true) a' w' hfree' (ready_mono hr (Ne.symm hji)) h3.1 (h3.2.1 hno2) hno' ?_⟩) h2
      rw [Array.setIfInBounds_comm _ _ hji]
      exact h3.2.2
theorem wpAnyF_first' {i : Nat} {oi : Oper} {v : Value} (hi : ops[i]? = some oi) (hsel : ∀ (j : Nat) (o : Oper) cs b, ops[j]? = some o → o.op ≠ .select cs b)
    (hQ : ∀ c a w, Q (.panic c) (a.put oi.dst v) w → Q (.panic c) a w) (hin : i ∉ st) :
    ∀ (n : Nat) (done : Array Bool) (a : Act) (w : World),
      (∀ j oj, ops[j]? = some oj → j ≠ i → done.getD j true = false → (∀ e ∈ oj.after, Region.binds md e = true → e.on ≠ i) → oi.apart ops oj = true) →
      i ∈ Region.ready md ops done → YieldsIf P ops (fun _ => True) oi v a → heldF S st done w →
      wpAnyF P md ops Q S st n (done.setIfInBounds i true) (a.put oi.dst v) w → wpAnyF P md ops Q S st (n + 1) done a w := by
  intro n
  induction n with
  | zero =>
    intro done a w _ hr hy hS H
    refine ⟨fun h => (by rw [h] at hr; cases hr), fun j hj => ?_⟩
    by_cases hji : j = i
    · subst hji; exact hy.wpOp hi trivial ⟨fun hk => hS fun k hm => by rw [← set_ne (i := j) (show k ≠ j from fun e => hin (by rw [← e]; exact hm))]; exact hk k hm, H⟩
    · have := ready_mono hj hji
      rw [H.1] at this
      cases this
  | succ n ih =>
    intro done a w hfree hr hy hS H
    refine ⟨fun h => (by rw [h] at hr; cases hr), fun j hj => ?_⟩
    by_cases hji : j = i
    · subst hji; exact hy.wpOp hi trivial ⟨fun hk => hS fun k hm => by rw [← set_ne (i := j) (show k ≠ j from fun e => hin (by rw [← e]; exact hm))]; exact hk k hm, H⟩
    · have h1 := H.2 j (ready_mono hj hji)
      obtain ⟨hjun, oj, hoj, hall⟩ := mem_ready.1 hj
      have hnot : ∀ e ∈ oj.after, Region.binds md e = true → e.on ≠ i := fun e he hb heq => by
        have h1 := hall e he hb
        have h0 := (mem_ready.1 hr).1
        rw [heq] at h1
        rcases Nat.lt_or_ge i done.size with h' | h'
        · simp [h'] at h0 h1; rw [h0] at h1; cases h1
        · simp [Array.getElem?_eq_none h'] at h1
      have h2 := wpOp_putIf hoj (hfree j oj hoj hji hjun hnot) (fun cs b => hsel i oi cs b hi) (fun cs b => hsel j oj cs b hoj) hQ hy h1
      have hfree' : ∀ k ok, ops[k]? = some ok → k ≠ i → (done.setIfInBounds j true).getD k true = false →
          (∀ e ∈ ok.after, Region.binds md e = true → e.on ≠ i) → oi.apart ops ok = true := fun k ok hk hki hun hno => by
        refine hfree k ok hk hki ?_ hno
        by_cases hjk : j = k
        · subst hjk; exact hjun
        · rw [getD_set_ne true hjk] at hun; exact hun
      have hD : ∀ w', heldF S st ((done.setIfInBounds i true).setIfInBounds j true) w' → heldF S st (done.setIfInBounds j true) w' := fun w' h hk => h fun k hm => by
        rw [Array.setIfInBounds_comm _ _ (Ne.symm hji), set_ne (i := i) (show k ≠ i from fun e => hin (by rw [← e]; exact hm))]; exact hk k hm
      refine wpOp_mono (fun a' w' h3 => ⟨hD w' h3.2.1, ih (done.setIfInBounds j true) a' w' hfree' (ready_mono hr (Ne.symm hji)) h3.1 (hD w' h3.2.1) ?_⟩) h2
      rw [Array.setIfInBounds_comm _ _ hji]
      exact h3.2.2

/-- None of st has come up. -/
def noneSt (st : List Nat) (done : Array Bool) : Bool := st.all fun k => !done.getD k true
theorem noneSt_spec {done : Array Bool} (h : noneSt st done = true) : ∀ k ∈ st, done.getD k true = false := fun k hk => by
  have := List.all_eq_true.1 h k hk
  simpa using this
theorem wpAnyF_take {i : Nat} {oi : Oper} {v : Value} {n : Nat} {done : Array Bool} {a : Act} {w : World} (hi : ops[i]? = some oi)
    (hs : Region.noSelect ops = true) (hf : Region.free md ops done i = true) (hr : (Region.ready md ops done).contains i = true) (hst : (stWait md ops st i && !st.contains i && noneSt st done) = true)
    (hQ : ∀ c a w, Q (.panic c) (a.put oi.dst v) w → Q (.panic c) a w) (hy : YieldsIf P ops S oi v a) (hS : S w)
    (h : wpAnyF P md ops Q S st n (done.setIfInBounds i true) (a.put oi.dst v) w) : wpAnyF P md ops Q S st (n + 1) done a w := by
  simp only [Bool.and_eq_true] at hst
  exact wpAnyF_first hi (Region.noSelect_spec hs) hQ hst.1.1 (by simpa using hst.1.2) n done a w (Region.free_spec hi hf) (by simpa using hr) hy hS (noneSt_spec hst.2) h
/-- An operation that does not look at the world. -/
theorem wpAnyF_pure {i : Nat} {oi : Oper} {v : Value} {n : Nat} {done : Array Bool} {a : Act} {w : World} (hi : ops[i]? = some oi)
    (hs : Region.noSelect ops = true) (hf : Region.free md ops done i = true) (hr : (Region.ready md ops done).contains i = true) (hst : (!st.contains i) = true)
    (hQ : ∀ c a w, Q (.panic c) (a.put oi.dst v) w → Q (.panic c) a w) (hy : YieldsIf P ops (fun _ => True) oi v a) (hS : S w)
    (h : wpAnyF P md ops Q S st n (done.setIfInBounds i true) (a.put oi.dst v) w) : wpAnyF P md ops Q S st (n + 1) done a w :=
  wpAnyF_first' hi (Region.noSelect_spec hs) hQ (by simpa using hst) n done a w (Region.free_spec hi hf) (by simpa using hr) hy (fun _ => hS) h
/-- The same two, their closed facts in one. -/
theorem wpF_t {i : Nat} {oi : Oper} {v : Value} {n : Nat} {done : Array Bool} {a : Act} {w : World} (hi : ops[i]? = some oi)
    (hc : (Region.noSelect ops && Region.free md ops done i && (Region.ready md ops done).contains i && (stWait md ops st i && !st.contains i && noneSt st done)) = true)
    (hQ : ∀ c a w, Q (.panic c) (a.put oi.dst v) w → Q (.panic c) a w) (hy : YieldsIf P ops S oi v a) (hS : S w)
    (h : wpAnyF P md ops Q S st n (done.setIfInBounds i true) (a.put oi.dst v) w) : wpAnyF P md ops Q S st (n + 1) done a w := by
  rw [Bool.and_eq_true, Bool.and_eq_true, Bool.and_eq_true] at hc
  exact wpAnyF_take hi hc.1.1.1 hc.1.1.2 hc.1.2 hc.2 hQ hy hS h
theorem wpF_p {i : Nat} {oi : Oper} {v : Value} {n : Nat} {done : Array Bool} {a : Act} {w : World} (hi : ops[i]? = some oi)
    (hc : (Region.noSelect ops && Region.free md ops done i && (Region.ready md ops done).contains i && !st.contains i) = true)
    (hQ : ∀ c a w, Q (.panic c) (a.put oi.dst v) w → Q (.panic c) a w) (hy : YieldsIf P ops (fun _ => True) oi v a) (hS : S w)
    (h : wpAnyF P md ops Q S st n (done.setIfInBounds i true) (a.put oi.dst v) w) : wpAnyF P md ops Q S st (n + 1) done a w := by
  rw [Bool.and_eq_true, Bool.and_eq_true, Bool.and_eq_true] at hc
  exact wpAnyF_pure hi hc.1.1.1 hc.1.1.2 hc.1.2 hc.2 hQ hy hS h
/-- Only number i may come up; S is to be shown behind it. -/
theorem wpAnyF_one {i : Nat} {o : Oper} {n : Nat} {done : Array Bool} {a : Act} {w : World} (hr : Region.ready md ops done = [i]) (ho : ops[i]? = some o)
    (h : ∀ K' : Act → World → Prop, Shut (∀ a w, S w → (S w → wpAnyF P md ops Q S st n (done.setIfInBounds i true) a w) → K' a w) → if Region.wanted o (yielded ops a.tmps) = true then Oper.wp P o a w K' Q else K' (a.put o.dst undef) w) :
    wpAnyF P md ops Q S st (n + 1) done a w := by
  refine ⟨fun h0 => (by rw [hr] at h0; cases h0), fun j hj => ?_⟩
  rw [hr] at hj
  obtain rfl : j = i := by simpa using hj
  exact wpOp_step ho (fun K' hK => h K' (fun a w hS hW => hK a w ⟨fun _ => hS, hW hS⟩))
/-- Only number i may come up, and one of st has come up, it or one before it. -/
theorem wpAnyF_st {i : Nat} {o : Oper} {n : Nat} {done : Array Bool} {a : Act} {w : World} (hr : Region.ready md ops done = [i]) (hi : noneSt st (done.setIfInBounds i true) = false) (ho : ops[i]? = some o)
    (h : ∀ K' : Act → World → Prop, Shut (∀ a w, wpAnyF P md ops Q S st n (done.setIfInBounds i true) a w → K' a w) → if Region.wanted o (yielded ops a.tmps) = true then Oper.wp P o a w K' Q else K' (a.put o.dst undef) w) :
    wpAnyF P md ops Q S st (n + 1) done a w := by
  refine ⟨fun h0 => (by rw [hr] at h0; cases h0), fun j hj => ?_⟩
  rw [hr] at hj
  obtain rfl : j = i := by simpa using hj
  refine wpOp_step ho (fun K' hK => h K' (fun a w hW => hK a w ⟨fun hn => ?_, hW⟩))
  have : noneSt st (done.setIfInBounds j true) = true := List.all_eq_true.2 fun k hk => by rw [hn k hk]; rfl
  rw [hi] at this; cases this
theorem wpAnyF_done {done : Array Bool} {a : Act} {w : World} (hr : Region.ready md ops done = []) (h : Q .normal a w) : ∀ n, wpAnyF P md ops Q S st n done a w
  | 0 => ⟨hr, h⟩
  | _ + 1 => ⟨fun _ => h, by rw [hr]; simp⟩
theorem wp_region_F (S : World → Prop) (st : List Nat) {id : Nat} {a : Act} {w : World} (hm : P.follows .mixedOrders = true) (hS : S w.drew)
    (h : S w.drew → wpAnyF P .any ops Q S st ops.size (Array.replicate ops.size false) a w.drew) : (Code.region id ops true).wp P Q a w :=
  wp_region_any hm (wpAny_of_F _ _ _ _ (h hS))
end
end Go.Proofs.YtiaeeclmlchpoaaGreatDoor

set_option linter.unusedVariables false
namespace Go.Proofs.YtiaeeclmlchpoaaGreatDoor
open Go

section
variable {P : Program} {ops : Array Oper} {Q : Exit → Act → World → Prop} {md : Region.Mode} {S : World → Prop} {st : List Nat}
/-- Two numbers may come up. -/
theorem wpAnyF_two {i j : Nat} {oi oj : Oper} {n : Nat} {done : Array Bool} {a : Act} {w : World} (hr : Region.ready md ops done = [i, j]) (hi : ops[i]? = some oi) (hj : ops[j]? = some oj)
    (h1 : ∀ K' : Act → World → Prop, Shut (∀ a w, S w → (S w → wpAnyF P md ops Q S st n (done.setIfInBounds i true) a w) → K' a w) → if Region.wanted oi (yielded ops a.tmps) = true then Oper.wp P oi a w K' Q else K' (a.put oi.dst undef) w)
    (h2 : ∀ K' : Act → World → Prop, Shut (∀ a w, S w → (S w → wpAnyF P md ops Q S st n (done.setIfInBounds j true) a w) → K' a w) → if Region.wanted oj (yielded ops a.tmps) = true then Oper.wp P oj a w K' Q else K' (a.put oj.dst undef) w) :
    wpAnyF P md ops Q S st (n + 1) done a w := by
  refine ⟨fun h0 => (by rw [hr] at h0; cases h0), fun k hk => ?_⟩
  rw [hr] at hk
  have hk' : k = i ∨ k = j := by simpa using hk
  rcases hk' with rfl | rfl
  · exact wpOp_step hi (fun K' hK => h1 K' (fun a w hS hW => hK a w ⟨fun _ => hS, hW hS⟩))
  · exact wpOp_step hj (fun K' hK => h2 K' (fun a w hS hW => hK a w ⟨fun _ => hS, hW hS⟩))
end
theorem newRes (w : World) (t : TypeId) : Res2 (w.alloc (.cells #[.bool false, .slice none 0 0] t)) w.heap.size :=
  ⟨⟨false, by simp [go_sem]⟩, ⟨none, 0, 0, by simp [go_sem]⟩, by simp [go_sem], by simp [go_sem], by simp⟩
end Go.Proofs.YtiaeeclmlchpoaaGreatDoor

set_option linter.unusedVariables false
set_option linter.unusedSimpArgs false
namespace Go.Proofs.YtiaeeclmlchpoaaGreatDoor
open Go.RowKit

abbrev opb74a9f6d : Oper := { dst := some 34, op := Go.Op.fieldAddr 24 (Go.Operand.tmp 1) 1, type := 0, pos := "ref.go:15", after := #[], guard := none }
abbrev opd15ce1ae : Oper := { dst := some 35, op := Go.Op.load 22 (Go.Operand.tmp 34), type := 22, pos := "ref.go:15", after := #[{ on := 0, ground := Go.Ground.data }], guard := none }
abbrev ope98d956f : Oper := { dst := some 36, op := Go.Op.move (Go.Operand.tmp 3), type := 3, pos := "ref.go:15", after := #[], guard := none }
abbrev opdf3b0535 : Oper := { dst := some 37, op := Go.Op.indexAddr 22 (Go.Operand.tmp 35) (Go.Operand.tmp 36), type := 0, pos := "ref.go:15", after := #[{ on := 1, ground := Go.Ground.data }, { on := 2, ground := Go.Ground.data }], guard := none }
abbrev opcb6b7774 : Oper := { dst := some 38, op := Go.Op.load 3 (Go.Operand.tmp 37), type := 3, pos := "ref.go:15", after := #[{ on := 3, ground := Go.Ground.data }], guard := none }
abbrev opf78ae9b7 : Oper := { dst := some 39, op := Go.Op.binOp Go.BinOp.lss 3 (Go.Operand.tmp 38) (Go.Operand.const (Go.Value.int Go.IntKind.i64 1)) 3, type := 4, pos := "ref.go:15", after := #[{ on := 4, ground := Go.Ground.data }], guard := none }
abbrev op67d5bceb : Oper := { dst := some 40, op := Go.Op.move (Go.Operand.tmp 39), type := 4, pos := "ref.go:15", after := #[{ on := 5, ground := Go.Ground.data }], guard := none }
abbrev op2596a6ed : Oper := { dst := some 41, op := Go.Op.fieldAddr 24 (Go.Operand.tmp 1) 1, type := 0, pos := "ref.go:15", after := #[{ on := 6, ground := Go.Ground.guard }], guard := some (6, false) }
abbrev op71fc8f34 : Oper := { dst := some 42, op := Go.Op.load 22 (Go.Operand.tmp 41), type := 22, pos := "ref.go:15", after := #[{ on := 7, ground := Go.Ground.data }, { on := 6, ground := Go.Ground.guard }], guard := some (6, false) }
abbrev opeb3fbc0c : Oper := { dst := some 43, op := Go.Op.move (Go.Operand.tmp 3), type := 3, pos := "ref.go:15", after := #[{ on := 6, ground := Go.Ground.guard }], guard := some (6, false) }
abbrev op19de0455 : Oper := { dst := some 44, op := Go.Op.indexAddr 22 (Go.Operand.tmp 42) (Go.Operand.tmp 43), type := 0, pos := "ref.go:15", after := #[{ on := 8, ground := Go.Ground.data }, { on := 9, ground := Go.Ground.data }, { on := 6, ground := Go.Ground.guard }], guard := some (6, false) }
abbrev opefb8e504 : Oper := { dst := some 45, op := Go.Op.load 3 (Go.Operand.tmp 44), type := 3, pos := "ref.go:15", after := #[{ on := 10, ground := Go.Ground.data }, { on := 6, ground := Go.Ground.guard }], guard := some (6, false) }
abbrev op00402869 : Oper := { dst := some 46, op := Go.Op.binOp Go.BinOp.gtr 3 (Go.Operand.tmp 45) (Go.Operand.const (Go.Value.int Go.IntKind.i64 999)) 3, type := 4, pos := "ref.go:15", after := #[{ on := 11, ground := Go.Ground.data }, { on := 6, ground := Go.Ground.guard }], guard := some (6, false) }
abbrev opc7ea2d58 : Oper := { dst := some 47, op := Go.Op.pick (Go.Operand.tmp 40) (Go.Operand.const (Go.Value.bool true)) (Go.Operand.tmp 46), type := 4, pos := "ref.go:15", after := #[{ on := 6, ground := Go.Ground.data }, { on := 12, ground := Go.Ground.data }], guard := none }
abbrev op02df3bc6 : Oper := { dst := some 48, op := Go.Op.move (Go.Operand.tmp 47), type := 4, pos := "ref.go:15", after := #[{ on := 13, ground := Go.Ground.data }, { on := 6, ground := Go.Ground.chain }], guard := none }
abbrev op0147b1e8 : Oper := { dst := some 49, op := Go.Op.fieldAddr 24 (Go.Operand.tmp 1) 2, type := 0, pos := "ref.go:15", after := #[{ on := 14, ground := Go.Ground.guard }], guard := some (14, false) }
abbrev op367923b2 : Oper := { dst := some 50, op := Go.Op.load 22 (Go.Operand.tmp 49), type := 22, pos := "ref.go:15", after := #[{ on := 15, ground := Go.Ground.data }, { on := 14, ground := Go.Ground.guard }], guard := some (14, false) }
abbrev op0d4e30f6 : Oper := { dst := some 51, op := Go.Op.move (Go.Operand.tmp 3), type := 3, pos := "ref.go:15", after := #[{ on := 14, ground := Go.Ground.guard }], guard := some (14, false) }
abbrev op73bf241a : Oper := { dst := some 52, op := Go.Op.indexAddr 22 (Go.Operand.tmp 50) (Go.Operand.tmp 51), type := 0, pos := "ref.go:15", after := #[{ on := 16, ground := Go.Ground.data }, { on := 17, ground := Go.Ground.data }, { on := 14, ground := Go.Ground.guard }], guard := some (14, false) }
abbrev op6f4bb26b : Oper := { dst := some 53, op := Go.Op.load 3 (Go.Operand.tmp 52), type := 3, pos := "ref.go:15", after := #[{ on := 18, ground := Go.Ground.data }, { on := 14, ground := Go.Ground.guard }], guard := some (14, false) }
abbrev op10933576 : Oper := { dst := some 54, op := Go.Op.binOp Go.BinOp.lss 3 (Go.Operand.tmp 53) (Go.Operand.const (Go.Value.int Go.IntKind.i64 (-999999))) 3, type := 4, pos := "ref.go:15", after := #[{ on := 19, ground := Go.Ground.data }, { on := 14, ground := Go.Ground.guard }], guard := some (14, false) }
abbrev ope53d57e5 : Oper := { dst := some 55, op := Go.Op.pick (Go.Operand.tmp 48) (Go.Operand.const (Go.Value.bool true)) (Go.Operand.tmp 54), type := 4, pos := "ref.go:15", after := #[{ on := 14, ground := Go.Ground.data }, { on := 20, ground := Go.Ground.data }], guard := none }
abbrev op3563458a : Oper := { dst := some 56, op := Go.Op.move (Go.Operand.tmp 55), type := 4, pos := "ref.go:15", after := #[{ on := 21, ground := Go.Ground.data }, { on := 14, ground := Go.Ground.chain }], guard := none }
abbrev op19e58d37 : Oper := { dst := some 57, op := Go.Op.fieldAddr 24 (Go.Operand.tmp 1) 2, type := 0, pos := "ref.go:15", after := #[{ on := 22, ground := Go.Ground.guard }], guard := some (22, false) }
abbrev opb6ad711b : Oper := { dst := some 58, op := Go.Op.load 22 (Go.Operand.tmp 57), type := 22, pos := "ref.go:15", after := #[{ on := 23, ground := Go.Ground.data }, { on := 22, ground := Go.Ground.guard }], guard := some (22, false) }
abbrev op43432d2f : Oper := { dst := some 59, op := Go.Op.move (Go.Operand.tmp 3), type := 3, pos := "ref.go:15", after := #[{ on := 22, ground := Go.Ground.guard }], guard := some (22, false) }
abbrev op1e04abd5 : Oper := { dst := some 60, op := Go.Op.indexAddr 22 (Go.Operand.tmp 58) (Go.Operand.tmp 59), type := 0, pos := "ref.go:15", after := #[{ on := 24, ground := Go.Ground.data }, { on := 25, ground := Go.Ground.data }, { on := 22, ground := Go.Ground.guard }], guard := some (22, false) }
abbrev opa8a26915 : Oper := { dst := some 61, op := Go.Op.load 3 (Go.Operand.tmp 60), type := 3, pos := "ref.go:15", after := #[{ on := 26, ground := Go.Ground.data }, { on := 22, ground := Go.Ground.guard }], guard := some (22, false) }
abbrev op250c1c0e : Oper := { dst := some 62, op := Go.Op.binOp Go.BinOp.gtr 3 (Go.Operand.tmp 61) (Go.Operand.const (Go.Value.int Go.IntKind.i64 999999)) 3, type := 4, pos := "ref.go:15", after := #[{ on := 27, ground := Go.Ground.data }, { on := 22, ground := Go.Ground.guard }], guard := some (22, false) }
abbrev op5f14c424 : Oper := { dst := some 63, op := Go.Op.pick (Go.Operand.tmp 56) (Go.Operand.const (Go.Value.bool true)) (Go.Operand.tmp 62), type := 4, pos := "ref.go:15", after := #[{ on := 22, ground := Go.Ground.data }, { on := 28, ground := Go.Ground.data }], guard := none }
abbrev opdc1f94a9 : Oper := { dst := some 64, op := Go.Op.move (Go.Operand.tmp 63), type := 4, pos := "ref.go:15", after := #[{ on := 29, ground := Go.Ground.data }, { on := 22, ground := Go.Ground.chain }], guard := none }
abbrev opaa8495c7 : Oper := { dst := some 65, op := Go.Op.fieldAddr 24 (Go.Operand.tmp 1) 1, type := 0, pos := "ref.go:15", after := #[{ on := 30, ground := Go.Ground.guard }], guard := some (30, false) }
abbrev opd9ccf652 : Oper := { dst := some 66, op := Go.Op.load 22 (Go.Operand.tmp 65), type := 22, pos := "ref.go:15", after := #[{ on := 31, ground := Go.Ground.data }, { on := 30, ground := Go.Ground.guard }], guard := some (30, false) }
abbrev opdb60753c : Oper := { dst := some 67, op := Go.Op.move (Go.Operand.tmp 3), type := 3, pos := "ref.go:15", after := #[{ on := 30, ground := Go.Ground.guard }], guard := some (30, false) }
abbrev opc61cbc97 : Oper := { dst := some 68, op := Go.Op.indexAddr 22 (Go.Operand.tmp 66) (Go.Operand.tmp 67), type := 0, pos := "ref.go:15", after := #[{ on := 32, ground := Go.Ground.data }, { on := 33, ground := Go.Ground.data }, { on := 30, ground := Go.Ground.guard }], guard := some (30, false) }
abbrev op20c4dc1a : Oper := { dst := some 69, op := Go.Op.load 3 (Go.Operand.tmp 68), type := 3, pos := "ref.go:15", after := #[{ on := 34, ground := Go.Ground.data }, { on := 30, ground := Go.Ground.guard }], guard := some (30, false) }
abbrev opba2df783 : Oper := { dst := some 70, op := Go.Op.move (Go.Operand.tmp 3), type := 3, pos := "ref.go:15", after := #[{ on := 30, ground := Go.Ground.guard }], guard := some (30, false) }
abbrev op9bb5a0ab : Oper := { dst := some 71, op := Go.Op.binOp Go.BinOp.mul 3 (Go.Operand.tmp 69) (Go.Operand.tmp 70) 3, type := 3, pos := "ref.go:15", after := #[{ on := 35, ground := Go.Ground.data }, { on := 36, ground := Go.Ground.data }, { on := 30, ground := Go.Ground.guard }], guard := some (30, false) }
abbrev opaa4bf63a : Oper := { dst := some 72, op := Go.Op.fieldAddr 24 (Go.Operand.tmp 1) 2, type := 0, pos := "ref.go:15", after := #[{ on := 30, ground := Go.Ground.guard }], guard := some (30, false) }
abbrev op2255145b : Oper := { dst := some 73, op := Go.Op.load 22 (Go.Operand.tmp 72), type := 22, pos := "ref.go:15", after := #[{ on := 38, ground := Go.Ground.data }, { on := 30, ground := Go.Ground.guard }], guard := some (30, false) }
abbrev op1ce95251 : Oper := { dst := some 74, op := Go.Op.move (Go.Operand.tmp 3), type := 3, pos := "ref.go:15", after := #[{ on := 30, ground := Go.Ground.guard }], guard := some (30, false) }
abbrev ope88bff23 : Oper := { dst := some 75, op := Go.Op.indexAddr 22 (Go.Operand.tmp 73) (Go.Operand.tmp 74), type := 0, pos := "ref.go:15", after := #[{ on := 39, ground := Go.Ground.data }, { on := 40, ground := Go.Ground.data }, { on := 30, ground := Go.Ground.guard }], guard := some (30, false) }
abbrev op467e474e : Oper := { dst := some 76, op := Go.Op.load 3 (Go.Operand.tmp 75), type := 3, pos := "ref.go:15", after := #[{ on := 41, ground := Go.Ground.data }, { on := 30, ground := Go.Ground.guard }], guard := some (30, false) }
abbrev op7628fc0b : Oper := { dst := some 77, op := Go.Op.binOp Go.BinOp.add 3 (Go.Operand.tmp 71) (Go.Operand.tmp 76) 3, type := 3, pos := "ref.go:15", after := #[{ on := 37, ground := Go.Ground.data }, { on := 42, ground := Go.Ground.data }, { on := 30, ground := Go.Ground.guard }], guard := some (30, false) }
abbrev opcd4f7e95 : Oper := { dst := some 78, op := Go.Op.fieldAddr 24 (Go.Operand.tmp 1) 0, type := 0, pos := "ref.go:15", after := #[{ on := 30, ground := Go.Ground.guard }], guard := some (30, false) }
abbrev op8e17630f : Oper := { dst := some 79, op := Go.Op.load 3 (Go.Operand.tmp 78), type := 3, pos := "ref.go:15", after := #[{ on := 44, ground := Go.Ground.data }, { on := 30, ground := Go.Ground.guard }], guard := some (30, false) }
abbrev op6fa04e74 : Oper := { dst := some 80, op := Go.Op.binOp Go.BinOp.rem 3 (Go.Operand.tmp 77) (Go.Operand.tmp 79) 3, type := 3, pos := "ref.go:15", after := #[{ on := 43, ground := Go.Ground.data }, { on := 45, ground := Go.Ground.data }, { on := 30, ground := Go.Ground.guard }], guard := some (30, false) }
abbrev opd91d1290 : Oper := { dst := some 81, op := Go.Op.binOp Go.BinOp.neq 3 (Go.Operand.tmp 80) (Go.Operand.const (Go.Value.int Go.IntKind.i64 0)) 3, type := 4, pos := "ref.go:15", after := #[{ on := 46, ground := Go.Ground.data }, { on := 30, ground := Go.Ground.guard }], guard := some (30, false) }
abbrev op41d9b7c5 : Oper := { dst := some 82, op := Go.Op.pick (Go.Operand.tmp 64) (Go.Operand.const (Go.Value.bool true)) (Go.Operand.tmp 81), type := 4, pos := "ref.go:15", after := #[{ on := 30, ground := Go.Ground.data }, { on := 47, ground := Go.Ground.data }], guard := none }
attribute [local go_sem] opb74a9f6d opd15ce1ae ope98d956f opdf3b0535 opcb6b7774 opf78ae9b7 op67d5bceb op2596a6ed op71fc8f34 opeb3fbc0c op19de0455 opefb8e504 op00402869 opc7ea2d58 op02df3bc6 op0147b1e8 op367923b2 op0d4e30f6 op73bf241a op6f4bb26b op10933576 ope53d57e5 op3563458a op19e58d37 opb6ad711b op43432d2f op1e04abd5 opa8a26915 op250c1c0e op5f14c424 opdc1f94a9 opaa8495c7 opd9ccf652 opdb60753c opc61cbc97 op20c4dc1a opba2df783 op9bb5a0ab opaa4bf63a op2255145b op1ce95251 ope88bff23 op467e474e op7628fc0b opcd4f7e95 op8e17630f op6fa04e74 opd91d1290 op41d9b7c5
/-- A map: its modulus, factors and addends. -/
structure Mp where
  mod : Int
  mul : List Int
  add : List Int
def IsM (w : World) (v : Value) (M : Mp) : Prop := ∃ A c A' c', v = .agg #[.int .i64 M.mod, .slice A M.mul.length c, .slice A' M.add.length c'] ∧ SlI w .i64 A c M.mul ∧ SlI w .i64 A' c' M.add
theorem IsM.kp {w w' : World} {v : Value} {M : Mp} (h : IsM w v M) (hk : Kp w w') : IsM w' v M := by
  obtain ⟨A, c, A', c', e, h1, h2⟩ := h
  exact ⟨A, c, A', c', e, hk _ _ _ _ h1, hk _ _ _ _ h2⟩
theorem IsM.below {w w' : World} {v : Value} {M : Mp} (h : IsM w v M) (hb : Below w.heap.size w w') : IsM w' v M := h.kp (Kp.of hb)
theorem IsM.form {w : World} {v : Value} {M : Mp} (h : IsM w v M) : ∃ md A n c A' n' c', v = .agg #[.int .i64 md, .slice A n c, .slice A' n' c'] ∧ Hid (IsM w (.agg #[.int .i64 md, .slice A n c, .slice A' n' c']) M) := by
  obtain ⟨A, c, A', c', rfl, h1, h2⟩ := h
  exact ⟨_, A, _, c, A', _, c', rfl, A, c, A', c', rfl, h1, h2⟩
/-- Block b holds a map. -/
structure VM (W : World) (b : Nat) (md : Int) (A : Option Addr) (n c : Nat) (A' : Option Addr) (n' c' : Nat) (M : Mp) : Prop where
  c0 : W.cell? ⟨b, 0, none⟩ = some (.int .i64 md)
  c1 : W.cell? ⟨b, 1, none⟩ = some (.slice A n c)
  c2 : W.cell? ⟨b, 2, none⟩ = some (.slice A' n' c')
  lt : b < W.heap.size
  im : Hid (IsM W (.agg #[.int .i64 md, .slice A n c, .slice A' n' c']) M)
section
variable {W w1 : World} {b : Nat} {md : Int} {A : Option Addr} {n c : Nat} {A' : Option Addr} {n' c' : Nat} {M : Mp}
theorem VM.keep (h : VM W b md A n c A' n' c' M) (hb : Below W.heap.size W w1) : VM w1 b md A n c A' n' c' M :=
  ⟨kcell hb h.lt h.c0, kcell hb h.lt h.c1, kcell hb h.lt h.c2, Nat.lt_of_lt_of_le h.lt hb.size, h.im.out.below hb⟩
theorem VM.drew (h : VM W b md A n c A' n' c' M) : VM W.drew b md A n c A' n' c' M := h.keep (below_drew (Below.refl _ _))
theorem VM.keepB {base : Nat} (h : VM W b md A n c A' n' c' M) (hb : Below base W w1) (hlt : b < base) (hk : Kp W w1) : VM w1 b md A n c A' n' c' M :=
  ⟨kcellB hb hlt h.c0, kcellB hb hlt h.c1, kcellB hb hlt h.c2, Nat.lt_of_lt_of_le h.lt hb.size, h.im.out.kp hk⟩
theorem VM.new (W : World) (t : TypeId) (h : IsM W (.agg #[.int .i64 md, .slice A n c, .slice A' n' c']) M) : VM (W.alloc (.cells #[.int .i64 md, .slice A n c, .slice A' n' c'] t)) W.heap.size md A n c A' n' c' M :=
  ⟨by simp [go_sem], by simp [go_sem], by simp [go_sem], by simp, h.below (below_alloc (Below.refl _ _) _)⟩
theorem VM.far {b' : Nat} {x y : Value} (h : VM W b md A n c A' n' c' M) (hr : Res2 W b') (hne : b' ≠ b) : VM ((W.setCell ⟨b', 0, none⟩ x).setCell ⟨b', 1, none⟩ y) b md A n c A' n' c' M := by
  have e : ∀ (o : Nat) (w : World) (u : Value) (o' : Nat), (w.setCell ⟨b', o', none⟩ u).cell? ⟨b, o, none⟩ = w.cell? ⟨b, o, none⟩ := fun o w u o' => World.cell?_setCell_other _ _ _ _ (by simp [hne])
  exact ⟨by rw [e, e]; exact h.c0, by rw [e, e]; exact h.c1, by rw [e, e]; exact h.c2, by simpa [World.setCell] using h.lt, h.im.out.kp (Kp.res2 hr x y)⟩
end
theorem VM.sl {W : World} {b : Nat} {md : Int} {A : Option Addr} {n c : Nat} {A' : Option Addr} {n' c' : Nat} {M : Mp} (h : VM W b md A n c A' n' c' M) : md = M.mod ∧ n = M.mul.length ∧ n' = M.add.length ∧ SlI W .i64 A c M.mul ∧ SlI W .i64 A' c' M.add := by
  obtain ⟨A1, c1, A2, c2, e, h1, h2⟩ := h.im.out
  injection e with e
  simp only [Array.mk.injEq, List.cons.injEq, Value.int.injEq, Value.slice.injEq, and_true, true_and] at e
  obtain ⟨e0, ⟨rfl, e1, rfl⟩, rfl, e2, rfl⟩ := e
  exact ⟨e0, e1, e2, h1, h2⟩
/-- Is a rest's row as it has to be? -/
def okR (M : Mp) (r : Nat) : Prop := 1 ≤ gd M.mul r ∧ gd M.mul r ≤ 999 ∧ -999999 ≤ gd M.add r ∧ gd M.add r ≤ 999999 ∧ (gd M.mul r * r + gd M.add r) % M.mod = 0
instance (M : Mp) (r : Nat) : Decidable (okR M r) := by unfold okR; infer_instance
/-- Is a map valid? -/
def okM (M : Mp) : Prop := 2 ≤ M.mod ∧ M.mod ≤ 12 ∧ (M.mul.length : Int) = M.mod ∧ (M.add.length : Int) = M.mod ∧ ∀ r : Nat, (r : Int) < M.mod → okR M r
def okRs (M : Mp) : Nat → Bool
  | 0 => true
  | r + 1 => okRs M r && decide (okR M r)
theorem okRs_iff {M : Mp} {n : Nat} : okRs M n = true ↔ ∀ r, r < n → okR M r := by
  induction n with
  | zero => simp [okRs]
  | succ n ih =>
    unfold okRs
    rw [Bool.and_eq_true, ih, decide_eq_true_eq]
    constructor
    · rintro ⟨h1, h2⟩ r hr
      rcases Nat.lt_or_ge r n with h | h
      · exact h1 r h
      · obtain rfl : r = n := by omega
        exact h2
    · exact fun h => ⟨fun r hr => h r (by omega), h n (by omega)⟩
def okB (M : Mp) : Bool := decide (2 ≤ M.mod) && decide (M.mod ≤ 12) && decide ((M.mul.length : Int) = M.mod) && decide ((M.add.length : Int) = M.mod) && okRs M M.mod.toNat
theorem okB_iff {M : Mp} : okB M = true ↔ okM M := by
  unfold okB okM
  simp only [Bool.and_eq_true, decide_eq_true_eq, okRs_iff]
  constructor
  · rintro ⟨⟨⟨⟨h1, h2⟩, h3⟩, h4⟩, h5⟩; exact ⟨h1, h2, h3, h4, fun r hr => h5 r (by omega)⟩
  · rintro ⟨h1, h2, h3, h4, h5⟩; exact ⟨⟨⟨⟨h1, h2⟩, h3⟩, h4⟩, fun r hr => h5 r (by omega)⟩
theorem tmod_zero {x m : Int} : x.tmod m = 0 ↔ x % m = 0 := by
  rw [← Int.dvd_iff_tmod_eq_zero, Int.dvd_iff_emod_eq_zero]

set_option maxRecDepth 100000 in
set_option maxHeartbeats 4000000 in
theorem MValid_c (M : Mp) (v : Value) (w : World) (h : IsM w v M) :
    Calls Tryz.prog 4 #[v] w fun e w' => e = .returned (.bool (okB M)) ∧ Below w.heap.size w w' := by
  obtain ⟨A, c, A', c', rfl, HA, HA'⟩ := h
  have hcl := HA.2
  have hcl' := HA'.2
  have H1 := Lib.hid HA
  have H2 := Lib.hid HA'
  clear HA HA'
  generalize hw1 : M.mul.length = L1 at *
  generalize hw2 : M.add.length = L2 at *
  have HL1 := Lib.hid hw1
  have HL2 := Lib.hid hw2
  clear hw1 hw2
  have hB : ∀ o n, Below w.heap.size w ((w.alloc o).drewN n) := fun o n => below_drewN (below_alloc (Below.refl _ _) _) n
  obtain ⟨m, hm⟩ : ∃ m, M.mod = m := ⟨_, rfl⟩
  rw [hm]
  have HM := Lib.hid hm
  clear hm
  by_cases h1 : m < 2
  · have HR : Hid (okB M = false) := by show _ = _; unfold okB; rw [HM.out, decide_eq_false (show ¬ 2 ≤ m by omega)]; simp
    go_enter Tryz.func4, Tryz.ntmps4
    go_wp2
    go_ret
    exact ⟨by rw [HR.out] <;> rfl, below_alloc (Below.refl _ _) _⟩
  · by_cases h2 : 12 < m
    · have HR : Hid (okB M = false) := by show _ = _; unfold okB; rw [HM.out, decide_eq_false (show ¬ m ≤ 12 by omega)]; simp
      go_enter Tryz.func4, Tryz.ntmps4
      go_wp2
      go_ret
      exact ⟨by rw [HR.out] <;> rfl, below_alloc (Below.refl _ _) _⟩
    · by_cases h3 : (L1 : Int) = m
      rotate_left
      · have HR : Hid (okB M = false) := by show _ = _; unfold okB; rw [HM.out, HL1.out, decide_eq_false h3]; simp
        have h3b : ((L1 : Int) == m) = false := by simpa using h3
        go_enter Tryz.func4, Tryz.ntmps4
        go_wp2
        go_ret
        exact ⟨by rw [HR.out] <;> rfl, below_alloc (Below.refl _ _) _⟩
      · by_cases h4 : (L2 : Int) = m
        rotate_left
        · have HR : Hid (okB M = false) := by show _ = _; unfold okB; rw [HM.out, HL2.out, decide_eq_false h4]; simp
          have h4b : ((L2 : Int) == m) = false := by simpa using h4
          subst h3
          go_enter Tryz.func4, Tryz.ntmps4
          go_wp2
          go_ret
          exact ⟨by rw [HR.out] <;> rfl, below_alloc (Below.refl _ _) _⟩
        · obtain ⟨m', rfl⟩ := Int.eq_ofNat_of_zero_le (show 0 ≤ m by omega)
          have hl1 : L1 = m' := by omega
          have hl2 : m' = L2 := by omega
          subst hl1
          clear h3 h4
          subst hl2
          have HR0 : Hid (okB M = okRs M L1) := by show _ = _; unfold okB; rw [HM.out, HL1.out, HL2.out, decide_eq_true (show 2 ≤ (L1 : Int) by omega), decide_eq_true (show (L1 : Int) ≤ 12 by omega)]; simp
          have hVM : VM (w.alloc (Obj.cells #[Value.int .i64 L1, Value.slice A L1 c, Value.slice A' L1 c'] 24)) w.heap.size L1 A L1 c A' L1 c' M := VM.new w _ ⟨A, c, A', c', by rw [HM.out, HL1.out, HL2.out], H1.out, H2.out⟩
          have HB := below_alloc (Below.refl w.heap.size w) (Obj.cells #[Value.int .i64 L1, Value.slice A L1 c, Value.slice A' L1 c'] 24)
          clear HM
          go_enter Tryz.func4, Tryz.ntmps4
          go_wp2_with fail
          generalize hW : (w.alloc (Obj.cells #[Value.int .i64 L1, Value.slice A L1 c, Value.slice A' L1 c'] 24)) = W at *
          generalize hb0 : w.heap.size = b at *
          clear hW hB
          go_loopg [3] L1 (fun g iv wr => ∃ (r : Nat), g = L1 - r ∧ iv = .int .i64 r ∧ r ≤ L1 ∧ VM wr b L1 A L1 c A' L1 c' M ∧ Below b w wr ∧ Hid (∀ r', r' < r → okR M r'))
          case atStart => exact ⟨0, rfl, rfl, by omega, hVM, HB, fun r' h => absurd h (by omega)⟩
          case round =>
            clear hVM HB
            obtain ⟨r, hgk, rfl, hr, V, HB, HI⟩ := hrel
            have c0 := V.c0
            have c1 := V.c1
            have c2 := V.c2
            by_cases hrl : r < L1
            · obtain ⟨-, -, -, s1, s2⟩ := V.sl
              obtain ⟨bA, oA, rfl, hlA, cA⟩ := s1.cell (j := r) (by rw [HL1.out]; exact hrl)
              obtain ⟨bB, oB, rfl, hlB, cB⟩ := s2.cell (j := r) (by rw [HL2.out]; exact hrl)
              clear s1 s2
              obtain ⟨x, hx⟩ : ∃ x, gd M.mul r = x := ⟨_, rfl⟩
              obtain ⟨y, hy⟩ : ∃ y, gd M.add r = y := ⟨_, rfl⟩
              rw [hx] at cA
              rw [hy] at cB
              have HX := Lib.hid hx
              have HY := Lib.hid hy
              clear hx hy
              have hi0 : (0 : Int) ≤ (r : Int) := by omega
              have hi1 : (r : Int) < (L1 : Int) := by omega
              have HNO : Hid (¬ okR M r → okB M = false) := fun h => by
                rw [HR0.out]
                cases ho : okRs M L1 with
                | false => rfl
                | true => exact absurd (okRs_iff.1 ho r hrl) h
              by_cases q1 : x < 1
              · have HR : Hid (okB M = false) := HNO.out (fun h => by have := h.1; rw [HX.out] at this; omega)

                go_wp2_with fail
                have V1 := V.drew
                have cA1 : wr.drew.cell? ⟨bA, oA + r, none⟩ = some (.int .i64 x) := cA
                have cB1 : wr.drew.cell? ⟨bB, oB + r, none⟩ = some (.int .i64 y) := cB
                have HB1 := below_drew HB
                generalize hWd : wr.drew = wd at *
                refine wp_region_F (fun w' => w'.cell? ⟨b, 0, none⟩ = some (.int .i64 L1) ∧ w'.cell? ⟨b, 1, none⟩ = some (.slice (some ⟨bA, oA, none⟩) L1 c) ∧ w'.cell? ⟨b, 2, none⟩ = some (.slice (some ⟨bB, oB, none⟩) L1 c') ∧ w'.cell? ⟨bA, oA + r, none⟩ = some (.int .i64 x) ∧ w'.cell? ⟨bB, oB + r, none⟩ = some (.int .i64 y)) [] (by kernel_rfl) (by rw [hWd]; exact ⟨V1.c0, V1.c1, V1.c2, cA1, cB1⟩) (fun hHeld => ?_)
                rw [hWd] at hHeld ⊢
                refine wpF_t (i := 0) (oi := opb74a9f6d) (v := ?_) rfl (by kernel_rfl) (fun _ _ _ h => h) (Or.inl ⟨by rfl, ?_⟩) hHeld ?_; rotate_left
                · intro w_ hSw_; (try dsimp only at hSw_); go_simp; (try with_reducible rfl)
                try go_frame
                refine wpF_t (i := 1) (oi := opd15ce1ae) (v := ?_) rfl (by kernel_rfl) (fun _ _ _ h => h) (Or.inl ⟨by rfl, ?_⟩) hHeld ?_; rotate_left
                · intro w_ hSw_; (try dsimp only at hSw_); go_simp; (try with_reducible rfl)
                try go_frame
                refine wpF_t (i := 2) (oi := ope98d956f) (v := ?_) rfl (by kernel_rfl) (fun _ _ _ h => h) (Or.inl ⟨by rfl, ?_⟩) hHeld ?_; rotate_left
                · intro w_ hSw_; (try dsimp only at hSw_); go_simp; (try with_reducible rfl)
                try go_frame
                refine wpF_t (i := 3) (oi := opdf3b0535) (v := ?_) rfl (by kernel_rfl) (fun _ _ _ h => h) (Or.inl ⟨by rfl, ?_⟩) hHeld ?_; rotate_left
                · intro w_ hSw_; (try dsimp only at hSw_); go_simp; (try with_reducible rfl)
                try go_frame
                refine wpF_t (i := 4) (oi := opcb6b7774) (v := ?_) rfl (by kernel_rfl) (fun _ _ _ h => h) (Or.inl ⟨by rfl, ?_⟩) hHeld ?_; rotate_left
                · intro w_ hSw_; (try dsimp only at hSw_); go_simp; (try with_reducible rfl)
                try go_frame
                refine wpF_t (i := 5) (oi := opf78ae9b7) (v := ?_) rfl (by kernel_rfl) (fun _ _ _ h => h) (Or.inl ⟨by rfl, ?_⟩) hHeld ?_; rotate_left
                · intro w_ hSw_; (try dsimp only at hSw_); go_simp; (try with_reducible rfl)
                try go_frame
                refine wpF_t (i := 6) (oi := op67d5bceb) (v := ?_) rfl (by kernel_rfl) (fun _ _ _ h => h) (Or.inl ⟨by rfl, ?_⟩) hHeld ?_; rotate_left
                · intro w_ hSw_; (try dsimp only at hSw_); go_simp; (try with_reducible rfl)
                try go_frame
                refine wpF_t (i := 7) (oi := op2596a6ed) rfl (by kernel_rfl) (fun _ _ _ h => h) (Or.inr ⟨by rfl, rfl⟩) hHeld ?_
                try go_frame
                refine wpF_t (i := 8) (oi := op71fc8f34) rfl (by kernel_rfl) (fun _ _ _ h => h) (Or.inr ⟨by rfl, rfl⟩) hHeld ?_
                try go_frame
                refine wpF_t (i := 9) (oi := opeb3fbc0c) rfl (by kernel_rfl) (fun _ _ _ h => h) (Or.inr ⟨by rfl, rfl⟩) hHeld ?_
                try go_frame
                refine wpF_t (i := 10) (oi := op19de0455) rfl (by kernel_rfl) (fun _ _ _ h => h) (Or.inr ⟨by rfl, rfl⟩) hHeld ?_
                try go_frame
                refine wpF_t (i := 11) (oi := opefb8e504) rfl (by kernel_rfl) (fun _ _ _ h => h) (Or.inr ⟨by rfl, rfl⟩) hHeld ?_
                try go_frame
                refine wpF_t (i := 12) (oi := op00402869) rfl (by kernel_rfl) (fun _ _ _ h => h) (Or.inr ⟨by rfl, rfl⟩) hHeld ?_
                try go_frame
                refine wpF_t (i := 13) (oi := opc7ea2d58) (v := ?_) rfl (by kernel_rfl) (fun _ _ _ h => h) (Or.inl ⟨by rfl, ?_⟩) hHeld ?_; rotate_left
                · intro w_ hSw_; (try dsimp only at hSw_); go_simp; (try with_reducible rfl)
                try go_frame
                refine wpF_t (i := 14) (oi := op02df3bc6) (v := ?_) rfl (by kernel_rfl) (fun _ _ _ h => h) (Or.inl ⟨by rfl, ?_⟩) hHeld ?_; rotate_left
                · intro w_ hSw_; (try dsimp only at hSw_); go_simp; (try with_reducible rfl)
                try go_frame
                refine wpF_t (i := 15) (oi := op0147b1e8) rfl (by kernel_rfl) (fun _ _ _ h => h) (Or.inr ⟨by rfl, rfl⟩) hHeld ?_
                try go_frame
                refine wpF_t (i := 16) (oi := op367923b2) rfl (by kernel_rfl) (fun _ _ _ h => h) (Or.inr ⟨by rfl, rfl⟩) hHeld ?_
                try go_frame
                refine wpF_t (i := 17) (oi := op0d4e30f6) rfl (by kernel_rfl) (fun _ _ _ h => h) (Or.inr ⟨by rfl, rfl⟩) hHeld ?_
                try go_frame
                refine wpF_t (i := 18) (oi := op73bf241a) rfl (by kernel_rfl) (fun _ _ _ h => h) (Or.inr ⟨by rfl, rfl⟩) hHeld ?_
                try go_frame
                refine wpF_t (i := 19) (oi := op6f4bb26b) rfl (by kernel_rfl) (fun _ _ _ h => h) (Or.inr ⟨by rfl, rfl⟩) hHeld ?_
                try go_frame
                refine wpF_t (i := 20) (oi := op10933576) rfl (by kernel_rfl) (fun _ _ _ h => h) (Or.inr ⟨by rfl, rfl⟩) hHeld ?_
                try go_frame
                refine wpF_t (i := 21) (oi := ope53d57e5) (v := ?_) rfl (by kernel_rfl) (fun _ _ _ h => h) (Or.inl ⟨by rfl, ?_⟩) hHeld ?_; rotate_left
                · intro w_ hSw_; (try dsimp only at hSw_); go_simp; (try with_reducible rfl)
                try go_frame
                refine wpF_t (i := 22) (oi := op3563458a) (v := ?_) rfl (by kernel_rfl) (fun _ _ _ h => h) (Or.inl ⟨by rfl, ?_⟩) hHeld ?_; rotate_left
                · intro w_ hSw_; (try dsimp only at hSw_); go_simp; (try with_reducible rfl)
                try go_frame
                refine wpF_t (i := 23) (oi := op19e58d37) rfl (by kernel_rfl) (fun _ _ _ h => h) (Or.inr ⟨by rfl, rfl⟩) hHeld ?_
                try go_frame
                refine wpF_t (i := 24) (oi := opb6ad711b) rfl (by kernel_rfl) (fun _ _ _ h => h) (Or.inr ⟨by rfl, rfl⟩) hHeld ?_
                try go_frame
                refine wpF_t (i := 25) (oi := op43432d2f) rfl (by kernel_rfl) (fun _ _ _ h => h) (Or.inr ⟨by rfl, rfl⟩) hHeld ?_
                try go_frame
                refine wpF_t (i := 26) (oi := op1e04abd5) rfl (by kernel_rfl) (fun _ _ _ h => h) (Or.inr ⟨by rfl, rfl⟩) hHeld ?_
                try go_frame
                refine wpF_t (i := 27) (oi := opa8a26915) rfl (by kernel_rfl) (fun _ _ _ h => h) (Or.inr ⟨by rfl, rfl⟩) hHeld ?_
                try go_frame
                refine wpF_t (i := 28) (oi := op250c1c0e) rfl (by kernel_rfl) (fun _ _ _ h => h) (Or.inr ⟨by rfl, rfl⟩) hHeld ?_
                try go_frame
                refine wpF_t (i := 29) (oi := op5f14c424) (v := ?_) rfl (by kernel_rfl) (fun _ _ _ h => h) (Or.inl ⟨by rfl, ?_⟩) hHeld ?_; rotate_left
                · intro w_ hSw_; (try dsimp only at hSw_); go_simp; (try with_reducible rfl)
                try go_frame
                refine wpF_t (i := 30) (oi := opdc1f94a9) (v := ?_) rfl (by kernel_rfl) (fun _ _ _ h => h) (Or.inl ⟨by rfl, ?_⟩) hHeld ?_; rotate_left
                · intro w_ hSw_; (try dsimp only at hSw_); go_simp; (try with_reducible rfl)
                try go_frame
                refine wpF_t (i := 31) (oi := opaa8495c7) rfl (by kernel_rfl) (fun _ _ _ h => h) (Or.inr ⟨by rfl, rfl⟩) hHeld ?_
                try go_frame
                refine wpF_t (i := 32) (oi := opd9ccf652) rfl (by kernel_rfl) (fun _ _ _ h => h) (Or.inr ⟨by rfl, rfl⟩) hHeld ?_
                try go_frame
                refine wpF_t (i := 33) (oi := opdb60753c) rfl (by kernel_rfl) (fun _ _ _ h => h) (Or.inr ⟨by rfl, rfl⟩) hHeld ?_
                try go_frame
                refine wpF_t (i := 34) (oi := opc61cbc97) rfl (by kernel_rfl) (fun _ _ _ h => h) (Or.inr ⟨by rfl, rfl⟩) hHeld ?_
                try go_frame
                refine wpF_t (i := 35) (oi := op20c4dc1a) rfl (by kernel_rfl) (fun _ _ _ h => h) (Or.inr ⟨by rfl, rfl⟩) hHeld ?_
                try go_frame
                refine wpF_t (i := 36) (oi := opba2df783) rfl (by kernel_rfl) (fun _ _ _ h => h) (Or.inr ⟨by rfl, rfl⟩) hHeld ?_
                try go_frame
                refine wpF_t (i := 37) (oi := op9bb5a0ab) rfl (by kernel_rfl) (fun _ _ _ h => h) (Or.inr ⟨by rfl, rfl⟩) hHeld ?_
                try go_frame
                refine wpF_t (i := 38) (oi := opaa4bf63a) rfl (by kernel_rfl) (fun _ _ _ h => h) (Or.inr ⟨by rfl, rfl⟩) hHeld ?_
                try go_frame
                refine wpF_t (i := 39) (oi := op2255145b) rfl (by kernel_rfl) (fun _ _ _ h => h) (Or.inr ⟨by rfl, rfl⟩) hHeld ?_
                try go_frame
                refine wpF_t (i := 40) (oi := op1ce95251) rfl (by kernel_rfl) (fun _ _ _ h => h) (Or.inr ⟨by rfl, rfl⟩) hHeld ?_
                try go_frame
                refine wpF_t (i := 41) (oi := ope88bff23) rfl (by kernel_rfl) (fun _ _ _ h => h) (Or.inr ⟨by rfl, rfl⟩) hHeld ?_
                try go_frame
                refine wpF_t (i := 42) (oi := op467e474e) rfl (by kernel_rfl) (fun _ _ _ h => h) (Or.inr ⟨by rfl, rfl⟩) hHeld ?_
                try go_frame
                refine wpF_t (i := 43) (oi := op7628fc0b) rfl (by kernel_rfl) (fun _ _ _ h => h) (Or.inr ⟨by rfl, rfl⟩) hHeld ?_
                try go_frame
                refine wpF_t (i := 44) (oi := opcd4f7e95) rfl (by kernel_rfl) (fun _ _ _ h => h) (Or.inr ⟨by rfl, rfl⟩) hHeld ?_
                try go_frame
                refine wpF_t (i := 45) (oi := op8e17630f) rfl (by kernel_rfl) (fun _ _ _ h => h) (Or.inr ⟨by rfl, rfl⟩) hHeld ?_
                try go_frame
                refine wpF_t (i := 46) (oi := op6fa04e74) rfl (by kernel_rfl) (fun _ _ _ h => h) (Or.inr ⟨by rfl, rfl⟩) hHeld ?_
                try go_frame
                refine wpF_t (i := 47) (oi := opd91d1290) rfl (by kernel_rfl) (fun _ _ _ h => h) (Or.inr ⟨by rfl, rfl⟩) hHeld ?_
                try go_frame
                refine wpF_t (i := 48) (oi := op41d9b7c5) (v := ?_) rfl (by kernel_rfl) (fun _ _ _ h => h) (Or.inl ⟨by rfl, ?_⟩) hHeld ?_; rotate_left
                · intro w_ hSw_; (try dsimp only at hSw_); go_simp; (try with_reducible rfl)
                try go_frame
                refine wpAnyF_done (by kernel_rfl) ?_ _
                clear hHeld
                go_wp2
                go_ret
                exact ⟨by rw [HR.out] <;> rfl, by rw [hb0]; exact HB1⟩
              · have q1b : decide (x < 1) = false := decide_eq_false q1
                by_cases q2 : 999 < x
                · have HR : Hid (okB M = false) := HNO.out (fun h => by have := h.2.1; rw [HX.out] at this; omega)
                  go_wp2_with fail
                  have V1 := V.drew
                  have cA1 : wr.drew.cell? ⟨bA, oA + r, none⟩ = some (.int .i64 x) := cA
                  have cB1 : wr.drew.cell? ⟨bB, oB + r, none⟩ = some (.int .i64 y) := cB
                  have HB1 := below_drew HB
                  generalize hWd : wr.drew = wd at *
                  refine wp_region_F (fun w' => w'.cell? ⟨b, 0, none⟩ = some (.int .i64 L1) ∧ w'.cell? ⟨b, 1, none⟩ = some (.slice (some ⟨bA, oA, none⟩) L1 c) ∧ w'.cell? ⟨b, 2, none⟩ = some (.slice (some ⟨bB, oB, none⟩) L1 c') ∧ w'.cell? ⟨bA, oA + r, none⟩ = some (.int .i64 x) ∧ w'.cell? ⟨bB, oB + r, none⟩ = some (.int .i64 y)) [] (by kernel_rfl) (by rw [hWd]; exact ⟨V1.c0, V1.c1, V1.c2, cA1, cB1⟩) (fun hHeld => ?_)
                  rw [hWd] at hHeld ⊢
                  refine wpF_t (i := 0) (oi := opb74a9f6d) (v := ?_) rfl (by kernel_rfl) (fun _ _ _ h => h) (Or.inl ⟨by rfl, ?_⟩) hHeld ?_; rotate_left
                  · intro w_ hSw_; (try dsimp only at hSw_); go_simp; (try with_reducible rfl)
                  try go_frame
                  refine wpF_t (i := 1) (oi := opd15ce1ae) (v := ?_) rfl (by kernel_rfl) (fun _ _ _ h => h) (Or.inl ⟨by rfl, ?_⟩) hHeld ?_; rotate_left
                  · intro w_ hSw_; (try dsimp only at hSw_); go_simp; (try with_reducible rfl)
                  try go_frame
                  refine wpF_t (i := 2) (oi := ope98d956f) (v := ?_) rfl (by kernel_rfl) (fun _ _ _ h => h) (Or.inl ⟨by rfl, ?_⟩) hHeld ?_; rotate_left
                  · intro w_ hSw_; (try dsimp only at hSw_); go_simp; (try with_reducible rfl)
                  try go_frame
                  refine wpF_t (i := 3) (oi := opdf3b0535) (v := ?_) rfl (by kernel_rfl) (fun _ _ _ h => h) (Or.inl ⟨by rfl, ?_⟩) hHeld ?_; rotate_left
                  · intro w_ hSw_; (try dsimp only at hSw_); go_simp; (try with_reducible rfl)
                  try go_frame
                  refine wpF_t (i := 4) (oi := opcb6b7774) (v := ?_) rfl (by kernel_rfl) (fun _ _ _ h => h) (Or.inl ⟨by rfl, ?_⟩) hHeld ?_; rotate_left
                  · intro w_ hSw_; (try dsimp only at hSw_); go_simp; (try with_reducible rfl)
                  try go_frame
                  refine wpF_t (i := 5) (oi := opf78ae9b7) (v := ?_) rfl (by kernel_rfl) (fun _ _ _ h => h) (Or.inl ⟨by rfl, ?_⟩) hHeld ?_; rotate_left
                  · intro w_ hSw_; (try dsimp only at hSw_); go_simp; (try with_reducible rfl)
                  try go_frame
                  refine wpF_t (i := 6) (oi := op67d5bceb) (v := ?_) rfl (by kernel_rfl) (fun _ _ _ h => h) (Or.inl ⟨by rfl, ?_⟩) hHeld ?_; rotate_left
                  · intro w_ hSw_; (try dsimp only at hSw_); go_simp; (try with_reducible rfl)
                  try go_frame
                  refine wpF_t (i := 7) (oi := op2596a6ed) (v := ?_) rfl (by kernel_rfl) (fun _ _ _ h => h) (Or.inl ⟨by rfl, ?_⟩) hHeld ?_; rotate_left
                  · intro w_ hSw_; (try dsimp only at hSw_); go_simp; (try with_reducible rfl)
                  try go_frame
                  refine wpF_t (i := 8) (oi := op71fc8f34) (v := ?_) rfl (by kernel_rfl) (fun _ _ _ h => h) (Or.inl ⟨by rfl, ?_⟩) hHeld ?_; rotate_left
                  · intro w_ hSw_; (try dsimp only at hSw_); go_simp; (try with_reducible rfl)
                  try go_frame
                  refine wpF_t (i := 9) (oi := opeb3fbc0c) (v := ?_) rfl (by kernel_rfl) (fun _ _ _ h => h) (Or.inl ⟨by rfl, ?_⟩) hHeld ?_; rotate_left
                  · intro w_ hSw_; (try dsimp only at hSw_); go_simp; (try with_reducible rfl)
                  try go_frame
                  refine wpF_t (i := 10) (oi := op19de0455) (v := ?_) rfl (by kernel_rfl) (fun _ _ _ h => h) (Or.inl ⟨by rfl, ?_⟩) hHeld ?_; rotate_left
                  · intro w_ hSw_; (try dsimp only at hSw_); go_simp; (try with_reducible rfl)
                  try go_frame
                  refine wpF_t (i := 11) (oi := opefb8e504) (v := ?_) rfl (by kernel_rfl) (fun _ _ _ h => h) (Or.inl ⟨by rfl, ?_⟩) hHeld ?_; rotate_left
                  · intro w_ hSw_; (try dsimp only at hSw_); go_simp; (try with_reducible rfl)
                  try go_frame
                  refine wpF_t (i := 12) (oi := op00402869) (v := ?_) rfl (by kernel_rfl) (fun _ _ _ h => h) (Or.inl ⟨by rfl, ?_⟩) hHeld ?_; rotate_left
                  · intro w_ hSw_; (try dsimp only at hSw_); go_simp; (try with_reducible rfl)
                  try go_frame
                  refine wpF_t (i := 13) (oi := opc7ea2d58) (v := ?_) rfl (by kernel_rfl) (fun _ _ _ h => h) (Or.inl ⟨by rfl, ?_⟩) hHeld ?_; rotate_left
                  · intro w_ hSw_; (try dsimp only at hSw_); go_simp; (try with_reducible rfl)
                  try go_frame
                  refine wpF_t (i := 14) (oi := op02df3bc6) (v := ?_) rfl (by kernel_rfl) (fun _ _ _ h => h) (Or.inl ⟨by rfl, ?_⟩) hHeld ?_; rotate_left
                  · intro w_ hSw_; (try dsimp only at hSw_); go_simp; (try with_reducible rfl)
                  try go_frame
                  refine wpF_t (i := 15) (oi := op0147b1e8) rfl (by kernel_rfl) (fun _ _ _ h => h) (Or.inr ⟨by rfl, rfl⟩) hHeld ?_
                  try go_frame
                  refine wpF_t (i := 16) (oi := op367923b2) rfl (by kernel_rfl) (fun _ _ _ h => h) (Or.inr ⟨by rfl, rfl⟩) hHeld ?_
                  try go_frame
                  refine wpF_t (i := 17) (oi := op0d4e30f6) rfl (by kernel_rfl) (fun _ _ _ h => h) (Or.inr ⟨by rfl, rfl⟩) hHeld ?_
                  try go_frame
                  refine wpF_t (i := 18) (oi := op73bf241a) rfl (by kernel_rfl) (fun _ _ _ h => h) (Or.inr ⟨by rfl, rfl⟩) hHeld ?_
                  try go_frame
                  refine wpF_t (i := 19) (oi := op6f4bb26b) rfl (by kernel_rfl) (fun _ _ _ h => h) (Or.inr ⟨by rfl, rfl⟩) hHeld ?_
                  try go_frame
                  refine wpF_t (i := 20) (oi := op10933576) rfl (by kernel_rfl) (fun _ _ _ h => h) (Or.inr ⟨by rfl, rfl⟩) hHeld ?_
                  try go_frame
                  refine wpF_t (i := 21) (oi := ope53d57e5) (v := ?_) rfl (by kernel_rfl) (fun _ _ _ h => h) (Or.inl ⟨by rfl, ?_⟩) hHeld ?_; rotate_left
                  · intro w_ hSw_; (try dsimp only at hSw_); go_simp; (try with_reducible rfl)
                  try go_frame
                  refine wpF_t (i := 22) (oi := op3563458a) (v := ?_) rfl (by kernel_rfl) (fun _ _ _ h => h) (Or.inl ⟨by rfl, ?_⟩) hHeld ?_; rotate_left
                  · intro w_ hSw_; (try dsimp only at hSw_); go_simp; (try with_reducible rfl)
                  try go_frame
                  refine wpF_t (i := 23) (oi := op19e58d37) rfl (by kernel_rfl) (fun _ _ _ h => h) (Or.inr ⟨by rfl, rfl⟩) hHeld ?_
                  try go_frame
                  refine wpF_t (i := 24) (oi := opb6ad711b) rfl (by kernel_rfl) (fun _ _ _ h => h) (Or.inr ⟨by rfl, rfl⟩) hHeld ?_
                  try go_frame
                  refine wpF_t (i := 25) (oi := op43432d2f) rfl (by kernel_rfl) (fun _ _ _ h => h) (Or.inr ⟨by rfl, rfl⟩) hHeld ?_
                  try go_frame
                  refine wpF_t (i := 26) (oi := op1e04abd5) rfl (by kernel_rfl) (fun _ _ _ h => h) (Or.inr ⟨by rfl, rfl⟩) hHeld ?_
                  try go_frame
                  refine wpF_t (i := 27) (oi := opa8a26915) rfl (by kernel_rfl) (fun _ _ _ h => h) (Or.inr ⟨by rfl, rfl⟩) hHeld ?_
                  try go_frame
                  refine wpF_t (i := 28) (oi := op250c1c0e) rfl (by kernel_rfl) (fun _ _ _ h => h) (Or.inr ⟨by rfl, rfl⟩) hHeld ?_
                  try go_frame
                  refine wpF_t (i := 29) (oi := op5f14c424) (v := ?_) rfl (by kernel_rfl) (fun _ _ _ h => h) (Or.inl ⟨by rfl, ?_⟩) hHeld ?_; rotate_left
                  · intro w_ hSw_; (try dsimp only at hSw_); go_simp; (try with_reducible rfl)
                  try go_frame
                  refine wpF_t (i := 30) (oi := opdc1f94a9) (v := ?_) rfl (by kernel_rfl) (fun _ _ _ h => h) (Or.inl ⟨by rfl, ?_⟩) hHeld ?_; rotate_left
                  · intro w_ hSw_; (try dsimp only at hSw_); go_simp; (try with_reducible rfl)
                  try go_frame
                  refine wpF_t (i := 31) (oi := opaa8495c7) rfl (by kernel_rfl) (fun _ _ _ h => h) (Or.inr ⟨by rfl, rfl⟩) hHeld ?_
                  try go_frame
                  refine wpF_t (i := 32) (oi := opd9ccf652) rfl (by kernel_rfl) (fun _ _ _ h => h) (Or.inr ⟨by rfl, rfl⟩) hHeld ?_
                  try go_frame
                  refine wpF_t (i := 33) (oi := opdb60753c) rfl (by kernel_rfl) (fun _ _ _ h => h) (Or.inr ⟨by rfl, rfl⟩) hHeld ?_
                  try go_frame
                  refine wpF_t (i := 34) (oi := opc61cbc97) rfl (by kernel_rfl) (fun _ _ _ h => h) (Or.inr ⟨by rfl, rfl⟩) hHeld ?_
                  try go_frame
                  refine wpF_t (i := 35) (oi := op20c4dc1a) rfl (by kernel_rfl) (fun _ _ _ h => h) (Or.inr ⟨by rfl, rfl⟩) hHeld ?_
                  try go_frame
                  refine wpF_t (i := 36) (oi := opba2df783) rfl (by kernel_rfl) (fun _ _ _ h => h) (Or.inr ⟨by rfl, rfl⟩) hHeld ?_
                  try go_frame
                  refine wpF_t (i := 37) (oi := op9bb5a0ab) rfl (by kernel_rfl) (fun _ _ _ h => h) (Or.inr ⟨by rfl, rfl⟩) hHeld ?_
                  try go_frame
                  refine wpF_t (i := 38) (oi := opaa4bf63a) rfl (by kernel_rfl) (fun _ _ _ h => h) (Or.inr ⟨by rfl, rfl⟩) hHeld ?_
                  try go_frame
                  refine wpF_t (i := 39) (oi := op2255145b) rfl (by kernel_rfl) (fun _ _ _ h => h) (Or.inr ⟨by rfl, rfl⟩) hHeld ?_
                  try go_frame
                  refine wpF_t (i := 40) (oi := op1ce95251) rfl (by kernel_rfl) (fun _ _ _ h => h) (Or.inr ⟨by rfl, rfl⟩) hHeld ?_
                  try go_frame
                  refine wpF_t (i := 41) (oi := ope88bff23) rfl (by kernel_rfl) (fun _ _ _ h => h) (Or.inr ⟨by rfl, rfl⟩) hHeld ?_
                  try go_frame
                  refine wpF_t (i := 42) (oi := op467e474e) rfl (by kernel_rfl) (fun _ _ _ h => h) (Or.inr ⟨by rfl, rfl⟩) hHeld ?_
                  try go_frame
                  refine wpF_t (i := 43) (oi := op7628fc0b) rfl (by kernel_rfl) (fun _ _ _ h => h) (Or.inr ⟨by rfl, rfl⟩) hHeld ?_
                  try go_frame
                  refine wpF_t (i := 44) (oi := opcd4f7e95) rfl (by kernel_rfl) (fun _ _ _ h => h) (Or.inr ⟨by rfl, rfl⟩) hHeld ?_
                  try go_frame
                  refine wpF_t (i := 45) (oi := op8e17630f) rfl (by kernel_rfl) (fun _ _ _ h => h) (Or.inr ⟨by rfl, rfl⟩) hHeld ?_
                  try go_frame
                  refine wpF_t (i := 46) (oi := op6fa04e74) rfl (by kernel_rfl) (fun _ _ _ h => h) (Or.inr ⟨by rfl, rfl⟩) hHeld ?_
                  try go_frame
                  refine wpF_t (i := 47) (oi := opd91d1290) rfl (by kernel_rfl) (fun _ _ _ h => h) (Or.inr ⟨by rfl, rfl⟩) hHeld ?_
                  try go_frame
                  refine wpF_t (i := 48) (oi := op41d9b7c5) (v := ?_) rfl (by kernel_rfl) (fun _ _ _ h => h) (Or.inl ⟨by rfl, ?_⟩) hHeld ?_; rotate_left
                  · intro w_ hSw_; (try dsimp only at hSw_); go_simp; (try with_reducible rfl)
                  try go_frame
                  refine wpAnyF_done (by kernel_rfl) ?_ _
                  clear hHeld
                  go_wp2
                  go_ret
                  exact ⟨by rw [HR.out] <;> rfl, by rw [hb0]; exact HB1⟩
                · have q2b : decide (999 < x) = false := decide_eq_false q2
                  by_cases q3 : y < -999999
                  · have HR : Hid (okB M = false) := HNO.out (fun h => by have := h.2.2.1; rw [HY.out] at this; omega)
                    go_wp2_with fail
                    have V1 := V.drew
                    have cA1 : wr.drew.cell? ⟨bA, oA + r, none⟩ = some (.int .i64 x) := cA
                    have cB1 : wr.drew.cell? ⟨bB, oB + r, none⟩ = some (.int .i64 y) := cB
                    have HB1 := below_drew HB
                    generalize hWd : wr.drew = wd at *
                    refine wp_region_F (fun w' => w'.cell? ⟨b, 0, none⟩ = some (.int .i64 L1) ∧ w'.cell? ⟨b, 1, none⟩ = some (.slice (some ⟨bA, oA, none⟩) L1 c) ∧ w'.cell? ⟨b, 2, none⟩ = some (.slice (some ⟨bB, oB, none⟩) L1 c') ∧ w'.cell? ⟨bA, oA + r, none⟩ = some (.int .i64 x) ∧ w'.cell? ⟨bB, oB + r, none⟩ = some (.int .i64 y)) [] (by kernel_rfl) (by rw [hWd]; exact ⟨V1.c0, V1.c1, V1.c2, cA1, cB1⟩) (fun hHeld => ?_)
                    rw [hWd] at hHeld ⊢
                    refine wpF_t (i := 0) (oi := opb74a9f6d) (v := ?_) rfl (by kernel_rfl) (fun _ _ _ h => h) (Or.inl ⟨by rfl, ?_⟩) hHeld ?_; rotate_left
                    · intro w_ hSw_; (try dsimp only at hSw_); go_simp; (try with_reducible rfl)
                    try go_frame
                    refine wpF_t (i := 1) (oi := opd15ce1ae) (v := ?_) rfl (by kernel_rfl) (fun _ _ _ h => h) (Or.inl ⟨by rfl, ?_⟩) hHeld ?_; rotate_left
                    · intro w_ hSw_; (try dsimp only at hSw_); go_simp; (try with_reducible rfl)
                    try go_frame
                    refine wpF_t (i := 2) (oi := ope98d956f) (v := ?_) rfl (by kernel_rfl) (fun _ _ _ h => h) (Or.inl ⟨by rfl, ?_⟩) hHeld ?_; rotate_left
                    · intro w_ hSw_; (try dsimp only at hSw_); go_simp; (try with_reducible rfl)
                    try go_frame
                    refine wpF_t (i := 3) (oi := opdf3b0535) (v := ?_) rfl (by kernel_rfl) (fun _ _ _ h => h) (Or.inl ⟨by rfl, ?_⟩) hHeld ?_; rotate_left
                    · intro w_ hSw_; (try dsimp only at hSw_); go_simp; (try with_reducible rfl)
                    try go_frame
                    refine wpF_t (i := 4) (oi := opcb6b7774) (v := ?_) rfl (by kernel_rfl) (fun _ _ _ h => h) (Or.inl ⟨by rfl, ?_⟩) hHeld ?_; rotate_left
                    · intro w_ hSw_; (try dsimp only at hSw_); go_simp; (try with_reducible rfl)
                    try go_frame
                    refine wpF_t (i := 5) (oi := opf78ae9b7) (v := ?_) rfl (by kernel_rfl) (fun _ _ _ h => h) (Or.inl ⟨by rfl, ?_⟩) hHeld ?_; rotate_left
                    · intro w_ hSw_; (try dsimp only at hSw_); go_simp; (try with_reducible rfl)
                    try go_frame
                    refine wpF_t (i := 6) (oi := op67d5bceb) (v := ?_) rfl (by kernel_rfl) (fun _ _ _ h => h) (Or.inl ⟨by rfl, ?_⟩) hHeld ?_; rotate_left
                    · intro w_ hSw_; (try dsimp only at hSw_); go_simp; (try with_reducible rfl)
                    try go_frame
                    refine wpF_t (i := 7) (oi := op2596a6ed) (v := ?_) rfl (by kernel_rfl) (fun _ _ _ h => h) (Or.inl ⟨by rfl, ?_⟩) hHeld ?_; rotate_left
                    · intro w_ hSw_; (try dsimp only at hSw_); go_simp; (try with_reducible rfl)
                    try go_frame
                    refine wpF_t (i := 8) (oi := op71fc8f34) (v := ?_) rfl (by kernel_rfl) (fun _ _ _ h => h) (Or.inl ⟨by rfl, ?_⟩) hHeld ?_; rotate_left
                    · intro w_ hSw_; (try dsimp only at hSw_); go_simp; (try with_reducible rfl)
                    try go_frame
                    refine wpF_t (i := 9) (oi := opeb3fbc0c) (v := ?_) rfl (by kernel_rfl) (fun _ _ _ h => h) (Or.inl ⟨by rfl, ?_⟩) hHeld ?_; rotate_left
                    · intro w_ hSw_; (try dsimp only at hSw_); go_simp; (try with_reducible rfl)
                    try go_frame
                    refine wpF_t (i := 10) (oi := op19de0455) (v := ?_) rfl (by kernel_rfl) (fun _ _ _ h => h) (Or.inl ⟨by rfl, ?_⟩) hHeld ?_; rotate_left
                    · intro w_ hSw_; (try dsimp only at hSw_); go_simp; (try with_reducible rfl)
                    try go_frame
                    refine wpF_t (i := 11) (oi := opefb8e504) (v := ?_) rfl (by kernel_rfl) (fun _ _ _ h => h) (Or.inl ⟨by rfl, ?_⟩) hHeld ?_; rotate_left
                    · intro w_ hSw_; (try dsimp only at hSw_); go_simp; (try with_reducible rfl)
                    try go_frame
                    refine wpF_t (i := 12) (oi := op00402869) (v := ?_) rfl (by kernel_rfl) (fun _ _ _ h => h) (Or.inl ⟨by rfl, ?_⟩) hHeld ?_; rotate_left
                    · intro w_ hSw_; (try dsimp only at hSw_); go_simp; (try with_reducible rfl)
                    try go_frame
                    refine wpF_t (i := 13) (oi := opc7ea2d58) (v := ?_) rfl (by kernel_rfl) (fun _ _ _ h => h) (Or.inl ⟨by rfl, ?_⟩) hHeld ?_; rotate_left
                    · intro w_ hSw_; (try dsimp only at hSw_); go_simp; (try with_reducible rfl)
                    try go_frame
                    refine wpF_t (i := 14) (oi := op02df3bc6) (v := ?_) rfl (by kernel_rfl) (fun _ _ _ h => h) (Or.inl ⟨by rfl, ?_⟩) hHeld ?_; rotate_left
                    · intro w_ hSw_; (try dsimp only at hSw_); go_simp; (try with_reducible rfl)
                    try go_frame
                    refine wpF_t (i := 15) (oi := op0147b1e8) (v := ?_) rfl (by kernel_rfl) (fun _ _ _ h => h) (Or.inl ⟨by rfl, ?_⟩) hHeld ?_; rotate_left
                    · intro w_ hSw_; (try dsimp only at hSw_); go_simp; (try with_reducible rfl)
                    try go_frame
                    refine wpF_t (i := 16) (oi := op367923b2) (v := ?_) rfl (by kernel_rfl) (fun _ _ _ h => h) (Or.inl ⟨by rfl, ?_⟩) hHeld ?_; rotate_left
                    · intro w_ hSw_; (try dsimp only at hSw_); go_simp; (try with_reducible rfl)
                    try go_frame
                    refine wpF_t (i := 17) (oi := op0d4e30f6) (v := ?_) rfl (by kernel_rfl) (fun _ _ _ h => h) (Or.inl ⟨by rfl, ?_⟩) hHeld ?_; rotate_left
                    · intro w_ hSw_; (try dsimp only at hSw_); go_simp; (try with_reducible rfl)
                    try go_frame
                    refine wpF_t (i := 18) (oi := op73bf241a) (v := ?_) rfl (by kernel_rfl) (fun _ _ _ h => h) (Or.inl ⟨by rfl, ?_⟩) hHeld ?_; rotate_left
                    · intro w_ hSw_; (try dsimp only at hSw_); go_simp; (try with_reducible rfl)
                    try go_frame
                    refine wpF_t (i := 19) (oi := op6f4bb26b) (v := ?_) rfl (by kernel_rfl) (fun _ _ _ h => h) (Or.inl ⟨by rfl, ?_⟩) hHeld ?_; rotate_left
                    · intro w_ hSw_; (try dsimp only at hSw_); go_simp; (try with_reducible rfl)
                    try go_frame
                    refine wpF_t (i := 20) (oi := op10933576) (v := ?_) rfl (by kernel_rfl) (fun _ _ _ h => h) (Or.inl ⟨by rfl, ?_⟩) hHeld ?_; rotate_left
                    · intro w_ hSw_; (try dsimp only at hSw_); go_simp; (try with_reducible rfl)
                    try go_frame
                    refine wpF_t (i := 21) (oi := ope53d57e5) (v := ?_) rfl (by kernel_rfl) (fun _ _ _ h => h) (Or.inl ⟨by rfl, ?_⟩) hHeld ?_; rotate_left
                    · intro w_ hSw_; (try dsimp only at hSw_); go_simp; (try with_reducible rfl)
                    try go_frame
                    refine wpF_t (i := 22) (oi := op3563458a) (v := ?_) rfl (by kernel_rfl) (fun _ _ _ h => h) (Or.inl ⟨by rfl, ?_⟩) hHeld ?_; rotate_left
                    · intro w_ hSw_; (try dsimp only at hSw_); go_simp; (try with_reducible rfl)
                    try go_frame
                    refine wpF_t (i := 23) (oi := op19e58d37) rfl (by kernel_rfl) (fun _ _ _ h => h) (Or.inr ⟨by rfl, rfl⟩) hHeld ?_
                    try go_frame
                    refine wpF_t (i := 24) (oi := opb6ad711b) rfl (by kernel_rfl) (fun _ _ _ h => h) (Or.inr ⟨by rfl, rfl⟩) hHeld ?_
                    try go_frame
                    refine wpF_t (i := 25) (oi := op43432d2f) rfl (by kernel_rfl) (fun _ _ _ h => h) (Or.inr ⟨by rfl, rfl⟩) hHeld ?_
                    try go_frame
                    refine wpF_t (i := 26) (oi := op1e04abd5) rfl (by kernel_rfl) (fun _ _ _ h => h) (Or.inr ⟨by rfl, rfl⟩) hHeld ?_
                    try go_frame
                    refine wpF_t (i := 27) (oi := opa8a26915) rfl (by kernel_rfl) (fun _ _ _ h => h) (Or.inr ⟨by rfl, rfl⟩) hHeld ?_
                    try go_frame
                    refine wpF_t (i := 28) (oi := op250c1c0e) rfl (by kernel_rfl) (fun _ _ _ h => h) (Or.inr ⟨by rfl, rfl⟩) hHeld ?_
                    try go_frame
                    refine wpF_t (i := 29) (oi := op5f14c424) (v := ?_) rfl (by kernel_rfl) (fun _ _ _ h => h) (Or.inl ⟨by rfl, ?_⟩) hHeld ?_; rotate_left
                    · intro w_ hSw_; (try dsimp only at hSw_); go_simp; (try with_reducible rfl)
                    try go_frame
                    refine wpF_t (i := 30) (oi := opdc1f94a9) (v := ?_) rfl (by kernel_rfl) (fun _ _ _ h => h) (Or.inl ⟨by rfl, ?_⟩) hHeld ?_; rotate_left
                    · intro w_ hSw_; (try dsimp only at hSw_); go_simp; (try with_reducible rfl)
                    try go_frame
                    refine wpF_t (i := 31) (oi := opaa8495c7) rfl (by kernel_rfl) (fun _ _ _ h => h) (Or.inr ⟨by rfl, rfl⟩) hHeld ?_
                    try go_frame
                    refine wpF_t (i := 32) (oi := opd9ccf652) rfl (by kernel_rfl) (fun _ _ _ h => h) (Or.inr ⟨by rfl, rfl⟩) hHeld ?_
                    try go_frame
                    refine wpF_t (i := 33) (oi := opdb60753c) rfl (by kernel_rfl) (fun _ _ _ h => h) (Or.inr ⟨by rfl, rfl⟩) hHeld ?_
                    try go_frame
                    refine wpF_t (i := 34) (oi := opc61cbc97) rfl (by kernel_rfl) (fun _ _ _ h => h) (Or.inr ⟨by rfl, rfl⟩) hHeld ?_
                    try go_frame
                    refine wpF_t (i := 35) (oi := op20c4dc1a) rfl (by kernel_rfl) (fun _ _ _ h => h) (Or.inr ⟨by rfl, rfl⟩) hHeld ?_
                    try go_frame
                    refine wpF_t (i := 36) (oi := opba2df783) rfl (by kernel_rfl) (fun _ _ _ h => h) (Or.inr ⟨by rfl, rfl⟩) hHeld ?_
                    try go_frame
                    refine wpF_t (i := 37) (oi := op9bb5a0ab) rfl (by kernel_rfl) (fun _ _ _ h => h) (Or.inr ⟨by rfl, rfl⟩) hHeld ?_
                    try go_frame
                    refine wpF_t (i := 38) (oi := opaa4bf63a) rfl (by kernel_rfl) (fun _ _ _ h => h) (Or.inr ⟨by rfl, rfl⟩) hHeld ?_
                    try go_frame
                    refine wpF_t (i := 39) (oi := op2255145b) rfl (by kernel_rfl) (fun _ _ _ h => h) (Or.inr ⟨by rfl, rfl⟩) hHeld ?_
                    try go_frame
                    refine wpF_t (i := 40) (oi := op1ce95251) rfl (by kernel_rfl) (fun _ _ _ h => h) (Or.inr ⟨by rfl, rfl⟩) hHeld ?_
                    try go_frame
                    refine wpF_t (i := 41) (oi := ope88bff23) rfl (by kernel_rfl) (fun _ _ _ h => h) (Or.inr ⟨by rfl, rfl⟩) hHeld ?_
                    try go_frame
                    refine wpF_t (i := 42) (oi := op467e474e) rfl (by kernel_rfl) (fun _ _ _ h => h) (Or.inr ⟨by rfl, rfl⟩) hHeld ?_
                    try go_frame
                    refine wpF_t (i := 43) (oi := op7628fc0b) rfl (by kernel_rfl) (fun _ _ _ h => h) (Or.inr ⟨by rfl, rfl⟩) hHeld ?_
                    try go_frame
                    refine wpF_t (i := 44) (oi := opcd4f7e95) rfl (by kernel_rfl) (fun _ _ _ h => h) (Or.inr ⟨by rfl, rfl⟩) hHeld ?_
                    try go_frame
                    refine wpF_t (i := 45) (oi := op8e17630f) rfl (by kernel_rfl) (fun _ _ _ h => h) (Or.inr ⟨by rfl, rfl⟩) hHeld ?_
                    try go_frame
                    refine wpF_t (i := 46) (oi := op6fa04e74) rfl (by kernel_rfl) (fun _ _ _ h => h) (Or.inr ⟨by rfl, rfl⟩) hHeld ?_
                    try go_frame
                    refine wpF_t (i := 47) (oi := opd91d1290) rfl (by kernel_rfl) (fun _ _ _ h => h) (Or.inr ⟨by rfl, rfl⟩) hHeld ?_
                    try go_frame
                    refine wpF_t (i := 48) (oi := op41d9b7c5) (v := ?_) rfl (by kernel_rfl) (fun _ _ _ h => h) (Or.inl ⟨by rfl, ?_⟩) hHeld ?_; rotate_left
                    · intro w_ hSw_; (try dsimp only at hSw_); go_simp; (try with_reducible rfl)
                    try go_frame
                    refine wpAnyF_done (by kernel_rfl) ?_ _
                    clear hHeld
                    go_wp2
                    go_ret
                    exact ⟨by rw [HR.out] <;> rfl, by rw [hb0]; exact HB1⟩
                  · have q3b : decide (y < -999999) = false := decide_eq_false q3
                    by_cases q4 : 999999 < y
                    · have HR : Hid (okB M = false) := HNO.out (fun h => by have := h.2.2.2.1; rw [HY.out] at this; omega)
                      go_wp2_with fail
                      have V1 := V.drew
                      have cA1 : wr.drew.cell? ⟨bA, oA + r, none⟩ = some (.int .i64 x) := cA
                      have cB1 : wr.drew.cell? ⟨bB, oB + r, none⟩ = some (.int .i64 y) := cB
                      have HB1 := below_drew HB
                      generalize hWd : wr.drew = wd at *
                      refine wp_region_F (fun w' => w'.cell? ⟨b, 0, none⟩ = some (.int .i64 L1) ∧ w'.cell? ⟨b, 1, none⟩ = some (.slice (some ⟨bA, oA, none⟩) L1 c) ∧ w'.cell? ⟨b, 2, none⟩ = some (.slice (some ⟨bB, oB, none⟩) L1 c') ∧ w'.cell? ⟨bA, oA + r, none⟩ = some (.int .i64 x) ∧ w'.cell? ⟨bB, oB + r, none⟩ = some (.int .i64 y)) [] (by kernel_rfl) (by rw [hWd]; exact ⟨V1.c0, V1.c1, V1.c2, cA1, cB1⟩) (fun hHeld => ?_)
                      rw [hWd] at hHeld ⊢
                      refine wpF_t (i := 0) (oi := opb74a9f6d) (v := ?_) rfl (by kernel_rfl) (fun _ _ _ h => h) (Or.inl ⟨by rfl, ?_⟩) hHeld ?_; rotate_left
                      · intro w_ hSw_; (try dsimp only at hSw_); go_simp; (try with_reducible rfl)
                      try go_frame
                      refine wpF_t (i := 1) (oi := opd15ce1ae) (v := ?_) rfl (by kernel_rfl) (fun _ _ _ h => h) (Or.inl ⟨by rfl, ?_⟩) hHeld ?_; rotate_left
                      · intro w_ hSw_; (try dsimp only at hSw_); go_simp; (try with_reducible rfl)
                      try go_frame
                      refine wpF_t (i := 2) (oi := ope98d956f) (v := ?_) rfl (by kernel_rfl) (fun _ _ _ h => h) (Or.inl ⟨by rfl, ?_⟩) hHeld ?_; rotate_left
                      · intro w_ hSw_; (try dsimp only at hSw_); go_simp; (try with_reducible rfl)
                      try go_frame
                      refine wpF_t (i := 3) (oi := opdf3b0535) (v := ?_) rfl (by kernel_rfl) (fun _ _ _ h => h) (Or.inl ⟨by rfl, ?_⟩) hHeld ?_; rotate_left
                      · intro w_ hSw_; (try dsimp only at hSw_); go_simp; (try with_reducible rfl)
                      try go_frame
                      refine wpF_t (i := 4) (oi := opcb6b7774) (v := ?_) rfl (by kernel_rfl) (fun _ _ _ h => h) (Or.inl ⟨by rfl, ?_⟩) hHeld ?_; rotate_left
                      · intro w_ hSw_; (try dsimp only at hSw_); go_simp; (try with_reducible rfl)
                      try go_frame
                      refine wpF_t (i := 5) (oi := opf78ae9b7) (v := ?_) rfl (by kernel_rfl) (fun _ _ _ h => h) (Or.inl ⟨by rfl, ?_⟩) hHeld ?_; rotate_left
                      · intro w_ hSw_; (try dsimp only at hSw_); go_simp; (try with_reducible rfl)
                      try go_frame
                      refine wpF_t (i := 6) (oi := op67d5bceb) (v := ?_) rfl (by kernel_rfl) (fun _ _ _ h => h) (Or.inl ⟨by rfl, ?_⟩) hHeld ?_; rotate_left
                      · intro w_ hSw_; (try dsimp only at hSw_); go_simp; (try with_reducible rfl)
                      try go_frame
                      refine wpF_t (i := 7) (oi := op2596a6ed) (v := ?_) rfl (by kernel_rfl) (fun _ _ _ h => h) (Or.inl ⟨by rfl, ?_⟩) hHeld ?_; rotate_left
                      · intro w_ hSw_; (try dsimp only at hSw_); go_simp; (try with_reducible rfl)
                      try go_frame
                      refine wpF_t (i := 8) (oi := op71fc8f34) (v := ?_) rfl (by kernel_rfl) (fun _ _ _ h => h) (Or.inl ⟨by rfl, ?_⟩) hHeld ?_; rotate_left
                      · intro w_ hSw_; (try dsimp only at hSw_); go_simp; (try with_reducible rfl)
                      try go_frame
                      refine wpF_t (i := 9) (oi := opeb3fbc0c) (v := ?_) rfl (by kernel_rfl) (fun _ _ _ h => h) (Or.inl ⟨by rfl, ?_⟩) hHeld ?_; rotate_left
                      · intro w_ hSw_; (try dsimp only at hSw_); go_simp; (try with_reducible rfl)
                      try go_frame
                      refine wpF_t (i := 10) (oi := op19de0455) (v := ?_) rfl (by kernel_rfl) (fun _ _ _ h => h) (Or.inl ⟨by rfl, ?_⟩) hHeld ?_; rotate_left
                      · intro w_ hSw_; (try dsimp only at hSw_); go_simp; (try with_reducible rfl)
                      try go_frame
                      refine wpF_t (i := 11) (oi := opefb8e504) (v := ?_) rfl (by kernel_rfl) (fun _ _ _ h => h) (Or.inl ⟨by rfl, ?_⟩) hHeld ?_; rotate_left
                      · intro w_ hSw_; (try dsimp only at hSw_); go_simp; (try with_reducible rfl)
                      try go_frame
                      refine wpF_t (i := 12) (oi := op00402869) (v := ?_) rfl (by kernel_rfl) (fun _ _ _ h => h) (Or.inl ⟨by rfl, ?_⟩) hHeld ?_; rotate_left
                      · intro w_ hSw_; (try dsimp only at hSw_); go_simp; (try with_reducible rfl)
                      try go_frame
                      refine wpF_t (i := 13) (oi := opc7ea2d58) (v := ?_) rfl (by kernel_rfl) (fun _ _ _ h => h) (Or.inl ⟨by rfl, ?_⟩) hHeld ?_; rotate_left
                      · intro w_ hSw_; (try dsimp only at hSw_); go_simp; (try with_reducible rfl)
                      try go_frame
                      refine wpF_t (i := 14) (oi := op02df3bc6) (v := ?_) rfl (by kernel_rfl) (fun _ _ _ h => h) (Or.inl ⟨by rfl, ?_⟩) hHeld ?_; rotate_left
                      · intro w_ hSw_; (try dsimp only at hSw_); go_simp; (try with_reducible rfl)
                      try go_frame
                      refine wpF_t (i := 15) (oi := op0147b1e8) (v := ?_) rfl (by kernel_rfl) (fun _ _ _ h => h) (Or.inl ⟨by rfl, ?_⟩) hHeld ?_; rotate_left
                      · intro w_ hSw_; (try dsimp only at hSw_); go_simp; (try with_reducible rfl)
                      try go_frame
                      refine wpF_t (i := 16) (oi := op367923b2) (v := ?_) rfl (by kernel_rfl) (fun _ _ _ h => h) (Or.inl ⟨by rfl, ?_⟩) hHeld ?_; rotate_left
                      · intro w_ hSw_; (try dsimp only at hSw_); go_simp; (try with_reducible rfl)
                      try go_frame
                      refine wpF_t (i := 17) (oi := op0d4e30f6) (v := ?_) rfl (by kernel_rfl) (fun _ _ _ h => h) (Or.inl ⟨by rfl, ?_⟩) hHeld ?_; rotate_left
                      · intro w_ hSw_; (try dsimp only at hSw_); go_simp; (try with_reducible rfl)
                      try go_frame
                      refine wpF_t (i := 18) (oi := op73bf241a) (v := ?_) rfl (by kernel_rfl) (fun _ _ _ h => h) (Or.inl ⟨by rfl, ?_⟩) hHeld ?_; rotate_left
                      · intro w_ hSw_; (try dsimp only at hSw_); go_simp; (try with_reducible rfl)
                      try go_frame
                      refine wpF_t (i := 19) (oi := op6f4bb26b) (v := ?_) rfl (by kernel_rfl) (fun _ _ _ h => h) (Or.inl ⟨by rfl, ?_⟩) hHeld ?_; rotate_left
                      · intro w_ hSw_; (try dsimp only at hSw_); go_simp; (try with_reducible rfl)
                      try go_frame
                      refine wpF_t (i := 20) (oi := op10933576) (v := ?_) rfl (by kernel_rfl) (fun _ _ _ h => h) (Or.inl ⟨by rfl, ?_⟩) hHeld ?_; rotate_left
                      · intro w_ hSw_; (try dsimp only at hSw_); go_simp; (try with_reducible rfl)
                      try go_frame
                      refine wpF_t (i := 21) (oi := ope53d57e5) (v := ?_) rfl (by kernel_rfl) (fun _ _ _ h => h) (Or.inl ⟨by rfl, ?_⟩) hHeld ?_; rotate_left
                      · intro w_ hSw_; (try dsimp only at hSw_); go_simp; (try with_reducible rfl)
                      try go_frame
                      refine wpF_t (i := 22) (oi := op3563458a) (v := ?_) rfl (by kernel_rfl) (fun _ _ _ h => h) (Or.inl ⟨by rfl, ?_⟩) hHeld ?_; rotate_left
                      · intro w_ hSw_; (try dsimp only at hSw_); go_simp; (try with_reducible rfl)
                      try go_frame
                      refine wpF_t (i := 23) (oi := op19e58d37) (v := ?_) rfl (by kernel_rfl) (fun _ _ _ h => h) (Or.inl ⟨by rfl, ?_⟩) hHeld ?_; rotate_left
                      · intro w_ hSw_; (try dsimp only at hSw_); go_simp; (try with_reducible rfl)
                      try go_frame
                      refine wpF_t (i := 24) (oi := opb6ad711b) (v := ?_) rfl (by kernel_rfl) (fun _ _ _ h => h) (Or.inl ⟨by rfl, ?_⟩) hHeld ?_; rotate_left
                      · intro w_ hSw_; (try dsimp only at hSw_); go_simp; (try with_reducible rfl)
                      try go_frame
                      refine wpF_t (i := 25) (oi := op43432d2f) (v := ?_) rfl (by kernel_rfl) (fun _ _ _ h => h) (Or.inl ⟨by rfl, ?_⟩) hHeld ?_; rotate_left
                      · intro w_ hSw_; (try dsimp only at hSw_); go_simp; (try with_reducible rfl)
                      try go_frame
                      refine wpF_t (i := 26) (oi := op1e04abd5) (v := ?_) rfl (by kernel_rfl) (fun _ _ _ h => h) (Or.inl ⟨by rfl, ?_⟩) hHeld ?_; rotate_left
                      · intro w_ hSw_; (try dsimp only at hSw_); go_simp; (try with_reducible rfl)
                      try go_frame
                      refine wpF_t (i := 27) (oi := opa8a26915) (v := ?_) rfl (by kernel_rfl) (fun _ _ _ h => h) (Or.inl ⟨by rfl, ?_⟩) hHeld ?_; rotate_left
                      · intro w_ hSw_; (try dsimp only at hSw_); go_simp; (try with_reducible rfl)
                      try go_frame
                      refine wpF_t (i := 28) (oi := op250c1c0e) (v := ?_) rfl (by kernel_rfl) (fun _ _ _ h => h) (Or.inl ⟨by rfl, ?_⟩) hHeld ?_; rotate_left
                      · intro w_ hSw_; (try dsimp only at hSw_); go_simp; (try with_reducible rfl)
                      try go_frame
                      refine wpF_t (i := 29) (oi := op5f14c424) (v := ?_) rfl (by kernel_rfl) (fun _ _ _ h => h) (Or.inl ⟨by rfl, ?_⟩) hHeld ?_; rotate_left
                      · intro w_ hSw_; (try dsimp only at hSw_); go_simp; (try with_reducible rfl)
                      try go_frame
                      refine wpF_t (i := 30) (oi := opdc1f94a9) (v := ?_) rfl (by kernel_rfl) (fun _ _ _ h => h) (Or.inl ⟨by rfl, ?_⟩) hHeld ?_; rotate_left
                      · intro w_ hSw_; (try dsimp only at hSw_); go_simp; (try with_reducible rfl)
                      try go_frame
                      refine wpF_t (i := 31) (oi := opaa8495c7) rfl (by kernel_rfl) (fun _ _ _ h => h) (Or.inr ⟨by rfl, rfl⟩) hHeld ?_
                      try go_frame
                      refine wpF_t (i := 32) (oi := opd9ccf652) rfl (by kernel_rfl) (fun _ _ _ h => h) (Or.inr ⟨by rfl, rfl⟩) hHeld ?_
                      try go_frame
                      refine wpF_t (i := 33) (oi := opdb60753c) rfl (by kernel_rfl) (fun _ _ _ h => h) (Or.inr ⟨by rfl, rfl⟩) hHeld ?_
                      try go_frame
                      refine wpF_t (i := 34) (oi := opc61cbc97) rfl (by kernel_rfl) (fun _ _ _ h => h) (Or.inr ⟨by rfl, rfl⟩) hHeld ?_
                      try go_frame
                      refine wpF_t (i := 35) (oi := op20c4dc1a) rfl (by kernel_rfl) (fun _ _ _ h => h) (Or.inr ⟨by rfl, rfl⟩) hHeld ?_
                      try go_frame
                      refine wpF_t (i := 36) (oi := opba2df783) rfl (by kernel_rfl) (fun _ _ _ h => h) (Or.inr ⟨by rfl, rfl⟩) hHeld ?_
                      try go_frame
                      refine wpF_t (i := 37) (oi := op9bb5a0ab) rfl (by kernel_rfl) (fun _ _ _ h => h) (Or.inr ⟨by rfl, rfl⟩) hHeld ?_
                      try go_frame
                      refine wpF_t (i := 38) (oi := opaa4bf63a) rfl (by kernel_rfl) (fun _ _ _ h => h) (Or.inr ⟨by rfl, rfl⟩) hHeld ?_
                      try go_frame
                      refine wpF_t (i := 39) (oi := op2255145b) rfl (by kernel_rfl) (fun _ _ _ h => h) (Or.inr ⟨by rfl, rfl⟩) hHeld ?_
                      try go_frame
                      refine wpF_t (i := 40) (oi := op1ce95251) rfl (by kernel_rfl) (fun _ _ _ h => h) (Or.inr ⟨by rfl, rfl⟩) hHeld ?_
                      try go_frame
                      refine wpF_t (i := 41) (oi := ope88bff23) rfl (by kernel_rfl) (fun _ _ _ h => h) (Or.inr ⟨by rfl, rfl⟩) hHeld ?_
                      try go_frame
                      refine wpF_t (i := 42) (oi := op467e474e) rfl (by kernel_rfl) (fun _ _ _ h => h) (Or.inr ⟨by rfl, rfl⟩) hHeld ?_
                      try go_frame
                      refine wpF_t (i := 43) (oi := op7628fc0b) rfl (by kernel_rfl) (fun _ _ _ h => h) (Or.inr ⟨by rfl, rfl⟩) hHeld ?_
                      try go_frame
                      refine wpF_t (i := 44) (oi := opcd4f7e95) rfl (by kernel_rfl) (fun _ _ _ h => h) (Or.inr ⟨by rfl, rfl⟩) hHeld ?_
                      try go_frame
                      refine wpF_t (i := 45) (oi := op8e17630f) rfl (by kernel_rfl) (fun _ _ _ h => h) (Or.inr ⟨by rfl, rfl⟩) hHeld ?_
                      try go_frame
                      refine wpF_t (i := 46) (oi := op6fa04e74) rfl (by kernel_rfl) (fun _ _ _ h => h) (Or.inr ⟨by rfl, rfl⟩) hHeld ?_
                      try go_frame
                      refine wpF_t (i := 47) (oi := opd91d1290) rfl (by kernel_rfl) (fun _ _ _ h => h) (Or.inr ⟨by rfl, rfl⟩) hHeld ?_
                      try go_frame
                      refine wpF_t (i := 48) (oi := op41d9b7c5) (v := ?_) rfl (by kernel_rfl) (fun _ _ _ h => h) (Or.inl ⟨by rfl, ?_⟩) hHeld ?_; rotate_left
                      · intro w_ hSw_; (try dsimp only at hSw_); go_simp; (try with_reducible rfl)
                      try go_frame
                      refine wpAnyF_done (by kernel_rfl) ?_ _
                      clear hHeld
                      go_wp2
                      go_ret
                      exact ⟨by rw [HR.out] <;> rfl, by rw [hb0]; exact HB1⟩
                    · have q4b : decide (999999 < y) = false := decide_eq_false q4
                      have p0 : 0 ≤ x * (r : Int) := Int.mul_nonneg (by omega) hi0
                      have p1 : x * (r : Int) ≤ 999 * 12 := Int.mul_le_mul (by omega) (by omega) hi0 (by omega)
                      obtain ⟨p, hp⟩ : ∃ p, x * (r : Int) = p := ⟨_, rfl⟩
                      rw [hp] at p0 p1
                      obtain ⟨t, ht⟩ : ∃ t, (p + y).tmod (L1 : Int) = t := ⟨_, rfl⟩
                      have HT : Hid (okR M r ↔ t = 0) := by
                        show _ ↔ _
                        unfold okR
                        rw [HX.out, HY.out, hp, ← ht, tmod_zero, ← V.sl.1]
                        exact ⟨fun h => h.2.2.2.2, fun h => ⟨by omega, by omega, by omega, by omega, h⟩⟩
                      have n0 : ¬ L1 = 0 := by omega
                      have hw1 : IntKind.i64.wrap p = p := by rw [IntKind.wrap_i64]; omega
                      have hw2 : IntKind.i64.wrap (p + y) = p + y := by rw [IntKind.wrap_i64]; omega
                      by_cases q5 : t = 0
                      · have HOK := Lib.hid (HT.out.2 q5)
                        have q5b : (t == 0) = true := by simpa using q5
                        clear q5
                        go_wp2_with fail
                        have V1 := V.drew
                        have cA1 : wr.drew.cell? ⟨bA, oA + r, none⟩ = some (.int .i64 x) := cA
                        have cB1 : wr.drew.cell? ⟨bB, oB + r, none⟩ = some (.int .i64 y) := cB
                        have HB1 := below_drew HB
                        generalize hWd : wr.drew = wd at *
                        refine wp_region_F (fun w' => w'.cell? ⟨b, 0, none⟩ = some (.int .i64 L1) ∧ w'.cell? ⟨b, 1, none⟩ = some (.slice (some ⟨bA, oA, none⟩) L1 c) ∧ w'.cell? ⟨b, 2, none⟩ = some (.slice (some ⟨bB, oB, none⟩) L1 c') ∧ w'.cell? ⟨bA, oA + r, none⟩ = some (.int .i64 x) ∧ w'.cell? ⟨bB, oB + r, none⟩ = some (.int .i64 y)) [] (by kernel_rfl) (by rw [hWd]; exact ⟨V1.c0, V1.c1, V1.c2, cA1, cB1⟩) (fun hHeld => ?_)
                        rw [hWd] at hHeld ⊢
                        refine wpF_t (i := 0) (oi := opb74a9f6d) (v := ?_) rfl (by kernel_rfl) (fun _ _ _ h => h) (Or.inl ⟨by rfl, ?_⟩) hHeld ?_; rotate_left
                        · intro w_ hSw_; (try dsimp only at hSw_); go_simp; (try with_reducible rfl)
                        try go_frame
                        refine wpF_t (i := 1) (oi := opd15ce1ae) (v := ?_) rfl (by kernel_rfl) (fun _ _ _ h => h) (Or.inl ⟨by rfl, ?_⟩) hHeld ?_; rotate_left
                        · intro w_ hSw_; (try dsimp only at hSw_); go_simp; (try with_reducible rfl)
                        try go_frame
                        refine wpF_t (i := 2) (oi := ope98d956f) (v := ?_) rfl (by kernel_rfl) (fun _ _ _ h => h) (Or.inl ⟨by rfl, ?_⟩) hHeld ?_; rotate_left
                        · intro w_ hSw_; (try dsimp only at hSw_); go_simp; (try with_reducible rfl)
                        try go_frame
                        refine wpF_t (i := 3) (oi := opdf3b0535) (v := ?_) rfl (by kernel_rfl) (fun _ _ _ h => h) (Or.inl ⟨by rfl, ?_⟩) hHeld ?_; rotate_left
                        · intro w_ hSw_; (try dsimp only at hSw_); go_simp; (try with_reducible rfl)
                        try go_frame
                        refine wpF_t (i := 4) (oi := opcb6b7774) (v := ?_) rfl (by kernel_rfl) (fun _ _ _ h => h) (Or.inl ⟨by rfl, ?_⟩) hHeld ?_; rotate_left
                        · intro w_ hSw_; (try dsimp only at hSw_); go_simp; (try with_reducible rfl)
                        try go_frame
                        refine wpF_t (i := 5) (oi := opf78ae9b7) (v := ?_) rfl (by kernel_rfl) (fun _ _ _ h => h) (Or.inl ⟨by rfl, ?_⟩) hHeld ?_; rotate_left
                        · intro w_ hSw_; (try dsimp only at hSw_); go_simp; (try with_reducible rfl)
                        try go_frame
                        refine wpF_t (i := 6) (oi := op67d5bceb) (v := ?_) rfl (by kernel_rfl) (fun _ _ _ h => h) (Or.inl ⟨by rfl, ?_⟩) hHeld ?_; rotate_left
                        · intro w_ hSw_; (try dsimp only at hSw_); go_simp; (try with_reducible rfl)
                        try go_frame
                        refine wpF_t (i := 7) (oi := op2596a6ed) (v := ?_) rfl (by kernel_rfl) (fun _ _ _ h => h) (Or.inl ⟨by rfl, ?_⟩) hHeld ?_; rotate_left
                        · intro w_ hSw_; (try dsimp only at hSw_); go_simp; (try with_reducible rfl)
                        try go_frame
                        refine wpF_t (i := 8) (oi := op71fc8f34) (v := ?_) rfl (by kernel_rfl) (fun _ _ _ h => h) (Or.inl ⟨by rfl, ?_⟩) hHeld ?_; rotate_left
                        · intro w_ hSw_; (try dsimp only at hSw_); go_simp; (try with_reducible rfl)
                        try go_frame
                        refine wpF_t (i := 9) (oi := opeb3fbc0c) (v := ?_) rfl (by kernel_rfl) (fun _ _ _ h => h) (Or.inl ⟨by rfl, ?_⟩) hHeld ?_; rotate_left
                        · intro w_ hSw_; (try dsimp only at hSw_); go_simp; (try with_reducible rfl)
                        try go_frame
                        refine wpF_t (i := 10) (oi := op19de0455) (v := ?_) rfl (by kernel_rfl) (fun _ _ _ h => h) (Or.inl ⟨by rfl, ?_⟩) hHeld ?_; rotate_left
                        · intro w_ hSw_; (try dsimp only at hSw_); go_simp; (try with_reducible rfl)
                        try go_frame
                        refine wpF_t (i := 11) (oi := opefb8e504) (v := ?_) rfl (by kernel_rfl) (fun _ _ _ h => h) (Or.inl ⟨by rfl, ?_⟩) hHeld ?_; rotate_left
                        · intro w_ hSw_; (try dsimp only at hSw_); go_simp; (try with_reducible rfl)
                        try go_frame
                        refine wpF_t (i := 12) (oi := op00402869) (v := ?_) rfl (by kernel_rfl) (fun _ _ _ h => h) (Or.inl ⟨by rfl, ?_⟩) hHeld ?_; rotate_left
                        · intro w_ hSw_; (try dsimp only at hSw_); go_simp; (try with_reducible rfl)
                        try go_frame
                        refine wpF_t (i := 13) (oi := opc7ea2d58) (v := ?_) rfl (by kernel_rfl) (fun _ _ _ h => h) (Or.inl ⟨by rfl, ?_⟩) hHeld ?_; rotate_left
                        · intro w_ hSw_; (try dsimp only at hSw_); go_simp; (try with_reducible rfl)
                        try go_frame
                        refine wpF_t (i := 14) (oi := op02df3bc6) (v := ?_) rfl (by kernel_rfl) (fun _ _ _ h => h) (Or.inl ⟨by rfl, ?_⟩) hHeld ?_; rotate_left
                        · intro w_ hSw_; (try dsimp only at hSw_); go_simp; (try with_reducible rfl)
                        try go_frame
                        refine wpF_t (i := 15) (oi := op0147b1e8) (v := ?_) rfl (by kernel_rfl) (fun _ _ _ h => h) (Or.inl ⟨by rfl, ?_⟩) hHeld ?_; rotate_left
                        · intro w_ hSw_; (try dsimp only at hSw_); go_simp; (try with_reducible rfl)
                        try go_frame
                        refine wpF_t (i := 16) (oi := op367923b2) (v := ?_) rfl (by kernel_rfl) (fun _ _ _ h => h) (Or.inl ⟨by rfl, ?_⟩) hHeld ?_; rotate_left
                        · intro w_ hSw_; (try dsimp only at hSw_); go_simp; (try with_reducible rfl)
                        try go_frame
                        refine wpF_t (i := 17) (oi := op0d4e30f6) (v := ?_) rfl (by kernel_rfl) (fun _ _ _ h => h) (Or.inl ⟨by rfl, ?_⟩) hHeld ?_; rotate_left
                        · intro w_ hSw_; (try dsimp only at hSw_); go_simp; (try with_reducible rfl)
                        try go_frame
                        refine wpF_t (i := 18) (oi := op73bf241a) (v := ?_) rfl (by kernel_rfl) (fun _ _ _ h => h) (Or.inl ⟨by rfl, ?_⟩) hHeld ?_; rotate_left
                        · intro w_ hSw_; (try dsimp only at hSw_); go_simp; (try with_reducible rfl)
                        try go_frame
                        refine wpF_t (i := 19) (oi := op6f4bb26b) (v := ?_) rfl (by kernel_rfl) (fun _ _ _ h => h) (Or.inl ⟨by rfl, ?_⟩) hHeld ?_; rotate_left
                        · intro w_ hSw_; (try dsimp only at hSw_); go_simp; (try with_reducible rfl)
                        try go_frame
                        refine wpF_t (i := 20) (oi := op10933576) (v := ?_) rfl (by kernel_rfl) (fun _ _ _ h => h) (Or.inl ⟨by rfl, ?_⟩) hHeld ?_; rotate_left
                        · intro w_ hSw_; (try dsimp only at hSw_); go_simp; (try with_reducible rfl)
                        try go_frame
                        refine wpF_t (i := 21) (oi := ope53d57e5) (v := ?_) rfl (by kernel_rfl) (fun _ _ _ h => h) (Or.inl ⟨by rfl, ?_⟩) hHeld ?_; rotate_left
                        · intro w_ hSw_; (try dsimp only at hSw_); go_simp; (try with_reducible rfl)
                        try go_frame
                        refine wpF_t (i := 22) (oi := op3563458a) (v := ?_) rfl (by kernel_rfl) (fun _ _ _ h => h) (Or.inl ⟨by rfl, ?_⟩) hHeld ?_; rotate_left
                        · intro w_ hSw_; (try dsimp only at hSw_); go_simp; (try with_reducible rfl)
                        try go_frame
                        refine wpF_t (i := 23) (oi := op19e58d37) (v := ?_) rfl (by kernel_rfl) (fun _ _ _ h => h) (Or.inl ⟨by rfl, ?_⟩) hHeld ?_; rotate_left
                        · intro w_ hSw_; (try dsimp only at hSw_); go_simp; (try with_reducible rfl)
                        try go_frame
                        refine wpF_t (i := 24) (oi := opb6ad711b) (v := ?_) rfl (by kernel_rfl) (fun _ _ _ h => h) (Or.inl ⟨by rfl, ?_⟩) hHeld ?_; rotate_left
                        · intro w_ hSw_; (try dsimp only at hSw_); go_simp; (try with_reducible rfl)
                        try go_frame
                        refine wpF_t (i := 25) (oi := op43432d2f) (v := ?_) rfl (by kernel_rfl) (fun _ _ _ h => h) (Or.inl ⟨by rfl, ?_⟩) hHeld ?_; rotate_left
                        · intro w_ hSw_; (try dsimp only at hSw_); go_simp; (try with_reducible rfl)
                        try go_frame
                        refine wpF_t (i := 26) (oi := op1e04abd5) (v := ?_) rfl (by kernel_rfl) (fun _ _ _ h => h) (Or.inl ⟨by rfl, ?_⟩) hHeld ?_; rotate_left
                        · intro w_ hSw_; (try dsimp only at hSw_); go_simp; (try with_reducible rfl)
                        try go_frame
                        refine wpF_t (i := 27) (oi := opa8a26915) (v := ?_) rfl (by kernel_rfl) (fun _ _ _ h => h) (Or.inl ⟨by rfl, ?_⟩) hHeld ?_; rotate_left
                        · intro w_ hSw_; (try dsimp only at hSw_); go_simp; (try with_reducible rfl)
                        try go_frame
                        refine wpF_t (i := 28) (oi := op250c1c0e) (v := ?_) rfl (by kernel_rfl) (fun _ _ _ h => h) (Or.inl ⟨by rfl, ?_⟩) hHeld ?_; rotate_left
                        · intro w_ hSw_; (try dsimp only at hSw_); go_simp; (try with_reducible rfl)
                        try go_frame
                        refine wpF_t (i := 29) (oi := op5f14c424) (v := ?_) rfl (by kernel_rfl) (fun _ _ _ h => h) (Or.inl ⟨by rfl, ?_⟩) hHeld ?_; rotate_left
                        · intro w_ hSw_; (try dsimp only at hSw_); go_simp; (try with_reducible rfl)
                        try go_frame
                        refine wpF_t (i := 30) (oi := opdc1f94a9) (v := ?_) rfl (by kernel_rfl) (fun _ _ _ h => h) (Or.inl ⟨by rfl, ?_⟩) hHeld ?_; rotate_left
                        · intro w_ hSw_; (try dsimp only at hSw_); go_simp; (try with_reducible rfl)
                        try go_frame
                        refine wpF_t (i := 31) (oi := opaa8495c7) (v := ?_) rfl (by kernel_rfl) (fun _ _ _ h => h) (Or.inl ⟨by rfl, ?_⟩) hHeld ?_; rotate_left
                        · intro w_ hSw_; (try dsimp only at hSw_); go_simp; (try with_reducible rfl)
                        try go_frame
                        refine wpF_t (i := 32) (oi := opd9ccf652) (v := ?_) rfl (by kernel_rfl) (fun _ _ _ h => h) (Or.inl ⟨by rfl, ?_⟩) hHeld ?_; rotate_left
                        · intro w_ hSw_; (try dsimp only at hSw_); go_simp; (try with_reducible rfl)
                        try go_frame
                        refine wpF_t (i := 33) (oi := opdb60753c) (v := ?_) rfl (by kernel_rfl) (fun _ _ _ h => h) (Or.inl ⟨by rfl, ?_⟩) hHeld ?_; rotate_left
                        · intro w_ hSw_; (try dsimp only at hSw_); go_simp; (try with_reducible rfl)
                        try go_frame
                        refine wpF_t (i := 34) (oi := opc61cbc97) (v := ?_) rfl (by kernel_rfl) (fun _ _ _ h => h) (Or.inl ⟨by rfl, ?_⟩) hHeld ?_; rotate_left
                        · intro w_ hSw_; (try dsimp only at hSw_); go_simp; (try with_reducible rfl)
                        try go_frame
                        refine wpF_t (i := 35) (oi := op20c4dc1a) (v := ?_) rfl (by kernel_rfl) (fun _ _ _ h => h) (Or.inl ⟨by rfl, ?_⟩) hHeld ?_; rotate_left
                        · intro w_ hSw_; (try dsimp only at hSw_); go_simp; (try with_reducible rfl)
                        try go_frame
                        refine wpF_t (i := 36) (oi := opba2df783) (v := ?_) rfl (by kernel_rfl) (fun _ _ _ h => h) (Or.inl ⟨by rfl, ?_⟩) hHeld ?_; rotate_left
                        · intro w_ hSw_; (try dsimp only at hSw_); go_simp; (try with_reducible rfl)
                        try go_frame
                        refine wpF_t (i := 37) (oi := op9bb5a0ab) (v := ?_) rfl (by kernel_rfl) (fun _ _ _ h => h) (Or.inl ⟨by rfl, ?_⟩) hHeld ?_; rotate_left
                        · intro w_ hSw_; (try dsimp only at hSw_); go_simp; (try with_reducible rfl)
                        try go_frame
                        refine wpF_t (i := 38) (oi := opaa4bf63a) (v := ?_) rfl (by kernel_rfl) (fun _ _ _ h => h) (Or.inl ⟨by rfl, ?_⟩) hHeld ?_; rotate_left
                        · intro w_ hSw_; (try dsimp only at hSw_); go_simp; (try with_reducible rfl)
                        try go_frame
                        refine wpF_t (i := 39) (oi := op2255145b) (v := ?_) rfl (by kernel_rfl) (fun _ _ _ h => h) (Or.inl ⟨by rfl, ?_⟩) hHeld ?_; rotate_left
                        · intro w_ hSw_; (try dsimp only at hSw_); go_simp; (try with_reducible rfl)
                        try go_frame
                        refine wpF_t (i := 40) (oi := op1ce95251) (v := ?_) rfl (by kernel_rfl) (fun _ _ _ h => h) (Or.inl ⟨by rfl, ?_⟩) hHeld ?_; rotate_left
                        · intro w_ hSw_; (try dsimp only at hSw_); go_simp; (try with_reducible rfl)
                        try go_frame
                        refine wpF_t (i := 41) (oi := ope88bff23) (v := ?_) rfl (by kernel_rfl) (fun _ _ _ h => h) (Or.inl ⟨by rfl, ?_⟩) hHeld ?_; rotate_left
                        · intro w_ hSw_; (try dsimp only at hSw_); go_simp; (try with_reducible rfl)
                        try go_frame
                        refine wpF_t (i := 42) (oi := op467e474e) (v := ?_) rfl (by kernel_rfl) (fun _ _ _ h => h) (Or.inl ⟨by rfl, ?_⟩) hHeld ?_; rotate_left
                        · intro w_ hSw_; (try dsimp only at hSw_); go_simp; (try with_reducible rfl)
                        try go_frame
                        refine wpF_t (i := 43) (oi := op7628fc0b) (v := ?_) rfl (by kernel_rfl) (fun _ _ _ h => h) (Or.inl ⟨by rfl, ?_⟩) hHeld ?_; rotate_left
                        · intro w_ hSw_; (try dsimp only at hSw_); go_simp; (try with_reducible rfl)
                        try go_frame
                        refine wpF_t (i := 44) (oi := opcd4f7e95) (v := ?_) rfl (by kernel_rfl) (fun _ _ _ h => h) (Or.inl ⟨by rfl, ?_⟩) hHeld ?_; rotate_left
                        · intro w_ hSw_; (try dsimp only at hSw_); go_simp; (try with_reducible rfl)
                        try go_frame
                        refine wpF_t (i := 45) (oi := op8e17630f) (v := ?_) rfl (by kernel_rfl) (fun _ _ _ h => h) (Or.inl ⟨by rfl, ?_⟩) hHeld ?_; rotate_left
                        · intro w_ hSw_; (try dsimp only at hSw_); go_simp; (try with_reducible rfl)
                        try go_frame
                        refine wpF_t (i := 46) (oi := op6fa04e74) (v := ?_) rfl (by kernel_rfl) (fun _ _ _ h => h) (Or.inl ⟨by rfl, ?_⟩) hHeld ?_; rotate_left
                        · intro w_ hSw_; (try dsimp only at hSw_); go_simp; (try with_reducible rfl)
                        try go_frame
                        refine wpF_t (i := 47) (oi := opd91d1290) (v := ?_) rfl (by kernel_rfl) (fun _ _ _ h => h) (Or.inl ⟨by rfl, ?_⟩) hHeld ?_; rotate_left
                        · intro w_ hSw_; (try dsimp only at hSw_); go_simp; (try with_reducible rfl)
                        try go_frame
                        refine wpF_t (i := 48) (oi := op41d9b7c5) (v := ?_) rfl (by kernel_rfl) (fun _ _ _ h => h) (Or.inl ⟨by rfl, ?_⟩) hHeld ?_; rotate_left
                        · intro w_ hSw_; (try dsimp only at hSw_); go_simp; (try with_reducible rfl)
                        try go_frame
                        refine wpAnyF_done (by kernel_rfl) ?_ _
                        clear hHeld
                        go_wp2
                        go_roundg (L1 - (r + 1))
                        case measure => omega
                        case rel => exact ⟨r + 1, rfl, by go_num, by omega, V1, HB1, fun r' h => by
                          rcases Nat.lt_or_ge r' r with h2 | h2
                          · exact HI.out r' h2
                          · obtain rfl : r' = r := by omega
                            exact HOK.out⟩
                      · have HR : Hid (okB M = false) := HNO.out (fun h => q5 (HT.out.1 h))
                        have q5b : (t == 0) = false := by simpa using q5
                        clear q5
                        go_wp2_with fail
                        have V1 := V.drew
                        have cA1 : wr.drew.cell? ⟨bA, oA + r, none⟩ = some (.int .i64 x) := cA
                        have cB1 : wr.drew.cell? ⟨bB, oB + r, none⟩ = some (.int .i64 y) := cB
                        have HB1 := below_drew HB
                        generalize hWd : wr.drew = wd at *
                        refine wp_region_F (fun w' => w'.cell? ⟨b, 0, none⟩ = some (.int .i64 L1) ∧ w'.cell? ⟨b, 1, none⟩ = some (.slice (some ⟨bA, oA, none⟩) L1 c) ∧ w'.cell? ⟨b, 2, none⟩ = some (.slice (some ⟨bB, oB, none⟩) L1 c') ∧ w'.cell? ⟨bA, oA + r, none⟩ = some (.int .i64 x) ∧ w'.cell? ⟨bB, oB + r, none⟩ = some (.int .i64 y)) [] (by kernel_rfl) (by rw [hWd]; exact ⟨V1.c0, V1.c1, V1.c2, cA1, cB1⟩) (fun hHeld => ?_)
                        rw [hWd] at hHeld ⊢
                        refine wpF_t (i := 0) (oi := opb74a9f6d) (v := ?_) rfl (by kernel_rfl) (fun _ _ _ h => h) (Or.inl ⟨by rfl, ?_⟩) hHeld ?_; rotate_left
                        · intro w_ hSw_; (try dsimp only at hSw_); go_simp; (try with_reducible rfl)
                        try go_frame
                        refine wpF_t (i := 1) (oi := opd15ce1ae) (v := ?_) rfl (by kernel_rfl) (fun _ _ _ h => h) (Or.inl ⟨by rfl, ?_⟩) hHeld ?_; rotate_left
                        · intro w_ hSw_; (try dsimp only at hSw_); go_simp; (try with_reducible rfl)
                        try go_frame
                        refine wpF_t (i := 2) (oi := ope98d956f) (v := ?_) rfl (by kernel_rfl) (fun _ _ _ h => h) (Or.inl ⟨by rfl, ?_⟩) hHeld ?_; rotate_left
                        · intro w_ hSw_; (try dsimp only at hSw_); go_simp; (try with_reducible rfl)
                        try go_frame
                        refine wpF_t (i := 3) (oi := opdf3b0535) (v := ?_) rfl (by kernel_rfl) (fun _ _ _ h => h) (Or.inl ⟨by rfl, ?_⟩) hHeld ?_; rotate_left
                        · intro w_ hSw_; (try dsimp only at hSw_); go_simp; (try with_reducible rfl)
                        try go_frame
                        refine wpF_t (i := 4) (oi := opcb6b7774) (v := ?_) rfl (by kernel_rfl) (fun _ _ _ h => h) (Or.inl ⟨by rfl, ?_⟩) hHeld ?_; rotate_left
                        · intro w_ hSw_; (try dsimp only at hSw_); go_simp; (try with_reducible rfl)
                        try go_frame
                        refine wpF_t (i := 5) (oi := opf78ae9b7) (v := ?_) rfl (by kernel_rfl) (fun _ _ _ h => h) (Or.inl ⟨by rfl, ?_⟩) hHeld ?_; rotate_left
                        · intro w_ hSw_; (try dsimp only at hSw_); go_simp; (try with_reducible rfl)
                        try go_frame
                        refine wpF_t (i := 6) (oi := op67d5bceb) (v := ?_) rfl (by kernel_rfl) (fun _ _ _ h => h) (Or.inl ⟨by rfl, ?_⟩) hHeld ?_; rotate_left
                        · intro w_ hSw_; (try dsimp only at hSw_); go_simp; (try with_reducible rfl)
                        try go_frame
                        refine wpF_t (i := 7) (oi := op2596a6ed) (v := ?_) rfl (by kernel_rfl) (fun _ _ _ h => h) (Or.inl ⟨by rfl, ?_⟩) hHeld ?_; rotate_left
                        · intro w_ hSw_; (try dsimp only at hSw_); go_simp; (try with_reducible rfl)
                        try go_frame
                        refine wpF_t (i := 8) (oi := op71fc8f34) (v := ?_) rfl (by kernel_rfl) (fun _ _ _ h => h) (Or.inl ⟨by rfl, ?_⟩) hHeld ?_; rotate_left
                        · intro w_ hSw_; (try dsimp only at hSw_); go_simp; (try with_reducible rfl)
                        try go_frame
                        refine wpF_t (i := 9) (oi := opeb3fbc0c) (v := ?_) rfl (by kernel_rfl) (fun _ _ _ h => h) (Or.inl ⟨by rfl, ?_⟩) hHeld ?_; rotate_left
                        · intro w_ hSw_; (try dsimp only at hSw_); go_simp; (try with_reducible rfl)
                        try go_frame
                        refine wpF_t (i := 10) (oi := op19de0455) (v := ?_) rfl (by kernel_rfl) (fun _ _ _ h => h) (Or.inl ⟨by rfl, ?_⟩) hHeld ?_; rotate_left
                        · intro w_ hSw_; (try dsimp only at hSw_); go_simp; (try with_reducible rfl)
                        try go_frame
                        refine wpF_t (i := 11) (oi := opefb8e504) (v := ?_) rfl (by kernel_rfl) (fun _ _ _ h => h) (Or.inl ⟨by rfl, ?_⟩) hHeld ?_; rotate_left
                        · intro w_ hSw_; (try dsimp only at hSw_); go_simp; (try with_reducible rfl)
                        try go_frame
                        refine wpF_t (i := 12) (oi := op00402869) (v := ?_) rfl (by kernel_rfl) (fun _ _ _ h => h) (Or.inl ⟨by rfl, ?_⟩) hHeld ?_; rotate_left
                        · intro w_ hSw_; (try dsimp only at hSw_); go_simp; (try with_reducible rfl)
                        try go_frame
                        refine wpF_t (i := 13) (oi := opc7ea2d58) (v := ?_) rfl (by kernel_rfl) (fun _ _ _ h => h) (Or.inl ⟨by rfl, ?_⟩) hHeld ?_; rotate_left
                        · intro w_ hSw_; (try dsimp only at hSw_); go_simp; (try with_reducible rfl)
                        try go_frame
                        refine wpF_t (i := 14) (oi := op02df3bc6) (v := ?_) rfl (by kernel_rfl) (fun _ _ _ h => h) (Or.inl ⟨by rfl, ?_⟩) hHeld ?_; rotate_left
                        · intro w_ hSw_; (try dsimp only at hSw_); go_simp; (try with_reducible rfl)
                        try go_frame
                        refine wpF_t (i := 15) (oi := op0147b1e8) (v := ?_) rfl (by kernel_rfl) (fun _ _ _ h => h) (Or.inl ⟨by rfl, ?_⟩) hHeld ?_; rotate_left
                        · intro w_ hSw_; (try dsimp only at hSw_); go_simp; (try with_reducible rfl)
                        try go_frame
                        refine wpF_t (i := 16) (oi := op367923b2) (v := ?_) rfl (by kernel_rfl) (fun _ _ _ h => h) (Or.inl ⟨by rfl, ?_⟩) hHeld ?_; rotate_left
                        · intro w_ hSw_; (try dsimp only at hSw_); go_simp; (try with_reducible rfl)
                        try go_frame
                        refine wpF_t (i := 17) (oi := op0d4e30f6) (v := ?_) rfl (by kernel_rfl) (fun _ _ _ h => h) (Or.inl ⟨by rfl, ?_⟩) hHeld ?_; rotate_left
                        · intro w_ hSw_; (try dsimp only at hSw_); go_simp; (try with_reducible rfl)
                        try go_frame
                        refine wpF_t (i := 18) (oi := op73bf241a) (v := ?_) rfl (by kernel_rfl) (fun _ _ _ h => h) (Or.inl ⟨by rfl, ?_⟩) hHeld ?_; rotate_left
                        · intro w_ hSw_; (try dsimp only at hSw_); go_simp; (try with_reducible rfl)
                        try go_frame
                        refine wpF_t (i := 19) (oi := op6f4bb26b) (v := ?_) rfl (by kernel_rfl) (fun _ _ _ h => h) (Or.inl ⟨by rfl, ?_⟩) hHeld ?_; rotate_left
                        · intro w_ hSw_; (try dsimp only at hSw_); go_simp; (try with_reducible rfl)
                        try go_frame
                        refine wpF_t (i := 20) (oi := op10933576) (v := ?_) rfl (by kernel_rfl) (fun _ _ _ h => h) (Or.inl ⟨by rfl, ?_⟩) hHeld ?_; rotate_left
                        · intro w_ hSw_; (try dsimp only at hSw_); go_simp; (try with_reducible rfl)
                        try go_frame
                        refine wpF_t (i := 21) (oi := ope53d57e5) (v := ?_) rfl (by kernel_rfl) (fun _ _ _ h => h) (Or.inl ⟨by rfl, ?_⟩) hHeld ?_; rotate_left
                        · intro w_ hSw_; (try dsimp only at hSw_); go_simp; (try with_reducible rfl)
                        try go_frame
                        refine wpF_t (i := 22) (oi := op3563458a) (v := ?_) rfl (by kernel_rfl) (fun _ _ _ h => h) (Or.inl ⟨by rfl, ?_⟩) hHeld ?_; rotate_left
                        · intro w_ hSw_; (try dsimp only at hSw_); go_simp; (try with_reducible rfl)
                        try go_frame
                        refine wpF_t (i := 23) (oi := op19e58d37) (v := ?_) rfl (by kernel_rfl) (fun _ _ _ h => h) (Or.inl ⟨by rfl, ?_⟩) hHeld ?_; rotate_left
                        · intro w_ hSw_; (try dsimp only at hSw_); go_simp; (try with_reducible rfl)
                        try go_frame
                        refine wpF_t (i := 24) (oi := opb6ad711b) (v := ?_) rfl (by kernel_rfl) (fun _ _ _ h => h) (Or.inl ⟨by rfl, ?_⟩) hHeld ?_; rotate_left
                        · intro w_ hSw_; (try dsimp only at hSw_); go_simp; (try with_reducible rfl)
                        try go_frame
                        refine wpF_t (i := 25) (oi := op43432d2f) (v := ?_) rfl (by kernel_rfl) (fun _ _ _ h => h) (Or.inl ⟨by rfl, ?_⟩) hHeld ?_; rotate_left
                        · intro w_ hSw_; (try dsimp only at hSw_); go_simp; (try with_reducible rfl)
                        try go_frame
                        refine wpF_t (i := 26) (oi := op1e04abd5) (v := ?_) rfl (by kernel_rfl) (fun _ _ _ h => h) (Or.inl ⟨by rfl, ?_⟩) hHeld ?_; rotate_left
                        · intro w_ hSw_; (try dsimp only at hSw_); go_simp; (try with_reducible rfl)
                        try go_frame
                        refine wpF_t (i := 27) (oi := opa8a26915) (v := ?_) rfl (by kernel_rfl) (fun _ _ _ h => h) (Or.inl ⟨by rfl, ?_⟩) hHeld ?_; rotate_left
                        · intro w_ hSw_; (try dsimp only at hSw_); go_simp; (try with_reducible rfl)
                        try go_frame
                        refine wpF_t (i := 28) (oi := op250c1c0e) (v := ?_) rfl (by kernel_rfl) (fun _ _ _ h => h) (Or.inl ⟨by rfl, ?_⟩) hHeld ?_; rotate_left
                        · intro w_ hSw_; (try dsimp only at hSw_); go_simp; (try with_reducible rfl)
                        try go_frame
                        refine wpF_t (i := 29) (oi := op5f14c424) (v := ?_) rfl (by kernel_rfl) (fun _ _ _ h => h) (Or.inl ⟨by rfl, ?_⟩) hHeld ?_; rotate_left
                        · intro w_ hSw_; (try dsimp only at hSw_); go_simp; (try with_reducible rfl)
                        try go_frame
                        refine wpF_t (i := 30) (oi := opdc1f94a9) (v := ?_) rfl (by kernel_rfl) (fun _ _ _ h => h) (Or.inl ⟨by rfl, ?_⟩) hHeld ?_; rotate_left
                        · intro w_ hSw_; (try dsimp only at hSw_); go_simp; (try with_reducible rfl)
                        try go_frame
                        refine wpF_t (i := 31) (oi := opaa8495c7) (v := ?_) rfl (by kernel_rfl) (fun _ _ _ h => h) (Or.inl ⟨by rfl, ?_⟩) hHeld ?_; rotate_left
                        · intro w_ hSw_; (try dsimp only at hSw_); go_simp; (try with_reducible rfl)
                        try go_frame
                        refine wpF_t (i := 32) (oi := opd9ccf652) (v := ?_) rfl (by kernel_rfl) (fun _ _ _ h => h) (Or.inl ⟨by rfl, ?_⟩) hHeld ?_; rotate_left
                        · intro w_ hSw_; (try dsimp only at hSw_); go_simp; (try with_reducible rfl)
                        try go_frame
                        refine wpF_t (i := 33) (oi := opdb60753c) (v := ?_) rfl (by kernel_rfl) (fun _ _ _ h => h) (Or.inl ⟨by rfl, ?_⟩) hHeld ?_; rotate_left
                        · intro w_ hSw_; (try dsimp only at hSw_); go_simp; (try with_reducible rfl)
                        try go_frame
                        refine wpF_t (i := 34) (oi := opc61cbc97) (v := ?_) rfl (by kernel_rfl) (fun _ _ _ h => h) (Or.inl ⟨by rfl, ?_⟩) hHeld ?_; rotate_left
                        · intro w_ hSw_; (try dsimp only at hSw_); go_simp; (try with_reducible rfl)
                        try go_frame
                        refine wpF_t (i := 35) (oi := op20c4dc1a) (v := ?_) rfl (by kernel_rfl) (fun _ _ _ h => h) (Or.inl ⟨by rfl, ?_⟩) hHeld ?_; rotate_left
                        · intro w_ hSw_; (try dsimp only at hSw_); go_simp; (try with_reducible rfl)
                        try go_frame
                        refine wpF_t (i := 36) (oi := opba2df783) (v := ?_) rfl (by kernel_rfl) (fun _ _ _ h => h) (Or.inl ⟨by rfl, ?_⟩) hHeld ?_; rotate_left
                        · intro w_ hSw_; (try dsimp only at hSw_); go_simp; (try with_reducible rfl)
                        try go_frame
                        refine wpF_t (i := 37) (oi := op9bb5a0ab) (v := ?_) rfl (by kernel_rfl) (fun _ _ _ h => h) (Or.inl ⟨by rfl, ?_⟩) hHeld ?_; rotate_left
                        · intro w_ hSw_; (try dsimp only at hSw_); go_simp; (try with_reducible rfl)
                        try go_frame
                        refine wpF_t (i := 38) (oi := opaa4bf63a) (v := ?_) rfl (by kernel_rfl) (fun _ _ _ h => h) (Or.inl ⟨by rfl, ?_⟩) hHeld ?_; rotate_left
                        · intro w_ hSw_; (try dsimp only at hSw_); go_simp; (try with_reducible rfl)
                        try go_frame
                        refine wpF_t (i := 39) (oi := op2255145b) (v := ?_) rfl (by kernel_rfl) (fun _ _ _ h => h) (Or.inl ⟨by rfl, ?_⟩) hHeld ?_; rotate_left
                        · intro w_ hSw_; (try dsimp only at hSw_); go_simp; (try with_reducible rfl)
                        try go_frame
                        refine wpF_t (i := 40) (oi := op1ce95251) (v := ?_) rfl (by kernel_rfl) (fun _ _ _ h => h) (Or.inl ⟨by rfl, ?_⟩) hHeld ?_; rotate_left
                        · intro w_ hSw_; (try dsimp only at hSw_); go_simp; (try with_reducible rfl)
                        try go_frame
                        refine wpF_t (i := 41) (oi := ope88bff23) (v := ?_) rfl (by kernel_rfl) (fun _ _ _ h => h) (Or.inl ⟨by rfl, ?_⟩) hHeld ?_; rotate_left
                        · intro w_ hSw_; (try dsimp only at hSw_); go_simp; (try with_reducible rfl)
                        try go_frame
                        refine wpF_t (i := 42) (oi := op467e474e) (v := ?_) rfl (by kernel_rfl) (fun _ _ _ h => h) (Or.inl ⟨by rfl, ?_⟩) hHeld ?_; rotate_left
                        · intro w_ hSw_; (try dsimp only at hSw_); go_simp; (try with_reducible rfl)
                        try go_frame
                        refine wpF_t (i := 43) (oi := op7628fc0b) (v := ?_) rfl (by kernel_rfl) (fun _ _ _ h => h) (Or.inl ⟨by rfl, ?_⟩) hHeld ?_; rotate_left
                        · intro w_ hSw_; (try dsimp only at hSw_); go_simp; (try with_reducible rfl)
                        try go_frame
                        refine wpF_t (i := 44) (oi := opcd4f7e95) (v := ?_) rfl (by kernel_rfl) (fun _ _ _ h => h) (Or.inl ⟨by rfl, ?_⟩) hHeld ?_; rotate_left
                        · intro w_ hSw_; (try dsimp only at hSw_); go_simp; (try with_reducible rfl)
                        try go_frame
                        refine wpF_t (i := 45) (oi := op8e17630f) (v := ?_) rfl (by kernel_rfl) (fun _ _ _ h => h) (Or.inl ⟨by rfl, ?_⟩) hHeld ?_; rotate_left
                        · intro w_ hSw_; (try dsimp only at hSw_); go_simp; (try with_reducible rfl)
                        try go_frame
                        refine wpF_t (i := 46) (oi := op6fa04e74) (v := ?_) rfl (by kernel_rfl) (fun _ _ _ h => h) (Or.inl ⟨by rfl, ?_⟩) hHeld ?_; rotate_left
                        · intro w_ hSw_; (try dsimp only at hSw_); go_simp; (try with_reducible rfl)
                        try go_frame
                        refine wpF_t (i := 47) (oi := opd91d1290) (v := ?_) rfl (by kernel_rfl) (fun _ _ _ h => h) (Or.inl ⟨by rfl, ?_⟩) hHeld ?_; rotate_left
                        · intro w_ hSw_; (try dsimp only at hSw_); go_simp; (try with_reducible rfl)
                        try go_frame
                        refine wpF_t (i := 48) (oi := op41d9b7c5) (v := ?_) rfl (by kernel_rfl) (fun _ _ _ h => h) (Or.inl ⟨by rfl, ?_⟩) hHeld ?_; rotate_left
                        · intro w_ hSw_; (try dsimp only at hSw_); go_simp; (try with_reducible rfl)
                        try go_frame
                        refine wpAnyF_done (by kernel_rfl) ?_ _
                        clear hHeld
                        go_wp2
                        go_ret
                        exact ⟨by rw [HR.out] <;> rfl, by rw [hb0]; exact HB1⟩
            · have HR : Hid (okB M = true) := by
                show _ = _
                rw [HR0.out, okRs_iff]
                exact fun r' h => HI.out r' (by omega)
              go_wp2
              go_ret
              exact ⟨by rw [HR.out] <;> rfl, by rw [hb0]; exact HB⟩
end Go.Proofs.YtiaeeclmlchpoaaGreatDoor
